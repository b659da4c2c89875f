/- the methods offer, pick. -/
import Derived.Test.YtfcpmcdlgkfolaaDoorZhHrF
namespace Go.Proofs.YtfcpmcdlgkfolaaDoor.Hier
open Go.RowKit Go.Proofs.YtfcpmcdlgkfolaaDoor.E Go.Proofs.YtfcpmcdlgkfolaaDoor.Wfq
open Go.Proofs.YtfcpmcdlgkfolaaDoor.Scfq (hd hd_mem)

set_option maxRecDepth 100000 in
set_option maxHeartbeats 4000000 in
theorem offer_t {w0 w : World} {T : List Res} {b : Nat} {G : Option Addr} {n cg : Nat} {t : Tr} {l : List Nd} {s : List D} {M : Int} (hS : St w0 w (blk b [.slice G n cg] :: vec 131 10 (.slice G n cg) n (l.flatMap cN) :: subs 3 1 (l.map Nd.kV) :: subs 3 1 (l.map Nd.wV) :: T)) (g : t.Good) (hn : t.n = n) (hll : l.length = t.n) (hq : l.map Nd.d = s) (hst : Stat t l) (hbd : Bd M s) (hM : M ≤ 80000000000000) {k : Nat} {lf bb : Int} (hk : k < t.n) (hbb : 0 ≤ bb ∧ bb ≤ 1500) :
    Calls Tryd.prog 83 #[.pointer (some ⟨b, 0, none⟩), (.int .i64 ((k : Int))), (.int .i64 lf), (.int .i64 bb), .bool true] w fun e w' => ∃ q : List Nd, (q.length = t.n ∧ q.map Nd.d = offer t s k lf bb true ∧ Stat t q) ∧ e = .returned (.tuple #[]) ∧ St w0 w' (blk b [.slice G n cg] :: vec 131 10 (.slice G n cg) n (q.flatMap cN) :: subs 3 1 (q.map Nd.kV) :: subs 3 1 (q.map Nd.wV) :: T) := by
  refine calls_tr Tryd.func83 Tryd.ntmps83 rfl rfl hS ?_
  refine tr_seq ?_
  refine tr_region ?_
  refine tl_step rfl (oj_val (y_move (fe_t rfl)) ?_)
  refine tl_step rfl (oj_val (y_nilCheck (fe_t rfl)) ?_)
  refine tl_step rfl (oj_val (y_fieldAddr (td := 127) Tryd.underlying129 rfl rfl Tryd.sizeOf127 (o' := 0) rfl (fe_t rfl)) ?_)
  refine tl_step rfl (oj_val (y_ldb 0 Tryd.isAgg127 (fe_t rfl) rfl rfl) ?_)
  refine tl_step rfl (oj_val (y_move (fe_t rfl)) ?_)
  refine tl_step rfl (oj_val (y_index Tryd.underlying127 Tryd.sizeOf131 (fe_t rfl) (fe_t rfl) (rdl_vec 1 rfl) (by rw [flat_len hcN]; omega) (by decide) (by omega) rfl) ?_)
  refine tl_step rfl (oj_val (y_assign (fe_t rfl)) ?_)
  refine tl_nil ?_
  refine tx_then ?_
  refine tr_seq ?_
  refine tr_region ?_
  refine tl_step rfl (oj_val (y_move (fe_t rfl)) ?_)
  refine tl_step rfl (oj_val (y_move (fe_t rfl)) ?_)
  refine tl_step rfl (oj_val (y_move (fe_t rfl)) ?_)
  refine tl_step rfl (oj_val (y_move (fe_t rfl)) ?_)
  refine tl_step rfl (oj_val (y_nilCheckE (fe_t rfl) (rdl_vec 1 rfl) (by rw [flat_len hcN]; omega)) ?_)
  refine tl_step rfl (oj_val (y_fieldAddrE (td := 3) Tryd.underlying131 rfl rfl Tryd.sizeOf3 rfl (fe_t rfl) (rdl_vec 1 rfl) (by rw [flat_len hcN]; omega)) ?_)
  refine tl_step rfl (oj_storeG (i := 1) Nd.nil (Nd.upd (l.getD k Nd.nil) ⟨lf, (l.getD k Nd.nil).d.bytes, (l.getD k Nd.nil).d.bg, (l.getD k Nd.nil).d.en, (l.getD k Nd.nil).d.tm, (l.getD k Nd.nil).d.ws⟩) hcN Tryd.sizeOf3 (fe_t rfl) (fe_t rfl) rfl rfl rfl (by (try rw [List.length_set]); omega) rfl (rfl) (?_))
  generalize hl1 : l.set k (Nd.upd (l.getD k Nd.nil) ⟨lf, (l.getD k Nd.nil).d.bytes, (l.getD k Nd.nil).d.bg, (l.getD k Nd.nil).d.en, (l.getD k Nd.nil).d.tm, (l.getD k Nd.nil).d.ws⟩) = l1
  obtain ⟨hl1n, hl1k, hl1o, hl1q, hl1s⟩ := nd_step hl1 hll (by omega) hq hst rfl rfl rfl rfl
  have hl1kv := kV_same hl1 rfl
  have hl1wv := wV_same hl1 rfl
  refine tl_step rfl (oj_val (y_nilCheckE (fe_t rfl) (rdl_vec 1 rfl) (by rw [flat_len hcN]; omega)) ?_)
  refine tl_step rfl (oj_val (y_fieldAddrE (td := 3) Tryd.underlying131 rfl rfl Tryd.sizeOf3 rfl (fe_t rfl) (rdl_vec 1 rfl) (by rw [flat_len hcN]; omega)) ?_)
  refine tl_step rfl (oj_storeG (i := 1) Nd.nil (Nd.upd (l1.getD k Nd.nil) ⟨(l1.getD k Nd.nil).d.leaf, bb, (l1.getD k Nd.nil).d.bg, (l1.getD k Nd.nil).d.en, (l1.getD k Nd.nil).d.tm, (l1.getD k Nd.nil).d.ws⟩) hcN Tryd.sizeOf3 (fe_t rfl) (fe_t rfl) rfl rfl rfl (by (try rw [List.length_set]); omega) rfl (rfl) (?_))
  refine tl_nil ?_
  refine tx_then ?_
  refine tr_seq ?_
  refine tr_seq ?_
  generalize hl2 : l1.set k (Nd.upd (l1.getD k Nd.nil) ⟨(l1.getD k Nd.nil).d.leaf, bb, (l1.getD k Nd.nil).d.bg, (l1.getD k Nd.nil).d.en, (l1.getD k Nd.nil).d.tm, (l1.getD k Nd.nil).d.ws⟩) = l2
  obtain ⟨hl2n, hl2k, hl2o, hl2q, hl2s⟩ := nd_step hl2 hl1n (by omega) hl1q hl1s rfl rfl rfl rfl
  have hl2kv := kV_same hl2 rfl
  have hl2wv := wV_same hl2 rfl
  have hu2 := (hl2s k (by omega)).up
  refine tr_region ?_
  refine tl_step rfl (oj_val (y_move (fe_t rfl)) ?_)
  refine tl_step rfl (oj_val (y_nilCheckE (fe_t rfl) (rdl_vec 1 rfl) (by rw [flat_len hcN]; omega)) ?_)
  refine tl_step rfl (oj_val (y_fieldAddrE (td := 3) Tryd.underlying131 rfl rfl Tryd.sizeOf3 rfl (fe_t rfl) (rdl_vec 1 rfl) (by rw [flat_len hcN]; omega)) ?_)
  refine tl_step rfl (oj_val (y_ld Tryd.isAgg3 (fe_t rfl) (rdl_vec 1 rfl) (flatG (d := Nd.nil) (i := 0) hcN (by omega) rfl)) ?_)
  refine tl_step rfl (oj_val (y_lss (fe_t rfl) fe_c) ?_)
  refine tl_nil ?_
  refine tx_then ?_
  refine tr_condp (fe_t rfl) (fun hq1 => ?_) (fun hq2 => ?_)
  · try (exfalso; omega)
    all_goals
      refine tr_ret ?_
      refine tx_then_ret ?_
      refine tx_ret (res0 Tryd.results83 ) (fun w' hS => ?_)
      have h1 := pickT (l := [_, _, _, _]) hS [0, 1, 2, 3] rfl (by decide)
      have h2 : St w0 w' (blk b [.slice G n cg] :: vec 131 10 (.slice G n cg) n (l2.flatMap cN) :: subs 3 1 (l.map Nd.kV) :: subs 3 1 (l.map Nd.wV) :: T) := h1
      rw [show l.map Nd.kV = l2.map Nd.kV by rw [hl2kv, hl1kv], show l.map Nd.wV = l2.map Nd.wV by rw [hl2wv, hl1wv]] at h2
      exact ⟨l2, ⟨hl2n, by rw [hl2q, List.set_set]; unfold offer; rw [if_pos (by omega)]; simp only [Nd.upd, hl1k, ndq hq], hl2s⟩, rfl, h2⟩
  · try (exfalso; omega)
    all_goals
      refine tr_skip ?_
      refine tx_then ?_
      refine tr_seq ?_
      obtain ⟨p, hp⟩ : ∃ p : Nat, t.u k = p := ⟨(t.u k).toNat, by omega⟩
      have hpk := (g.lt (k := k) (by omega)).1
      have hpn : p < t.n := by omega
      have hup : (l2.getD k Nd.nil).up = (p : Int) := by rw [hu2, hp]
      refine tb_draw 10 (sel _ [0, 1, 2, 3]) (fun w h => h.sel _ rfl (by decide)) rfl ?_
      refine tb_float (i := 0) rfl (by kernel_rfl) rfl (wants_none rfl) (yq_of (y_move (fe_t rfl))) ?_
      refine tb_float (i := 1) rfl (by kernel_rfl) rfl (wants_none rfl) (yq_of (y_nilCheck (fe_t rfl))) ?_
      refine tb_float (i := 2) rfl (by kernel_rfl) rfl (wants_none rfl) (yq_of (y_fieldAddr (td := 127) Tryd.underlying129 rfl rfl Tryd.sizeOf127 (o' := 0) rfl (fe_t rfl))) ?_
      refine tb_float (i := 3) rfl (by kernel_rfl) rfl (wants_none rfl) (yq_of (y_ldb 0 Tryd.isAgg127 (fe_t rfl) rfl rfl)) ?_
      refine tb_float (i := 4) rfl (by kernel_rfl) rfl (wants_none rfl) (yq_of (y_move (fe_t rfl))) ?_
      refine tb_float (i := 5) rfl (by kernel_rfl) rfl (wants_none rfl) (yq_of (y_nilCheckE (fe_t rfl) (rdl_vec 1 rfl) (by rw [flat_len hcN]; omega))) ?_
      refine tb_float (i := 6) rfl (by kernel_rfl) rfl (wants_none rfl) (yq_of (y_fieldAddrE (td := 3) Tryd.underlying131 rfl rfl Tryd.sizeOf3 rfl (fe_t rfl) (rdl_vec 1 rfl) (by rw [flat_len hcN]; omega))) ?_
      refine tb_float (i := 7) rfl (by kernel_rfl) rfl (wants_none rfl) (yq_of (y_ld Tryd.isAgg3 (fe_t rfl) (rdl_vec 1 rfl) (flatG (d := Nd.nil) (i := 0) hcN (by omega) rfl))) ?_
      refine tb_float (i := 8) rfl (by kernel_rfl) rfl (wants_none rfl) (yq_of (y_index Tryd.underlying127 Tryd.sizeOf131 (fe_t rfl) (fe_i hup rfl) (rdl_vec 1 rfl) (by rw [flat_len hcN]; omega) (by decide) (by omega) rfl)) ?_
      refine tb_float (i := 9) rfl (by kernel_rfl) rfl (wants_none rfl) (yq_of (y_assign (fe_t rfl))) ?_
      refine tb_done (by kernel_rfl) ?_
      refine tx_then ?_
      refine tr_seq ?_
      refine tr_region ?_
      refine tl_step rfl (oj_val (y_move (fe_t rfl)) ?_)
      refine tl_step rfl (oj_val (y_move (fe_t rfl)) ?_)
      refine tl_step rfl (oj_val (y_nilCheckE (fe_t rfl) (rdl_vec 1 rfl) (by rw [flat_len hcN]; omega)) ?_)
      refine tl_step rfl (oj_val (y_fieldAddrE (td := 3) Tryd.underlying131 rfl rfl Tryd.sizeOf3 rfl (fe_t rfl) (rdl_vec 1 rfl) (by rw [flat_len hcN]; omega)) ?_)
      refine tl_step rfl (oj_val (y_ld Tryd.isAgg3 (fe_t rfl) (rdl_vec 1 rfl) (flatG (d := Nd.nil) (i := 7) hcN (by omega) rfl)) ?_)
      refine tl_step rfl (oj_val (y_nilCheckE (fe_t rfl) (rdl_vec 1 rfl) (by rw [flat_len hcN]; omega)) ?_)
      refine tl_step rfl (oj_val (y_fieldAddrE (td := 3) Tryd.underlying131 rfl rfl Tryd.sizeOf3 rfl (fe_t rfl) (rdl_vec 1 rfl) (by rw [flat_len hcN]; omega)) ?_)
      refine tl_step rfl (oj_storeG (i := 1) Nd.nil (Nd.upd (l2.getD k Nd.nil) ⟨(l2.getD k Nd.nil).d.leaf, (l2.getD k Nd.nil).d.bytes, (l2.getD k Nd.nil).d.en, (l2.getD k Nd.nil).d.en, (l2.getD k Nd.nil).d.tm, (l2.getD k Nd.nil).d.ws⟩) hcN Tryd.sizeOf3 (fe_t rfl) (fe_t rfl) rfl rfl rfl (by (try rw [List.length_set]); omega) rfl (rfl) (?_))
      refine tl_nil ?_
      refine tx_then ?_
      refine tr_seq ?_
      refine tr_seq ?_
      generalize hl3 : l2.set k (Nd.upd (l2.getD k Nd.nil) ⟨(l2.getD k Nd.nil).d.leaf, (l2.getD k Nd.nil).d.bytes, (l2.getD k Nd.nil).d.en, (l2.getD k Nd.nil).d.en, (l2.getD k Nd.nil).d.tm, (l2.getD k Nd.nil).d.ws⟩) = l3
      obtain ⟨hl3n, hl3k, hl3o, hl3q, hl3s⟩ := nd_step hl3 hl2n (by omega) hl2q hl2s rfl rfl rfl rfl
      have hl3kv := kV_same hl3 rfl
      have hl3wv := wV_same hl3 rfl
      refine tr_region ?_
      refine tl_step rfl (oj_val (y_move (fe_t rfl)) ?_)
      refine tl_step rfl (oj_val (y_not (fe_t rfl)) ?_)
      refine tl_nil ?_
      refine tx_then ?_
      refine tr_condf (fe_t rfl) ?_
      refine tr_skip ?_
      refine tx_then ?_
      have hwk : (l3.getD k Nd.nil).w = t.w k := (hl3s k (by omega)).w
      have hsp : (l3.getD p Nd.nil).sum = t.sum p := (hl3s p hpn).sum
      have gw := g.w k (by omega)
      have hpay := pay_bd hbb (w_div gw) (sum_bd g p)
      rw [← hwk, ← hsp] at hpay
      rw [← hwk] at gw
      obtain ⟨b1, b2, b3, b4, b5⟩ := hbd k
      obtain ⟨p1, p2, p3, p4, p5⟩ := hbd p
      have hbg : (l3.getD k Nd.nil).d.bg = (dn s k).en := by rw [hl3k]; dsimp only [Nd.upd]; rw [hl2k]; dsimp only [Nd.upd]; rw [hl1k, ndq hq]; rfl
      have hoff : (dn s k).en = offB t s k true := rfl
      have hoff0 := hoff.symm
      refine tb_draw1 20 [_, _, _, _] [_, _, _, _] (fun w h => h.pick [0, 1, 2, 3] _ rfl (by decide)) (fun w h => (h.weak (i := 1) rfl).pick [1, 0, 2, 3] _ rfl (by decide)) rfl ?_
      refine tb_float (i := 0) rfl (by kernel_rfl) rfl (wants_none rfl) (yq_of (y_move (fe_t rfl))) ?_
      refine tb_float (i := 1) rfl (by kernel_rfl) rfl (wants_none rfl) (yq_of (y_move (fe_t rfl))) ?_
      refine tb_float (i := 2) rfl (by kernel_rfl) rfl (wants_none rfl) (yq_of (y_nilCheckR (fe_t rfl) (rch_w 0 rfl (by omega)))) ?_
      refine tb_float (i := 3) rfl (by kernel_rfl) rfl (wants_none rfl) (yq_of (y_fieldAddrR (td := 3) Tryd.underlying131 rfl rfl Tryd.sizeOf3 rfl (fe_t rfl) (rch_w 0 rfl (by omega)))) ?_
      refine tb_float1 (i := 4) rfl (by kernel_rfl) (by kernel_rfl) rfl (wants_none rfl) (yq_of (y_ld Tryd.isAgg3 (fe_t rfl) (rdl_vec 1 rfl) (flatG (d := Nd.nil) (i := 6) hcN (by omega) rfl))) ?_
      refine tb_float (i := 5) rfl (by kernel_rfl) rfl (wants_none rfl) (yq_of (y_move (fe_t rfl))) ?_
      refine tb_float (i := 6) rfl (by kernel_rfl) rfl (wants_none rfl) (yq_of (y_move (fe_t rfl))) ?_
      refine tb_float (i := 7) rfl (by kernel_rfl) rfl (wants_none rfl) (yq_of (y_nilCheckR (fe_t rfl) (rch_w 0 rfl (by omega)))) ?_
      refine tb_float (i := 8) rfl (by kernel_rfl) rfl (wants_none rfl) (yq_of (y_fieldAddrR (td := 3) Tryd.underlying131 rfl rfl Tryd.sizeOf3 rfl (fe_t rfl) (rch_w 0 rfl (by omega)))) ?_
      refine tb_float1 (i := 9) rfl (by kernel_rfl) (by kernel_rfl) rfl (wants_none rfl) (yq_of (y_ld Tryd.isAgg3 (fe_t rfl) (rdl_vec 1 rfl) (flatG (d := Nd.nil) (i := 1) hcN (by omega) rfl))) ?_
      refine tb_float (i := 10) rfl (by kernel_rfl) rfl (wants_none rfl) (yq_of (y_quo fe_c (fe_t rfl) (by omega))) ?_
      refine tb_float (i := 11) rfl (by kernel_rfl) rfl (wants_none rfl) (yq_of (y_mul (fe_t rfl) (fe_t rfl) (by omega))) ?_
      refine tb_float (i := 12) rfl (by kernel_rfl) rfl (wants_none rfl) (yq_of (y_move (fe_t rfl))) ?_
      refine tb_float (i := 13) rfl (by kernel_rfl) rfl (wants_none rfl) (yq_of (y_nilCheckR (fe_t rfl) (rch_w 0 rfl (by omega)))) ?_
      refine tb_float (i := 14) rfl (by kernel_rfl) rfl (wants_none rfl) (yq_of (y_fieldAddrR (td := 3) Tryd.underlying131 rfl rfl Tryd.sizeOf3 rfl (fe_t rfl) (rch_w 0 rfl (by omega)))) ?_
      refine tb_float1 (i := 15) rfl (by kernel_rfl) (by kernel_rfl) rfl (wants_none rfl) (yq_of (y_ld Tryd.isAgg3 (fe_t rfl) (rdl_vec 1 rfl) (flatG (d := Nd.nil) (i := 3) hcN (by omega) rfl))) ?_
      refine tb_float (i := 16) rfl (by kernel_rfl) rfl (wants_none rfl) (yq_of (y_mul (fe_t rfl) (fe_t rfl) (by omega))) ?_
      refine tb_float (i := 17) rfl (by kernel_rfl) rfl (wants_none rfl) (yq_of (y_add (fe_t rfl) (fe_t rfl) (by omega))) ?_
      refine tb_float (i := 18) rfl (by kernel_rfl) rfl (wants_none rfl) (yq_of (y_nilCheckR (fe_t rfl) (rch_w 0 rfl (by omega)))) ?_
      refine tb_float (i := 19) rfl (by kernel_rfl) rfl (wants_none rfl) (yq_of (y_fieldAddrR (td := 3) Tryd.underlying131 rfl rfl Tryd.sizeOf3 rfl (fe_t rfl) (rch_w 0 rfl (by omega)))) ?_
      refine tb_one2 (i := 20) rfl (by kernel_rfl) (by kernel_rfl) (wants_none rfl) (oj_storeG (i := 1) Nd.nil (Nd.upd (l3.getD k Nd.nil) ⟨(l3.getD k Nd.nil).d.leaf, (l3.getD k Nd.nil).d.bytes, (l3.getD k Nd.nil).d.bg, (l3.getD k Nd.nil).d.bg + bb * (27720 / (l3.getD k Nd.nil).w) * (l3.getD p Nd.nil).sum, (l3.getD k Nd.nil).d.tm, (l3.getD k Nd.nil).d.ws⟩) hcN Tryd.sizeOf3 (fe_t rfl) (fe_t rfl) rfl rfl rfl (by (try rw [List.length_set]); omega) rfl (rfl) (⟨fun w h => (h.weak (i := 1) rfl).pick [1, 0, 2, 3] _ rfl (by decide), ?_⟩))
      refine tb_done (by kernel_rfl) ?_
      refine tx_end (res0 Tryd.results83 ) (fun w' hS => ?_)
      have h1 := pickT (l := [_, _, _, _]) hS [0, 1, 2, 3] rfl (by decide)
      have h2 : St w0 w' (blk b [.slice G n cg] :: vec 131 10 (.slice G n cg) n ((l3.set k (Nd.upd (l3.getD k Nd.nil) ⟨(l3.getD k Nd.nil).d.leaf, (l3.getD k Nd.nil).d.bytes, (l3.getD k Nd.nil).d.bg, (l3.getD k Nd.nil).d.bg + bb * (27720 / (l3.getD k Nd.nil).w) * (l3.getD p Nd.nil).sum, (l3.getD k Nd.nil).d.tm, (l3.getD k Nd.nil).d.ws⟩)).flatMap cN) :: subs 3 1 (l.map Nd.kV) :: subs 3 1 (l.map Nd.wV) :: T) := h1
      obtain ⟨n5, k5, o5, q5, s5⟩ := nd_step (l1 := (l3.set k (Nd.upd (l3.getD k Nd.nil) ⟨(l3.getD k Nd.nil).d.leaf, (l3.getD k Nd.nil).d.bytes, (l3.getD k Nd.nil).d.bg, (l3.getD k Nd.nil).d.bg + bb * (27720 / (l3.getD k Nd.nil).w) * (l3.getD p Nd.nil).sum, (l3.getD k Nd.nil).d.tm, (l3.getD k Nd.nil).d.ws⟩))) rfl hl3n (by omega) hl3q hl3s rfl rfl rfl rfl
      rw [show l.map Nd.kV = (l3.set k (Nd.upd (l3.getD k Nd.nil) ⟨(l3.getD k Nd.nil).d.leaf, (l3.getD k Nd.nil).d.bytes, (l3.getD k Nd.nil).d.bg, (l3.getD k Nd.nil).d.bg + bb * (27720 / (l3.getD k Nd.nil).w) * (l3.getD p Nd.nil).sum, (l3.getD k Nd.nil).d.tm, (l3.getD k Nd.nil).d.ws⟩)).map Nd.kV by rw [kV_same (l1 := (l3.set k (Nd.upd (l3.getD k Nd.nil) ⟨(l3.getD k Nd.nil).d.leaf, (l3.getD k Nd.nil).d.bytes, (l3.getD k Nd.nil).d.bg, (l3.getD k Nd.nil).d.bg + bb * (27720 / (l3.getD k Nd.nil).w) * (l3.getD p Nd.nil).sum, (l3.getD k Nd.nil).d.tm, (l3.getD k Nd.nil).d.ws⟩))) rfl rfl, hl3kv, hl2kv, hl1kv], show l.map Nd.wV = (l3.set k (Nd.upd (l3.getD k Nd.nil) ⟨(l3.getD k Nd.nil).d.leaf, (l3.getD k Nd.nil).d.bytes, (l3.getD k Nd.nil).d.bg, (l3.getD k Nd.nil).d.bg + bb * (27720 / (l3.getD k Nd.nil).w) * (l3.getD p Nd.nil).sum, (l3.getD k Nd.nil).d.tm, (l3.getD k Nd.nil).d.ws⟩)).map Nd.wV by rw [wV_same (l1 := (l3.set k (Nd.upd (l3.getD k Nd.nil) ⟨(l3.getD k Nd.nil).d.leaf, (l3.getD k Nd.nil).d.bytes, (l3.getD k Nd.nil).d.bg, (l3.getD k Nd.nil).d.bg + bb * (27720 / (l3.getD k Nd.nil).w) * (l3.getD p Nd.nil).sum, (l3.getD k Nd.nil).d.tm, (l3.getD k Nd.nil).d.ws⟩))) rfl rfl, hl3wv, hl2wv, hl1wv]] at h2
      refine ⟨_, ⟨n5, ?_, s5⟩, rfl, h2⟩
      rw [q5]
      simp only [List.set_set]
      unfold offer
      rw [if_neg (by omega)]
      dsimp only [Nd.upd]
      rw [hwk, hsp, hbg, hoff, show (t.u k).toNat = p by omega]
      congr 1
      simp only [Nd.upd, hl3k, hl2k, hl1k, ndq hq, hoff0]

set_option maxRecDepth 100000 in
set_option maxHeartbeats 4000000 in
theorem offer_f {w0 w : World} {T : List Res} {b : Nat} {G : Option Addr} {n cg : Nat} {t : Tr} {l : List Nd} {s : List D} {M : Int} (hS : St w0 w (blk b [.slice G n cg] :: vec 131 10 (.slice G n cg) n (l.flatMap cN) :: subs 3 1 (l.map Nd.kV) :: subs 3 1 (l.map Nd.wV) :: T)) (g : t.Good) (hn : t.n = n) (hll : l.length = t.n) (hq : l.map Nd.d = s) (hst : Stat t l) (hbd : Bd M s) (hM : M ≤ 80000000000000) {k : Nat} {lf bb : Int} (hk : k < t.n) (hbb : 0 ≤ bb ∧ bb ≤ 1500) :
    Calls Tryd.prog 83 #[.pointer (some ⟨b, 0, none⟩), (.int .i64 ((k : Int))), (.int .i64 lf), (.int .i64 bb), .bool false] w fun e w' => ∃ q : List Nd, (q.length = t.n ∧ q.map Nd.d = offer t s k lf bb false ∧ Stat t q) ∧ e = .returned (.tuple #[]) ∧ St w0 w' (blk b [.slice G n cg] :: vec 131 10 (.slice G n cg) n (q.flatMap cN) :: subs 3 1 (q.map Nd.kV) :: subs 3 1 (q.map Nd.wV) :: T) := by
  refine calls_tr Tryd.func83 Tryd.ntmps83 rfl rfl hS ?_
  refine tr_seq ?_
  refine tr_region ?_
  refine tl_step rfl (oj_val (y_move (fe_t rfl)) ?_)
  refine tl_step rfl (oj_val (y_nilCheck (fe_t rfl)) ?_)
  refine tl_step rfl (oj_val (y_fieldAddr (td := 127) Tryd.underlying129 rfl rfl Tryd.sizeOf127 (o' := 0) rfl (fe_t rfl)) ?_)
  refine tl_step rfl (oj_val (y_ldb 0 Tryd.isAgg127 (fe_t rfl) rfl rfl) ?_)
  refine tl_step rfl (oj_val (y_move (fe_t rfl)) ?_)
  refine tl_step rfl (oj_val (y_index Tryd.underlying127 Tryd.sizeOf131 (fe_t rfl) (fe_t rfl) (rdl_vec 1 rfl) (by rw [flat_len hcN]; omega) (by decide) (by omega) rfl) ?_)
  refine tl_step rfl (oj_val (y_assign (fe_t rfl)) ?_)
  refine tl_nil ?_
  refine tx_then ?_
  refine tr_seq ?_
  refine tr_region ?_
  refine tl_step rfl (oj_val (y_move (fe_t rfl)) ?_)
  refine tl_step rfl (oj_val (y_move (fe_t rfl)) ?_)
  refine tl_step rfl (oj_val (y_move (fe_t rfl)) ?_)
  refine tl_step rfl (oj_val (y_move (fe_t rfl)) ?_)
  refine tl_step rfl (oj_val (y_nilCheckE (fe_t rfl) (rdl_vec 1 rfl) (by rw [flat_len hcN]; omega)) ?_)
  refine tl_step rfl (oj_val (y_fieldAddrE (td := 3) Tryd.underlying131 rfl rfl Tryd.sizeOf3 rfl (fe_t rfl) (rdl_vec 1 rfl) (by rw [flat_len hcN]; omega)) ?_)
  refine tl_step rfl (oj_storeG (i := 1) Nd.nil (Nd.upd (l.getD k Nd.nil) ⟨lf, (l.getD k Nd.nil).d.bytes, (l.getD k Nd.nil).d.bg, (l.getD k Nd.nil).d.en, (l.getD k Nd.nil).d.tm, (l.getD k Nd.nil).d.ws⟩) hcN Tryd.sizeOf3 (fe_t rfl) (fe_t rfl) rfl rfl rfl (by (try rw [List.length_set]); omega) rfl (rfl) (?_))
  generalize hl1 : l.set k (Nd.upd (l.getD k Nd.nil) ⟨lf, (l.getD k Nd.nil).d.bytes, (l.getD k Nd.nil).d.bg, (l.getD k Nd.nil).d.en, (l.getD k Nd.nil).d.tm, (l.getD k Nd.nil).d.ws⟩) = l1
  obtain ⟨hl1n, hl1k, hl1o, hl1q, hl1s⟩ := nd_step hl1 hll (by omega) hq hst rfl rfl rfl rfl
  have hl1kv := kV_same hl1 rfl
  have hl1wv := wV_same hl1 rfl
  refine tl_step rfl (oj_val (y_nilCheckE (fe_t rfl) (rdl_vec 1 rfl) (by rw [flat_len hcN]; omega)) ?_)
  refine tl_step rfl (oj_val (y_fieldAddrE (td := 3) Tryd.underlying131 rfl rfl Tryd.sizeOf3 rfl (fe_t rfl) (rdl_vec 1 rfl) (by rw [flat_len hcN]; omega)) ?_)
  refine tl_step rfl (oj_storeG (i := 1) Nd.nil (Nd.upd (l1.getD k Nd.nil) ⟨(l1.getD k Nd.nil).d.leaf, bb, (l1.getD k Nd.nil).d.bg, (l1.getD k Nd.nil).d.en, (l1.getD k Nd.nil).d.tm, (l1.getD k Nd.nil).d.ws⟩) hcN Tryd.sizeOf3 (fe_t rfl) (fe_t rfl) rfl rfl rfl (by (try rw [List.length_set]); omega) rfl (rfl) (?_))
  refine tl_nil ?_
  refine tx_then ?_
  refine tr_seq ?_
  refine tr_seq ?_
  generalize hl2 : l1.set k (Nd.upd (l1.getD k Nd.nil) ⟨(l1.getD k Nd.nil).d.leaf, bb, (l1.getD k Nd.nil).d.bg, (l1.getD k Nd.nil).d.en, (l1.getD k Nd.nil).d.tm, (l1.getD k Nd.nil).d.ws⟩) = l2
  obtain ⟨hl2n, hl2k, hl2o, hl2q, hl2s⟩ := nd_step hl2 hl1n (by omega) hl1q hl1s rfl rfl rfl rfl
  have hl2kv := kV_same hl2 rfl
  have hl2wv := wV_same hl2 rfl
  have hu2 := (hl2s k (by omega)).up
  refine tr_region ?_
  refine tl_step rfl (oj_val (y_move (fe_t rfl)) ?_)
  refine tl_step rfl (oj_val (y_nilCheckE (fe_t rfl) (rdl_vec 1 rfl) (by rw [flat_len hcN]; omega)) ?_)
  refine tl_step rfl (oj_val (y_fieldAddrE (td := 3) Tryd.underlying131 rfl rfl Tryd.sizeOf3 rfl (fe_t rfl) (rdl_vec 1 rfl) (by rw [flat_len hcN]; omega)) ?_)
  refine tl_step rfl (oj_val (y_ld Tryd.isAgg3 (fe_t rfl) (rdl_vec 1 rfl) (flatG (d := Nd.nil) (i := 0) hcN (by omega) rfl)) ?_)
  refine tl_step rfl (oj_val (y_lss (fe_t rfl) fe_c) ?_)
  refine tl_nil ?_
  refine tx_then ?_
  refine tr_condp (fe_t rfl) (fun hq1 => ?_) (fun hq2 => ?_)
  · try (exfalso; omega)
    all_goals
      refine tr_ret ?_
      refine tx_then_ret ?_
      refine tx_ret (res0 Tryd.results83 ) (fun w' hS => ?_)
      have h1 := pickT (l := [_, _, _, _]) hS [0, 1, 2, 3] rfl (by decide)
      have h2 : St w0 w' (blk b [.slice G n cg] :: vec 131 10 (.slice G n cg) n (l2.flatMap cN) :: subs 3 1 (l.map Nd.kV) :: subs 3 1 (l.map Nd.wV) :: T) := h1
      rw [show l.map Nd.kV = l2.map Nd.kV by rw [hl2kv, hl1kv], show l.map Nd.wV = l2.map Nd.wV by rw [hl2wv, hl1wv]] at h2
      exact ⟨l2, ⟨hl2n, by rw [hl2q, List.set_set]; unfold offer; rw [if_pos (by omega)]; simp only [Nd.upd, hl1k, ndq hq], hl2s⟩, rfl, h2⟩
  · try (exfalso; omega)
    all_goals
      refine tr_skip ?_
      refine tx_then ?_
      refine tr_seq ?_
      obtain ⟨p, hp⟩ : ∃ p : Nat, t.u k = p := ⟨(t.u k).toNat, by omega⟩
      have hpk := (g.lt (k := k) (by omega)).1
      have hpn : p < t.n := by omega
      have hup : (l2.getD k Nd.nil).up = (p : Int) := by rw [hu2, hp]
      refine tb_draw 10 (sel _ [0, 1, 2, 3]) (fun w h => h.sel _ rfl (by decide)) rfl ?_
      refine tb_float (i := 0) rfl (by kernel_rfl) rfl (wants_none rfl) (yq_of (y_move (fe_t rfl))) ?_
      refine tb_float (i := 1) rfl (by kernel_rfl) rfl (wants_none rfl) (yq_of (y_nilCheck (fe_t rfl))) ?_
      refine tb_float (i := 2) rfl (by kernel_rfl) rfl (wants_none rfl) (yq_of (y_fieldAddr (td := 127) Tryd.underlying129 rfl rfl Tryd.sizeOf127 (o' := 0) rfl (fe_t rfl))) ?_
      refine tb_float (i := 3) rfl (by kernel_rfl) rfl (wants_none rfl) (yq_of (y_ldb 0 Tryd.isAgg127 (fe_t rfl) rfl rfl)) ?_
      refine tb_float (i := 4) rfl (by kernel_rfl) rfl (wants_none rfl) (yq_of (y_move (fe_t rfl))) ?_
      refine tb_float (i := 5) rfl (by kernel_rfl) rfl (wants_none rfl) (yq_of (y_nilCheckE (fe_t rfl) (rdl_vec 1 rfl) (by rw [flat_len hcN]; omega))) ?_
      refine tb_float (i := 6) rfl (by kernel_rfl) rfl (wants_none rfl) (yq_of (y_fieldAddrE (td := 3) Tryd.underlying131 rfl rfl Tryd.sizeOf3 rfl (fe_t rfl) (rdl_vec 1 rfl) (by rw [flat_len hcN]; omega))) ?_
      refine tb_float (i := 7) rfl (by kernel_rfl) rfl (wants_none rfl) (yq_of (y_ld Tryd.isAgg3 (fe_t rfl) (rdl_vec 1 rfl) (flatG (d := Nd.nil) (i := 0) hcN (by omega) rfl))) ?_
      refine tb_float (i := 8) rfl (by kernel_rfl) rfl (wants_none rfl) (yq_of (y_index Tryd.underlying127 Tryd.sizeOf131 (fe_t rfl) (fe_i hup rfl) (rdl_vec 1 rfl) (by rw [flat_len hcN]; omega) (by decide) (by omega) rfl)) ?_
      refine tb_float (i := 9) rfl (by kernel_rfl) rfl (wants_none rfl) (yq_of (y_assign (fe_t rfl))) ?_
      refine tb_done (by kernel_rfl) ?_
      refine tx_then ?_
      refine tr_seq ?_
      refine tr_region ?_
      refine tl_step rfl (oj_val (y_move (fe_t rfl)) ?_)
      refine tl_step rfl (oj_val (y_move (fe_t rfl)) ?_)
      refine tl_step rfl (oj_val (y_nilCheckE (fe_t rfl) (rdl_vec 1 rfl) (by rw [flat_len hcN]; omega)) ?_)
      refine tl_step rfl (oj_val (y_fieldAddrE (td := 3) Tryd.underlying131 rfl rfl Tryd.sizeOf3 rfl (fe_t rfl) (rdl_vec 1 rfl) (by rw [flat_len hcN]; omega)) ?_)
      refine tl_step rfl (oj_val (y_ld Tryd.isAgg3 (fe_t rfl) (rdl_vec 1 rfl) (flatG (d := Nd.nil) (i := 7) hcN (by omega) rfl)) ?_)
      refine tl_step rfl (oj_val (y_nilCheckE (fe_t rfl) (rdl_vec 1 rfl) (by rw [flat_len hcN]; omega)) ?_)
      refine tl_step rfl (oj_val (y_fieldAddrE (td := 3) Tryd.underlying131 rfl rfl Tryd.sizeOf3 rfl (fe_t rfl) (rdl_vec 1 rfl) (by rw [flat_len hcN]; omega)) ?_)
      refine tl_step rfl (oj_storeG (i := 1) Nd.nil (Nd.upd (l2.getD k Nd.nil) ⟨(l2.getD k Nd.nil).d.leaf, (l2.getD k Nd.nil).d.bytes, (l2.getD k Nd.nil).d.en, (l2.getD k Nd.nil).d.en, (l2.getD k Nd.nil).d.tm, (l2.getD k Nd.nil).d.ws⟩) hcN Tryd.sizeOf3 (fe_t rfl) (fe_t rfl) rfl rfl rfl (by (try rw [List.length_set]); omega) rfl (rfl) (?_))
      refine tl_nil ?_
      refine tx_then ?_
      refine tr_seq ?_
      refine tr_seq ?_
      generalize hl3 : l2.set k (Nd.upd (l2.getD k Nd.nil) ⟨(l2.getD k Nd.nil).d.leaf, (l2.getD k Nd.nil).d.bytes, (l2.getD k Nd.nil).d.en, (l2.getD k Nd.nil).d.en, (l2.getD k Nd.nil).d.tm, (l2.getD k Nd.nil).d.ws⟩) = l3
      obtain ⟨hl3n, hl3k, hl3o, hl3q, hl3s⟩ := nd_step hl3 hl2n (by omega) hl2q hl2s rfl rfl rfl rfl
      have hl3kv := kV_same hl3 rfl
      have hl3wv := wV_same hl3 rfl
      refine tr_region ?_
      refine tl_step rfl (oj_val (y_move (fe_t rfl)) ?_)
      refine tl_step rfl (oj_val (y_not (fe_t rfl)) ?_)
      refine tl_nil ?_
      refine tx_then ?_
      refine tr_condt (fe_t rfl) ?_
      refine tb_draw1 12 [_, _, _, _] [_, _, _, _] (fun w h => h.pick [0, 1, 2, 3] _ rfl (by decide)) (fun w h => (h.weak (i := 1) rfl).pick [1, 0, 2, 3] _ rfl (by decide)) rfl ?_
      refine tb_float (i := 0) rfl (by kernel_rfl) rfl (wants_none rfl) (yq_of (y_move (fe_t rfl))) ?_
      refine tb_float (i := 1) rfl (by kernel_rfl) rfl (wants_none rfl) (yq_of (y_move (fe_t rfl))) ?_
      refine tb_float (i := 2) rfl (by kernel_rfl) rfl (wants_none rfl) (yq_of (y_nilCheckR (fe_t rfl) (rch_w 0 rfl (by omega)))) ?_
      refine tb_float (i := 3) rfl (by kernel_rfl) rfl (wants_none rfl) (yq_of (y_fieldAddrR (td := 3) Tryd.underlying131 rfl rfl Tryd.sizeOf3 rfl (fe_t rfl) (rch_w 0 rfl (by omega)))) ?_
      refine tb_float1 (i := 4) rfl (by kernel_rfl) (by kernel_rfl) rfl (wants_none rfl) (yq_of (y_ld Tryd.isAgg3 (fe_t rfl) (rdl_vec 1 rfl) (flatG (d := Nd.nil) (i := 7) hcN (by omega) rfl))) ?_
      refine tb_float (i := 5) rfl (by kernel_rfl) rfl (wants_none rfl) (yq_of (y_move (fe_t rfl))) ?_
      refine tb_float (i := 6) rfl (by kernel_rfl) rfl (wants_none rfl) (yq_of (y_nilCheckR (fe_t rfl) (rch_w 0 rfl (by omega)))) ?_
      refine tb_float (i := 7) rfl (by kernel_rfl) rfl (wants_none rfl) (yq_of (y_fieldAddrR (td := 3) Tryd.underlying131 rfl rfl Tryd.sizeOf3 rfl (fe_t rfl) (rch_w 0 rfl (by omega)))) ?_
      refine tb_float1 (i := 8) rfl (by kernel_rfl) (by kernel_rfl) rfl (wants_none rfl) (yq_of (y_ld Tryd.isAgg3 (fe_t rfl) (rdl_vec 1 rfl) (flatG (d := Nd.nil) (i := 8) hcN (by omega) rfl))) ?_
      refine tb_float (i := 9) rfl (by kernel_rfl) rfl (wants_none rfl) (yq_of (y_max (fe_t rfl) (fe_t rfl))) ?_
      refine tb_float (i := 10) rfl (by kernel_rfl) rfl (wants_none rfl) (yq_of (y_nilCheckR (fe_t rfl) (rch_w 0 rfl (by omega)))) ?_
      refine tb_float (i := 11) rfl (by kernel_rfl) rfl (wants_none rfl) (yq_of (y_fieldAddrR (td := 3) Tryd.underlying131 rfl rfl Tryd.sizeOf3 rfl (fe_t rfl) (rch_w 0 rfl (by omega)))) ?_
      refine tb_one2 (i := 12) rfl (by kernel_rfl) (by kernel_rfl) (wants_none rfl) (oj_storeG (i := 1) Nd.nil (Nd.upd (l3.getD k Nd.nil) ⟨(l3.getD k Nd.nil).d.leaf, (l3.getD k Nd.nil).d.bytes, max (l3.getD k Nd.nil).d.en (l3.getD p Nd.nil).d.tm, (l3.getD k Nd.nil).d.en, (l3.getD k Nd.nil).d.tm, (l3.getD k Nd.nil).d.ws⟩) hcN Tryd.sizeOf3 (fe_t rfl) (fe_t rfl) rfl rfl rfl (by (try rw [List.length_set]); omega) rfl (rfl) (⟨fun w h => (h.weak (i := 1) rfl).pick [1, 0, 2, 3] _ rfl (by decide), ?_⟩))
      refine tb_done (by kernel_rfl) ?_
      refine tx_then ?_
      generalize hl4 : l3.set k (Nd.upd (l3.getD k Nd.nil) ⟨(l3.getD k Nd.nil).d.leaf, (l3.getD k Nd.nil).d.bytes, max (l3.getD k Nd.nil).d.en (l3.getD p Nd.nil).d.tm, (l3.getD k Nd.nil).d.en, (l3.getD k Nd.nil).d.tm, (l3.getD k Nd.nil).d.ws⟩) = l4
      obtain ⟨hl4n, hl4k, hl4o, hl4q, hl4s⟩ := nd_step hl4 hl3n (by omega) hl3q hl3s rfl rfl rfl rfl
      have hl4kv := kV_same hl4 rfl
      have hl4wv := wV_same hl4 rfl
      have hwk : (l4.getD k Nd.nil).w = t.w k := (hl4s k (by omega)).w
      have hsp : (l4.getD p Nd.nil).sum = t.sum p := (hl4s p hpn).sum
      have gw := g.w k (by omega)
      have hpay := pay_bd hbb (w_div gw) (sum_bd g p)
      rw [← hwk, ← hsp] at hpay
      rw [← hwk] at gw
      obtain ⟨b1, b2, b3, b4, b5⟩ := hbd k
      obtain ⟨p1, p2, p3, p4, p5⟩ := hbd p
      have hpo : p ≠ k := by omega
      have htm : (l3.getD p Nd.nil).d.tm = (dn s p).tm := by rw [hl3o p hpo, hl2o p hpo, hl1o p hpo, ndq hq]
      have hen : (l3.getD k Nd.nil).d.en = (dn s k).en := by rw [hl3k]; dsimp only [Nd.upd]; rw [hl2k]; dsimp only [Nd.upd]; rw [hl1k, ndq hq]; rfl
      have hbg : (l4.getD k Nd.nil).d.bg = max (dn s k).en (dn s p).tm := by rw [hl4k]; dsimp only [Nd.upd]; rw [hen, htm]
      have hoff : max (dn s k).en (dn s p).tm = offB t s k false := by unfold offB; rw [show (t.u k).toNat = p by omega]; rfl
      have hoff0 := hoff.symm
      refine tb_draw1 20 [_, _, _, _] [_, _, _, _] (fun w h => h.pick [0, 1, 2, 3] _ rfl (by decide)) (fun w h => (h.weak (i := 1) rfl).pick [1, 0, 2, 3] _ rfl (by decide)) rfl ?_
      refine tb_float (i := 0) rfl (by kernel_rfl) rfl (wants_none rfl) (yq_of (y_move (fe_t rfl))) ?_
      refine tb_float (i := 1) rfl (by kernel_rfl) rfl (wants_none rfl) (yq_of (y_move (fe_t rfl))) ?_
      refine tb_float (i := 2) rfl (by kernel_rfl) rfl (wants_none rfl) (yq_of (y_nilCheckR (fe_t rfl) (rch_w 0 rfl (by omega)))) ?_
      refine tb_float (i := 3) rfl (by kernel_rfl) rfl (wants_none rfl) (yq_of (y_fieldAddrR (td := 3) Tryd.underlying131 rfl rfl Tryd.sizeOf3 rfl (fe_t rfl) (rch_w 0 rfl (by omega)))) ?_
      refine tb_float1 (i := 4) rfl (by kernel_rfl) (by kernel_rfl) rfl (wants_none rfl) (yq_of (y_ld Tryd.isAgg3 (fe_t rfl) (rdl_vec 1 rfl) (flatG (d := Nd.nil) (i := 6) hcN (by omega) rfl))) ?_
      refine tb_float (i := 5) rfl (by kernel_rfl) rfl (wants_none rfl) (yq_of (y_move (fe_t rfl))) ?_
      refine tb_float (i := 6) rfl (by kernel_rfl) rfl (wants_none rfl) (yq_of (y_move (fe_t rfl))) ?_
      refine tb_float (i := 7) rfl (by kernel_rfl) rfl (wants_none rfl) (yq_of (y_nilCheckR (fe_t rfl) (rch_w 0 rfl (by omega)))) ?_
      refine tb_float (i := 8) rfl (by kernel_rfl) rfl (wants_none rfl) (yq_of (y_fieldAddrR (td := 3) Tryd.underlying131 rfl rfl Tryd.sizeOf3 rfl (fe_t rfl) (rch_w 0 rfl (by omega)))) ?_
      refine tb_float1 (i := 9) rfl (by kernel_rfl) (by kernel_rfl) rfl (wants_none rfl) (yq_of (y_ld Tryd.isAgg3 (fe_t rfl) (rdl_vec 1 rfl) (flatG (d := Nd.nil) (i := 1) hcN (by omega) rfl))) ?_
      refine tb_float (i := 10) rfl (by kernel_rfl) rfl (wants_none rfl) (yq_of (y_quo fe_c (fe_t rfl) (by omega))) ?_
      refine tb_float (i := 11) rfl (by kernel_rfl) rfl (wants_none rfl) (yq_of (y_mul (fe_t rfl) (fe_t rfl) (by omega))) ?_
      refine tb_float (i := 12) rfl (by kernel_rfl) rfl (wants_none rfl) (yq_of (y_move (fe_t rfl))) ?_
      refine tb_float (i := 13) rfl (by kernel_rfl) rfl (wants_none rfl) (yq_of (y_nilCheckR (fe_t rfl) (rch_w 0 rfl (by omega)))) ?_
      refine tb_float (i := 14) rfl (by kernel_rfl) rfl (wants_none rfl) (yq_of (y_fieldAddrR (td := 3) Tryd.underlying131 rfl rfl Tryd.sizeOf3 rfl (fe_t rfl) (rch_w 0 rfl (by omega)))) ?_
      refine tb_float1 (i := 15) rfl (by kernel_rfl) (by kernel_rfl) rfl (wants_none rfl) (yq_of (y_ld Tryd.isAgg3 (fe_t rfl) (rdl_vec 1 rfl) (flatG (d := Nd.nil) (i := 3) hcN (by omega) rfl))) ?_
      refine tb_float (i := 16) rfl (by kernel_rfl) rfl (wants_none rfl) (yq_of (y_mul (fe_t rfl) (fe_t rfl) (by omega))) ?_
      refine tb_float (i := 17) rfl (by kernel_rfl) rfl (wants_none rfl) (yq_of (y_add (fe_t rfl) (fe_t rfl) (by omega))) ?_
      refine tb_float (i := 18) rfl (by kernel_rfl) rfl (wants_none rfl) (yq_of (y_nilCheckR (fe_t rfl) (rch_w 0 rfl (by omega)))) ?_
      refine tb_float (i := 19) rfl (by kernel_rfl) rfl (wants_none rfl) (yq_of (y_fieldAddrR (td := 3) Tryd.underlying131 rfl rfl Tryd.sizeOf3 rfl (fe_t rfl) (rch_w 0 rfl (by omega)))) ?_
      refine tb_one2 (i := 20) rfl (by kernel_rfl) (by kernel_rfl) (wants_none rfl) (oj_storeG (i := 1) Nd.nil (Nd.upd (l4.getD k Nd.nil) ⟨(l4.getD k Nd.nil).d.leaf, (l4.getD k Nd.nil).d.bytes, (l4.getD k Nd.nil).d.bg, (l4.getD k Nd.nil).d.bg + bb * (27720 / (l4.getD k Nd.nil).w) * (l4.getD p Nd.nil).sum, (l4.getD k Nd.nil).d.tm, (l4.getD k Nd.nil).d.ws⟩) hcN Tryd.sizeOf3 (fe_t rfl) (fe_t rfl) rfl rfl rfl (by (try rw [List.length_set]); omega) rfl (rfl) (⟨fun w h => (h.weak (i := 1) rfl).pick [1, 0, 2, 3] _ rfl (by decide), ?_⟩))
      refine tb_done (by kernel_rfl) ?_
      refine tx_end (res0 Tryd.results83 ) (fun w' hS => ?_)
      have h1 := pickT (l := [_, _, _, _]) hS [0, 1, 2, 3] rfl (by decide)
      have h2 : St w0 w' (blk b [.slice G n cg] :: vec 131 10 (.slice G n cg) n ((l4.set k (Nd.upd (l4.getD k Nd.nil) ⟨(l4.getD k Nd.nil).d.leaf, (l4.getD k Nd.nil).d.bytes, (l4.getD k Nd.nil).d.bg, (l4.getD k Nd.nil).d.bg + bb * (27720 / (l4.getD k Nd.nil).w) * (l4.getD p Nd.nil).sum, (l4.getD k Nd.nil).d.tm, (l4.getD k Nd.nil).d.ws⟩)).flatMap cN) :: subs 3 1 (l.map Nd.kV) :: subs 3 1 (l.map Nd.wV) :: T) := h1
      obtain ⟨n5, k5, o5, q5, s5⟩ := nd_step (l1 := (l4.set k (Nd.upd (l4.getD k Nd.nil) ⟨(l4.getD k Nd.nil).d.leaf, (l4.getD k Nd.nil).d.bytes, (l4.getD k Nd.nil).d.bg, (l4.getD k Nd.nil).d.bg + bb * (27720 / (l4.getD k Nd.nil).w) * (l4.getD p Nd.nil).sum, (l4.getD k Nd.nil).d.tm, (l4.getD k Nd.nil).d.ws⟩))) rfl hl4n (by omega) hl4q hl4s rfl rfl rfl rfl
      rw [show l.map Nd.kV = (l4.set k (Nd.upd (l4.getD k Nd.nil) ⟨(l4.getD k Nd.nil).d.leaf, (l4.getD k Nd.nil).d.bytes, (l4.getD k Nd.nil).d.bg, (l4.getD k Nd.nil).d.bg + bb * (27720 / (l4.getD k Nd.nil).w) * (l4.getD p Nd.nil).sum, (l4.getD k Nd.nil).d.tm, (l4.getD k Nd.nil).d.ws⟩)).map Nd.kV by rw [kV_same (l1 := (l4.set k (Nd.upd (l4.getD k Nd.nil) ⟨(l4.getD k Nd.nil).d.leaf, (l4.getD k Nd.nil).d.bytes, (l4.getD k Nd.nil).d.bg, (l4.getD k Nd.nil).d.bg + bb * (27720 / (l4.getD k Nd.nil).w) * (l4.getD p Nd.nil).sum, (l4.getD k Nd.nil).d.tm, (l4.getD k Nd.nil).d.ws⟩))) rfl rfl, hl4kv, hl3kv, hl2kv, hl1kv], show l.map Nd.wV = (l4.set k (Nd.upd (l4.getD k Nd.nil) ⟨(l4.getD k Nd.nil).d.leaf, (l4.getD k Nd.nil).d.bytes, (l4.getD k Nd.nil).d.bg, (l4.getD k Nd.nil).d.bg + bb * (27720 / (l4.getD k Nd.nil).w) * (l4.getD p Nd.nil).sum, (l4.getD k Nd.nil).d.tm, (l4.getD k Nd.nil).d.ws⟩)).map Nd.wV by rw [wV_same (l1 := (l4.set k (Nd.upd (l4.getD k Nd.nil) ⟨(l4.getD k Nd.nil).d.leaf, (l4.getD k Nd.nil).d.bytes, (l4.getD k Nd.nil).d.bg, (l4.getD k Nd.nil).d.bg + bb * (27720 / (l4.getD k Nd.nil).w) * (l4.getD p Nd.nil).sum, (l4.getD k Nd.nil).d.tm, (l4.getD k Nd.nil).d.ws⟩))) rfl rfl, hl4wv, hl3wv, hl2wv, hl1wv]] at h2
      refine ⟨_, ⟨n5, ?_, s5⟩, rfl, h2⟩
      rw [q5]
      simp only [List.set_set]
      unfold offer
      rw [if_neg (by omega)]
      dsimp only [Nd.upd]
      rw [hwk, hsp, hbg, hoff, show (t.u k).toNat = p by omega]
      congr 1
      simp only [Nd.upd, hl4k, hl3k, hl2k, hl1k, ndq hq, hoff0]

theorem offerE {w0 w : World} {T : List Res} {b : Nat} {G : Option Addr} {n cg : Nat} {t : Tr} {l : List Nd} {s : List D} {M : Int} (hS : St w0 w (blk b [.slice G n cg] :: vec 131 10 (.slice G n cg) n (l.flatMap cN) :: subs 3 1 (l.map Nd.kV) :: subs 3 1 (l.map Nd.wV) :: T)) (g : t.Good) (hn : t.n = n) (hll : l.length = t.n) (hq : l.map Nd.d = s) (hst : Stat t l) (hbd : Bd M s) (hM : M ≤ 80000000000000) {k : Nat} {lf bb : Int} {ag : Bool} (hk : k < t.n) (hbb : 0 ≤ bb ∧ bb ≤ 1500) :
    Calls Tryd.prog 83 #[.pointer (some ⟨b, 0, none⟩), (.int .i64 ((k : Int))), (.int .i64 lf), (.int .i64 bb), .bool ag] w fun e w' => ∃ q : List Nd, (q.length = t.n ∧ q.map Nd.d = offer t s k lf bb ag ∧ Stat t q) ∧ e = .returned (.tuple #[]) ∧ St w0 w' (blk b [.slice G n cg] :: vec 131 10 (.slice G n cg) n (q.flatMap cN) :: subs 3 1 (q.map Nd.kV) :: subs 3 1 (q.map Nd.wV) :: T) := by
  cases ag
  · exact offer_f hS g hn hll hq hst hbd hM hk hbb
  · exact offer_t hS g hn hll hq hst hbd hM hk hbb

theorem kids_len {t : Tr} {k : Nat} : (t.kids k).length ≤ t.n := by
  have := List.length_filter_le (fun j => decide (t.u j = k)) (List.range t.n)
  simpa [Tr.kids, Tr.kidsTo] using this
theorem kI_at {ks : List Nat} {j : Nat} (h : j < ks.length) : (kI ks).getD j 0 = ((ks.getD j 0 : Nat) : Int) := getD_map (fun c : Nat => (c : Int)) rfl
theorem kI_len {ks : List Nat} : (kI ks).length = ks.length := by simp [kI]
/-- A node below k, as a flow. -/
theorem kq_facts {s : List D} {ks : List Nat} {j c : Nat} (h : j < ks.length) (hc : c = ks.getD j 0) : (0 < (gq (kq s ks) j).bs.length ↔ 0 < (dn s c).bytes) ∧ (gq (kq s ks) j).bg = (dn s c).bg ∧ (gq (kq s ks) j).en = (dn s c).en := by
  subst hc
  rw [kq_at h]
  exact ⟨qd_pos, rfl, rfl⟩
def kidv (t : Tr) (k : Nat) (y : Int) : Int := if y < 0 then -1 else ((t.kids k).getD y.toNat 0 : Nat)
theorem kidv_nat {t : Tr} {k q : Nat} : kidv t k (q : Int) = ((t.kids k).getD q 0 : Nat) := by
  unfold kidv
  rw [if_neg (by omega), Int.toNat_natCast]
theorem kidv_neg {t : Tr} {k : Nat} {y : Int} : kidv t k y < 0 ↔ y < 0 := by
  unfold kidv
  split <;> omega
theorem kidv_at {s : List D} {t : Tr} {k : Nat} {y : Int} (h0 : 0 ≤ y) (h : y.toNat < (t.kids k).length) : 0 ≤ kidv t k y ∧ kidv t k y < t.n ∧ (kidv t k y).toNat ∈ t.kids k ∧ (gq (kq s (t.kids k)) y.toNat).en = (dn s (kidv t k y).toNat).en := by
  have e : kidv t k y = ((t.kids k).getD y.toNat 0 : Nat) := by unfold kidv; rw [if_neg (by omega)]
  have hm : (t.kids k).getD y.toNat 0 ∈ t.kids k := by rw [getD_lt h]; exact List.getElem_mem _
  rw [e, Int.toNat_natCast, kq_at h]
  exact ⟨by omega, by have := (mem_kids.1 hm).1; omega, hm, rfl⟩
set_option maxRecDepth 100000 in
set_option maxHeartbeats 4000000 in
theorem pickE {w0 w : World} {T : List Res} {b : Nat} {G : Option Addr} {n cg : Nat} {t : Tr} {l : List Nd} {s : List D} {M : Int} (hS : St w0 w (blk b [.slice G n cg] :: vec 131 10 (.slice G n cg) n (l.flatMap cN) :: subs 3 1 (l.map Nd.kV) :: subs 3 1 (l.map Nd.wV) :: T)) (g : t.Good) (hn : t.n = n) (hll : l.length = t.n) (hq : l.map Nd.d = s) (hst : Stat t l) (hbd : Bd M s) (hM : M ≤ 79000000000000) {k : Nat} {ag : Bool} (hk : k < t.n) :
    Calls Tryd.prog 84 #[.pointer (some ⟨b, 0, none⟩), (.int .i64 ((k : Int))), .bool ag] w fun e w' => ∃ q : List Nd, (q.length = t.n ∧ q.map Nd.d = pick t s k ag ∧ Stat t q) ∧ e = .returned (.tuple #[]) ∧ St w0 w' (blk b [.slice G n cg] :: vec 131 10 (.slice G n cg) n (q.flatMap cN) :: subs 3 1 (q.map Nd.kV) :: subs 3 1 (q.map Nd.wV) :: T) := by
  have hkm := kids_len (t := t) (k := k)
  have hn16 := g.n16
  have hks : (l.getD k Nd.nil).ks = kI (t.kids k) := (hst k hk).ks
  have hkl : (l.getD k Nd.nil).ks.length = (t.kids k).length := by rw [hks, kI_len]
  obtain ⟨bk1, bk2, bk3, bk4, bk5⟩ := hbd k
  refine calls_tr Tryd.func84 Tryd.ntmps84 rfl rfl hS ?_
  refine tr_seq ?_
  refine tr_region ?_
  refine tl_step rfl (oj_val (y_move (fe_t rfl)) ?_)
  refine tl_step rfl (oj_val (y_nilCheck (fe_t rfl)) ?_)
  refine tl_step rfl (oj_val (y_fieldAddr (td := 127) Tryd.underlying129 rfl rfl Tryd.sizeOf127 (o' := 0) rfl (fe_t rfl)) ?_)
  refine tl_step rfl (oj_val (y_ldb 0 Tryd.isAgg127 (fe_t rfl) rfl rfl) ?_)
  refine tl_step rfl (oj_val (y_move (fe_t rfl)) ?_)
  refine tl_step rfl (oj_val (y_index Tryd.underlying127 Tryd.sizeOf131 (fe_t rfl) (fe_t rfl) (rdl_vec 1 rfl) (by rw [flat_len hcN]; omega) (by decide) (by omega) rfl) ?_)
  refine tl_step rfl (oj_val (y_assign (fe_t rfl)) ?_)
  refine tl_nil ?_
  refine tx_then ?_
  refine tr_seq ?_
  refine tr_region ?_
  refine tl_step rfl (oj_val (y_assign fe_c) ?_)
  refine tl_nil ?_
  refine tx_then ?_
  refine tr_seq ?_
  refine tr_seq ?_
  refine tr_region ?_
  refine tl_step rfl (oj_val (y_move (fe_t rfl)) ?_)
  refine tl_step rfl (oj_val (y_nilCheckE (fe_t rfl) (rdl_vec 1 rfl) (by rw [flat_len hcN]; omega)) ?_)
  refine tl_step rfl (oj_val (y_fieldAddrE (td := 39) Tryd.underlying131 rfl rfl Tryd.sizeOf39 rfl (fe_t rfl) (rdl_vec 1 rfl) (by rw [flat_len hcN]; omega)) ?_)
  refine tl_step rfl (oj_val (y_ld Tryd.isAgg39 (fe_t rfl) (rdl_vec 1 rfl) (flatG (d := Nd.nil) (i := 2) hcN (by omega) rfl)) ?_)
  refine tl_step rfl (oj_val (y_len Tryd.underlying39 (fe_t rfl)) ?_)
  refine tl_step rfl (oj_val (y_move fe_c) ?_)
  refine tl_nil ?_
  refine tx_then ?_
  refine tr_block ?_
  refine tr_loop2 [7, 9, 10, 27, 28, 29, 30, 31, 32, 33, 34, 35, 36, 37, 38, 39, 40, 41, 42, 43, 44, 45, 46, 47, 48, 49, 50, 51, 52, 53] (fun (j : Nat) (z : Int) => [(27, .int .i64 (j : Int)), (7, .int .i64 z)]) 0 (fun (j : Nat) (z : Int) => []) (fun (j : Nat) (z : Int) => j ≤ (t.kids k).length ∧ Lb (kq s (t.kids k)) j z) (fun (j : Nat) (z : Int) => (t.kids k).length - j) (0) (-1) (cov_cons (by first | rfl | exact v_int (by omega) | exact v_int (by dsimp only; omega) | exact v_int (by rw [hvc, kidv_nat, hcc])) (cov_cons (by first | rfl | exact v_int (by omega) | exact v_int (by dsimp only; omega) | exact v_int (by rw [hvc, kidv_nat, hcc])) (cov_nil))) (fun w h => h) ?_ ?_
  · try dsimp only
    exact ⟨by omega, lb_zero _⟩
  intro j z hp
  obtain ⟨hj, hb⟩ := hp
  have hbc := hb.cases
  refine tr_seq ?_
  refine tr_region ?_
  refine tl_step rfl (oj_val (y_lss (fe_t rfl) (fe_t rfl)) ?_)
  refine tl_nil ?_
  refine tx_then ?_
  refine tr_seq ?_
  refine tr_condp (fe_t rfl) (fun hq1 => ?_) (fun hq2 => ?_)
  · try (exfalso; omega)
    all_goals
      refine tr_skip ?_
      refine tx_then ?_
      refine tr_seq ?_
      refine tr_block ?_
      refine tr_seq ?_
      obtain ⟨c, hcc⟩ : ∃ c : Nat, c = (t.kids k).getD j 0 := ⟨_, rfl⟩
      have hvc : (l.getD k Nd.nil).ks.getD j 0 = (c : Int) := by rw [hks, kI_at (by omega), hcc]
      have hnc : c < t.n := by rw [hcc, getD_lt (by omega)]; exact (mem_kids.1 (List.getElem_mem _)).1
      obtain ⟨hpc, hgc, hec⟩ := kq_facts (s := s) (by omega : j < (t.kids k).length) hcc
      obtain ⟨hxc1, hxc2, hxc3, _, _⟩ := hbd c
      rw [ndq hq] at hpc hgc hec hxc1 hxc2 hxc3
      refine tr_region ?_
      refine tl_step rfl (oj_val (y_index Tryd.underlying39 Tryd.sizeOf3 (fe_t rfl) (fe_t rfl) (subG (f := Nd.kV) (d := Nd.nil) 2 rfl (by omega)) (by simp [Nd.kV, cI]) (by decide) (by omega) (Nat.mul_one _)) ?_)
      refine tl_step rfl (oj_val (y_ld Tryd.isAgg3 (fe_t rfl) (subG (f := Nd.kV) (d := Nd.nil) 2 rfl (by omega)) (getW (by omega))) ?_)
      refine tl_step rfl (oj_val (y_assign (fe_t rfl)) ?_)
      refine tl_nil ?_
      refine tx_then ?_
      refine tr_seq ?_
      refine tr_region ?_
      refine tl_step rfl (oj_val (y_move (fe_t rfl)) ?_)
      refine tl_step rfl (oj_val (y_nilCheck (fe_t rfl)) ?_)
      refine tl_step rfl (oj_val (y_fieldAddr (td := 127) Tryd.underlying129 rfl rfl Tryd.sizeOf127 (o' := 0) rfl (fe_t rfl)) ?_)
      refine tl_step rfl (oj_val (y_ldb 0 Tryd.isAgg127 (fe_t rfl) rfl rfl) ?_)
      refine tl_step rfl (oj_val (y_move (fe_t rfl)) ?_)
      refine tl_step rfl (oj_val (y_index Tryd.underlying127 Tryd.sizeOf131 (fe_t rfl) (fe_i hvc rfl) (rdl_vec 1 rfl) (by rw [flat_len hcN]; omega) (by decide) (by omega) rfl) ?_)
      refine tl_step rfl (oj_val (y_ldA (cs := cN (l.getD c Nd.nil)) Tryd.isAgg131 Tryd.sizeOf131 (fe_t rfl) (rdl_vec 1 rfl) rfl (by decide) (flatGA (d := Nd.nil) hcN (by omega))) ?_)
      refine tl_step rfl (oj_alloc Tryd.zeroValue131 (fun bx => ?_))
      refine tl_step rfl (oj_storeW 0 Tryd.sizeOf131 (fe_t rfl) (fe_t rfl) rfl rfl rfl rfl rfl (?_))
      refine tl_nil ?_
      refine tx_then ?_
      refine tr_seq ?_
      refine tr_region ?_
      refine tl_step rfl (oj_val (y_fieldAddr (td := 3) Tryd.underlying131 rfl rfl Tryd.sizeOf3 (o' := 5) rfl (fe_t rfl)) ?_)
      refine tl_step rfl (oj_val (y_ldb 0 Tryd.isAgg3 (fe_t rfl) rfl rfl) ?_)
      refine tl_step rfl (oj_val (y_gtr (fe_t rfl) fe_c) ?_)
      refine tl_step rfl (oj_val (y_move (fe_t rfl)) ?_)
      refine tl_splitp (d := 41) rfl (fun hq3 => ?_) (fun hq4 => ?_)
      · try (exfalso; omega)
        all_goals
          refine tl_want rfl rfl rfl (oj_val (y_move (fe_t rfl)) ?_)
          refine tl_want rfl rfl rfl (oj_val (y_lss (fe_t rfl) fe_c) ?_)
          refine tl_want rfl rfl rfl (oj_val (y_move (fe_t rfl)) ?_)
          refine tl_splitp (d := 44) rfl (fun hq5 => ?_) (fun hq6 => ?_)
          · try (exfalso; omega)
            all_goals
              refine tl_skip rfl rfl rfl rfl ?_
              refine tl_skip rfl rfl rfl rfl ?_
              refine tl_skip rfl rfl rfl rfl ?_
              refine tl_skip rfl rfl rfl rfl ?_
              refine tl_want rfl rfl rfl (oj_val (y_pickt (fe_t rfl) fe_c) ?_)
              refine tl_step rfl (oj_val (y_pickt (fe_t rfl) (fe_t rfl)) ?_)
              refine tl_nil ?_
              refine tx_then ?_
              refine tr_condt (fe_t rfl) ?_
              refine tr_region ?_
              refine tl_step rfl (oj_val (y_fieldAddr (td := 3) Tryd.underlying131 rfl rfl Tryd.sizeOf3 (o' := 6) rfl (fe_t rfl)) ?_)
              refine tl_step rfl (oj_val (y_ldb 0 Tryd.isAgg3 (fe_t rfl) rfl rfl) ?_)
              refine tl_step rfl (oj_val (y_assign (fe_t rfl)) ?_)
              refine tl_nil ?_
              refine tx_in ?_
              refine tx_then ?_
              refine tr_region ?_
              refine tl_step rfl (oj_val (y_inc (fe_t rfl) fe_c (by omega)) ?_)
              refine tl_step rfl (oj_val (y_move (fe_t rfl)) ?_)
              refine tl_nil ?_
              apply tx_back2 (j + 1) ((l.getD c Nd.nil).d.bg)
              · exact (cov_cons (by first | rfl | exact v_int (by omega) | exact v_int (by dsimp only; omega) | exact v_int (by rw [hvc, kidv_nat, hcc])) (cov_cons (by first | rfl | exact v_int (by omega) | exact v_int (by dsimp only; omega) | exact v_int (by rw [hvc, kidv_nat, hcc])) (cov_nil)))
              · repeat (first | exact over_nil | refine over_put rfl ?_ | refine over_drop rfl ?_)
              · exact fun w h => h.tail
              · first
                  | exact ⟨⟨by omega, hgc ▸ hb.take (by omega) (by omega) (by omega)⟩, by omega⟩
                  | exact ⟨⟨by omega, hb.skip (by omega)⟩, by omega⟩
                  | exact ⟨⟨by omega, hb.keep (by omega) (by omega)⟩, by omega⟩
          · try (exfalso; omega)
            all_goals
              refine tl_want rfl rfl rfl (oj_val (y_fieldAddr (td := 3) Tryd.underlying131 rfl rfl Tryd.sizeOf3 (o' := 6) rfl (fe_t rfl)) ?_)
              refine tl_want rfl rfl rfl (oj_val (y_ldb 0 Tryd.isAgg3 (fe_t rfl) rfl rfl) ?_)
              refine tl_want rfl rfl rfl (oj_val (y_move (fe_t rfl)) ?_)
              refine tl_want rfl rfl rfl (oj_val (y_lss (fe_t rfl) (fe_t rfl)) ?_)
              refine tl_want rfl rfl rfl (oj_val (y_pickf (fe_t rfl) (fe_t rfl)) ?_)
              refine tl_step rfl (oj_val (y_pickt (fe_t rfl) (fe_t rfl)) ?_)
              refine tl_nil ?_
              refine tx_then ?_
              refine tr_condp (fe_t rfl) (fun hq7 => ?_) (fun hq8 => ?_)
              · try (exfalso; omega)
                all_goals
                  refine tr_region ?_
                  refine tl_step rfl (oj_val (y_fieldAddr (td := 3) Tryd.underlying131 rfl rfl Tryd.sizeOf3 (o' := 6) rfl (fe_t rfl)) ?_)
                  refine tl_step rfl (oj_val (y_ldb 0 Tryd.isAgg3 (fe_t rfl) rfl rfl) ?_)
                  refine tl_step rfl (oj_val (y_assign (fe_t rfl)) ?_)
                  refine tl_nil ?_
                  refine tx_in ?_
                  refine tx_then ?_
                  refine tr_region ?_
                  refine tl_step rfl (oj_val (y_inc (fe_t rfl) fe_c (by omega)) ?_)
                  refine tl_step rfl (oj_val (y_move (fe_t rfl)) ?_)
                  refine tl_nil ?_
                  apply tx_back2 (j + 1) ((l.getD c Nd.nil).d.bg)
                  · exact (cov_cons (by first | rfl | exact v_int (by omega) | exact v_int (by dsimp only; omega) | exact v_int (by rw [hvc, kidv_nat, hcc])) (cov_cons (by first | rfl | exact v_int (by omega) | exact v_int (by dsimp only; omega) | exact v_int (by rw [hvc, kidv_nat, hcc])) (cov_nil)))
                  · repeat (first | exact over_nil | refine over_put rfl ?_ | refine over_drop rfl ?_)
                  · exact fun w h => h.tail
                  · first
                      | exact ⟨⟨by omega, hgc ▸ hb.take (by omega) (by omega) (by omega)⟩, by omega⟩
                      | exact ⟨⟨by omega, hb.skip (by omega)⟩, by omega⟩
                      | exact ⟨⟨by omega, hb.keep (by omega) (by omega)⟩, by omega⟩
              · try (exfalso; omega)
                all_goals
                  refine tr_skip ?_
                  refine tx_in ?_
                  refine tx_then ?_
                  refine tr_region ?_
                  refine tl_step rfl (oj_val (y_inc (fe_t rfl) fe_c (by omega)) ?_)
                  refine tl_step rfl (oj_val (y_move (fe_t rfl)) ?_)
                  refine tl_nil ?_
                  apply tx_back2 (j + 1) (z)
                  · exact (cov_cons (by first | rfl | exact v_int (by omega) | exact v_int (by dsimp only; omega) | exact v_int (by rw [hvc, kidv_nat, hcc])) (cov_cons (by first | rfl | exact v_int (by omega) | exact v_int (by dsimp only; omega) | exact v_int (by rw [hvc, kidv_nat, hcc])) (cov_nil)))
                  · repeat (first | exact over_nil | refine over_put rfl ?_ | refine over_drop rfl ?_)
                  · exact fun w h => h.tail
                  · first
                      | exact ⟨⟨by omega, hgc ▸ hb.take (by omega) (by omega) (by omega)⟩, by omega⟩
                      | exact ⟨⟨by omega, hb.skip (by omega)⟩, by omega⟩
                      | exact ⟨⟨by omega, hb.keep (by omega) (by omega)⟩, by omega⟩
      · try (exfalso; omega)
        all_goals
          refine tl_skip rfl rfl rfl rfl ?_
          refine tl_skip rfl rfl rfl rfl ?_
          refine tl_skip rfl rfl rfl rfl ?_
          refine tl_skip rfl rfl rfl rfl ?_
          refine tl_skip rfl rfl rfl rfl ?_
          refine tl_skip rfl rfl rfl rfl ?_
          refine tl_skip rfl rfl rfl rfl ?_
          refine tl_skip rfl rfl rfl rfl ?_
          refine tl_step rfl (oj_val (y_pickf (fe_t rfl) fe_c) ?_)
          refine tl_nil ?_
          refine tx_then ?_
          refine tr_condf (fe_t rfl) ?_
          refine tr_skip ?_
          refine tx_in ?_
          refine tx_then ?_
          refine tr_region ?_
          refine tl_step rfl (oj_val (y_inc (fe_t rfl) fe_c (by omega)) ?_)
          refine tl_step rfl (oj_val (y_move (fe_t rfl)) ?_)
          refine tl_nil ?_
          apply tx_back2 (j + 1) (z)
          · exact (cov_cons (by first | rfl | exact v_int (by omega) | exact v_int (by dsimp only; omega) | exact v_int (by rw [hvc, kidv_nat, hcc])) (cov_cons (by first | rfl | exact v_int (by omega) | exact v_int (by dsimp only; omega) | exact v_int (by rw [hvc, kidv_nat, hcc])) (cov_nil)))
          · repeat (first | exact over_nil | refine over_put rfl ?_ | refine over_drop rfl ?_)
          · exact fun w h => h.tail
          · first
              | exact ⟨⟨by omega, hgc ▸ hb.take (by omega) (by omega) (by omega)⟩, by omega⟩
              | exact ⟨⟨by omega, hb.skip (by omega)⟩, by omega⟩
              | exact ⟨⟨by omega, hb.keep (by omega) (by omega)⟩, by omega⟩
  · try (exfalso; omega)
    all_goals
      refine tr_exit ?_
      refine tx_then_exit ?_
      refine tx_then_exit ?_
      refine tx_in_exit ?_
      refine tx_then ?_
      refine tr_seq ?_
      refine tr_seq ?_
      have hj2 : j = (t.kids k).length := by omega
      refine tr_region ?_
      refine tl_step rfl (oj_val (y_move (fe_t rfl)) ?_)
      refine tl_step rfl (oj_val (y_lss (fe_t rfl) fe_c) ?_)
      refine tl_nil ?_
      refine tx_then ?_
      refine tr_condp (fe_t rfl) (fun hq9 => ?_) (fun hq10 => ?_)
      · try (exfalso; omega)
        all_goals
          refine tr_seq ?_
          refine tr_region ?_
          refine tl_step rfl (oj_val (y_move (fe_t rfl)) ?_)
          refine tl_step rfl (oj_val (y_nilCheckE (fe_t rfl) (rdl_vec 1 rfl) (by rw [flat_len hcN]; omega)) ?_)
          refine tl_step rfl (oj_val (y_fieldAddrE (td := 3) Tryd.underlying131 rfl rfl Tryd.sizeOf3 rfl (fe_t rfl) (rdl_vec 1 rfl) (by rw [flat_len hcN]; omega)) ?_)
          refine tl_step rfl (oj_storeG (i := 1) Nd.nil (Nd.upd (l.getD k Nd.nil) ⟨(l.getD k Nd.nil).d.leaf, 0, (l.getD k Nd.nil).d.bg, (l.getD k Nd.nil).d.en, (l.getD k Nd.nil).d.tm, (l.getD k Nd.nil).d.ws⟩) hcN Tryd.sizeOf3 (fe_t rfl) fe_c rfl rfl rfl (by (try rw [List.length_set]); omega) rfl (rfl) (?_))
          refine tl_nil ?_
          refine tx_then ?_
          refine tr_ret ?_
          refine tx_then_ret ?_
          refine tx_ret (res0 Tryd.results84 ) (fun w' hS => ?_)
          have h1 := pickT (l := [_, _, _, _]) hS [0, 1, 2, 3] rfl (by decide)
          have h2 : St w0 w' (blk b [.slice G n cg] :: vec 131 10 (.slice G n cg) n ((l.set k (Nd.upd (l.getD k Nd.nil) ⟨(l.getD k Nd.nil).d.leaf, 0, (l.getD k Nd.nil).d.bg, (l.getD k Nd.nil).d.en, (l.getD k Nd.nil).d.tm, (l.getD k Nd.nil).d.ws⟩)).flatMap cN) :: subs 3 1 (l.map Nd.kV) :: subs 3 1 (l.map Nd.wV) :: T) := h1
          obtain ⟨n5, k5, o5, q5, s5⟩ := nd_step (l1 := (l.set k (Nd.upd (l.getD k Nd.nil) ⟨(l.getD k Nd.nil).d.leaf, 0, (l.getD k Nd.nil).d.bg, (l.getD k Nd.nil).d.en, (l.getD k Nd.nil).d.tm, (l.getD k Nd.nil).d.ws⟩))) rfl hll hk hq hst rfl rfl rfl rfl
          rw [show l.map Nd.kV = (l.set k (Nd.upd (l.getD k Nd.nil) ⟨(l.getD k Nd.nil).d.leaf, 0, (l.getD k Nd.nil).d.bg, (l.getD k Nd.nil).d.en, (l.getD k Nd.nil).d.tm, (l.getD k Nd.nil).d.ws⟩)).map Nd.kV by rw [kV_same (l1 := (l.set k (Nd.upd (l.getD k Nd.nil) ⟨(l.getD k Nd.nil).d.leaf, 0, (l.getD k Nd.nil).d.bg, (l.getD k Nd.nil).d.en, (l.getD k Nd.nil).d.tm, (l.getD k Nd.nil).d.ws⟩))) rfl rfl], show l.map Nd.wV = (l.set k (Nd.upd (l.getD k Nd.nil) ⟨(l.getD k Nd.nil).d.leaf, 0, (l.getD k Nd.nil).d.bg, (l.getD k Nd.nil).d.en, (l.getD k Nd.nil).d.tm, (l.getD k Nd.nil).d.ws⟩)).map Nd.wV by rw [wV_same (l1 := (l.set k (Nd.upd (l.getD k Nd.nil) ⟨(l.getD k Nd.nil).d.leaf, 0, (l.getD k Nd.nil).d.bg, (l.getD k Nd.nil).d.en, (l.getD k Nd.nil).d.tm, (l.getD k Nd.nil).d.ws⟩))) rfl rfl]] at h2
          exact ⟨_, ⟨n5, by rw [q5, (Pick.none (ag := ag) (lb_none hj2 hb (by omega))).eq, ndq hq]; rfl, s5⟩, rfl, h2⟩
      · try (exfalso; omega)
        all_goals
          refine tr_skip ?_
          refine tx_then ?_
          refine tr_seq ?_
          refine tr_region ?_
          refine tl_step rfl (oj_val (y_move (fe_t rfl)) ?_)
          refine tl_step rfl (oj_val (y_move (fe_t rfl)) ?_)
          refine tl_step rfl (oj_val (y_nilCheckE (fe_t rfl) (rdl_vec 1 rfl) (by rw [flat_len hcN]; omega)) ?_)
          refine tl_step rfl (oj_val (y_fieldAddrE (td := 3) Tryd.underlying131 rfl rfl Tryd.sizeOf3 rfl (fe_t rfl) (rdl_vec 1 rfl) (by rw [flat_len hcN]; omega)) ?_)
          refine tl_step rfl (oj_val (y_ld Tryd.isAgg3 (fe_t rfl) (rdl_vec 1 rfl) (flatG (d := Nd.nil) (i := 8) hcN (by omega) rfl)) ?_)
          refine tl_step rfl (oj_val (y_move (fe_t rfl)) ?_)
          refine tl_step rfl (oj_val (y_max (fe_t rfl) (fe_t rfl)) ?_)
          refine tl_step rfl (oj_val (y_nilCheckE (fe_t rfl) (rdl_vec 1 rfl) (by rw [flat_len hcN]; omega)) ?_)
          refine tl_step rfl (oj_val (y_fieldAddrE (td := 3) Tryd.underlying131 rfl rfl Tryd.sizeOf3 rfl (fe_t rfl) (rdl_vec 1 rfl) (by rw [flat_len hcN]; omega)) ?_)
          refine tl_step rfl (oj_storeG (i := 1) Nd.nil (Nd.upd (l.getD k Nd.nil) ⟨(l.getD k Nd.nil).d.leaf, (l.getD k Nd.nil).d.bytes, (l.getD k Nd.nil).d.bg, (l.getD k Nd.nil).d.en, max (l.getD k Nd.nil).d.tm z, (l.getD k Nd.nil).d.ws⟩) hcN Tryd.sizeOf3 (fe_t rfl) (fe_t rfl) rfl rfl rfl (by (try rw [List.length_set]); omega) rfl (rfl) (?_))
          refine tl_nil ?_
          refine tx_then ?_
          refine tr_seq ?_
          generalize hl1 : l.set k (Nd.upd (l.getD k Nd.nil) ⟨(l.getD k Nd.nil).d.leaf, (l.getD k Nd.nil).d.bytes, (l.getD k Nd.nil).d.bg, (l.getD k Nd.nil).d.en, max (l.getD k Nd.nil).d.tm z, (l.getD k Nd.nil).d.ws⟩) = l1
          obtain ⟨hl1n, hl1k, hl1o, hl1q, hl1s⟩ := nd_step hl1 hll (by omega) hq hst rfl rfl rfl rfl
          have hl1kv := kV_same hl1 rfl
          have hl1wv := wV_same hl1 rfl
          refine tr_as (r' := subs 3 1 (l1.map Nd.kV)) 2 rfl (congrArg (subs _ _) hl1kv.symm) ?_
          refine tr_as (r' := subs 3 1 (l1.map Nd.wV)) 3 rfl (congrArg (subs _ _) hl1wv.symm) ?_
          have hz0 : 0 ≤ z := by omega
          have hL := (lb_some hj2 hb (by omega)).2
          have hzM : z ≤ M := by
            obtain ⟨⟨a, a1, _, a3⟩, _⟩ := hL
            rw [kq_at a1] at a3
            have a4 := (hbd ((t.kids k).getD a 0)).2.1
            have a5 : (dn s ((t.kids k).getD a 0)).bg = z := a3
            omega
          have hks1 : (l1.getD k Nd.nil).ks = kI (t.kids k) := (hl1s k hk).ks
          have hkl1 : (l1.getD k Nd.nil).ks.length = (t.kids k).length := by rw [hks1, kI_len]
          have htm1 : (l1.getD k Nd.nil).d.tm = (max (dn s k).tm z) := by rw [hl1k, ndq hq]; rfl
          refine tr_region ?_
          refine tl_step rfl (oj_val (y_assign fe_c) ?_)
          refine tl_nil ?_
          refine tx_then ?_
          refine tr_seq ?_
          refine tr_seq ?_
          refine tr_region ?_
          refine tl_step rfl (oj_val (y_move (fe_t rfl)) ?_)
          refine tl_step rfl (oj_val (y_nilCheckE (fe_t rfl) (rdl_vec 1 rfl) (by rw [flat_len hcN]; omega)) ?_)
          refine tl_step rfl (oj_val (y_fieldAddrE (td := 39) Tryd.underlying131 rfl rfl Tryd.sizeOf39 rfl (fe_t rfl) (rdl_vec 1 rfl) (by rw [flat_len hcN]; omega)) ?_)
          refine tl_step rfl (oj_val (y_ld Tryd.isAgg39 (fe_t rfl) (rdl_vec 1 rfl) (flatG (d := Nd.nil) (i := 2) hcN (by omega) rfl)) ?_)
          refine tl_step rfl (oj_val (y_len Tryd.underlying39 (fe_t rfl)) ?_)
          refine tl_step rfl (oj_val (y_move fe_c) ?_)
          refine tl_nil ?_
          refine tx_then ?_
          refine tr_block ?_
          refine tr_loop2 [11, 13, 14, 73, 74, 75, 76, 77, 78, 79, 80, 81, 82, 83, 84, 85, 86, 87, 88, 89, 90, 91, 92, 93, 94, 95, 96, 97, 98, 99, 100, 101, 102, 103, 104, 105, 106, 107, 108, 109, 110, 111, 112, 113, 114] (fun (i : Nat) (y : Int) => [(73, .int .i64 (i : Int)), (11, .int .i64 (kidv t k y))]) 0 (fun (i : Nat) (y : Int) => []) (fun (i : Nat) (y : Int) => i ≤ (t.kids k).length ∧ Mb (kq s (t.kids k)) (max (dn s k).tm z) i y) (fun (i : Nat) (y : Int) => (t.kids k).length - i) (0) (-1) (cov_cons (by first | rfl | exact v_int (by omega) | exact v_int (by dsimp only; omega) | exact v_int (by rw [hvc, kidv_nat, hcc])) (cov_cons (by first | rfl | exact v_int (by omega) | exact v_int (by dsimp only; omega) | exact v_int (by rw [hvc, kidv_nat, hcc])) (cov_nil))) (fun w h => h) ?_ ?_
          · try dsimp only
            exact ⟨by omega, mb_zero _ _⟩
          intro i y hp
          obtain ⟨hi, hm⟩ := hp
          have hmc := hm.cases
          have hkv := kidv_neg (t := t) (k := k) (y := y)
          have hke := kidv_at (s := s) (t := t) (k := k) (y := y)
          have hke2 : y < 0 ∨ (0 ≤ kidv t k y ∧ kidv t k y < t.n ∧ (gq (kq s (t.kids k)) y.toNat).en = (l1.getD (kidv t k y).toNat Nd.nil).d.en) := by
            by_cases h0 : y < 0
            · exact .inl h0
            · have h := hke (by omega) (by omega)
              exact .inr ⟨h.1, h.2.1, by rw [h.2.2.2, ndq hq, hl1o _ (kid_ne g h.2.2.1)]⟩
          refine tr_seq ?_
          refine tr_region ?_
          refine tl_step rfl (oj_val (y_lss (fe_t rfl) (fe_t rfl)) ?_)
          refine tl_nil ?_
          refine tx_then ?_
          refine tr_seq ?_
          refine tr_condp (fe_t rfl) (fun hq11 => ?_) (fun hq12 => ?_)
          · try (exfalso; omega)
            all_goals
              refine tr_skip ?_
              refine tx_then ?_
              refine tr_seq ?_
              refine tr_block ?_
              refine tr_seq ?_
              obtain ⟨c, hcc⟩ : ∃ c : Nat, c = (t.kids k).getD i 0 := ⟨_, rfl⟩
              have hvc : (l1.getD k Nd.nil).ks.getD i 0 = (c : Int) := by rw [hks1, kI_at (by omega), hcc]
              have hnc : c < t.n := by rw [hcc, getD_lt (by omega)]; exact (mem_kids.1 (List.getElem_mem _)).1
              obtain ⟨hpc, hgc, hec⟩ := kq_facts (s := s) (by omega : i < (t.kids k).length) hcc
              obtain ⟨hxc1, hxc2, hxc3, _, _⟩ := hbd c
              have hcne : c ≠ k := by rw [hcc, getD_lt (by omega)]; exact kid_ne g (List.getElem_mem _)
              rw [ndq hq, ← hl1o c hcne] at hpc hgc hec hxc1 hxc2 hxc3
              refine tr_region ?_
              refine tl_step rfl (oj_val (y_index Tryd.underlying39 Tryd.sizeOf3 (fe_t rfl) (fe_t rfl) (subG (f := Nd.kV) (d := Nd.nil) 2 rfl (by omega)) (by simp [Nd.kV, cI]) (by decide) (by omega) (Nat.mul_one _)) ?_)
              refine tl_step rfl (oj_val (y_ld Tryd.isAgg3 (fe_t rfl) (subG (f := Nd.kV) (d := Nd.nil) 2 rfl (by omega)) (getW (by omega))) ?_)
              refine tl_step rfl (oj_val (y_assign (fe_t rfl)) ?_)
              refine tl_nil ?_
              refine tx_then ?_
              refine tr_seq ?_
              refine tr_region ?_
              refine tl_step rfl (oj_val (y_move (fe_t rfl)) ?_)
              refine tl_step rfl (oj_val (y_nilCheck (fe_t rfl)) ?_)
              refine tl_step rfl (oj_val (y_fieldAddr (td := 127) Tryd.underlying129 rfl rfl Tryd.sizeOf127 (o' := 0) rfl (fe_t rfl)) ?_)
              refine tl_step rfl (oj_val (y_ldb 0 Tryd.isAgg127 (fe_t rfl) rfl rfl) ?_)
              refine tl_step rfl (oj_val (y_move (fe_t rfl)) ?_)
              refine tl_step rfl (oj_val (y_index Tryd.underlying127 Tryd.sizeOf131 (fe_t rfl) (fe_i hvc rfl) (rdl_vec 1 rfl) (by rw [flat_len hcN]; omega) (by decide) (by omega) rfl) ?_)
              refine tl_step rfl (oj_val (y_ldA (cs := cN (l1.getD c Nd.nil)) Tryd.isAgg131 Tryd.sizeOf131 (fe_t rfl) (rdl_vec 1 rfl) rfl (by decide) (flatGA (d := Nd.nil) hcN (by omega))) ?_)
              refine tl_step rfl (oj_alloc Tryd.zeroValue131 (fun by_ => ?_))
              refine tl_step rfl (oj_storeW 0 Tryd.sizeOf131 (fe_t rfl) (fe_t rfl) rfl rfl rfl rfl rfl (?_))
              refine tl_nil ?_
              refine tx_then ?_
              refine tr_seq ?_
              refine tb_draw1 29 [_, _, _, _, _] [_, _, _, _, _] (fun w h => h.pick [0, 1, 2, 3, 4] _ rfl (by decide)) (fun w h => h.pick [0, 1, 2, 3, 4] _ rfl (by decide)) rfl ?_
              refine tb_float (i := 0) rfl (by kernel_rfl) rfl (wants_none rfl) (yq_of (y_fieldAddr (td := 3) Tryd.underlying131 rfl rfl Tryd.sizeOf3 (o' := 5) rfl (fe_t rfl))) ?_
              refine tb_float (i := 1) rfl (by kernel_rfl) rfl (wants_none rfl) (yq_of (y_ldb 0 Tryd.isAgg3 (fe_t rfl) rfl rfl)) ?_
              refine tb_float (i := 2) rfl (by kernel_rfl) rfl (wants_none rfl) (yq_of (y_gtr (fe_t rfl) fe_c)) ?_
              refine tb_float (i := 3) rfl (by kernel_rfl) rfl (wants_none rfl) (yq_of (y_move (fe_t rfl))) ?_
              refine tb_splitp (d := 87) rfl (fun hq13 => ?_) (fun hq14 => ?_)
              · try (exfalso; omega)
                all_goals
                  refine tb_float (i := 4) rfl (by kernel_rfl) rfl (wants_t rfl rfl rfl) (yq_of (y_fieldAddr (td := 3) Tryd.underlying131 rfl rfl Tryd.sizeOf3 (o' := 6) rfl (fe_t rfl))) ?_
                  refine tb_float (i := 5) rfl (by kernel_rfl) rfl (wants_t rfl rfl rfl) (yq_of (y_ldb 0 Tryd.isAgg3 (fe_t rfl) rfl rfl)) ?_
                  refine tb_float (i := 6) rfl (by kernel_rfl) rfl (wants_t rfl rfl rfl) (yq_of (y_move (fe_t rfl))) ?_
                  refine tb_float (i := 7) rfl (by kernel_rfl) rfl (wants_t rfl rfl rfl) (yq_of (y_nilCheckE (fe_t rfl) (rdl_vec 2 rfl) (by rw [flat_len hcN]; omega))) ?_
                  refine tb_float (i := 8) rfl (by kernel_rfl) rfl (wants_t rfl rfl rfl) (yq_of (y_fieldAddrE (td := 3) Tryd.underlying131 rfl rfl Tryd.sizeOf3 rfl (fe_t rfl) (rdl_vec 2 rfl) (by rw [flat_len hcN]; omega))) ?_
                  refine tb_float (i := 9) rfl (by kernel_rfl) rfl (wants_t rfl rfl rfl) (yq_of (y_ld Tryd.isAgg3 (fe_t rfl) (rdl_vec 2 rfl) (flatG (d := Nd.nil) (i := 8) hcN (by omega) rfl))) ?_
                  refine tb_float (i := 10) rfl (by kernel_rfl) rfl (wants_t rfl rfl rfl) (yq_of (y_leq (fe_t rfl) (fe_t rfl))) ?_
                  refine tb_float (i := 11) rfl (by kernel_rfl) rfl (wants_none rfl) (yq_of (y_pickt (fe_t rfl) (fe_t rfl))) ?_
                  refine tb_float (i := 12) rfl (by kernel_rfl) rfl (wants_none rfl) (yq_of (y_move (fe_t rfl))) ?_
                  refine tb_splitp (d := 96) rfl (fun hq15 => ?_) (fun hq16 => ?_)
                  · try (exfalso; omega)
                    all_goals
                      refine tb_float (i := 13) rfl (by kernel_rfl) rfl (wants_t rfl rfl rfl) (yq_of (y_move (fe_t rfl))) ?_
                      refine tb_float (i := 14) rfl (by kernel_rfl) rfl (wants_t rfl rfl rfl) (yq_of (y_lss (fe_t rfl) fe_c)) ?_
                      refine tb_float (i := 15) rfl (by kernel_rfl) rfl (wants_t rfl rfl rfl) (yq_of (y_move (fe_t rfl))) ?_
                      refine tb_splitp (d := 99) rfl (fun hq17 => ?_) (fun hq18 => ?_)
                      · try (exfalso; omega)
                        all_goals
                          refine tb_skip (i := 16) rfl (by kernel_rfl) rfl (wants_f rfl rfl rfl rfl) ?_
                          refine tb_skip (i := 17) rfl (by kernel_rfl) rfl (wants_f rfl rfl rfl rfl) ?_
                          refine tb_skip (i := 18) rfl (by kernel_rfl) rfl (wants_f rfl rfl rfl rfl) ?_
                          refine tb_skip (i := 19) rfl (by kernel_rfl) rfl (wants_f rfl rfl rfl rfl) ?_
                          refine tb_skip (i := 20) rfl (by kernel_rfl) rfl (wants_f rfl rfl rfl rfl) ?_
                          refine tb_skip (i := 21) rfl (by kernel_rfl) rfl (wants_f rfl rfl rfl rfl) ?_
                          refine tb_skip (i := 22) rfl (by kernel_rfl) rfl (wants_f rfl rfl rfl rfl) ?_
                          refine tb_skip (i := 23) rfl (by kernel_rfl) rfl (wants_f rfl rfl rfl rfl) ?_
                          refine tb_skip (i := 24) rfl (by kernel_rfl) rfl (wants_f rfl rfl rfl rfl) ?_
                          refine tb_skip (i := 25) rfl (by kernel_rfl) rfl (wants_f rfl rfl rfl rfl) ?_
                          refine tb_skip (i := 26) rfl (by kernel_rfl) rfl (wants_f rfl rfl rfl rfl) ?_
                          refine tb_float (i := 27) rfl (by kernel_rfl) rfl (wants_t rfl rfl rfl) (yq_of (y_pickt (fe_t rfl) fe_c)) ?_
                          refine tb_float (i := 28) rfl (by kernel_rfl) rfl (wants_none rfl) (yq_of (y_pickt (fe_t rfl) (fe_t rfl))) ?_
                          refine tb_done (by kernel_rfl) ?_
                          refine tx_then ?_
                          refine tr_condt (fe_t rfl) ?_
                          refine tr_region ?_
                          refine tl_step rfl (oj_val (y_move (fe_t rfl)) ?_)
                          refine tl_step rfl (oj_val (y_assign (fe_t rfl)) ?_)
                          refine tl_nil ?_
                          refine tx_in ?_
                          refine tx_then ?_
                          refine tr_region ?_
                          refine tl_step rfl (oj_val (y_inc (fe_t rfl) fe_c (by omega)) ?_)
                          refine tl_step rfl (oj_val (y_move (fe_t rfl)) ?_)
                          refine tl_nil ?_
                          apply tx_back2 (i + 1) ((i : Int))
                          · exact (cov_cons (by first | rfl | exact v_int (by omega) | exact v_int (by dsimp only; omega) | exact v_int (by rw [hvc, kidv_nat, hcc])) (cov_cons (by first | rfl | exact v_int (by omega) | exact v_int (by dsimp only; omega) | exact v_int (by rw [hvc, kidv_nat, hcc])) (cov_nil)))
                          · repeat (first | exact over_nil | refine over_put rfl ?_ | refine over_drop rfl ?_)
                          · exact fun w h => h.tail
                          · first
                              | exact ⟨⟨by omega, hm.take (by omega) (by omega) (by omega)⟩, by omega⟩
                              | exact ⟨⟨by omega, hm.skip (by omega)⟩, by omega⟩
                              | exact ⟨⟨by omega, hm.keep (by omega) (by omega)⟩, by omega⟩
                      · try (exfalso; omega)
                        all_goals
                          refine tb_float (i := 16) rfl (by kernel_rfl) rfl (wants_t rfl rfl rfl) (yq_of (y_fieldAddr (td := 3) Tryd.underlying131 rfl rfl Tryd.sizeOf3 (o' := 7) rfl (fe_t rfl))) ?_
                          refine tb_float (i := 17) rfl (by kernel_rfl) rfl (wants_t rfl rfl rfl) (yq_of (y_ldb 0 Tryd.isAgg3 (fe_t rfl) rfl rfl)) ?_
                          refine tb_float (i := 18) rfl (by kernel_rfl) rfl (wants_t rfl rfl rfl) (yq_of (y_move (fe_t rfl))) ?_
                          refine tb_float (i := 19) rfl (by kernel_rfl) rfl (wants_t rfl rfl rfl) (yq_of (y_nilCheck (fe_t rfl))) ?_
                          refine tb_float (i := 20) rfl (by kernel_rfl) rfl (wants_t rfl rfl rfl) (yq_of (y_fieldAddr (td := 127) Tryd.underlying129 rfl rfl Tryd.sizeOf127 (o' := 0) rfl (fe_t rfl))) ?_
                          refine tb_float (i := 21) rfl (by kernel_rfl) rfl (wants_t rfl rfl rfl) (yq_of (y_ldb 1 Tryd.isAgg127 (fe_t rfl) rfl rfl)) ?_
                          refine tb_float (i := 22) rfl (by kernel_rfl) rfl (wants_t rfl rfl rfl) (yq_of (y_move (fe_t rfl))) ?_
                          refine tb_float (i := 23) rfl (by kernel_rfl) rfl (wants_t rfl rfl rfl) (yq_of (y_indexI Tryd.underlying127 Tryd.sizeOf131 (fe_t rfl) (fe_t rfl) (rdl_vec 2 rfl) (by rw [flat_len hcN]; omega) (by decide) (by omega) (by omega) rfl)) ?_
                          refine tb_float (i := 24) rfl (by kernel_rfl) rfl (wants_t rfl rfl rfl) (yq_of (y_fieldAddrE (td := 3) Tryd.underlying131 rfl rfl Tryd.sizeOf3 rfl (fe_t rfl) (rdl_vec 2 rfl) (by rw [flat_len hcN]; omega))) ?_
                          refine tb_float (i := 25) rfl (by kernel_rfl) rfl (wants_t rfl rfl rfl) (yq_of (y_ld Tryd.isAgg3 (fe_t rfl) (rdl_vec 2 rfl) (flatG (d := Nd.nil) (i := 7) hcN (by omega) rfl))) ?_
                          refine tb_float (i := 26) rfl (by kernel_rfl) rfl (wants_t rfl rfl rfl) (yq_of (y_lss (fe_t rfl) (fe_t rfl))) ?_
                          refine tb_float (i := 27) rfl (by kernel_rfl) rfl (wants_t rfl rfl rfl) (yq_of (y_pickf (fe_t rfl) (fe_t rfl))) ?_
                          refine tb_float (i := 28) rfl (by kernel_rfl) rfl (wants_none rfl) (yq_of (y_pickt (fe_t rfl) (fe_t rfl))) ?_
                          refine tb_done (by kernel_rfl) ?_
                          refine tx_then ?_
                          refine tr_condp (fe_t rfl) (fun hq19 => ?_) (fun hq20 => ?_)
                          · try (exfalso; omega)
                            all_goals
                              refine tr_region ?_
                              refine tl_step rfl (oj_val (y_move (fe_t rfl)) ?_)
                              refine tl_step rfl (oj_val (y_assign (fe_t rfl)) ?_)
                              refine tl_nil ?_
                              refine tx_in ?_
                              refine tx_then ?_
                              refine tr_region ?_
                              refine tl_step rfl (oj_val (y_inc (fe_t rfl) fe_c (by omega)) ?_)
                              refine tl_step rfl (oj_val (y_move (fe_t rfl)) ?_)
                              refine tl_nil ?_
                              apply tx_back2 (i + 1) ((i : Int))
                              · exact (cov_cons (by first | rfl | exact v_int (by omega) | exact v_int (by dsimp only; omega) | exact v_int (by rw [hvc, kidv_nat, hcc])) (cov_cons (by first | rfl | exact v_int (by omega) | exact v_int (by dsimp only; omega) | exact v_int (by rw [hvc, kidv_nat, hcc])) (cov_nil)))
                              · repeat (first | exact over_nil | refine over_put rfl ?_ | refine over_drop rfl ?_)
                              · exact fun w h => h.tail
                              · first
                                  | exact ⟨⟨by omega, hm.take (by omega) (by omega) (by omega)⟩, by omega⟩
                                  | exact ⟨⟨by omega, hm.skip (by omega)⟩, by omega⟩
                                  | exact ⟨⟨by omega, hm.keep (by omega) (by omega)⟩, by omega⟩
                          · try (exfalso; omega)
                            all_goals
                              refine tr_skip ?_
                              refine tx_in ?_
                              refine tx_then ?_
                              refine tr_region ?_
                              refine tl_step rfl (oj_val (y_inc (fe_t rfl) fe_c (by omega)) ?_)
                              refine tl_step rfl (oj_val (y_move (fe_t rfl)) ?_)
                              refine tl_nil ?_
                              apply tx_back2 (i + 1) (y)
                              · exact (cov_cons (by first | rfl | exact v_int (by omega) | exact v_int (by dsimp only; omega) | exact v_int (by rw [hvc, kidv_nat, hcc])) (cov_cons (by first | rfl | exact v_int (by omega) | exact v_int (by dsimp only; omega) | exact v_int (by rw [hvc, kidv_nat, hcc])) (cov_nil)))
                              · repeat (first | exact over_nil | refine over_put rfl ?_ | refine over_drop rfl ?_)
                              · exact fun w h => h.tail
                              · first
                                  | exact ⟨⟨by omega, hm.take (by omega) (by omega) (by omega)⟩, by omega⟩
                                  | exact ⟨⟨by omega, hm.skip (by omega)⟩, by omega⟩
                                  | exact ⟨⟨by omega, hm.keep (by omega) (by omega)⟩, by omega⟩
                  · try (exfalso; omega)
                    all_goals
                      refine tb_skip (i := 13) rfl (by kernel_rfl) rfl (wants_f rfl rfl rfl rfl) ?_
                      refine tb_skip (i := 14) rfl (by kernel_rfl) rfl (wants_f rfl rfl rfl rfl) ?_
                      refine tb_skip (i := 15) rfl (by kernel_rfl) rfl (wants_f rfl rfl rfl rfl) ?_
                      refine tb_skip (i := 16) rfl (by kernel_rfl) rfl (wants_undef rfl rfl rfl) ?_
                      refine tb_skip (i := 17) rfl (by kernel_rfl) rfl (wants_undef rfl rfl rfl) ?_
                      refine tb_skip (i := 18) rfl (by kernel_rfl) rfl (wants_undef rfl rfl rfl) ?_
                      refine tb_skip (i := 19) rfl (by kernel_rfl) rfl (wants_undef rfl rfl rfl) ?_
                      refine tb_skip (i := 20) rfl (by kernel_rfl) rfl (wants_undef rfl rfl rfl) ?_
                      refine tb_skip (i := 21) rfl (by kernel_rfl) rfl (wants_undef rfl rfl rfl) ?_
                      refine tb_skip (i := 22) rfl (by kernel_rfl) rfl (wants_undef rfl rfl rfl) ?_
                      refine tb_skip (i := 23) rfl (by kernel_rfl) rfl (wants_undef rfl rfl rfl) ?_
                      refine tb_skip (i := 24) rfl (by kernel_rfl) rfl (wants_undef rfl rfl rfl) ?_
                      refine tb_skip (i := 25) rfl (by kernel_rfl) rfl (wants_undef rfl rfl rfl) ?_
                      refine tb_skip (i := 26) rfl (by kernel_rfl) rfl (wants_undef rfl rfl rfl) ?_
                      refine tb_skip (i := 27) rfl (by kernel_rfl) rfl (wants_f rfl rfl rfl rfl) ?_
                      refine tb_float (i := 28) rfl (by kernel_rfl) rfl (wants_none rfl) (yq_of (y_pickf (fe_t rfl) fe_c)) ?_
                      refine tb_done (by kernel_rfl) ?_
                      refine tx_then ?_
                      refine tr_condf (fe_t rfl) ?_
                      refine tr_skip ?_
                      refine tx_in ?_
                      refine tx_then ?_
                      refine tr_region ?_
                      refine tl_step rfl (oj_val (y_inc (fe_t rfl) fe_c (by omega)) ?_)
                      refine tl_step rfl (oj_val (y_move (fe_t rfl)) ?_)
                      refine tl_nil ?_
                      apply tx_back2 (i + 1) (y)
                      · exact (cov_cons (by first | rfl | exact v_int (by omega) | exact v_int (by dsimp only; omega) | exact v_int (by rw [hvc, kidv_nat, hcc])) (cov_cons (by first | rfl | exact v_int (by omega) | exact v_int (by dsimp only; omega) | exact v_int (by rw [hvc, kidv_nat, hcc])) (cov_nil)))
                      · repeat (first | exact over_nil | refine over_put rfl ?_ | refine over_drop rfl ?_)
                      · exact fun w h => h.tail
                      · first
                          | exact ⟨⟨by omega, hm.take (by omega) (by omega) (by omega)⟩, by omega⟩
                          | exact ⟨⟨by omega, hm.skip (by omega)⟩, by omega⟩
                          | exact ⟨⟨by omega, hm.keep (by omega) (by omega)⟩, by omega⟩
              · try (exfalso; omega)
                all_goals
                  refine tb_skip (i := 4) rfl (by kernel_rfl) rfl (wants_f rfl rfl rfl rfl) ?_
                  refine tb_skip (i := 5) rfl (by kernel_rfl) rfl (wants_f rfl rfl rfl rfl) ?_
                  refine tb_skip (i := 6) rfl (by kernel_rfl) rfl (wants_f rfl rfl rfl rfl) ?_
                  refine tb_skip (i := 7) rfl (by kernel_rfl) rfl (wants_f rfl rfl rfl rfl) ?_
                  refine tb_skip (i := 8) rfl (by kernel_rfl) rfl (wants_f rfl rfl rfl rfl) ?_
                  refine tb_skip (i := 9) rfl (by kernel_rfl) rfl (wants_f rfl rfl rfl rfl) ?_
                  refine tb_skip (i := 10) rfl (by kernel_rfl) rfl (wants_f rfl rfl rfl rfl) ?_
                  refine tb_float (i := 11) rfl (by kernel_rfl) rfl (wants_none rfl) (yq_of (y_pickf (fe_t rfl) fe_c)) ?_
                  refine tb_float (i := 12) rfl (by kernel_rfl) rfl (wants_none rfl) (yq_of (y_move (fe_t rfl))) ?_
                  refine tb_skip (i := 13) rfl (by kernel_rfl) rfl (wants_f rfl rfl rfl rfl) ?_
                  refine tb_skip (i := 14) rfl (by kernel_rfl) rfl (wants_f rfl rfl rfl rfl) ?_
                  refine tb_skip (i := 15) rfl (by kernel_rfl) rfl (wants_f rfl rfl rfl rfl) ?_
                  refine tb_skip (i := 16) rfl (by kernel_rfl) rfl (wants_undef rfl rfl rfl) ?_
                  refine tb_skip (i := 17) rfl (by kernel_rfl) rfl (wants_undef rfl rfl rfl) ?_
                  refine tb_skip (i := 18) rfl (by kernel_rfl) rfl (wants_undef rfl rfl rfl) ?_
                  refine tb_skip (i := 19) rfl (by kernel_rfl) rfl (wants_undef rfl rfl rfl) ?_
                  refine tb_skip (i := 20) rfl (by kernel_rfl) rfl (wants_undef rfl rfl rfl) ?_
                  refine tb_skip (i := 21) rfl (by kernel_rfl) rfl (wants_undef rfl rfl rfl) ?_
                  refine tb_skip (i := 22) rfl (by kernel_rfl) rfl (wants_undef rfl rfl rfl) ?_
                  refine tb_skip (i := 23) rfl (by kernel_rfl) rfl (wants_undef rfl rfl rfl) ?_
                  refine tb_skip (i := 24) rfl (by kernel_rfl) rfl (wants_undef rfl rfl rfl) ?_
                  refine tb_skip (i := 25) rfl (by kernel_rfl) rfl (wants_undef rfl rfl rfl) ?_
                  refine tb_skip (i := 26) rfl (by kernel_rfl) rfl (wants_undef rfl rfl rfl) ?_
                  refine tb_skip (i := 27) rfl (by kernel_rfl) rfl (wants_f rfl rfl rfl rfl) ?_
                  refine tb_float (i := 28) rfl (by kernel_rfl) rfl (wants_none rfl) (yq_of (y_pickf (fe_t rfl) fe_c)) ?_
                  refine tb_done (by kernel_rfl) ?_
                  refine tx_then ?_
                  refine tr_condf (fe_t rfl) ?_
                  refine tr_skip ?_
                  refine tx_in ?_
                  refine tx_then ?_
                  refine tr_region ?_
                  refine tl_step rfl (oj_val (y_inc (fe_t rfl) fe_c (by omega)) ?_)
                  refine tl_step rfl (oj_val (y_move (fe_t rfl)) ?_)
                  refine tl_nil ?_
                  apply tx_back2 (i + 1) (y)
                  · exact (cov_cons (by first | rfl | exact v_int (by omega) | exact v_int (by dsimp only; omega) | exact v_int (by rw [hvc, kidv_nat, hcc])) (cov_cons (by first | rfl | exact v_int (by omega) | exact v_int (by dsimp only; omega) | exact v_int (by rw [hvc, kidv_nat, hcc])) (cov_nil)))
                  · repeat (first | exact over_nil | refine over_put rfl ?_ | refine over_drop rfl ?_)
                  · exact fun w h => h.tail
                  · first
                      | exact ⟨⟨by omega, hm.take (by omega) (by omega) (by omega)⟩, by omega⟩
                      | exact ⟨⟨by omega, hm.skip (by omega)⟩, by omega⟩
                      | exact ⟨⟨by omega, hm.keep (by omega) (by omega)⟩, by omega⟩
          · try (exfalso; omega)
            all_goals
              refine tr_exit ?_
              refine tx_then_exit ?_
              refine tx_then_exit ?_
              refine tx_in_exit ?_
              refine tx_then ?_
              refine tr_seq ?_
              have hi2 : i = (t.kids k).length := by omega
              obtain ⟨q, hyq, hMy⟩ := mb_some hi2 hm hL
              obtain ⟨e, hce⟩ : ∃ e : Nat, e = (t.kids k).getD q 0 := ⟨_, rfl⟩
              subst hyq
              have hve : kidv t k (q : Int) = (e : Int) := by rw [kidv_nat, hce]
              have hne : e < t.n := by rw [hce, getD_lt hMy.1]; exact (mem_kids.1 (List.getElem_mem _)).1
              have hek : e ≠ k := by rw [hce, getD_lt hMy.1]; exact kid_ne g (List.getElem_mem _)
              have hbe := hbd e
              have hbe2 : (l1.getD e Nd.nil).d = dn s e := by rw [hl1o e hek, ndq hq]
              obtain ⟨e1, e2, e3, e4, e5⟩ := hbe
              rw [← hbe2] at e1 e2 e3 e4
              refine tr_region ?_
              refine tl_step rfl (oj_val (y_move (fe_t rfl)) ?_)
              refine tl_step rfl (oj_val (y_nilCheck (fe_t rfl)) ?_)
              refine tl_step rfl (oj_val (y_fieldAddr (td := 127) Tryd.underlying129 rfl rfl Tryd.sizeOf127 (o' := 0) rfl (fe_t rfl)) ?_)
              refine tl_step rfl (oj_val (y_ldb 0 Tryd.isAgg127 (fe_t rfl) rfl rfl) ?_)
              refine tl_step rfl (oj_val (y_move (fe_t rfl)) ?_)
              refine tl_step rfl (oj_val (y_index Tryd.underlying127 Tryd.sizeOf131 (fe_t rfl) (fe_i hve rfl) (rdl_vec 1 rfl) (by rw [flat_len hcN]; omega) (by decide) (by omega) rfl) ?_)
              refine tl_step rfl (oj_val (y_ldA (cs := cN (l1.getD e Nd.nil)) Tryd.isAgg131 Tryd.sizeOf131 (fe_t rfl) (rdl_vec 1 rfl) rfl (by decide) (flatGA (d := Nd.nil) hcN (by omega))) ?_)
              refine tl_step rfl (oj_alloc Tryd.zeroValue131 (fun bz => ?_))
              refine tl_step rfl (oj_storeW 0 Tryd.sizeOf131 (fe_t rfl) (fe_t rfl) rfl rfl rfl rfl rfl (?_))
              refine tl_nil ?_
              refine tx_then ?_
              refine tr_seq ?_
              refine tb_draw1 10 [_, _, _, _, _] [_, _, _, _, _] (fun w h => h.pick [0, 1, 2, 3, 4] _ rfl (by decide)) (fun w h => (h.weak (i := 2) rfl).pick [2, 0, 1, 3, 4] _ rfl (by decide)) rfl ?_
              refine tb_float (i := 0) rfl (by kernel_rfl) rfl (wants_none rfl) (yq_of (y_move (fe_t rfl))) ?_
              refine tb_float (i := 1) rfl (by kernel_rfl) rfl (wants_none rfl) (yq_of (y_nilCheckR (fe_t rfl) (rch_w 0 rfl (by omega)))) ?_
              refine tb_float (i := 2) rfl (by kernel_rfl) rfl (wants_none rfl) (yq_of (y_fieldAddrR (td := 3) Tryd.underlying131 rfl rfl Tryd.sizeOf3 rfl (fe_t rfl) (rch_w 0 rfl (by omega)))) ?_
              refine tb_float1 (i := 3) rfl (by kernel_rfl) (by kernel_rfl) rfl (wants_none rfl) (yq_of (y_ld Tryd.isAgg3 (fe_t rfl) (rdl_vec 2 rfl) (flatG (d := Nd.nil) (i := 8) hcN (by omega) rfl))) ?_
              refine tb_float (i := 4) rfl (by kernel_rfl) rfl (wants_none rfl) (yq_of (y_fieldAddr (td := 3) Tryd.underlying131 rfl rfl Tryd.sizeOf3 (o' := 5) rfl (fe_t rfl))) ?_
              refine tb_float (i := 5) rfl (by kernel_rfl) rfl (wants_none rfl) (yq_of (y_ldb 1 Tryd.isAgg3 (fe_t rfl) rfl rfl)) ?_
              refine tb_float (i := 6) rfl (by kernel_rfl) rfl (wants_none rfl) (yq_of (y_mul (fe_t rfl) fe_c (by omega))) ?_
              refine tb_float (i := 7) rfl (by kernel_rfl) rfl (wants_none rfl) (yq_of (y_add (fe_t rfl) (fe_t rfl) (by omega))) ?_
              refine tb_float (i := 8) rfl (by kernel_rfl) rfl (wants_none rfl) (yq_of (y_nilCheckR (fe_t rfl) (rch_w 0 rfl (by omega)))) ?_
              refine tb_float (i := 9) rfl (by kernel_rfl) rfl (wants_none rfl) (yq_of (y_fieldAddrR (td := 3) Tryd.underlying131 rfl rfl Tryd.sizeOf3 rfl (fe_t rfl) (rch_w 0 rfl (by omega)))) ?_
              refine tb_one2 (i := 10) rfl (by kernel_rfl) (by kernel_rfl) (wants_none rfl) (oj_storeG (i := 2) Nd.nil (Nd.upd (l1.getD k Nd.nil) ⟨(l1.getD k Nd.nil).d.leaf, (l1.getD k Nd.nil).d.bytes, (l1.getD k Nd.nil).d.bg, (l1.getD k Nd.nil).d.en, (l1.getD k Nd.nil).d.tm + (l1.getD e Nd.nil).d.bytes * 27720, (l1.getD k Nd.nil).d.ws⟩) hcN Tryd.sizeOf3 (fe_t rfl) (fe_t rfl) rfl rfl rfl (by (try rw [List.length_set]); omega) rfl (rfl) (⟨fun w h => (h.weak (i := 2) rfl).pick [2, 0, 1, 3, 4] _ rfl (by decide), ?_⟩))
              refine tb_done (by kernel_rfl) ?_
              refine tx_then ?_
              generalize hl2 : l1.set k (Nd.upd (l1.getD k Nd.nil) ⟨(l1.getD k Nd.nil).d.leaf, (l1.getD k Nd.nil).d.bytes, (l1.getD k Nd.nil).d.bg, (l1.getD k Nd.nil).d.en, (l1.getD k Nd.nil).d.tm + (l1.getD e Nd.nil).d.bytes * 27720, (l1.getD k Nd.nil).d.ws⟩) = l2
              obtain ⟨hl2n, hl2k, hl2o, hl2q, hl2s⟩ := nd_step hl2 hl1n (by omega) hl1q hl1s rfl rfl rfl rfl
              have hl2kv := kV_same hl2 rfl
              have hl2wv := wV_same hl2 rfl
              refine tr_as (r' := subs 3 1 (l2.map Nd.kV)) 3 rfl (congrArg (subs _ _) hl2kv.symm) ?_
              refine tr_as (r' := subs 3 1 (l2.map Nd.wV)) 4 rfl (congrArg (subs _ _) hl2wv.symm) ?_
              have hs2 : l2.map Nd.d = s.set k { dn s k with tm := (max (dn s k).tm z) + (dn s e).bytes * 27720 } := by rw [hl2q, List.set_set]; simp only [Nd.upd, hl1k, hbe2, ndq hq]
              have hbd2 : Bd (M + 50000000) (s.set k { dn s k with tm := (max (dn s k).tm z) + (dn s e).bytes * 27720 }) := hbd.set (by omega) ⟨bk1, by dsimp only; omega, by dsimp only; omega, by dsimp only; rw [← hbe2]; omega, bk5⟩
              refine tr_region ?_
              refine tl_step rfl (oj_val (y_move (fe_t rfl)) ?_)
              refine tl_step rfl (oj_val (y_move (fe_t rfl)) ?_)
              refine tl_step rfl (oj_val (y_fieldAddr (td := 3) Tryd.underlying131 rfl rfl Tryd.sizeOf3 (o' := 4) rfl (fe_t rfl)) ?_)
              refine tl_step rfl (oj_val (y_ldb 0 Tryd.isAgg3 (fe_t rfl) rfl rfl) ?_)
              refine tl_step rfl (oj_val (y_fieldAddr (td := 3) Tryd.underlying131 rfl rfl Tryd.sizeOf3 (o' := 5) rfl (fe_t rfl)) ?_)
              refine tl_step rfl (oj_val (y_ldb 0 Tryd.isAgg3 (fe_t rfl) rfl rfl) ?_)
              refine tl_step rfl (oj_val (y_move (fe_t rfl)) ?_)
              refine tl_step rfl (oj_call2 Tryd.call83 fe_f (fel_cons (fe_t rfl) (fel_cons (fe_t rfl) (fel_cons (fe_t rfl) (fel_cons (fe_t rfl) (fel_cons (fe_t rfl) fel_nil))))) (fun w' hS => offerE (pickT (l := [_, _, _, _, _]) hS [1, 2, 3, 4, 0] rfl (by decide)) g hn hl2n hs2 hl2s hbd2 (by omega) hk e1 (lf := (l1.getD e Nd.nil).d.leaf) (ag := ag)) (fun q1 hQ1 => ?_))
              refine tl_nil ?_
              refine tx_end (res0 Tryd.results84 ) (fun w' hS => ?_)
              have h1 := pickT (l := [_, _, _, _, _]) hS [0, 1, 2, 3] rfl (by decide)
              exact ⟨q1, ⟨hQ1.1, by rw [hQ1.2.1, (Pick.some (ag := ag) z q hL hMy).eq, ← hce, hbe2], hQ1.2.2⟩, rfl, h1⟩

end Go.Proofs.YtfcpmcdlgkfolaaDoor.Hier
