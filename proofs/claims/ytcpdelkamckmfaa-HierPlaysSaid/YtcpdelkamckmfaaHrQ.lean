/- the closure offers. -/
import Derived.Test.YtcpdelkamckmfaaHrR
import Derived.Test.YtcpdelkamckmfaaHrX
namespace Go.Proofs.Ytcpdelkamckmfaa.Hier
open Go.RowKit Go.Proofs.Ytcpdelkamckmfaa.E Go.Proofs.Ytcpdelkamckmfaa.Wfq Go.Proofs.Ytcpdelkamckmfaa.Big Go.Proofs.Ytcpdelkamckmfaa.Frac
open Go.Proofs.Ytcpdelkamckmfaa.Scfq (hd hd_mem)

theorem hrel_as {es : List Ent} {t : Tr} {l : List Rn} {s s' : List D} (h : RelT es t l s) (e : s = s') : RelT es t l s' := e ▸ h
set_option maxRecDepth 100000 in
set_option maxHeartbeats 4000000 in
theorem offersE {w0 w : World} {T : List Res} {bf bl bs ga gs : Nat} {A : Option Addr} {n c : Nat} {ns : List (Int × Int)} {t : Tr} {l : List Rn} {s : List D} {sl : List Int} {H Dg : List Nat} {es : List Ent} {M : Int} (hS : St w0 w (blk bf [.slice (some ⟨ga, 0, none⟩) n n] :: blk bl [.slice A n c] :: blk bs [.slice (some ⟨gs, 0, none⟩) n n] :: vec 196 6 (.slice (some ⟨ga, 0, none⟩) n n) n (l.flatMap cX) :: subs 3 1 (l.map Rn.wV) :: vec 2 1 (.slice (some ⟨gs, 0, none⟩) n n) n (cI sl) :: bag H Dg es :: T)) (hr : Rd w0 A (ns.flatMap c2)) (hnl : ns.length = n) (ht : t = trOf ns) (g : t.Good) (hn : t.n = n) (hrel : RelT es t l s) (hsl : SumsAt t t.n sl) (hbd : Bd M s) (hM : M ≤ 80000000000000)
    {k : Nat} {lf bb : Int} (hk : k < t.n) (hbb : 0 ≤ bb ∧ bb ≤ 1500) :
    Calls Try.prog 144 #[(.int .i64 ((k : Int))), (.int .i64 lf), (.int .i64 bb), .pointer (some ⟨bf, 0, none⟩), .pointer (some ⟨bl, 0, none⟩), .pointer (some ⟨bs, 0, none⟩)] w fun e w' => ∃ q : List Rn × List Nat × List Nat × List Ent, (Ext es q.2.2.2 ∧ RelT q.2.2.2 t q.1 (offer t s k lf bb (decide (¬ (dn s k).bytes = 0)))) ∧ e = .returned (.tuple #[]) ∧ St w0 w' (blk bf [.slice (some ⟨ga, 0, none⟩) n n] :: blk bl [.slice A n c] :: blk bs [.slice (some ⟨gs, 0, none⟩) n n] :: vec 196 6 (.slice (some ⟨ga, 0, none⟩) n n) n (q.1.flatMap cX) :: subs 3 1 (q.1.map Rn.wV) :: vec 2 1 (.slice (some ⟨gs, 0, none⟩) n n) n (cI sl) :: bag q.2.1 q.2.2.1 q.2.2.2 :: T) := by
  have hlln : l.length = n := by rw [hrel.len, hn]
  have hkn : k < n := by omega
  have hR := hrel.at_ k hk
  have hRb := hR.bytes
  have hsll : sl.length = n := by rw [hsl.len, hn]
  have hn16 := g.n16
  refine calls_tr Try.func144 Try.ntmps144 rfl rfl hS ?_
  refine tr_seq ?_
  refine tr_region ?_
  refine tl_step rfl (oj_val (y_ldb 0 Try.isAgg192 (fe_t rfl) rfl rfl) ?_)
  refine tl_step rfl (oj_val (y_move (fe_t rfl)) ?_)
  refine tl_step rfl (oj_val (y_index Try.underlying192 Try.sizeOf196 (fe_t rfl) (fe_t rfl) (rdl_vec 3 rfl) (by rw [flat_len hcX]; omega) (by decide) (by omega) rfl) ?_)
  refine tl_step rfl (oj_val (y_assign (fe_t rfl)) ?_)
  refine tl_nil ?_
  refine tx_then ?_
  refine tr_seq ?_
  refine tr_region ?_
  refine tl_step rfl (oj_val (y_move (fe_t rfl)) ?_)
  refine tl_step rfl (oj_val (y_nilCheckE (fe_t rfl) (rdl_vec 3 rfl) (by rw [flat_len hcX]; omega)) ?_)
  refine tl_step rfl (oj_val (y_fieldAddrE (td := 3) Try.underlying196 rfl rfl Try.sizeOf3 rfl (fe_t rfl) (rdl_vec 3 rfl) (by rw [flat_len hcX]; omega)) ?_)
  refine tl_step rfl (oj_val (y_ld Try.isAgg3 (fe_t rfl) (rdl_vec 3 rfl) (flatG (d := Rn.nil) (i := 1) hcX (by omega) rfl)) ?_)
  refine tl_step rfl (oj_val (y_eq (fe_t rfl) fe_c) ?_)
  refine tl_step rfl (oj_val (y_assign (fe_t rfl)) ?_)
  refine tl_nil ?_
  refine tx_then ?_
  refine tr_seq ?_
  refine tr_region ?_
  refine tl_step rfl (oj_val (y_move (fe_t rfl)) ?_)
  refine tl_step rfl (oj_val (y_move (fe_t rfl)) ?_)
  refine tl_step rfl (oj_val (y_move (fe_t rfl)) ?_)
  refine tl_step rfl (oj_val (y_move (fe_t rfl)) ?_)
  refine tl_step rfl (oj_val (y_nilCheckE (fe_t rfl) (rdl_vec 3 rfl) (by rw [flat_len hcX]; omega)) ?_)
  refine tl_step rfl (oj_val (y_fieldAddrE (td := 3) Try.underlying196 rfl rfl Try.sizeOf3 rfl (fe_t rfl) (rdl_vec 3 rfl) (by rw [flat_len hcX]; omega)) ?_)
  refine tl_step rfl (oj_storeG (i := 3) Rn.nil (⟨lf, (l.getD k Rn.nil).bytes, (l.getD k Rn.nil).pb, (l.getD k Rn.nil).pe, (l.getD k Rn.nil).pt, (l.getD k Rn.nil).wA, (l.getD k Rn.nil).wc, (l.getD k Rn.nil).ws⟩ : Rn) hcX Try.sizeOf3 (fe_t rfl) (fe_t rfl) rfl rfl rfl (by (try rw [List.length_set]); omega) rfl (rfl) (?_))
  generalize hl1 : l.set k (⟨lf, (l.getD k Rn.nil).bytes, (l.getD k Rn.nil).pb, (l.getD k Rn.nil).pe, (l.getD k Rn.nil).pt, (l.getD k Rn.nil).wA, (l.getD k Rn.nil).wc, (l.getD k Rn.nil).ws⟩ : Rn) = l1
  obtain ⟨hl1n, hl1k, hl1o⟩ := rn_k hl1 hlln hkn
  have hl1v := xV_same hl1 rfl
  refine tl_step rfl (oj_val (y_nilCheckE (fe_t rfl) (rdl_vec 3 rfl) (by rw [flat_len hcX]; omega)) ?_)
  refine tl_step rfl (oj_val (y_fieldAddrE (td := 3) Try.underlying196 rfl rfl Try.sizeOf3 rfl (fe_t rfl) (rdl_vec 3 rfl) (by rw [flat_len hcX]; omega)) ?_)
  refine tl_step rfl (oj_storeG (i := 3) Rn.nil (⟨lf, bb, (l.getD k Rn.nil).pb, (l.getD k Rn.nil).pe, (l.getD k Rn.nil).pt, (l.getD k Rn.nil).wA, (l.getD k Rn.nil).wc, (l.getD k Rn.nil).ws⟩ : Rn) hcX Try.sizeOf3 (fe_t rfl) (fe_t rfl) rfl rfl rfl (by (try rw [List.length_set]); omega) rfl (by rw [hl1k]; rfl) (?_))
  refine tl_nil ?_
  refine tx_then ?_
  refine tr_seq ?_
  refine tr_seq ?_
  generalize hl2 : l1.set k (⟨lf, bb, (l.getD k Rn.nil).pb, (l.getD k Rn.nil).pe, (l.getD k Rn.nil).pt, (l.getD k Rn.nil).wA, (l.getD k Rn.nil).wc, (l.getD k Rn.nil).ws⟩ : Rn) = l2
  obtain ⟨hl2n, hl2k, hl2o⟩ := rn_k hl2 hl1n hkn
  have hl2v := xV_same hl2 (by rw [hl1k]; rfl)
  refine tr_as (r' := subs 3 1 (l2.map Rn.wV)) 4 rfl (congrArg (subs _ _) (hl2v.trans hl1v).symm) ?_
  have hl2' : l.set k (⟨lf, bb, (l.getD k Rn.nil).pb, (l.getD k Rn.nil).pe, (l.getD k Rn.nil).pt, (l.getD k Rn.nil).wA, (l.getD k Rn.nil).wc, (l.getD k Rn.nil).ws⟩ : Rn) = l2 := by rw [← hl2, ← hl1, List.set_set]
  refine tr_region ?_
  refine tl_step rfl (oj_val (y_move (fe_t rfl)) ?_)
  refine tl_step rfl (oj_val (y_eq (fe_t rfl) fe_c) ?_)
  refine tl_nil ?_
  refine tx_then ?_
  refine tr_condp (fe_t rfl) (fun hq1 => ?_) (fun hq2 => ?_)
  · try (exfalso; omega)
    all_goals
      refine tr_ret ?_
      refine tx_then_ret ?_
      refine tx_ret (res0 Try.results144 ) (fun w' hS => ?_)
      have h1 := pickT (l := [_, _, _, _, _, _, _]) hS [0, 1, 2, 3, 4, 5, 6] rfl (by decide)
      exact ⟨(l2, _, _, es), ⟨Ext.rfl, by unfold offer; rw [if_pos (by have := g.u0; rw [show k = 0 by omega]; omega)]; exact hrel.set hl2' hk ⟨rfl, rfl, hR.ws, hR.bg, hR.en, hR.tm⟩⟩, rfl, h1⟩
  · try (exfalso; omega)
    all_goals
      refine tr_skip ?_
      refine tx_then ?_
      refine tr_seq ?_
      have hlt := g.lt hk
      have huk := g.u k (by omega) hk
      obtain ⟨p, hp⟩ : ∃ p : Nat, t.u k = p := ⟨(t.u k).toNat, by omega⟩
      have hpk : p ≠ k := by omega
      have hpn : p < n := by omega
      have hpt : p < t.n := by omega
      have hup : n1 ns k = (p : Int) := by rw [← hp, ht, trOf_u]
      have hpe : (t.u k).toNat = p := by omega
      refine tr_region ?_
      refine tl_step rfl (oj_val (y_ldb 1 Try.isAgg105 (fe_t rfl) rfl rfl) ?_)
      refine tl_step rfl (oj_val (y_move (fe_t rfl)) ?_)
      refine tl_step rfl (oj_val (y_index Try.underlying105 Try.sizeOf121 (fe_t rfl) (fe_t rfl) (rdl_out hr) (lenN hnl) (by decide) (by omega) rfl) ?_)
      refine tl_step rfl (oj_val (y_fieldAddrE (td := 3) Try.underlying121 rfl rfl Try.sizeOf3 rfl (fe_t rfl) (rdl_out hr) (by rw [lenN hnl]; omega)) ?_)
      refine tl_step rfl (oj_val (y_ld Try.isAgg3 (fe_t rfl) (rdl_out hr) (getN1 (by omega))) ?_)
      refine tl_step rfl (oj_val (y_assign (fe_t rfl)) ?_)
      refine tl_nil ?_
      refine tx_then ?_
      refine tr_seq ?_
      refine tr_region ?_
      refine tl_step rfl (oj_val (y_move (fe_t rfl)) ?_)
      refine tl_step rfl (oj_val (y_move (fe_t rfl)) ?_)
      refine tl_step rfl (oj_val (y_nilCheckE (fe_t rfl) (rdl_vec 3 rfl) (by rw [flat_len hcX]; omega)) ?_)
      refine tl_step rfl (oj_val (y_fieldAddrE (td := 30) Try.underlying196 rfl rfl Try.sizeOf30 rfl (fe_t rfl) (rdl_vec 3 rfl) (by rw [flat_len hcX]; omega)) ?_)
      refine tl_step rfl (oj_val (y_ld Try.isAgg30 (fe_t rfl) (rdl_vec 3 rfl) (flatG (d := Rn.nil) (i := 3) hcX (by omega) rfl)) ?_)
      refine tl_step rfl (oj_val (y_nilCheckE (fe_t rfl) (rdl_vec 3 rfl) (by rw [flat_len hcX]; omega)) ?_)
      refine tl_step rfl (oj_val (y_fieldAddrE (td := 30) Try.underlying196 rfl rfl Try.sizeOf30 rfl (fe_t rfl) (rdl_vec 3 rfl) (by rw [flat_len hcX]; omega)) ?_)
      refine tl_step rfl (oj_storeG (i := 3) Rn.nil (⟨lf, bb, (l.getD k Rn.nil).pe, (l.getD k Rn.nil).pe, (l.getD k Rn.nil).pt, (l.getD k Rn.nil).wA, (l.getD k Rn.nil).wc, (l.getD k Rn.nil).ws⟩ : Rn) hcX Try.sizeOf30 (fe_t rfl) (fe_t rfl) rfl rfl rfl (by (try rw [List.length_set]); omega) rfl (by rw [hl2k]; rfl) (?_))
      refine tl_nil ?_
      refine tx_then ?_
      refine tr_cut3 [42, 43, 44, 45, 46, 47, 48, 49, 50, 51, 52, 53, 54, 55, 56, 57, 58, 59, 60, 61, 62, 63] (fun (l4 : List Rn) (Hx : List Nat) (Dx : List Nat) => []) 0 (fun (l4 : List Rn) (Hx : List Nat) (Dx : List Nat) => [(3, vec 196 6 (.slice (some ⟨ga, 0, none⟩) n n) n (l4.flatMap cX)), (6, bag Hx Dx es)]) (fun (l4 : List Rn) (Hx : List Nat) (Dx : List Nat) => RelT es t l4 (s.set k { dn s k with leaf := lf, bytes := bb, bg := offB t s k (decide (¬ (dn s k).bytes = 0)) }) ∧ l4.map Rn.wV = l2.map Rn.wV) ?_ ?_
      · refine tr_seq ?_
        generalize hl3 : l2.set k (⟨lf, bb, (l.getD k Rn.nil).pe, (l.getD k Rn.nil).pe, (l.getD k Rn.nil).pt, (l.getD k Rn.nil).wA, (l.getD k Rn.nil).wc, (l.getD k Rn.nil).ws⟩ : Rn) = l3
        obtain ⟨hl3n, hl3k, hl3o⟩ := rn_k hl3 hl2n hkn
        have hl3v := xV_same hl3 (by rw [hl2k]; rfl)
        have hl3' : l.set k (⟨lf, bb, (l.getD k Rn.nil).pe, (l.getD k Rn.nil).pe, (l.getD k Rn.nil).pt, (l.getD k Rn.nil).wA, (l.getD k Rn.nil).wc, (l.getD k Rn.nil).ws⟩ : Rn) = l3 := by rw [← hl3, ← hl2, ← hl1, List.set_set, List.set_set]
        have hl3p : l3.getD p Rn.nil = l.getD p Rn.nil := by rw [hl3o p hpk, hl2o p hpk, hl1o p hpk]
        have hrel3 : RelT es t l3 (s.set k { dn s k with leaf := lf, bytes := bb, bg := (dn s k).en }) := hrel.set hl3' hk ⟨rfl, rfl, hR.ws, hR.en, hR.en, hR.tm⟩
        have hHp : HoldR es (l3.getD p Rn.nil).pt (dn s p).tm := by rw [hl3p]; exact (hrel.at_ p hpt).tm
        have hHe : HoldR es (l3.getD k Rn.nil).pe (dn s k).en := by rw [hl3k]; exact hR.en
        obtain ⟨b1, b2, b3, b4, b5⟩ := hbd k
        obtain ⟨p1, p2, p3, p4, p5⟩ := hbd p
        refine tb_draw1 14 [_, _, _, _, _, _, _] [_, _, _, _, _, _] (fun w h => h.pick [0, 1, 2, 3, 4, 5, 6] _ rfl (by decide)) (fun w h => h.pick [0, 1, 2, 3, 4, 5] _ rfl (by decide)) rfl ?_
        refine tb_float (i := 0) rfl (by kernel_rfl) rfl (wants_none rfl) (yq_of (y_move (fe_t rfl))) ?_
        refine tb_float (i := 1) rfl (by kernel_rfl) rfl (wants_none rfl) (yq_of (y_move (fe_t rfl))) ?_
        refine tb_splitp (d := 43) rfl (fun hq3 => ?_) (fun hq4 => ?_)
        · try (exfalso; omega)
          all_goals
            refine tb_float (i := 2) rfl (by kernel_rfl) rfl (wants_t rfl rfl rfl) (yq_of (y_ldb 0 Try.isAgg192 (fe_t rfl) rfl rfl)) ?_
            refine tb_float (i := 3) rfl (by kernel_rfl) rfl (wants_t rfl rfl rfl) (yq_of (y_move (fe_t rfl))) ?_
            refine tb_float (i := 4) rfl (by kernel_rfl) rfl (wants_t rfl rfl rfl) (yq_of (y_index Try.underlying192 Try.sizeOf196 (fe_t rfl) (fe_i hup rfl) (rdl_vec 3 rfl) (by rw [flat_len hcX]; omega) (by decide) (by omega) rfl)) ?_
            refine tb_float (i := 5) rfl (by kernel_rfl) rfl (wants_t rfl rfl rfl) (yq_of (y_fieldAddrE (td := 30) Try.underlying196 rfl rfl Try.sizeOf30 rfl (fe_t rfl) (rdl_vec 3 rfl) (by rw [flat_len hcX]; omega))) ?_
            refine tb_float (i := 6) rfl (by kernel_rfl) rfl (wants_t rfl rfl rfl) (yq_of (y_ld Try.isAgg30 (fe_t rfl) (rdl_vec 3 rfl) (flatG (d := Rn.nil) (i := 4) hcX (by omega) rfl))) ?_
            refine tb_float (i := 7) rfl (by kernel_rfl) rfl (wants_t rfl rfl rfl) (yq_of (y_move (fe_t rfl))) ?_
            refine tb_float (i := 8) rfl (by kernel_rfl) rfl (wants_t rfl rfl rfl) (yq_of (y_nilCheckE (fe_t rfl) (rdl_vec 3 rfl) (by rw [flat_len hcX]; omega))) ?_
            refine tb_float (i := 9) rfl (by kernel_rfl) rfl (wants_t rfl rfl rfl) (yq_of (y_fieldAddrE (td := 30) Try.underlying196 rfl rfl Try.sizeOf30 rfl (fe_t rfl) (rdl_vec 3 rfl) (by rw [flat_len hcX]; omega))) ?_
            refine tb_float (i := 10) rfl (by kernel_rfl) rfl (wants_t rfl rfl rfl) (yq_of (y_ld Try.isAgg30 (fe_t rfl) (rdl_vec 3 rfl) (flatG (d := Rn.nil) (i := 3) hcX (by omega) rfl))) ?_
            refine tb_one2 (i := 11) rfl (by kernel_rfl) (by kernel_rfl) (wants_t rfl rfl rfl) (oj_call2 Try.call24 fe_f (fel_cons (fe_t rfl) (fel_cons (fe_t rfl) fel_nil)) (fun w' hS => lift 6 hS rfl (fun T hS => cmpW hS hHp hHe (by omega) (by omega))) (fun rc hrc => ⟨fun w h => h.pick [0, 1, 2, 3, 4, 5] _ rfl (by decide), ?_⟩))
            refine tb_float (i := 12) rfl (by kernel_rfl) rfl (wants_t rfl rfl rfl) (yq_of (y_gtr (fe_t rfl) fe_c)) ?_
            refine tb_float (i := 13) rfl (by kernel_rfl) rfl (wants_none rfl) (yq_of (y_pickt (fe_t rfl) (fe_t rfl))) ?_
            refine tb_done (by kernel_rfl) ?_
            refine tx_then ?_
            refine tr_condp (fe_t rfl) (fun hq5 => ?_) (fun hq6 => ?_)
            · try (exfalso; omega)
              all_goals
                refine tr_region ?_
                refine tl_step rfl (oj_val (y_move (fe_t rfl)) ?_)
                refine tl_step rfl (oj_val (y_ldb 0 Try.isAgg192 (fe_t rfl) rfl rfl) ?_)
                refine tl_step rfl (oj_val (y_move (fe_t rfl)) ?_)
                refine tl_step rfl (oj_val (y_index Try.underlying192 Try.sizeOf196 (fe_t rfl) (fe_i hup rfl) (rdl_vec 3 rfl) (by rw [flat_len hcX]; omega) (by decide) (by omega) rfl) ?_)
                refine tl_step rfl (oj_val (y_fieldAddrE (td := 30) Try.underlying196 rfl rfl Try.sizeOf30 rfl (fe_t rfl) (rdl_vec 3 rfl) (by rw [flat_len hcX]; omega)) ?_)
                refine tl_step rfl (oj_val (y_ld Try.isAgg30 (fe_t rfl) (rdl_vec 3 rfl) (flatG (d := Rn.nil) (i := 4) hcX (by omega) rfl)) ?_)
                refine tl_step rfl (oj_val (y_nilCheckE (fe_t rfl) (rdl_vec 3 rfl) (by rw [flat_len hcX]; omega)) ?_)
                refine tl_step rfl (oj_val (y_fieldAddrE (td := 30) Try.underlying196 rfl rfl Try.sizeOf30 rfl (fe_t rfl) (rdl_vec 3 rfl) (by rw [flat_len hcX]; omega)) ?_)
                refine tl_step rfl (oj_storeG (i := 3) Rn.nil (⟨lf, bb, (l3.getD p Rn.nil).pt, (l.getD k Rn.nil).pe, (l.getD k Rn.nil).pt, (l.getD k Rn.nil).wA, (l.getD k Rn.nil).wc, (l.getD k Rn.nil).ws⟩ : Rn) hcX Try.sizeOf30 (fe_t rfl) (fe_t rfl) rfl rfl rfl (by (try rw [List.length_set]); omega) rfl (by rw [hl3k]; rfl) (?_))
                refine tl_nil ?_
                apply tx_back3 (l3.set k (⟨lf, bb, (l3.getD p Rn.nil).pt, (l.getD k Rn.nil).pe, (l.getD k Rn.nil).pt, (l.getD k Rn.nil).wA, (l.getD k Rn.nil).wc, (l.getD k Rn.nil).ws⟩ : Rn)) (_) (_)
                · exact (cov_nil)
                · repeat (first | exact over_nil | refine over_put rfl ?_ | refine over_drop rfl ?_)
                · exact fun w h => h
                · refine ⟨hrel.set (show l.set k (⟨lf, bb, (l3.getD p Rn.nil).pt, (l.getD k Rn.nil).pe, (l.getD k Rn.nil).pt, (l.getD k Rn.nil).wA, (l.getD k Rn.nil).wc, (l.getD k Rn.nil).ws⟩ : Rn) = l3.set k (⟨lf, bb, (l3.getD p Rn.nil).pt, (l.getD k Rn.nil).pe, (l.getD k Rn.nil).pt, (l.getD k Rn.nil).wA, (l.getD k Rn.nil).wc, (l.getD k Rn.nil).ws⟩ : Rn) by rw [← hl3', List.set_set]) hk ⟨rfl, rfl, hR.ws, ?_, hR.en, hR.tm⟩, (xV_same rfl (by rw [hl3k]; rfl)).trans hl3v⟩
                  unfold offB
                  rw [decide_eq_false (show ¬ ¬ (dn s k).bytes = 0 by omega), hpe, cond_false, Int.max_eq_right (by omega)]
                  exact hHp
            · try (exfalso; omega)
              all_goals
                refine tr_skip ?_
                apply tx_back3 (l3) (_) (_)
                · exact (cov_nil)
                · repeat (first | exact over_nil | refine over_put rfl ?_ | refine over_drop rfl ?_)
                · exact fun w h => h
                · refine ⟨hrel_as hrel3 ?_, hl3v⟩
                  unfold offB
                  rw [decide_eq_false (show ¬ ¬ (dn s k).bytes = 0 by omega), hpe, cond_false, Int.max_eq_left (by omega)]
        · try (exfalso; omega)
          all_goals
            refine tb_skip (i := 2) rfl (by kernel_rfl) rfl (wants_f rfl rfl rfl rfl) ?_
            refine tb_skip (i := 3) rfl (by kernel_rfl) rfl (wants_f rfl rfl rfl rfl) ?_
            refine tb_skip (i := 4) rfl (by kernel_rfl) rfl (wants_f rfl rfl rfl rfl) ?_
            refine tb_skip (i := 5) rfl (by kernel_rfl) rfl (wants_f rfl rfl rfl rfl) ?_
            refine tb_skip (i := 6) rfl (by kernel_rfl) rfl (wants_f rfl rfl rfl rfl) ?_
            refine tb_skip (i := 7) rfl (by kernel_rfl) rfl (wants_f rfl rfl rfl rfl) ?_
            refine tb_skip (i := 8) rfl (by kernel_rfl) rfl (wants_f rfl rfl rfl rfl) ?_
            refine tb_skip (i := 9) rfl (by kernel_rfl) rfl (wants_f rfl rfl rfl rfl) ?_
            refine tb_skip (i := 10) rfl (by kernel_rfl) rfl (wants_f rfl rfl rfl rfl) ?_
            refine tb_skip (i := 11) rfl (by kernel_rfl) rfl (wants_f rfl rfl rfl rfl) ?_
            refine tb_skip (i := 12) rfl (by kernel_rfl) rfl (wants_f rfl rfl rfl rfl) ?_
            refine tb_float (i := 13) rfl (by kernel_rfl) rfl (wants_none rfl) (yq_of (y_pickf (fe_t rfl) fe_c)) ?_
            refine tb_done (by kernel_rfl) ?_
            refine tx_then ?_
            refine tr_condf (fe_t rfl) ?_
            refine tr_skip ?_
            apply tx_back3 (l3) (_) (_)
            · exact (cov_nil)
            · repeat (first | exact over_nil | refine over_put rfl ?_ | refine over_drop rfl ?_)
            · exact fun w h => h
            · refine ⟨hrel_as hrel3 ?_, hl3v⟩
              unfold offB
              rw [decide_eq_true (show ¬ (dn s k).bytes = 0 by omega)]
              rfl
      · intro l4 Hx Dx hp
        obtain ⟨hrel4, hl4v⟩ := hp
        refine tr_as (r' := subs 3 1 (l4.map Rn.wV)) 4 rfl (congrArg (subs _ _) hl4v.symm) ?_
        have hR4 := hrel4.at_ k hk
        rw [dn_set (by rw [hrel.sen]; exact hk), if_pos rfl] at hR4
        have hfrb := offB_bd (t := t) (k := k) (ag := (decide (¬ (dn s k).bytes = 0))) hbd
        generalize hfr : offB t s k (decide (¬ (dn s k).bytes = 0)) = fr at hrel4 hR4 hfrb
        have hfr2 : 0 ≤ fr ∧ fr ≤ 100000000000000 := by omega
        have hl4n : l4.length = n := by rw [hrel4.len, hn]
        obtain ⟨xa, xb, mxa, mxb, hx⟩ := hR4.bg
        replace hx : RatIs xa xb (mkRat fr 27720) := hx
        have hwk : 1 ≤ n2 ns k ∧ n2 ns k ≤ 12 := by have h := g.w k hk; rw [ht, trOf_w] at h; exact h
        have hsm : sl.getD p 0 = t.sum p := hsl.at_ p hpt
        have hsb := sum_bd g p
        rw [← hsm] at hsb
        have hp1 := mul_in (show 0 ≤ bb by omega) hbb.2 (show 0 ≤ sl.getD p 0 by omega) hsb.2
        obtain ⟨⟨f1, f2⟩, f3, f4⟩ := time_bd2 hfr2
        obtain ⟨k1, k2⟩ := mk_bd (n := bb * sl.getD p 0) (d := n2 ns k) (by omega)
        have k3 := (mkRat (bb * sl.getD p 0) (n2 ns k).toNat).den_pos
        have k4 := prod_bd (a := (mkRat (bb * sl.getD p 0) (n2 ns k).toNat).num) (b := ((mkRat fr 27720).den : Int)) (A := 288000) (B := 27720) (by omega) (by omega) (by omega) (by omega)
        have k5 := mul_in f1 f2 (show (0 : Int) ≤ ((mkRat (bb * sl.getD p 0) (n2 ns k).toNat).den : Int) by omega) (show _ ≤ (12 : Int) by omega)
        have k6 := mul_in (show (0 : Int) ≤ ((mkRat fr 27720).den : Int) by omega) f4 (show (0 : Int) ≤ ((mkRat (bb * sl.getD p 0) (n2 ns k).toNat).den : Int) by omega) (show _ ≤ (12 : Int) by omega)
        refine tb_draw1 21 [_, _, _, _, _, _] [_, _, _, _, _, _] (fun w h => h.pick [0, 1, 2, 3, 4, 5] _ rfl (by decide)) (fun w h => (h.weak (i := 3) rfl).pick [3, 0, 1, 2, 4, 5] _ rfl (by decide)) rfl ?_
        refine tb_float (i := 0) rfl (by kernel_rfl) rfl (wants_none rfl) (yq_of (y_move (fe_t rfl))) ?_
        refine tb_float (i := 2) rfl (by kernel_rfl) rfl (wants_none rfl) (yq_of (y_move (fe_t rfl))) ?_
        refine tb_float (i := 3) rfl (by kernel_rfl) rfl (wants_none rfl) (yq_of (y_nilCheckR (fe_t rfl) (rch_w 0 rfl (by omega)))) ?_
        refine tb_float (i := 4) rfl (by kernel_rfl) rfl (wants_none rfl) (yq_of (y_fieldAddrR (td := 30) Try.underlying196 rfl rfl Try.sizeOf30 rfl (fe_t rfl) (rch_w 0 rfl (by omega)))) ?_
        refine tb_float1 (i := 5) rfl (by kernel_rfl) (by kernel_rfl) rfl (wants_none rfl) (yq_of (y_ld Try.isAgg30 (fe_t rfl) (rdl_vec 3 rfl) (flatG (d := Rn.nil) (i := 2) hcX (by omega) rfl))) ?_
        refine tb_float (i := 6) rfl (by kernel_rfl) rfl (wants_none rfl) (yq_of (y_move (fe_t rfl))) ?_
        refine tb_float (i := 7) rfl (by kernel_rfl) rfl (wants_none rfl) (yq_of (y_ldb 3 Try.isAgg194 (fe_t rfl) rfl rfl)) ?_
        refine tb_float (i := 8) rfl (by kernel_rfl) rfl (wants_none rfl) (yq_of (y_move (fe_t rfl))) ?_
        refine tb_float (i := 9) rfl (by kernel_rfl) rfl (wants_none rfl) (yq_of (y_index Try.underlying194 Try.sizeOf2 (fe_t rfl) (fe_i hup rfl) (rdl_vec 5 rfl) (by rw [cI_len hsll]; omega) (by decide) (by omega) (Nat.mul_one _))) ?_
        refine tb_float (i := 10) rfl (by kernel_rfl) rfl (wants_none rfl) (yq_of (y_ld Try.isAgg2 (fe_t rfl) (rdl_vec 5 rfl) (getC (by omega)))) ?_
        refine tb_float (i := 11) rfl (by kernel_rfl) rfl (wants_none rfl) (yq_of (y_mul (fe_t rfl) (fe_t rfl) (by omega))) ?_
        refine tb_float (i := 12) rfl (by kernel_rfl) rfl (wants_none rfl) (yq_of (y_ldb 2 Try.isAgg105 (fe_t rfl) rfl rfl)) ?_
        refine tb_float (i := 13) rfl (by kernel_rfl) rfl (wants_none rfl) (yq_of (y_move (fe_t rfl))) ?_
        refine tb_float (i := 14) rfl (by kernel_rfl) rfl (wants_none rfl) (yq_of (y_index Try.underlying105 Try.sizeOf121 (fe_t rfl) (fe_t rfl) (rdl_out hr) (lenN hnl) (by decide) (by omega) rfl)) ?_
        refine tb_float (i := 15) rfl (by kernel_rfl) rfl (wants_none rfl) (yq_of (y_fieldAddrE (td := 3) Try.underlying121 rfl rfl Try.sizeOf3 rfl (fe_t rfl) (rdl_out hr) (by rw [lenN hnl]; omega))) ?_
        refine tb_float (i := 16) rfl (by kernel_rfl) rfl (wants_none rfl) (yq_of (y_ld Try.isAgg3 (fe_t rfl) (rdl_out hr) (getN2 (by omega)))) ?_
        refine tb_two1 (i := 1) (j := 17) rfl rfl (by kernel_rfl) (by kernel_rfl) (by kernel_rfl) (wants_none rfl) (wants_none rfl) ?_ ?_
        · refine (oj_allocR 6 Try.zeroValue37 rfl (fun b_pf H_pf => ⟨fun w h => h.pick [0, 1, 2, 3, 4, 5] _ rfl (by decide), ?_⟩))
          refine tb_one1 (i := 17) rfl (by kernel_rfl) (by kernel_rfl) (wants_none rfl) (oj_call2 Try.call83 fe_f (fel_cons (fe_t rfl) (fel_cons (fe_t rfl) fel_nil)) (fun w' hS => lift 6 hS rfl (fun T hS => newR hS (bb * sl.getD p 0) (n2 ns k) (by omega) (by omega) (by omega) (by omega))) (fun r1 hr1 => ⟨fun w h => h.pick [0, 1, 2, 3, 4, 5] _ rfl (by decide), ?_⟩))
          refine tb_one1 (i := 18) rfl (by kernel_rfl) (by kernel_rfl) (wants_none rfl) (oj_call2 Try.call22 fe_f (fel_cons (fe_t rfl) (fel_cons (fe_t rfl) (fel_cons (fe_t rfl) fel_nil))) (fun w' hS => lift2 (p := fun m_ n_ => RatIs m_ n_ (mkRat fr 27720 + mkRat (bb * sl.getD p 0) (n2 ns k).toNat)) 6 2 3 hS rfl rfl rfl rfl (fun T l' hm hS => addR hS (hm _ (List.mem_cons_of_mem _ (List.mem_cons_of_mem _ (List.mem_cons_of_mem _ (List.mem_cons_of_mem _ mxa))))) (hm _ (List.mem_cons_of_mem _ (List.mem_cons_of_mem _ (List.mem_cons_of_mem _ (List.mem_cons_of_mem _ mxb))))) (hm _ (pget_mem 0 rfl)) (hm _ (pget_mem 1 rfl)) hx hr1 (by omega) (by omega) (by omega) (by omega) (by omega))) (fun r2 hr2 => ⟨fun w h => h.pick [0, 1, 2, 3, 4, 5] _ rfl (by decide), ?_⟩))
          refine tb_float (i := 19) rfl (by kernel_rfl) rfl (wants_none rfl) (yq_of (y_nilCheckR (fe_t rfl) (rch_w 0 rfl (by omega)))) ?_
          refine tb_float (i := 20) rfl (by kernel_rfl) rfl (wants_none rfl) (yq_of (y_fieldAddrR (td := 30) Try.underlying196 rfl rfl Try.sizeOf30 rfl (fe_t rfl) (rch_w 0 rfl (by omega)))) ?_
          refine tb_one2 (i := 21) rfl (by kernel_rfl) (by kernel_rfl) (wants_none rfl) (oj_storeG (i := 3) Rn.nil (⟨(l4.getD k Rn.nil).leaf, (l4.getD k Rn.nil).bytes, (l4.getD k Rn.nil).pb, b_pf, (l4.getD k Rn.nil).pt, (l4.getD k Rn.nil).wA, (l4.getD k Rn.nil).wc, (l4.getD k Rn.nil).ws⟩ : Rn) hcX Try.sizeOf30 (fe_t rfl) (fe_t rfl) rfl rfl rfl (by (try rw [List.length_set]); omega) rfl (rfl) (⟨fun w h => (h.weak (i := 3) rfl).pick [3, 0, 1, 2, 4, 5] _ rfl (by decide), ?_⟩))
          refine tb_done (by kernel_rfl) ?_
          refine tx_end (res0 Try.results144 ) (fun w' hS => ?_)
          have h1 := pickT (l := [_, _, _, _, _, _, _]) hS [0, 1, 2, 3, 4, 5, 6] rfl (by decide)
          have h2 : St w0 w' (blk bf [.slice (some ⟨ga, 0, none⟩) n n] :: blk bl [.slice A n c] :: blk bs [.slice (some ⟨gs, 0, none⟩) n n] :: vec 196 6 (.slice (some ⟨ga, 0, none⟩) n n) n ((l4.set k (⟨(l4.getD k Rn.nil).leaf, (l4.getD k Rn.nil).bytes, (l4.getD k Rn.nil).pb, b_pf, (l4.getD k Rn.nil).pt, (l4.getD k Rn.nil).wA, (l4.getD k Rn.nil).wc, (l4.getD k Rn.nil).ws⟩ : Rn)).flatMap cX) :: subs 3 1 (l4.map Rn.wV) :: vec 2 1 (.slice (some ⟨gs, 0, none⟩) n n) n (cI sl) :: bag _ _ _ :: T) := h1
          rw [show l4.map Rn.wV = (l4.set k (⟨(l4.getD k Rn.nil).leaf, (l4.getD k Rn.nil).bytes, (l4.getD k Rn.nil).pb, b_pf, (l4.getD k Rn.nil).pt, (l4.getD k Rn.nil).wA, (l4.getD k Rn.nil).wc, (l4.getD k Rn.nil).ws⟩ : Rn)).map Rn.wV from (xV_same (l1 := l4.set k (⟨(l4.getD k Rn.nil).leaf, (l4.getD k Rn.nil).bytes, (l4.getD k Rn.nil).pb, b_pf, (l4.getD k Rn.nil).pt, (l4.getD k Rn.nil).wA, (l4.getD k Rn.nil).wc, (l4.getD k Rn.nil).ws⟩ : Rn)) rfl rfl).symm] at h2
          refine ⟨(l4.set k (⟨(l4.getD k Rn.nil).leaf, (l4.getD k Rn.nil).bytes, (l4.getD k Rn.nil).pb, b_pf, (l4.getD k Rn.nil).pt, (l4.getD k Rn.nil).wA, (l4.getD k Rn.nil).wc, (l4.getD k Rn.nil).ws⟩ : Rn), _, _, _), ⟨(.cons _ (.cons _ (.cons _ (.cons _ Ext.rfl)))), ?_⟩, rfl, h2⟩
          dsimp only
          have hen := hr2
          rw [mk_plus hwk, ← Int.mul_assoc, hsm] at hen
          unfold offer
          rw [if_neg (by omega), hfr, hpe]
          refine hrel_as (RelT.set (hrel4.mono (.cons _ (.cons _ (.cons _ (.cons _ Ext.rfl))))) (l1 := l4.set k (⟨(l4.getD k Rn.nil).leaf, (l4.getD k Rn.nil).bytes, (l4.getD k Rn.nil).pb, b_pf, (l4.getD k Rn.nil).pt, (l4.getD k Rn.nil).wA, (l4.getD k Rn.nil).wc, (l4.getD k Rn.nil).ws⟩ : Rn)) rfl hk (d := { dn s k with leaf := lf, bytes := bb, bg := fr, en := fr + bb * (27720 / t.w k) * t.sum p }) ⟨hR4.leaf, hR4.bytes, hR4.ws, hR4.bg.mono (.cons _ (.cons _ (.cons _ (.cons _ Ext.rfl)))), ⟨_, _, pget_mem 2 rfl, pget_mem 3 rfl, by rw [ht, trOf_w, ← ht]; exact hen⟩, hR4.tm.mono (.cons _ (.cons _ (.cons _ (.cons _ Ext.rfl))))⟩) (List.set_set ..)
        · refine (oj_call2 Try.call83 fe_f (fel_cons (fe_t rfl) (fel_cons (fe_t rfl) fel_nil)) (fun w' hS => lift 6 hS rfl (fun T hS => newR hS (bb * sl.getD p 0) (n2 ns k) (by omega) (by omega) (by omega) (by omega))) (fun r3 hr3 => ⟨fun w h => h.pick [0, 1, 2, 3, 4, 5] _ rfl (by decide), ?_⟩))
          refine tb_one1 (i := 1) rfl (by kernel_rfl) (by kernel_rfl) (wants_none rfl) (oj_allocR 6 Try.zeroValue37 rfl (fun b_pf H_pf => ⟨fun w h => h.pick [0, 1, 2, 3, 4, 5] _ rfl (by decide), ?_⟩))
          refine tb_one1 (i := 18) rfl (by kernel_rfl) (by kernel_rfl) (wants_none rfl) (oj_call2 Try.call22 fe_f (fel_cons (fe_t rfl) (fel_cons (fe_t rfl) (fel_cons (fe_t rfl) fel_nil))) (fun w' hS => lift2 (p := fun m_ n_ => RatIs m_ n_ (mkRat fr 27720 + mkRat (bb * sl.getD p 0) (n2 ns k).toNat)) 6 0 1 hS rfl rfl rfl rfl (fun T l' hm hS => addR hS (hm _ (List.mem_cons_of_mem _ (List.mem_cons_of_mem _ (List.mem_cons_of_mem _ (List.mem_cons_of_mem _ mxa))))) (hm _ (List.mem_cons_of_mem _ (List.mem_cons_of_mem _ (List.mem_cons_of_mem _ (List.mem_cons_of_mem _ mxb))))) (hm _ (pget_mem 2 rfl)) (hm _ (pget_mem 3 rfl)) hx hr3 (by omega) (by omega) (by omega) (by omega) (by omega))) (fun r4 hr4 => ⟨fun w h => h.pick [0, 1, 2, 3, 4, 5] _ rfl (by decide), ?_⟩))
          refine tb_float (i := 19) rfl (by kernel_rfl) rfl (wants_none rfl) (yq_of (y_nilCheckR (fe_t rfl) (rch_w 0 rfl (by omega)))) ?_
          refine tb_float (i := 20) rfl (by kernel_rfl) rfl (wants_none rfl) (yq_of (y_fieldAddrR (td := 30) Try.underlying196 rfl rfl Try.sizeOf30 rfl (fe_t rfl) (rch_w 0 rfl (by omega)))) ?_
          refine tb_one2 (i := 21) rfl (by kernel_rfl) (by kernel_rfl) (wants_none rfl) (oj_storeG (i := 3) Rn.nil (⟨(l4.getD k Rn.nil).leaf, (l4.getD k Rn.nil).bytes, (l4.getD k Rn.nil).pb, b_pf, (l4.getD k Rn.nil).pt, (l4.getD k Rn.nil).wA, (l4.getD k Rn.nil).wc, (l4.getD k Rn.nil).ws⟩ : Rn) hcX Try.sizeOf30 (fe_t rfl) (fe_t rfl) rfl rfl rfl (by (try rw [List.length_set]); omega) rfl (rfl) (⟨fun w h => (h.weak (i := 3) rfl).pick [3, 0, 1, 2, 4, 5] _ rfl (by decide), ?_⟩))
          refine tb_done (by kernel_rfl) ?_
          refine tx_end (res0 Try.results144 ) (fun w' hS => ?_)
          have h1 := pickT (l := [_, _, _, _, _, _, _]) hS [0, 1, 2, 3, 4, 5, 6] rfl (by decide)
          have h2 : St w0 w' (blk bf [.slice (some ⟨ga, 0, none⟩) n n] :: blk bl [.slice A n c] :: blk bs [.slice (some ⟨gs, 0, none⟩) n n] :: vec 196 6 (.slice (some ⟨ga, 0, none⟩) n n) n ((l4.set k (⟨(l4.getD k Rn.nil).leaf, (l4.getD k Rn.nil).bytes, (l4.getD k Rn.nil).pb, b_pf, (l4.getD k Rn.nil).pt, (l4.getD k Rn.nil).wA, (l4.getD k Rn.nil).wc, (l4.getD k Rn.nil).ws⟩ : Rn)).flatMap cX) :: subs 3 1 (l4.map Rn.wV) :: vec 2 1 (.slice (some ⟨gs, 0, none⟩) n n) n (cI sl) :: bag _ _ _ :: T) := h1
          rw [show l4.map Rn.wV = (l4.set k (⟨(l4.getD k Rn.nil).leaf, (l4.getD k Rn.nil).bytes, (l4.getD k Rn.nil).pb, b_pf, (l4.getD k Rn.nil).pt, (l4.getD k Rn.nil).wA, (l4.getD k Rn.nil).wc, (l4.getD k Rn.nil).ws⟩ : Rn)).map Rn.wV from (xV_same (l1 := l4.set k (⟨(l4.getD k Rn.nil).leaf, (l4.getD k Rn.nil).bytes, (l4.getD k Rn.nil).pb, b_pf, (l4.getD k Rn.nil).pt, (l4.getD k Rn.nil).wA, (l4.getD k Rn.nil).wc, (l4.getD k Rn.nil).ws⟩ : Rn)) rfl rfl).symm] at h2
          refine ⟨(l4.set k (⟨(l4.getD k Rn.nil).leaf, (l4.getD k Rn.nil).bytes, (l4.getD k Rn.nil).pb, b_pf, (l4.getD k Rn.nil).pt, (l4.getD k Rn.nil).wA, (l4.getD k Rn.nil).wc, (l4.getD k Rn.nil).ws⟩ : Rn), _, _, _), ⟨(.cons _ (.cons _ (.cons _ (.cons _ Ext.rfl)))), ?_⟩, rfl, h2⟩
          dsimp only
          have hen := hr4
          rw [mk_plus hwk, ← Int.mul_assoc, hsm] at hen
          unfold offer
          rw [if_neg (by omega), hfr, hpe]
          refine hrel_as (RelT.set (hrel4.mono (.cons _ (.cons _ (.cons _ (.cons _ Ext.rfl))))) (l1 := l4.set k (⟨(l4.getD k Rn.nil).leaf, (l4.getD k Rn.nil).bytes, (l4.getD k Rn.nil).pb, b_pf, (l4.getD k Rn.nil).pt, (l4.getD k Rn.nil).wA, (l4.getD k Rn.nil).wc, (l4.getD k Rn.nil).ws⟩ : Rn)) rfl hk (d := { dn s k with leaf := lf, bytes := bb, bg := fr, en := fr + bb * (27720 / t.w k) * t.sum p }) ⟨hR4.leaf, hR4.bytes, hR4.ws, hR4.bg.mono (.cons _ (.cons _ (.cons _ (.cons _ Ext.rfl)))), ⟨_, _, pget_mem 0 rfl, pget_mem 1 rfl, by rw [ht, trOf_w, ← ht]; exact hen⟩, hR4.tm.mono (.cons _ (.cons _ (.cons _ (.cons _ Ext.rfl))))⟩) (List.set_set ..)

end Go.Proofs.Ytcpdelkamckmfaa.Hier
