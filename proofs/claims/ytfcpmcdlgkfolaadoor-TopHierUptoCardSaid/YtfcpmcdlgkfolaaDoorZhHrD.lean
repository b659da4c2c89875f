/- the methods in, out where there is nothing. -/
import Derived.Test.YtfcpmcdlgkfolaaDoorZhHrB
namespace Go.Proofs.YtfcpmcdlgkfolaaDoor.Hier
open Go.RowKit Go.Proofs.YtfcpmcdlgkfolaaDoor.E Go.Proofs.YtfcpmcdlgkfolaaDoor.Wfq
open Go.Proofs.YtfcpmcdlgkfolaaDoor.Scfq (hd hd_mem)

theorem upIn_stop {t : Tr} {f : Nat} {s : List D} {c : Int} (h : c < 0 ∨ ¬ (dn s c.toNat).bytes = 0) : upIn t f s c = s := by
  cases f with
  | zero => rfl
  | succ f => unfold upIn; rw [if_pos h]
theorem upIn_go {t : Tr} {f : Nat} {s : List D} {p : Nat} (h : (dn s p).bytes = 0) (hf : (p : Int) < f) : upIn t f s (p : Int) = upIn t (f - 1) (pick t s p false) (t.u p) := by
  obtain ⟨f, rfl⟩ : ∃ i, f = i + 1 := ⟨f - 1, by omega⟩
  rw [upIn, if_neg (by rw [Int.toNat_natCast]; omega), Int.toNat_natCast, Nat.add_sub_cancel]
set_option maxRecDepth 100000 in
set_option maxHeartbeats 4000000 in
theorem inE {w0 w : World} {T : List Res} {b : Nat} {G : Option Addr} {n cg : Nat} {t : Tr} {l : List Nd} {s : List D} {M : Int} (hS : St w0 w (blk b [.slice G n cg] :: vec 131 10 (.slice G n cg) n (l.flatMap cN) :: subs 3 1 (l.map Nd.kV) :: subs 3 1 (l.map Nd.wV) :: T)) (g : t.Good) (hn : t.n = n) (hll : l.length = t.n) (hq : l.map Nd.d = s) (hst : Stat t l) (hbd : Bd M s) (hM : M ≤ 78000000000000) {k : Nat} {bb : Int} (hk : k < t.n) (hbb : 1 ≤ bb ∧ bb ≤ 1500) (hcn : (l.getD k Nd.nil).d.ws.length ≤ 399) :
    Calls Tryd.prog 58 #[.pointer (some ⟨b, 0, none⟩), (.int .i64 ((k : Int))), (.int .i64 bb)] w fun e w' => ∃ q : List Nd, (q.length = t.n ∧ q.map Nd.d = inF t s k bb ∧ Stat t q) ∧ e = .returned (.tuple #[]) ∧ St w0 w' (blk b [.slice G n cg] :: vec 131 10 (.slice G n cg) n (q.flatMap cN) :: subs 3 1 (q.map Nd.kV) :: subs 3 1 (q.map Nd.wV) :: T) := by
  refine calls_tr Tryd.func58 Tryd.ntmps58 rfl rfl hS ?_
  refine tr_seq ?_
  refine tr_region ?_
  refine tl_step rfl (oj_val (y_move (fe_t rfl)) ?_)
  refine tl_step rfl (oj_val (y_nilCheck (fe_t rfl)) ?_)
  refine tl_step rfl (oj_val (y_fieldAddr (td := 127) Tryd.underlying129 rfl rfl Tryd.sizeOf127 (o' := 0) rfl (fe_t rfl)) ?_)
  refine tl_step rfl (oj_val (y_ldb 0 Tryd.isAgg127 (fe_t rfl) rfl rfl) ?_)
  refine tl_step rfl (oj_val (y_move (fe_t rfl)) ?_)
  refine tl_step rfl (oj_val (y_index Tryd.underlying127 Tryd.sizeOf131 (fe_t rfl) (fe_t rfl) (rdl_vec 1 rfl) (by rw [flat_len hcN]; omega) (by decide) (by omega) rfl) ?_)
  refine tl_step rfl (oj_val (y_assign (fe_t rfl)) ?_)
  refine tl_nil ?_
  refine tx_then ?_
  refine tr_seq ?_
  refine tr_subOut 3 k rfl (map_at (d := Nd.nil) Nd.wV (by omega)) ?_
  have hbn : (Nd.wV (l.getD k Nd.nil)).n ≤ 400 := by show (l.getD k Nd.nil).d.ws.length ≤ 400; omega
  refine tr_region ?_
  refine tl_step rfl (oj_val (y_move (fe_t rfl)) ?_)
  refine tl_step rfl (oj_val (y_move (fe_t rfl)) ?_)
  refine tl_step rfl (oj_val (y_nilCheckE (fe_t rfl) (rdl_vec 2 rfl) (by rw [flat_len hcN]; omega)) ?_)
  refine tl_step rfl (oj_val (y_fieldAddrE (td := 39) Tryd.underlying131 rfl rfl Tryd.sizeOf39 rfl (fe_t rfl) (rdl_vec 2 rfl) (by rw [flat_len hcN]; omega)) ?_)
  refine tl_step rfl (oj_val (y_ld Tryd.isAgg39 (fe_t rfl) (rdl_vec 2 rfl) (flatG (d := Nd.nil) (i := 9) hcN (by omega) rfl)) ?_)
  refine tl_step rfl (oj_val (y_move (fe_t rfl)) ?_)
  refine tl_step rfl (oj_slice1 Tryd.underlying39 Tryd.sizeOf3 Tryd.zeroValue3 (fe_t rfl) (by decide) rfl (fun b1 => ?_))
  refine tl_step rfl (oj_append (i := 1) (s := 1) (z := (.int .i64 0)) (bytes := 8) Tryd.underlying39 (by kernel_rfl) (fe_t rfl) (fe_t rfl) rfl (rdl_blk 0 rfl) rfl (by decide) (by first | exact oneI | exact oneF (fun _ => rfl) | exact fun u hu => List.all_eq_true.1 (show List.all _ (fun x => x.oneCell') = true from rfl) u hu | (intro u hu; revert u hu; simp [Value.oneCell'])) (by decide) ⟨by omega, by decide⟩ (fun Aa1 ca1 hca1 => ?_))
  refine tl_step rfl (oj_val (y_nilCheckE (fe_t rfl) (rdl_vec 3 rfl) (by rw [flat_len hcN]; omega)) ?_)
  refine tl_step rfl (oj_val (y_fieldAddrE (td := 39) Tryd.underlying131 rfl rfl Tryd.sizeOf39 rfl (fe_t rfl) (rdl_vec 3 rfl) (by rw [flat_len hcN]; omega)) ?_)
  refine tl_step rfl (oj_storeG (i := 3) Nd.nil (⟨(l.getD k Nd.nil).up, (l.getD k Nd.nil).w, (l.getD k Nd.nil).kA, (l.getD k Nd.nil).kc, (l.getD k Nd.nil).ks, (l.getD k Nd.nil).sum, Aa1, ca1, ⟨(l.getD k Nd.nil).d.leaf, (l.getD k Nd.nil).d.bytes, (l.getD k Nd.nil).d.bg, (l.getD k Nd.nil).d.en, (l.getD k Nd.nil).d.tm, (l.getD k Nd.nil).d.ws ++ [bb]⟩⟩ : Nd) hcN Tryd.sizeOf39 (fe_t rfl) (fe_t rfl) rfl rfl rfl (by (try rw [List.length_set]); omega) rfl (by simp [cN, Nd.wV]) (?_))
  refine tl_nil ?_
  refine tx_then ?_
  refine tr_seq ?_
  refine tr_seq ?_
  refine tr_subInJ 1 5 k rfl rfl rfl (map_nil_at Nd.wV (by omega)) (map_back (x := (⟨(l.getD k Nd.nil).up, (l.getD k Nd.nil).w, (l.getD k Nd.nil).kA, (l.getD k Nd.nil).kc, (l.getD k Nd.nil).ks, (l.getD k Nd.nil).sum, Aa1, ca1, ⟨(l.getD k Nd.nil).d.leaf, (l.getD k Nd.nil).d.bytes, (l.getD k Nd.nil).d.bg, (l.getD k Nd.nil).d.en, (l.getD k Nd.nil).d.tm, (l.getD k Nd.nil).d.ws ++ [bb]⟩⟩ : Nd)) Nd.wV (by simp [Nd.wV, cI, zc])) ?_
  generalize hl1 : l.set k (⟨(l.getD k Nd.nil).up, (l.getD k Nd.nil).w, (l.getD k Nd.nil).kA, (l.getD k Nd.nil).kc, (l.getD k Nd.nil).ks, (l.getD k Nd.nil).sum, Aa1, ca1, ⟨(l.getD k Nd.nil).d.leaf, (l.getD k Nd.nil).d.bytes, (l.getD k Nd.nil).d.bg, (l.getD k Nd.nil).d.en, (l.getD k Nd.nil).d.tm, (l.getD k Nd.nil).d.ws ++ [bb]⟩⟩ : Nd) = l1
  obtain ⟨hl1n, hl1k, hl1o, hl1q, hl1s⟩ := nd_step hl1 hll (by omega) hq hst rfl rfl rfl rfl
  have hl1kv := kV_same hl1 rfl
  refine tr_as (r' := subs 3 1 (l1.map Nd.kV)) 4 rfl (congrArg (subs _ _) hl1kv.symm) ?_
  have hs1 : l1.map Nd.d = s.set k { dn s k with ws := (dn s k).ws ++ [bb] } := by rw [hl1q, ndq hq]
  have hb1 : (l1.getD k Nd.nil).d.bytes = (dn s k).bytes := by rw [hl1k, ndq hq]
  obtain ⟨b1, b2, b3, b4, b5⟩ := hbd k
  have hbd1 : Bd M (s.set k { dn s k with ws := (dn s k).ws ++ [bb] }) := hbd.set (Int.le_refl _) ⟨b1, b2, b3, b4, fun x hx => by
    rcases List.mem_append.1 hx with hx | hx
    · exact b5 x hx
    · simp only [List.mem_singleton] at hx; subst hx; exact hbb⟩
  refine tr_region ?_
  refine tl_step rfl (oj_val (y_move (fe_t rfl)) ?_)
  refine tl_step rfl (oj_val (y_nilCheckE (fe_t rfl) (rdl_vec 3 rfl) (by rw [flat_len hcN]; omega)) ?_)
  refine tl_step rfl (oj_val (y_fieldAddrE (td := 3) Tryd.underlying131 rfl rfl Tryd.sizeOf3 rfl (fe_t rfl) (rdl_vec 3 rfl) (by rw [flat_len hcN]; omega)) ?_)
  refine tl_step rfl (oj_val (y_ld Tryd.isAgg3 (fe_t rfl) (rdl_vec 3 rfl) (flatG (d := Nd.nil) (i := 5) hcN (by omega) rfl)) ?_)
  refine tl_step rfl (oj_val (y_gtr (fe_t rfl) fe_c) ?_)
  refine tl_nil ?_
  refine tx_then ?_
  refine tr_condp (fe_t rfl) (fun hq1 => ?_) (fun hq2 => ?_)
  · try (exfalso; omega)
    all_goals
      refine tr_ret ?_
      refine tx_then_ret ?_
      refine tx_ret (res0 Tryd.results58 ) (fun w' hS => ?_)
      have h1 := pickT (l := [_, _, _, _, _, _]) hS [2, 3, 4, 5] rfl (by decide)
      exact ⟨l1, ⟨hl1n, by rw [hs1]; unfold inF; rw [if_pos (by omega)], hl1s⟩, rfl, h1⟩
  · try (exfalso; omega)
    all_goals
      refine tr_skip ?_
      refine tx_then ?_
      refine tr_seq ?_
      refine tr_region ?_
      refine tl_step rfl (oj_val (y_move (fe_t rfl)) ?_)
      refine tl_step rfl (oj_val (y_move (fe_t rfl)) ?_)
      refine tl_step rfl (oj_val (y_move (fe_t rfl)) ?_)
      refine tl_step rfl (oj_val (y_move (fe_t rfl)) ?_)
      refine tl_step rfl (oj_call2 Tryd.call83 fe_f (fel_cons (fe_t rfl) (fel_cons (fe_t rfl) (fel_cons (fe_t rfl) (fel_cons (fe_t rfl) (fel_cons fe_c fel_nil))))) (fun w' hS => offerE (pickT (l := [_, _, _, _, _, _]) hS [2, 3, 4, 5, 0] rfl (by decide)) g hn hl1n hs1 hl1s hbd1 (by omega) hk (by omega) (lf := (k : Int)) (ag := false)) (fun q1 hQ1 => ?_))
      refine tl_nil ?_
      refine tx_then ?_
      refine tr_seq ?_
      have hu1 := (hQ1.2.2 k hk).up
      have hlt := g.lt hk
      have hn16 := g.n16
      refine tr_region ?_
      refine tl_step rfl (oj_val (y_move (fe_t rfl)) ?_)
      refine tl_step rfl (oj_val (y_nilCheckE (fe_t rfl) (rdl_vec 1 rfl) (by rw [flat_len hcN]; omega)) ?_)
      refine tl_step rfl (oj_val (y_fieldAddrE (td := 3) Tryd.underlying131 rfl rfl Tryd.sizeOf3 rfl (fe_t rfl) (rdl_vec 1 rfl) (by rw [flat_len hcN]; omega)) ?_)
      refine tl_step rfl (oj_val (y_ld Tryd.isAgg3 (fe_t rfl) (rdl_vec 1 rfl) (flatG (d := Nd.nil) (i := 0) hcN (by omega) rfl)) ?_)
      refine tl_step rfl (oj_val (y_assign (fe_t rfl)) ?_)
      refine tl_nil ?_
      refine tx_then ?_
      refine tr_block ?_
      refine tr_loop4 [7, 38, 39, 40, 41, 42, 43, 44, 45, 46, 47, 48, 49, 50, 51, 52, 53, 54, 55, 56, 57, 58, 59, 60, 61] (fun (f : Nat) (c : Int) (sc : List D) (l2 : List Nd) => [(7, .int .i64 c)]) 0 (fun (f : Nat) (c : Int) (sc : List D) (l2 : List Nd) => [(1, vec 131 10 (.slice G n cg) n (l2.flatMap cN)), (2, subs 3 1 (l2.map Nd.kV)), (3, subs 3 1 (l2.map Nd.wV))]) (fun (f : Nat) (c : Int) (sc : List D) (l2 : List Nd) => (c < f ∧ c < t.n ∧ -1 ≤ c ∧ f ≤ 17) ∧ upIn t 17 (offer t (s.set k { dn s k with ws := (dn s k).ws ++ [bb] }) k k bb false) (t.u k) = upIn t f sc c ∧ l2.length = t.n ∧ l2.map Nd.d = sc ∧ Stat t l2 ∧ Bd (M + 8000000000 + (17 - (f : Int)) * 9000000000) sc) (fun (f : Nat) (c : Int) (sc : List D) (l2 : List Nd) => f) (17) (t.u k) ((offer t (s.set k { dn s k with ws := (dn s k).ws ++ [bb] }) k k bb false)) (q1) (cov_cons (by first | rfl | exact v_int (by omega) | exact v_bool (by simp [*])) (cov_nil)) (fun w h => h) ?_ ?_
      · try dsimp only
        exact ⟨by omega, rfl, hQ1.1, hQ1.2.1, hQ1.2.2, (offer_bd g hk hbd1 (by omega)).mono (by omega)⟩
      intro f c sc l2 hp
      obtain ⟨⟨hcf, hcn, hc1, hf17⟩, hup, hl2n, hq2, hst2, hbd2⟩ := hp
      refine tr_seq ?_
      refine tr_seq ?_
      refine tr_region ?_
      refine tl_step rfl (oj_val (y_move (fe_t rfl)) ?_)
      refine tl_step rfl (oj_val (y_geq (fe_t rfl) fe_c) ?_)
      refine tl_step rfl (oj_val (y_move (fe_t rfl)) ?_)
      refine tl_splitp (d := 40) rfl (fun hq3 => ?_) (fun hq4 => ?_)
      · try (exfalso; omega)
        all_goals
          refine tl_want rfl rfl rfl (oj_val (y_move (fe_t rfl)) ?_)
          refine tl_want rfl rfl rfl (oj_val (y_nilCheck (fe_t rfl)) ?_)
          refine tl_want rfl rfl rfl (oj_val (y_fieldAddr (td := 127) Tryd.underlying129 rfl rfl Tryd.sizeOf127 (o' := 0) rfl (fe_t rfl)) ?_)
          refine tl_want rfl rfl rfl (oj_val (y_ldb 0 Tryd.isAgg127 (fe_t rfl) rfl rfl) ?_)
          refine tl_want rfl rfl rfl (oj_val (y_move (fe_t rfl)) ?_)
          refine tl_want rfl rfl rfl (oj_val (y_indexI Tryd.underlying127 Tryd.sizeOf131 (fe_t rfl) (fe_t rfl) (rdl_vec 1 rfl) (by rw [flat_len hcN]; omega) (by decide) (by omega) (by omega) rfl) ?_)
          refine tl_want rfl rfl rfl (oj_val (y_fieldAddrE (td := 3) Tryd.underlying131 rfl rfl Tryd.sizeOf3 rfl (fe_t rfl) (rdl_vec 1 rfl) (by rw [flat_len hcN]; omega)) ?_)
          refine tl_want rfl rfl rfl (oj_val (y_ld Tryd.isAgg3 (fe_t rfl) (rdl_vec 1 rfl) (flatG (d := Nd.nil) (i := 5) hcN (by omega) rfl)) ?_)
          refine tl_want rfl rfl rfl (oj_val (y_eq (fe_t rfl) fe_c) ?_)
          refine tl_step rfl (oj_val (y_pickt (fe_t rfl) (fe_t rfl)) ?_)
          refine tl_nil ?_
          refine tx_then ?_
          refine tr_condp (fe_t rfl) (fun hq5 => ?_) (fun hq6 => ?_)
          · try (exfalso; omega)
            all_goals
              refine tr_skip ?_
              refine tx_then ?_
              refine tr_seq ?_
              refine tr_block ?_
              obtain ⟨p, rfl⟩ : ∃ p : Nat, c = p := ⟨c.toNat, by omega⟩
              have hpn : p < t.n := by omega
              have hby : (dn sc p).bytes = 0 := by rw [ndq hq2]; simpa using (by omega : (l2.getD (p : Int).toNat Nd.nil).d.bytes = 0)
              have hltp := g.lt hpn
              refine tr_region ?_
              refine tl_step rfl (oj_val (y_move (fe_t rfl)) ?_)
              refine tl_step rfl (oj_val (y_move (fe_t rfl)) ?_)
              refine tl_step rfl (oj_call2 Tryd.call84 fe_f (fel_cons (fe_t rfl) (fel_cons (fe_t rfl) (fel_cons fe_c fel_nil))) (fun w' hS => pickE (pickT (l := [_, _, _, _, _]) hS [0, 1, 2, 3, 4] rfl (by decide)) g hn hl2n hq2 hst2 hbd2 (by omega) (k := p) (ag := false) hpn) (fun q2 hQ2 => ?_))
              refine tl_nil ?_
              refine tx_in ?_
              refine tx_then ?_
              have hu2 := (hQ2.2.2 p hpn).up
              refine tr_region ?_
              refine tl_step rfl (oj_val (y_move (fe_t rfl)) ?_)
              refine tl_step rfl (oj_val (y_nilCheck (fe_t rfl)) ?_)
              refine tl_step rfl (oj_val (y_fieldAddr (td := 127) Tryd.underlying129 rfl rfl Tryd.sizeOf127 (o' := 0) rfl (fe_t rfl)) ?_)
              refine tl_step rfl (oj_val (y_ldb 0 Tryd.isAgg127 (fe_t rfl) rfl rfl) ?_)
              refine tl_step rfl (oj_val (y_move (fe_t rfl)) ?_)
              refine tl_step rfl (oj_val (y_index Tryd.underlying127 Tryd.sizeOf131 (fe_t rfl) (fe_t rfl) (rdl_vec 1 rfl) (by rw [flat_len hcN]; omega) (by decide) (by omega) rfl) ?_)
              refine tl_step rfl (oj_val (y_fieldAddrE (td := 3) Tryd.underlying131 rfl rfl Tryd.sizeOf3 rfl (fe_t rfl) (rdl_vec 1 rfl) (by rw [flat_len hcN]; omega)) ?_)
              refine tl_step rfl (oj_val (y_ld Tryd.isAgg3 (fe_t rfl) (rdl_vec 1 rfl) (flatG (d := Nd.nil) (i := 0) hcN (by omega) rfl)) ?_)
              refine tl_step rfl (oj_val (y_assign (fe_t rfl)) ?_)
              refine tl_nil ?_
              apply tx_back4 (f - 1) (t.u p) (pick t sc p false) (q2)
              · exact (cov_cons (by first | rfl | exact v_int (by omega) | exact v_bool (by simp [*])) (cov_nil))
              · repeat (first | exact over_nil | refine over_put rfl ?_ | refine over_drop rfl ?_)
              · exact fun w h => h
              · exact ⟨⟨by omega, by rw [hup, upIn_go hby (by omega)], hQ2.1, hQ2.2.1, hQ2.2.2, (pick_bd g hpn hbd2).mono (by omega)⟩, by omega⟩
          · try (exfalso; omega)
            all_goals
              refine tr_exit ?_
              refine tx_then_exit ?_
              refine tx_then_exit ?_
              refine tx_in_exit ?_
              refine tx_end (res0 Tryd.results58 ) (fun w' hS => ?_)
              have h1 := pickT (l := [_, _, _, _, _]) hS [0, 1, 2, 3] rfl (by decide)
              exact ⟨l2, ⟨hl2n, by rw [hq2]; unfold inF; rw [if_neg (by omega), hup, upIn_stop (by rw [ndq hq2]; omega)], hst2⟩, rfl, h1⟩
      · try (exfalso; omega)
        all_goals
          refine tl_skip rfl rfl rfl rfl ?_
          refine tl_skip rfl rfl rfl rfl ?_
          refine tl_skip rfl rfl rfl rfl ?_
          refine tl_skip rfl rfl rfl rfl ?_
          refine tl_skip rfl rfl rfl rfl ?_
          refine tl_skip rfl rfl rfl rfl ?_
          refine tl_skip rfl rfl rfl rfl ?_
          refine tl_skip rfl rfl rfl rfl ?_
          refine tl_skip rfl rfl rfl rfl ?_
          refine tl_step rfl (oj_val (y_pickf (fe_t rfl) fe_c) ?_)
          refine tl_nil ?_
          refine tx_then ?_
          refine tr_condf (fe_t rfl) ?_
          refine tr_exit ?_
          refine tx_then_exit ?_
          refine tx_then_exit ?_
          refine tx_in_exit ?_
          refine tx_end (res0 Tryd.results58 ) (fun w' hS => ?_)
          have h1 := pickT (l := [_, _, _, _, _]) hS [0, 1, 2, 3] rfl (by decide)
          exact ⟨l2, ⟨hl2n, by rw [hq2]; unfold inF; rw [if_neg (by omega), hup, upIn_stop (by rw [ndq hq2]; omega)], hst2⟩, rfl, h1⟩

set_option maxRecDepth 100000 in
set_option maxHeartbeats 2000000 in
theorem out_none {w0 w : World} {T : List Res} {b : Nat} {G : Option Addr} {n cg : Nat} {t : Tr} {l : List Nd} {s : List D} {M : Int} (hS : St w0 w (blk b [.slice G n cg] :: vec 131 10 (.slice G n cg) n (l.flatMap cN) :: subs 3 1 (l.map Nd.kV) :: subs 3 1 (l.map Nd.wV) :: T)) (g : t.Good) (hn : t.n = n) (hll : l.length = t.n) (hq : l.map Nd.d = s) (hst : Stat t l) (hbd : Bd M s) (hM : M ≤ 80000000000000) (h0 : (dn s 0).bytes = 0) :
    Calls Tryd.prog 56 #[.pointer (some ⟨b, 0, none⟩)] w fun e w' => e = .returned (.tuple #[.agg #[(.int .i64 0), (.int .i64 0)], .bool false]) ∧ St w0 w' (blk b [.slice G n cg] :: vec 131 10 (.slice G n cg) n (l.flatMap cN) :: subs 3 1 (l.map Nd.kV) :: subs 3 1 (l.map Nd.wV) :: T) := by
  have hn1 := g.n1
  have hb0 : (l.getD 0 Nd.nil).d.bytes = 0 := by rw [← ndq hq]; exact h0
  refine calls_tr Tryd.func56 Tryd.ntmps56 rfl rfl hS ?_
  refine tr_seq ?_
  refine tr_region ?_
  refine tl_step rfl (oj_alloc Tryd.zeroValue81 (fun bt => ?_))
  refine tl_step rfl (oj_val (y_assign fe_c) ?_)
  refine tl_nil ?_
  refine tx_then ?_
  refine tr_seq ?_
  refine tb_draw 17 (sel _ [0, 1, 2, 3, 4]) (fun w h => h.sel _ rfl (by decide)) rfl ?_
  refine tb_float (i := 0) rfl (by kernel_rfl) rfl (wants_none rfl) (yq_of (y_move (fe_t rfl))) ?_
  refine tb_float (i := 1) rfl (by kernel_rfl) rfl (wants_none rfl) (yq_of (y_nilCheck (fe_t rfl))) ?_
  refine tb_float (i := 2) rfl (by kernel_rfl) rfl (wants_none rfl) (yq_of (y_fieldAddr (td := 127) Tryd.underlying129 rfl rfl Tryd.sizeOf127 (o' := 0) rfl (fe_t rfl))) ?_
  refine tb_float (i := 3) rfl (by kernel_rfl) rfl (wants_none rfl) (yq_of (y_ldb 1 Tryd.isAgg127 (fe_t rfl) rfl rfl)) ?_
  refine tb_float (i := 4) rfl (by kernel_rfl) rfl (wants_none rfl) (yq_of (y_index (j := 0) Tryd.underlying127 Tryd.sizeOf131 (fe_t rfl) (show FE _ _ _ (.int .i64 ((0 : Nat) : Int)) from fe_c) (rdl_vec 2 rfl) (by rw [flat_len hcN]; omega) (by decide) (by omega) rfl)) ?_
  refine tb_float (i := 5) rfl (by kernel_rfl) rfl (wants_none rfl) (yq_of (y_fieldAddrE (td := 3) Tryd.underlying131 rfl rfl Tryd.sizeOf3 rfl (fe_t rfl) (rdl_vec 2 rfl) (by rw [flat_len hcN]; omega))) ?_
  refine tb_float (i := 6) rfl (by kernel_rfl) rfl (wants_none rfl) (yq_of (y_ld Tryd.isAgg3 (fe_t rfl) (rdl_vec 2 rfl) (flatG (d := Nd.nil) (i := 4) hcN (by omega) rfl))) ?_
  refine tb_float (i := 7) rfl (by kernel_rfl) rfl (wants_none rfl) (yq_of (y_move (fe_t rfl))) ?_
  refine tb_float (i := 8) rfl (by kernel_rfl) rfl (wants_none rfl) (yq_of (y_nilCheck (fe_t rfl))) ?_
  refine tb_float (i := 9) rfl (by kernel_rfl) rfl (wants_none rfl) (yq_of (y_fieldAddr (td := 127) Tryd.underlying129 rfl rfl Tryd.sizeOf127 (o' := 0) rfl (fe_t rfl))) ?_
  refine tb_float (i := 10) rfl (by kernel_rfl) rfl (wants_none rfl) (yq_of (y_ldb 1 Tryd.isAgg127 (fe_t rfl) rfl rfl)) ?_
  refine tb_float (i := 11) rfl (by kernel_rfl) rfl (wants_none rfl) (yq_of (y_index (j := 0) Tryd.underlying127 Tryd.sizeOf131 (fe_t rfl) (show FE _ _ _ (.int .i64 ((0 : Nat) : Int)) from fe_c) (rdl_vec 2 rfl) (by rw [flat_len hcN]; omega) (by decide) (by omega) rfl)) ?_
  refine tb_float (i := 12) rfl (by kernel_rfl) rfl (wants_none rfl) (yq_of (y_fieldAddrE (td := 3) Tryd.underlying131 rfl rfl Tryd.sizeOf3 rfl (fe_t rfl) (rdl_vec 2 rfl) (by rw [flat_len hcN]; omega))) ?_
  refine tb_float (i := 13) rfl (by kernel_rfl) rfl (wants_none rfl) (yq_of (y_ld Tryd.isAgg3 (fe_t rfl) (rdl_vec 2 rfl) (flatG (d := Nd.nil) (i := 5) hcN (by omega) rfl))) ?_
  refine tb_float (i := 14) rfl (by kernel_rfl) rfl (wants_none rfl) (yq_of ((fun {u0 u1} hx hb => y_build (is := [0, 1]) (vs := [u0, u1]) (cs := [u0, u1]) rfl hx hb) (fel_cons (fe_t rfl) (fel_cons (fe_t rfl) fel_nil)) (by kernel_rfl))) ?_
  refine tb_one2 (i := 15) rfl (by kernel_rfl) (by kernel_rfl) (wants_none rfl) (oj_alloc Tryd.zeroValue81 (fun bu => ⟨fun w h => h.pick [1, 2, 3, 4, 5] _ rfl (by decide), ?_⟩))
  refine tb_one2 (i := 16) rfl (by kernel_rfl) (by kernel_rfl) (wants_none rfl) (oj_storeW 0 Tryd.sizeOf81 (fe_t rfl) (fe_t rfl) rfl rfl rfl rfl rfl (⟨fun w h => h.pick [1, 2, 3, 4, 5] _ rfl (by decide), ?_⟩))
  refine tb_done (by kernel_rfl) ?_
  refine tx_then ?_
  refine tr_seq ?_
  refine tr_seq ?_
  refine tr_region ?_
  refine tl_step rfl (oj_val (y_fieldAddr (td := 3) Tryd.underlying81 rfl rfl Tryd.sizeOf3 (o' := 1) rfl (fe_t rfl)) ?_)
  refine tl_step rfl (oj_val (y_ldb 0 Tryd.isAgg3 (fe_t rfl) rfl rfl) ?_)
  refine tl_step rfl (oj_val (y_eq (fe_t rfl) fe_c) ?_)
  refine tl_nil ?_
  refine tx_then ?_
  refine tr_condp (fe_t rfl) (fun hq1 => ?_) (fun hq2 => ?_)
  · try (exfalso; omega)
    all_goals
      refine tr_seq ?_
      refine tr_region ?_
      refine tl_step rfl (oj_val (y_build (is := []) (vs := []) (cs := [.int .i64 0, .int .i64 0]) rfl fel_nil (by kernel_rfl)) ?_)
      refine tl_step rfl (oj_storeW 1 Tryd.sizeOf81 (fe_t rfl) (fe_t rfl) rfl rfl rfl rfl rfl (?_))
      refine tl_step rfl (oj_val (y_assign fe_c) ?_)
      refine tl_nil ?_
      refine tx_then ?_
      refine tr_ret ?_
      refine tx_then_ret ?_
      refine tx_ret (res2 Tryd.results56 (rok_b 1 Tryd.isAgg81 Tryd.sizeOf81 rfl rfl rfl) (rok_t rfl)) (fun w' hS => ?_)
      have h1 := pickT (l := [_, _, _, _, _, _]) hS [2, 3, 4, 5] rfl (by decide)
      exact ⟨rfl, h1⟩
  · omega

end Go.Proofs.YtfcpmcdlgkfolaaDoor.Hier
