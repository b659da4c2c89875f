/- the closure choose. -/
import Derived.Test.YtcpdelkamckmfaaHrQ
namespace Go.Proofs.Ytcpdelkamckmfaa.Hier
open Go.RowKit Go.Proofs.Ytcpdelkamckmfaa.E Go.Proofs.Ytcpdelkamckmfaa.Wfq Go.Proofs.Ytcpdelkamckmfaa.Big Go.Proofs.Ytcpdelkamckmfaa.Frac
open Go.Proofs.Ytcpdelkamckmfaa.Scfq (hd hd_mem)

theorem kidv_bg {s : List D} {t : Tr} {k : Nat} {y : Int} (h0 : 0 ≤ y) (h : y.toNat < (t.kids k).length) : (gq (kq s (t.kids k)) y.toNat).bg = (dn s (kidv t k y).toNat).bg := by
  have e : kidv t k y = ((t.kids k).getD y.toNat 0 : Nat) := by unfold kidv; rw [if_neg (by omega)]
  rw [e, Int.toNat_natCast, kq_at h]
  rfl
theorem set_dn {s : List D} {k : Nat} : s.set k { dn s k with tm := (dn s k).tm } = s := by
  by_cases hk : k < s.length
  · apply List.ext_getElem?
    intro i
    rw [List.getElem?_set]
    by_cases e : k = i
    · subst e
      simp [hk, dn]
    · rw [if_neg e]
  · rw [List.set_eq_of_length_le (by omega)]
set_option maxRecDepth 100000 in
set_option maxHeartbeats 8000000 in
theorem chooseE {w0 w : World} {T : List Res} {bf bl bs bk bo ga gs gk : Nat} {A : Option Addr} {n c : Nat} {ns : List (Int × Int)} {t : Tr} {l : List Rn} {s : List D} {sl : List Int} {kl : List Kd} {H Dg : List Nat} {es : List Ent} {M : Int} (hS : St w0 w (blk bf [.slice (some ⟨ga, 0, none⟩) n n] :: blk bl [.slice A n c] :: blk bs [.slice (some ⟨gs, 0, none⟩) n n] :: blk bk [.slice (some ⟨gk, 0, none⟩) n n] :: blk bo [.func (.func 144) #[] #[.pointer (some ⟨bf, 0, none⟩), .pointer (some ⟨bl, 0, none⟩), .pointer (some ⟨bs, 0, none⟩)]] :: vec 196 6 (.slice (some ⟨ga, 0, none⟩) n n) n (l.flatMap cX) :: subs 3 1 (l.map Rn.wV) :: vec 2 1 (.slice (some ⟨gs, 0, none⟩) n n) n (cI sl) :: vec 79 1 (.slice (some ⟨gk, 0, none⟩) n n) n (kl.flatMap cK) :: subs 3 1 (kl.map Kd.kV) :: bag H Dg es :: T)) (hr : Rd w0 A (ns.flatMap c2)) (hnl : ns.length = n) (ht : t = trOf ns) (g : t.Good) (hn : t.n = n) (hrel : RelT es t l s) (hsl : SumsAt t t.n sl) (hbd : Bd M s) (hkl : KidsAt t t.n kl) (hM : M ≤ 79000000000000) {k : Nat} (hk : k < t.n) :
    Calls Try.prog 145 #[(.int .i64 ((k : Int))), .pointer (some ⟨bf, 0, none⟩), .pointer (some ⟨bk, 0, none⟩), .pointer (some ⟨bo, 0, none⟩)] w fun e w' => ∃ q : List Rn × List Nat × List Nat × List Ent, (Ext es q.2.2.2 ∧ RelT q.2.2.2 t q.1 (pick t s k (decide (¬ (dn s k).bytes = 0)))) ∧ e = .returned (.tuple #[]) ∧ St w0 w' (blk bf [.slice (some ⟨ga, 0, none⟩) n n] :: blk bl [.slice A n c] :: blk bs [.slice (some ⟨gs, 0, none⟩) n n] :: blk bk [.slice (some ⟨gk, 0, none⟩) n n] :: blk bo [.func (.func 144) #[] #[.pointer (some ⟨bf, 0, none⟩), .pointer (some ⟨bl, 0, none⟩), .pointer (some ⟨bs, 0, none⟩)]] :: vec 196 6 (.slice (some ⟨ga, 0, none⟩) n n) n (q.1.flatMap cX) :: subs 3 1 (q.1.map Rn.wV) :: vec 2 1 (.slice (some ⟨gs, 0, none⟩) n n) n (cI sl) :: vec 79 1 (.slice (some ⟨gk, 0, none⟩) n n) n (kl.flatMap cK) :: subs 3 1 (kl.map Kd.kV) :: bag q.2.1 q.2.2.1 q.2.2.2 :: T) := by
  have hlln : l.length = n := by rw [hrel.len, hn]
  have hkn : k < n := by omega
  have hR := hrel.at_ k hk
  have hRb := hR.bytes
  have hsll : sl.length = n := by rw [hsl.len, hn]
  have hn16 := g.n16
  have hkm := kids_len (t := t) (k := k)
  have hkln : kl.length = n := by rw [hkl.len, hn]
  have hks : (kl.getD k Kd.nil).ks = kI (t.kids k) := hkl.at_ k hk
  have hkll : (kl.getD k Kd.nil).ks.length = (t.kids k).length := by rw [hks, kI_len]
  obtain ⟨bt1, bt2, bt3, bt4, _⟩ := hbd k
  refine calls_tr Try.func145 Try.ntmps145 rfl rfl hS ?_
  refine tr_seq ?_
  refine tr_region ?_
  refine tl_step rfl (oj_val (y_ldb 0 Try.isAgg192 (fe_t rfl) rfl rfl) ?_)
  refine tl_step rfl (oj_val (y_move (fe_t rfl)) ?_)
  refine tl_step rfl (oj_val (y_index Try.underlying192 Try.sizeOf196 (fe_t rfl) (fe_t rfl) (rdl_vec 5 rfl) (by rw [flat_len hcX]; omega) (by decide) (by omega) rfl) ?_)
  refine tl_step rfl (oj_val (y_assign (fe_t rfl)) ?_)
  refine tl_nil ?_
  refine tx_then ?_
  refine tr_seq ?_
  refine tr_region ?_
  refine tl_step rfl (oj_val (y_assign fe_c) ?_)
  refine tl_step rfl (oj_val (y_assign fe_c) ?_)
  refine tl_nil ?_
  refine tx_then ?_
  refine tr_seq ?_
  refine tr_seq ?_
  refine tr_region ?_
  refine tl_step rfl (oj_val (y_ldb 3 Try.isAgg193 (fe_t rfl) rfl rfl) ?_)
  refine tl_step rfl (oj_val (y_move (fe_t rfl)) ?_)
  refine tl_step rfl (oj_val (y_index Try.underlying193 Try.sizeOf79 (fe_t rfl) (fe_t rfl) (rdl_vec 8 rfl) (by rw [flat_len hcK]; omega) (by decide) (by omega) rfl) ?_)
  refine tl_step rfl (oj_val (y_ld Try.isAgg79 (fe_t rfl) (rdl_vec 8 rfl) (flatG (d := Kd.nil) (i := 0) hcK (by omega) rfl)) ?_)
  refine tl_step rfl (oj_val (y_len Try.underlying79 (fe_t rfl)) ?_)
  refine tl_step rfl (oj_val (y_move fe_c) ?_)
  refine tl_nil ?_
  refine tx_then ?_
  refine tr_block ?_
  refine tr_loop4 [6, 9, 20, 21, 22, 23, 24, 25, 26, 27, 28, 29, 30, 31, 32, 33, 34, 35, 36, 37, 38, 39, 40, 41, 42, 43, 44, 45, 46, 47, 48, 49] (fun (j : Nat) (z : Int) (Hx : List Nat) (Dx : List Nat) => [(20, .int .i64 (j : Int)), (6, .int .i64 (kidv t k z))]) 0 (fun (j : Nat) (z : Int) (Hx : List Nat) (Dx : List Nat) => [(10, bag Hx Dx es)]) (fun (j : Nat) (z : Int) (Hx : List Nat) (Dx : List Nat) => j ≤ (t.kids k).length ∧ Sb (kq s (t.kids k)) j z) (fun (j : Nat) (z : Int) (Hx : List Nat) (Dx : List Nat) => (t.kids k).length - j) (0) (-1) (_) (_) (cov_cons (by first | rfl | exact v_int (by omega) | exact v_int (by dsimp only; omega) | exact v_int (by rw [hvc, kidv_nat, hcc])) (cov_cons (by first | rfl | exact v_int (by omega) | exact v_int (by dsimp only; omega) | exact v_int (by rw [hvc, kidv_nat, hcc])) (cov_nil))) (fun w h => h) ?_ ?_
  · try dsimp only
    exact ⟨by omega, sb_zero _⟩
  intro j z Hx Dx hp
  obtain ⟨hj, hb⟩ := hp
  have hbc := hb.cases
  have hkvz := kidv_neg (t := t) (k := k) (y := z)
  refine tr_seq ?_
  refine tr_region ?_
  refine tl_step rfl (oj_val (y_lss (fe_t rfl) (fe_t rfl)) ?_)
  refine tl_nil ?_
  refine tx_then ?_
  refine tr_seq ?_
  refine tr_condp (fe_t rfl) (fun hq1 => ?_) (fun hq2 => ?_)
  · try (exfalso; omega)
    all_goals
      refine tr_skip ?_
      refine tx_then ?_
      refine tr_seq ?_
      refine tr_block ?_
      refine tr_seq ?_
      refine tr_region ?_
      refine tl_step rfl (oj_val (y_index Try.underlying79 Try.sizeOf3 (fe_t rfl) (fe_t rfl) (subG (f := Kd.kV) (d := Kd.nil) 9 rfl (by omega)) (by simp [Kd.kV, cI]) (by decide) (by omega) (Nat.mul_one _)) ?_)
      refine tl_step rfl (oj_val (y_ld Try.isAgg3 (fe_t rfl) (subG (f := Kd.kV) (d := Kd.nil) 9 rfl (by omega)) (getC (by omega))) ?_)
      refine tl_step rfl (oj_val (y_assign (fe_t rfl)) ?_)
      refine tl_nil ?_
      refine tx_then ?_
      refine tr_seq ?_
      obtain ⟨c, hcc⟩ : ∃ c : Nat, c = (t.kids k).getD j 0 := ⟨_, rfl⟩
      have hvc : (kl.getD k Kd.nil).ks.getD j 0 = (c : Int) := by rw [hks, kI_at (by omega), hcc]
      have hnc : c < t.n := by rw [hcc, E.getD_lt (by omega)]; exact (mem_kids.1 (List.getElem_mem _)).1
      have hnec : c ≠ k := by rw [hcc, E.getD_lt (by omega)]; exact kid_ne g (List.getElem_mem _)
      obtain ⟨hpc, hgc, hec⟩ := kq_facts (s := s) (by omega : j < (t.kids k).length) hcc
      obtain ⟨hxc1, hxc2, hxc3, _, _⟩ := hbd c
      have hRc := hrel.at_ c hnc
      have hRcb := hRc.bytes
      have hza := kidv_at (s := s) (t := t) (k := k) (y := z)
      have hzb := kidv_bg (s := s) (t := t) (k := k) (y := z)
      have hz2 : z < 0 ∨ (0 ≤ kidv t k z ∧ kidv t k z < t.n ∧ (gq (kq s (t.kids k)) z.toNat).bg = (dn s (kidv t k z).toNat).bg) := by
        by_cases h0 : z < 0
        · exact .inl h0
        · have h := hza (by omega) (by omega)
          exact .inr ⟨h.1, h.2.1, hzb (by omega) (by omega)⟩
      have hbz := (hbd (kidv t k z).toNat).2.1
      clear hza hzb
      refine tb_draw1 24 [_, _, _, _, _, _, _, _, _, _, _] [_, _, _, _, _, _, _, _, _, _] (fun w h => h.pick [0, 1, 2, 3, 4, 5, 6, 7, 8, 9, 10] _ rfl (by decide)) (fun w h => h.pick [0, 1, 2, 3, 4, 5, 6, 7, 8, 9] _ rfl (by decide)) rfl ?_
      refine tb_float (i := 0) rfl (by kernel_rfl) rfl (wants_none rfl) (yq_of (y_ldb 0 Try.isAgg192 (fe_t rfl) rfl rfl)) ?_
      refine tb_float (i := 1) rfl (by kernel_rfl) rfl (wants_none rfl) (yq_of (y_move (fe_t rfl))) ?_
      refine tb_float (i := 2) rfl (by kernel_rfl) rfl (wants_none rfl) (yq_of (y_index Try.underlying192 Try.sizeOf196 (fe_t rfl) (fe_i hvc rfl) (rdl_vec 5 rfl) (by rw [flat_len hcX]; omega) (by decide) (by omega) rfl)) ?_
      refine tb_float (i := 3) rfl (by kernel_rfl) rfl (wants_none rfl) (yq_of (y_fieldAddrE (td := 3) Try.underlying196 rfl rfl Try.sizeOf3 rfl (fe_t rfl) (rdl_vec 5 rfl) (by rw [flat_len hcX]; omega))) ?_
      refine tb_float (i := 4) rfl (by kernel_rfl) rfl (wants_none rfl) (yq_of (y_ld Try.isAgg3 (fe_t rfl) (rdl_vec 5 rfl) (flatG (d := Rn.nil) (i := 1) hcX (by omega) rfl))) ?_
      refine tb_float (i := 5) rfl (by kernel_rfl) rfl (wants_none rfl) (yq_of (y_gtr (fe_t rfl) fe_c)) ?_
      refine tb_float (i := 6) rfl (by kernel_rfl) rfl (wants_none rfl) (yq_of (y_move (fe_t rfl))) ?_
      refine tb_splitp (d := 30) rfl (fun hq3 => ?_) (fun hq4 => ?_)
      · try (exfalso; omega)
        all_goals
          refine tb_float (i := 7) rfl (by kernel_rfl) rfl (wants_t rfl rfl rfl) (yq_of (y_move (fe_t rfl))) ?_
          refine tb_float (i := 8) rfl (by kernel_rfl) rfl (wants_t rfl rfl rfl) (yq_of (y_lss (fe_t rfl) fe_c)) ?_
          refine tb_float (i := 9) rfl (by kernel_rfl) rfl (wants_t rfl rfl rfl) (yq_of (y_move (fe_t rfl))) ?_
          refine tb_splitp (d := 33) rfl (fun hq5 => ?_) (fun hq6 => ?_)
          · try (exfalso; omega)
            all_goals
              refine tb_skip (i := 10) rfl (by kernel_rfl) rfl (wants_f rfl rfl rfl rfl) ?_
              refine tb_skip (i := 11) rfl (by kernel_rfl) rfl (wants_f rfl rfl rfl rfl) ?_
              refine tb_skip (i := 12) rfl (by kernel_rfl) rfl (wants_f rfl rfl rfl rfl) ?_
              refine tb_skip (i := 13) rfl (by kernel_rfl) rfl (wants_f rfl rfl rfl rfl) ?_
              refine tb_skip (i := 14) rfl (by kernel_rfl) rfl (wants_f rfl rfl rfl rfl) ?_
              refine tb_skip (i := 15) rfl (by kernel_rfl) rfl (wants_f rfl rfl rfl rfl) ?_
              refine tb_skip (i := 16) rfl (by kernel_rfl) rfl (wants_f rfl rfl rfl rfl) ?_
              refine tb_skip (i := 17) rfl (by kernel_rfl) rfl (wants_f rfl rfl rfl rfl) ?_
              refine tb_skip (i := 18) rfl (by kernel_rfl) rfl (wants_f rfl rfl rfl rfl) ?_
              refine tb_skip (i := 19) rfl (by kernel_rfl) rfl (wants_f rfl rfl rfl rfl) ?_
              refine tb_skip (i := 20) rfl (by kernel_rfl) rfl (wants_f rfl rfl rfl rfl) ?_
              refine tb_skip (i := 21) rfl (by kernel_rfl) rfl (wants_f rfl rfl rfl rfl) ?_
              refine tb_float (i := 22) rfl (by kernel_rfl) rfl (wants_t rfl rfl rfl) (yq_of (y_pickt (fe_t rfl) fe_c)) ?_
              refine tb_float (i := 23) rfl (by kernel_rfl) rfl (wants_none rfl) (yq_of (y_pickt (fe_t rfl) (fe_t rfl))) ?_
              refine tb_done (by kernel_rfl) ?_
              refine tx_then ?_
              refine tr_condt (fe_t rfl) ?_
              refine tr_region ?_
              refine tl_step rfl (oj_val (y_move (fe_t rfl)) ?_)
              refine tl_step rfl (oj_val (y_assign (fe_t rfl)) ?_)
              refine tl_nil ?_
              refine tx_in ?_
              refine tx_then ?_
              refine tr_region ?_
              refine tl_step rfl (oj_val (y_inc (fe_t rfl) fe_c (by omega)) ?_)
              refine tl_step rfl (oj_val (y_move (fe_t rfl)) ?_)
              refine tl_nil ?_
              apply tx_back4 (j + 1) ((j : Int)) (_) (_)
              · exact (cov_cons (by first | rfl | exact v_int (by omega) | exact v_int (by dsimp only; omega) | exact v_int (by rw [hvc, kidv_nat, hcc])) (cov_cons (by first | rfl | exact v_int (by omega) | exact v_int (by dsimp only; omega) | exact v_int (by rw [hvc, kidv_nat, hcc])) (cov_nil)))
              · repeat (first | exact over_nil | refine over_put rfl ?_ | refine over_drop rfl ?_)
              · exact fun w h => h
              · first
                  | exact ⟨⟨by omega, hb.take (by omega) (by omega)⟩, by omega⟩
                  | exact ⟨⟨by omega, hb.skip (by omega)⟩, by omega⟩
                  | exact ⟨⟨by omega, hb.keep (by omega) (by omega)⟩, by omega⟩
          · try (exfalso; omega)
            all_goals
              refine tb_float (i := 10) rfl (by kernel_rfl) rfl (wants_t rfl rfl rfl) (yq_of (y_ldb 0 Try.isAgg192 (fe_t rfl) rfl rfl)) ?_
              refine tb_float (i := 11) rfl (by kernel_rfl) rfl (wants_t rfl rfl rfl) (yq_of (y_move (fe_t rfl))) ?_
              refine tb_float (i := 12) rfl (by kernel_rfl) rfl (wants_t rfl rfl rfl) (yq_of (y_index Try.underlying192 Try.sizeOf196 (fe_t rfl) (fe_i hvc rfl) (rdl_vec 5 rfl) (by rw [flat_len hcX]; omega) (by decide) (by omega) rfl)) ?_
              refine tb_float (i := 13) rfl (by kernel_rfl) rfl (wants_t rfl rfl rfl) (yq_of (y_fieldAddrE (td := 30) Try.underlying196 rfl rfl Try.sizeOf30 rfl (fe_t rfl) (rdl_vec 5 rfl) (by rw [flat_len hcX]; omega))) ?_
              refine tb_float (i := 14) rfl (by kernel_rfl) rfl (wants_t rfl rfl rfl) (yq_of (y_ld Try.isAgg30 (fe_t rfl) (rdl_vec 5 rfl) (flatG (d := Rn.nil) (i := 2) hcX (by omega) rfl))) ?_
              refine tb_float (i := 15) rfl (by kernel_rfl) rfl (wants_t rfl rfl rfl) (yq_of (y_ldb 0 Try.isAgg192 (fe_t rfl) rfl rfl)) ?_
              refine tb_float (i := 16) rfl (by kernel_rfl) rfl (wants_t rfl rfl rfl) (yq_of (y_move (fe_t rfl))) ?_
              refine tb_float (i := 17) rfl (by kernel_rfl) rfl (wants_t rfl rfl rfl) (yq_of (y_indexI Try.underlying192 Try.sizeOf196 (fe_t rfl) (fe_t rfl) (rdl_vec 5 rfl) (by rw [flat_len hcX]; omega) (by decide) (by omega) (by omega) rfl)) ?_
              refine tb_float (i := 18) rfl (by kernel_rfl) rfl (wants_t rfl rfl rfl) (yq_of (y_fieldAddrE (td := 30) Try.underlying196 rfl rfl Try.sizeOf30 rfl (fe_t rfl) (rdl_vec 5 rfl) (by rw [flat_len hcX]; omega))) ?_
              refine tb_float (i := 19) rfl (by kernel_rfl) rfl (wants_t rfl rfl rfl) (yq_of (y_ld Try.isAgg30 (fe_t rfl) (rdl_vec 5 rfl) (flatG (d := Rn.nil) (i := 2) hcX (by omega) rfl))) ?_
              refine tb_one2 (i := 20) rfl (by kernel_rfl) (by kernel_rfl) (wants_t rfl rfl rfl) (oj_call2 Try.call24 fe_f (fel_cons (fe_t rfl) (fel_cons (fe_t rfl) fel_nil)) (fun w' hS => lift 10 hS rfl (fun T hS => cmpW hS hRc.bg (hrel.at_ (kidv t k z).toNat (by omega)).bg (by omega) (by omega))) (fun rc1 hrc1 => ⟨fun w h => h.pick [0, 1, 2, 3, 4, 5, 6, 7, 8, 9] _ rfl (by decide), ?_⟩))
              refine tb_float (i := 21) rfl (by kernel_rfl) rfl (wants_t rfl rfl rfl) (yq_of (y_lss (fe_t rfl) fe_c)) ?_
              refine tb_float (i := 22) rfl (by kernel_rfl) rfl (wants_t rfl rfl rfl) (yq_of (y_pickf (fe_t rfl) (fe_t rfl))) ?_
              refine tb_float (i := 23) rfl (by kernel_rfl) rfl (wants_none rfl) (yq_of (y_pickt (fe_t rfl) (fe_t rfl))) ?_
              refine tb_done (by kernel_rfl) ?_
              refine tx_then ?_
              refine tr_condp (fe_t rfl) (fun hq7 => ?_) (fun hq8 => ?_)
              · try (exfalso; omega)
                all_goals
                  refine tr_region ?_
                  refine tl_step rfl (oj_val (y_move (fe_t rfl)) ?_)
                  refine tl_step rfl (oj_val (y_assign (fe_t rfl)) ?_)
                  refine tl_nil ?_
                  refine tx_in ?_
                  refine tx_then ?_
                  refine tr_region ?_
                  refine tl_step rfl (oj_val (y_inc (fe_t rfl) fe_c (by omega)) ?_)
                  refine tl_step rfl (oj_val (y_move (fe_t rfl)) ?_)
                  refine tl_nil ?_
                  apply tx_back4 (j + 1) ((j : Int)) (_) (_)
                  · exact (cov_cons (by first | rfl | exact v_int (by omega) | exact v_int (by dsimp only; omega) | exact v_int (by rw [hvc, kidv_nat, hcc])) (cov_cons (by first | rfl | exact v_int (by omega) | exact v_int (by dsimp only; omega) | exact v_int (by rw [hvc, kidv_nat, hcc])) (cov_nil)))
                  · repeat (first | exact over_nil | refine over_put rfl ?_ | refine over_drop rfl ?_)
                  · exact fun w h => h
                  · first
                      | exact ⟨⟨by omega, hb.take (by omega) (by omega)⟩, by omega⟩
                      | exact ⟨⟨by omega, hb.skip (by omega)⟩, by omega⟩
                      | exact ⟨⟨by omega, hb.keep (by omega) (by omega)⟩, by omega⟩
              · try (exfalso; omega)
                all_goals
                  refine tr_skip ?_
                  refine tx_in ?_
                  refine tx_then ?_
                  refine tr_region ?_
                  refine tl_step rfl (oj_val (y_inc (fe_t rfl) fe_c (by omega)) ?_)
                  refine tl_step rfl (oj_val (y_move (fe_t rfl)) ?_)
                  refine tl_nil ?_
                  apply tx_back4 (j + 1) (z) (_) (_)
                  · exact (cov_cons (by first | rfl | exact v_int (by omega) | exact v_int (by dsimp only; omega) | exact v_int (by rw [hvc, kidv_nat, hcc])) (cov_cons (by first | rfl | exact v_int (by omega) | exact v_int (by dsimp only; omega) | exact v_int (by rw [hvc, kidv_nat, hcc])) (cov_nil)))
                  · repeat (first | exact over_nil | refine over_put rfl ?_ | refine over_drop rfl ?_)
                  · exact fun w h => h
                  · first
                      | exact ⟨⟨by omega, hb.take (by omega) (by omega)⟩, by omega⟩
                      | exact ⟨⟨by omega, hb.skip (by omega)⟩, by omega⟩
                      | exact ⟨⟨by omega, hb.keep (by omega) (by omega)⟩, by omega⟩
      · try (exfalso; omega)
        all_goals
          refine tb_skip (i := 7) rfl (by kernel_rfl) rfl (wants_f rfl rfl rfl rfl) ?_
          refine tb_skip (i := 8) rfl (by kernel_rfl) rfl (wants_f rfl rfl rfl rfl) ?_
          refine tb_skip (i := 9) rfl (by kernel_rfl) rfl (wants_f rfl rfl rfl rfl) ?_
          refine tb_skip (i := 10) rfl (by kernel_rfl) rfl (wants_undef rfl rfl rfl) ?_
          refine tb_skip (i := 11) rfl (by kernel_rfl) rfl (wants_undef rfl rfl rfl) ?_
          refine tb_skip (i := 12) rfl (by kernel_rfl) rfl (wants_undef rfl rfl rfl) ?_
          refine tb_skip (i := 13) rfl (by kernel_rfl) rfl (wants_undef rfl rfl rfl) ?_
          refine tb_skip (i := 14) rfl (by kernel_rfl) rfl (wants_undef rfl rfl rfl) ?_
          refine tb_skip (i := 15) rfl (by kernel_rfl) rfl (wants_undef rfl rfl rfl) ?_
          refine tb_skip (i := 16) rfl (by kernel_rfl) rfl (wants_undef rfl rfl rfl) ?_
          refine tb_skip (i := 17) rfl (by kernel_rfl) rfl (wants_undef rfl rfl rfl) ?_
          refine tb_skip (i := 18) rfl (by kernel_rfl) rfl (wants_undef rfl rfl rfl) ?_
          refine tb_skip (i := 19) rfl (by kernel_rfl) rfl (wants_undef rfl rfl rfl) ?_
          refine tb_skip (i := 20) rfl (by kernel_rfl) rfl (wants_undef rfl rfl rfl) ?_
          refine tb_skip (i := 21) rfl (by kernel_rfl) rfl (wants_undef rfl rfl rfl) ?_
          refine tb_skip (i := 22) rfl (by kernel_rfl) rfl (wants_f rfl rfl rfl rfl) ?_
          refine tb_float (i := 23) rfl (by kernel_rfl) rfl (wants_none rfl) (yq_of (y_pickf (fe_t rfl) fe_c)) ?_
          refine tb_done (by kernel_rfl) ?_
          refine tx_then ?_
          refine tr_condf (fe_t rfl) ?_
          refine tr_skip ?_
          refine tx_in ?_
          refine tx_then ?_
          refine tr_region ?_
          refine tl_step rfl (oj_val (y_inc (fe_t rfl) fe_c (by omega)) ?_)
          refine tl_step rfl (oj_val (y_move (fe_t rfl)) ?_)
          refine tl_nil ?_
          apply tx_back4 (j + 1) (z) (_) (_)
          · exact (cov_cons (by first | rfl | exact v_int (by omega) | exact v_int (by dsimp only; omega) | exact v_int (by rw [hvc, kidv_nat, hcc])) (cov_cons (by first | rfl | exact v_int (by omega) | exact v_int (by dsimp only; omega) | exact v_int (by rw [hvc, kidv_nat, hcc])) (cov_nil)))
          · repeat (first | exact over_nil | refine over_put rfl ?_ | refine over_drop rfl ?_)
          · exact fun w h => h
          · first
              | exact ⟨⟨by omega, hb.take (by omega) (by omega)⟩, by omega⟩
              | exact ⟨⟨by omega, hb.skip (by omega)⟩, by omega⟩
              | exact ⟨⟨by omega, hb.keep (by omega) (by omega)⟩, by omega⟩
  · try (exfalso; omega)
    all_goals
      refine tr_exit ?_
      refine tx_then_exit ?_
      refine tx_then_exit ?_
      refine tx_in_exit ?_
      refine tx_then ?_
      refine tr_seq ?_
      refine tr_seq ?_
      refine tr_region ?_
      refine tl_step rfl (oj_val (y_move (fe_t rfl)) ?_)
      refine tl_step rfl (oj_val (y_lss (fe_t rfl) fe_c) ?_)
      refine tl_nil ?_
      refine tx_then ?_
      refine tr_condp (fe_t rfl) (fun hq9 => ?_) (fun hq10 => ?_)
      · try (exfalso; omega)
        all_goals
          refine tr_seq ?_
          refine tr_region ?_
          refine tl_step rfl (oj_val (y_move (fe_t rfl)) ?_)
          refine tl_step rfl (oj_val (y_nilCheckE (fe_t rfl) (rdl_vec 5 rfl) (by rw [flat_len hcX]; omega)) ?_)
          refine tl_step rfl (oj_val (y_fieldAddrE (td := 3) Try.underlying196 rfl rfl Try.sizeOf3 rfl (fe_t rfl) (rdl_vec 5 rfl) (by rw [flat_len hcX]; omega)) ?_)
          refine tl_step rfl (oj_storeG (i := 5) Rn.nil (⟨(l.getD k Rn.nil).leaf, 0, (l.getD k Rn.nil).pb, (l.getD k Rn.nil).pe, (l.getD k Rn.nil).pt, (l.getD k Rn.nil).wA, (l.getD k Rn.nil).wc, (l.getD k Rn.nil).ws⟩ : Rn) hcX Try.sizeOf3 (fe_t rfl) fe_c rfl rfl rfl (by (try rw [List.length_set]); omega) rfl (rfl) (?_))
          refine tl_nil ?_
          refine tx_then ?_
          refine tr_ret ?_
          refine tx_then_ret ?_
          refine tx_ret (res0 Try.results145 ) (fun w' hS => ?_)
          have h1 := pickT (l := [_, _, _, _, _, _, _, _, _, _, _]) hS [0, 1, 2, 3, 4, 5, 6, 7, 8, 9, 10] rfl (by decide)
          have h2 : St w0 w' (blk bf [.slice (some ⟨ga, 0, none⟩) n n] :: blk bl [.slice A n c] :: blk bs [.slice (some ⟨gs, 0, none⟩) n n] :: blk bk [.slice (some ⟨gk, 0, none⟩) n n] :: blk bo [.func (.func 144) #[] #[.pointer (some ⟨bf, 0, none⟩), .pointer (some ⟨bl, 0, none⟩), .pointer (some ⟨bs, 0, none⟩)]] :: vec 196 6 (.slice (some ⟨ga, 0, none⟩) n n) n ((l.set k (⟨(l.getD k Rn.nil).leaf, 0, (l.getD k Rn.nil).pb, (l.getD k Rn.nil).pe, (l.getD k Rn.nil).pt, (l.getD k Rn.nil).wA, (l.getD k Rn.nil).wc, (l.getD k Rn.nil).ws⟩ : Rn)).flatMap cX) :: subs 3 1 (l.map Rn.wV) :: vec 2 1 (.slice (some ⟨gs, 0, none⟩) n n) n (cI sl) :: vec 79 1 (.slice (some ⟨gk, 0, none⟩) n n) n (kl.flatMap cK) :: subs 3 1 (kl.map Kd.kV) :: bag _ _ _ :: T) := h1
          rw [show l.map Rn.wV = (l.set k (⟨(l.getD k Rn.nil).leaf, 0, (l.getD k Rn.nil).pb, (l.getD k Rn.nil).pe, (l.getD k Rn.nil).pt, (l.getD k Rn.nil).wA, (l.getD k Rn.nil).wc, (l.getD k Rn.nil).ws⟩ : Rn)).map Rn.wV from (xV_same (l1 := l.set k (⟨(l.getD k Rn.nil).leaf, 0, (l.getD k Rn.nil).pb, (l.getD k Rn.nil).pe, (l.getD k Rn.nil).pt, (l.getD k Rn.nil).wA, (l.getD k Rn.nil).wc, (l.getD k Rn.nil).ws⟩ : Rn)) rfl rfl).symm] at h2
          refine ⟨(l.set k (⟨(l.getD k Rn.nil).leaf, 0, (l.getD k Rn.nil).pb, (l.getD k Rn.nil).pe, (l.getD k Rn.nil).pt, (l.getD k Rn.nil).wA, (l.getD k Rn.nil).wc, (l.getD k Rn.nil).ws⟩ : Rn), _, _, _), ⟨Ext.rfl, ?_⟩, rfl, h2⟩
          dsimp only
          rw [(Pick.none (ag := (decide (¬ (dn s k).bytes = 0))) (sb_none (show j = (t.kids k).length by omega) hb (by omega))).eq]
          exact hrel.set rfl hk ⟨hR.leaf, rfl, hR.ws, hR.bg, hR.en, hR.tm⟩
      · try (exfalso; omega)
        all_goals
          have hj2 : j = (t.kids k).length := by omega
          obtain ⟨a, ha⟩ : ∃ a : Nat, kidv t k z = a := ⟨(kidv t k z).toNat, by omega⟩
          have hza := kidv_at (s := s) (t := t) (k := k) (y := z) (by omega) (by omega)
          have hzb := kidv_bg (s := s) (t := t) (k := k) (y := z) (by omega) (by omega)
          rw [ha, Int.toNat_natCast] at hza hzb
          have han : a < t.n := by omega
          have hak : a ≠ k := kid_ne g hza.2.2.1
          have hL : Least (kq s (t.kids k)) (t.kids k).length (dn s a).bg := by have h := Sb.least (hj2 ▸ hb) (by omega); rw [hzb] at h; exact h
          have hba := (hbd a).2.1
          have hRa := hrel.at_ a han
          refine tr_skip ?_
          refine tx_then ?_
          refine tr_cut3 [55, 56, 57, 58, 59, 60, 61, 62, 63, 64, 65, 66, 67, 68, 69, 70, 71, 72, 73] (fun (l1 : List Rn) (Hx : List Nat) (Dx : List Nat) => []) 0 (fun (l1 : List Rn) (Hx : List Nat) (Dx : List Nat) => [(5, vec 196 6 (.slice (some ⟨ga, 0, none⟩) n n) n (l1.flatMap cX)), (10, bag Hx Dx es)]) (fun (l1 : List Rn) (Hx : List Nat) (Dx : List Nat) => RelT es t l1 (s.set k { dn s k with tm := (max (dn s k).tm (dn s a).bg) }) ∧ l1.map Rn.wV = l.map Rn.wV) ?_ ?_
          · refine tr_seq ?_
            refine tb_draw1 11 [_, _, _, _, _, _, _, _, _, _, _] [_, _, _, _, _, _, _, _, _, _] (fun w h => h.pick [0, 1, 2, 3, 4, 5, 6, 7, 8, 9, 10] _ rfl (by decide)) (fun w h => h.pick [0, 1, 2, 3, 4, 5, 6, 7, 8, 9] _ rfl (by decide)) rfl ?_
            refine tb_float (i := 0) rfl (by kernel_rfl) rfl (wants_none rfl) (yq_of (y_ldb 0 Try.isAgg192 (fe_t rfl) rfl rfl)) ?_
            refine tb_float (i := 1) rfl (by kernel_rfl) rfl (wants_none rfl) (yq_of (y_move (fe_t rfl))) ?_
            refine tb_float (i := 2) rfl (by kernel_rfl) rfl (wants_none rfl) (yq_of (y_index Try.underlying192 Try.sizeOf196 (fe_t rfl) (fe_i ha rfl) (rdl_vec 5 rfl) (by rw [flat_len hcX]; omega) (by decide) (by omega) rfl)) ?_
            refine tb_float (i := 3) rfl (by kernel_rfl) rfl (wants_none rfl) (yq_of (y_fieldAddrE (td := 30) Try.underlying196 rfl rfl Try.sizeOf30 rfl (fe_t rfl) (rdl_vec 5 rfl) (by rw [flat_len hcX]; omega))) ?_
            refine tb_float (i := 4) rfl (by kernel_rfl) rfl (wants_none rfl) (yq_of (y_ld Try.isAgg30 (fe_t rfl) (rdl_vec 5 rfl) (flatG (d := Rn.nil) (i := 2) hcX (by omega) rfl))) ?_
            refine tb_float (i := 5) rfl (by kernel_rfl) rfl (wants_none rfl) (yq_of (y_move (fe_t rfl))) ?_
            refine tb_float (i := 6) rfl (by kernel_rfl) rfl (wants_none rfl) (yq_of (y_nilCheckE (fe_t rfl) (rdl_vec 5 rfl) (by rw [flat_len hcX]; omega))) ?_
            refine tb_float (i := 7) rfl (by kernel_rfl) rfl (wants_none rfl) (yq_of (y_fieldAddrE (td := 30) Try.underlying196 rfl rfl Try.sizeOf30 rfl (fe_t rfl) (rdl_vec 5 rfl) (by rw [flat_len hcX]; omega))) ?_
            refine tb_float (i := 8) rfl (by kernel_rfl) rfl (wants_none rfl) (yq_of (y_ld Try.isAgg30 (fe_t rfl) (rdl_vec 5 rfl) (flatG (d := Rn.nil) (i := 4) hcX (by omega) rfl))) ?_
            refine tb_one2 (i := 9) rfl (by kernel_rfl) (by kernel_rfl) (wants_none rfl) (oj_call2 Try.call24 fe_f (fel_cons (fe_t rfl) (fel_cons (fe_t rfl) fel_nil)) (fun w' hS => lift 10 hS rfl (fun T hS => cmpW hS hRa.bg hR.tm (by omega) (by omega))) (fun rc2 hrc2 => ⟨fun w h => h.pick [0, 1, 2, 3, 4, 5, 6, 7, 8, 9] _ rfl (by decide), ?_⟩))
            refine tb_float (i := 10) rfl (by kernel_rfl) rfl (wants_none rfl) (yq_of (y_gtr (fe_t rfl) fe_c)) ?_
            refine tb_done (by kernel_rfl) ?_
            refine tx_then ?_
            refine tr_condp (fe_t rfl) (fun hq11 => ?_) (fun hq12 => ?_)
            · try (exfalso; omega)
              all_goals
                refine tr_region ?_
                refine tl_step rfl (oj_val (y_move (fe_t rfl)) ?_)
                refine tl_step rfl (oj_val (y_ldb 0 Try.isAgg192 (fe_t rfl) rfl rfl) ?_)
                refine tl_step rfl (oj_val (y_move (fe_t rfl)) ?_)
                refine tl_step rfl (oj_val (y_index Try.underlying192 Try.sizeOf196 (fe_t rfl) (fe_i ha rfl) (rdl_vec 5 rfl) (by rw [flat_len hcX]; omega) (by decide) (by omega) rfl) ?_)
                refine tl_step rfl (oj_val (y_fieldAddrE (td := 30) Try.underlying196 rfl rfl Try.sizeOf30 rfl (fe_t rfl) (rdl_vec 5 rfl) (by rw [flat_len hcX]; omega)) ?_)
                refine tl_step rfl (oj_val (y_ld Try.isAgg30 (fe_t rfl) (rdl_vec 5 rfl) (flatG (d := Rn.nil) (i := 2) hcX (by omega) rfl)) ?_)
                refine tl_step rfl (oj_val (y_nilCheckE (fe_t rfl) (rdl_vec 5 rfl) (by rw [flat_len hcX]; omega)) ?_)
                refine tl_step rfl (oj_val (y_fieldAddrE (td := 30) Try.underlying196 rfl rfl Try.sizeOf30 rfl (fe_t rfl) (rdl_vec 5 rfl) (by rw [flat_len hcX]; omega)) ?_)
                refine tl_step rfl (oj_storeG (i := 5) Rn.nil (⟨(l.getD k Rn.nil).leaf, (l.getD k Rn.nil).bytes, (l.getD k Rn.nil).pb, (l.getD k Rn.nil).pe, (l.getD a Rn.nil).pb, (l.getD k Rn.nil).wA, (l.getD k Rn.nil).wc, (l.getD k Rn.nil).ws⟩ : Rn) hcX Try.sizeOf30 (fe_t rfl) (fe_t rfl) rfl rfl rfl (by (try rw [List.length_set]); omega) rfl (rfl) (?_))
                refine tl_nil ?_
                apply tx_back3 (l.set k (⟨(l.getD k Rn.nil).leaf, (l.getD k Rn.nil).bytes, (l.getD k Rn.nil).pb, (l.getD k Rn.nil).pe, (l.getD a Rn.nil).pb, (l.getD k Rn.nil).wA, (l.getD k Rn.nil).wc, (l.getD k Rn.nil).ws⟩ : Rn)) (_) (_)
                · exact (cov_nil)
                · repeat (first | exact over_nil | refine over_put rfl ?_ | refine over_drop rfl ?_)
                · exact fun w h => h
                · exact ⟨hrel.set rfl hk ⟨hR.leaf, hR.bytes, hR.ws, hR.bg, hR.en, by dsimp only; rw [Int.max_eq_right (by omega)]; exact hRa.bg⟩, xV_same rfl rfl⟩
            · try (exfalso; omega)
              all_goals
                refine tr_skip ?_
                apply tx_back3 (l) (_) (_)
                · exact (cov_nil)
                · repeat (first | exact over_nil | refine over_put rfl ?_ | refine over_drop rfl ?_)
                · exact fun w h => h
                · exact ⟨hrel_as hrel (by rw [Int.max_eq_left (by omega)]; exact set_dn.symm), rfl⟩
          · intro l1 Hx Dx hp
            obtain ⟨hrel1, hl1v⟩ := hp
            refine tr_seq ?_
            refine tr_seq ?_
            refine tr_as (r' := subs 3 1 (l1.map Rn.wV)) 6 rfl (congrArg (subs _ _) hl1v.symm) ?_
            have hl1n : l1.length = n := by rw [hrel1.len, hn]
            have hsl1 : k < s.length := by rw [hrel.sen]; exact hk
            have hRk1 := hrel1.at_ k hk
            rw [dn_set hsl1, if_pos rfl] at hRk1
            have hTk : HoldR es (l1.getD k Rn.nil).pt (max (dn s k).tm (dn s a).bg) := hRk1.tm
            have hTb : 0 ≤ (max (dn s k).tm (dn s a).bg) ∧ (max (dn s k).tm (dn s a).bg) ≤ 100000000000000 := by omega
            have hR1 : ∀ j, j < t.n → j ≠ k → RelD es (l1.getD j Rn.nil) (dn s j) := fun j hj hjk => by have h := hrel1.at_ j hj; rw [dn_set hsl1, if_neg hjk] at h; exact h
            refine tr_region ?_
            refine tl_step rfl (oj_val (y_ldb 3 Try.isAgg193 (fe_t rfl) rfl rfl) ?_)
            refine tl_step rfl (oj_val (y_move (fe_t rfl)) ?_)
            refine tl_step rfl (oj_val (y_index Try.underlying193 Try.sizeOf79 (fe_t rfl) (fe_t rfl) (rdl_vec 8 rfl) (by rw [flat_len hcK]; omega) (by decide) (by omega) rfl) ?_)
            refine tl_step rfl (oj_val (y_ld Try.isAgg79 (fe_t rfl) (rdl_vec 8 rfl) (flatG (d := Kd.nil) (i := 0) hcK (by omega) rfl)) ?_)
            refine tl_step rfl (oj_val (y_len Try.underlying79 (fe_t rfl)) ?_)
            refine tl_step rfl (oj_val (y_move fe_c) ?_)
            refine tl_nil ?_
            refine tx_then ?_
            refine tr_block ?_
            refine tr_loop4 [7, 11, 79, 80, 81, 82, 83, 84, 85, 86, 87, 88, 89, 90, 91, 92, 93, 94, 95, 96, 97, 98, 99, 100, 101, 102, 103, 104, 105, 106, 107, 108, 109, 110, 111, 112, 113, 114, 115, 116, 117, 118, 119, 120, 121] (fun (i : Nat) (y : Int) (Hx : List Nat) (Dx : List Nat) => [(79, .int .i64 (i : Int)), (7, .int .i64 (kidv t k y))]) 0 (fun (i : Nat) (y : Int) (Hx : List Nat) (Dx : List Nat) => [(10, bag Hx Dx es)]) (fun (i : Nat) (y : Int) (Hx : List Nat) (Dx : List Nat) => i ≤ (t.kids k).length ∧ Mb (kq s (t.kids k)) (max (dn s k).tm (dn s a).bg) i y) (fun (i : Nat) (y : Int) (Hx : List Nat) (Dx : List Nat) => (t.kids k).length - i) (0) (-1) (_) (_) (cov_cons (by first | rfl | exact v_int (by omega) | exact v_int (by dsimp only; omega) | exact v_int (by rw [hvc, kidv_nat, hcc])) (cov_cons (by first | rfl | exact v_int (by omega) | exact v_int (by dsimp only; omega) | exact v_int (by rw [hvc, kidv_nat, hcc])) (cov_nil))) (fun w h => h) ?_ ?_
            · try dsimp only
              exact ⟨by omega, mb_zero _ _⟩
            intro i y Hx Dx hp
            obtain ⟨hi, hm⟩ := hp
            have hmc := hm.cases
            have hkvy := kidv_neg (t := t) (k := k) (y := y)
            refine tr_seq ?_
            refine tr_region ?_
            refine tl_step rfl (oj_val (y_lss (fe_t rfl) (fe_t rfl)) ?_)
            refine tl_nil ?_
            refine tx_then ?_
            refine tr_seq ?_
            refine tr_condp (fe_t rfl) (fun hq13 => ?_) (fun hq14 => ?_)
            · try (exfalso; omega)
              all_goals
                refine tr_skip ?_
                refine tx_then ?_
                refine tr_seq ?_
                refine tr_block ?_
                refine tr_seq ?_
                refine tr_region ?_
                refine tl_step rfl (oj_val (y_index Try.underlying79 Try.sizeOf3 (fe_t rfl) (fe_t rfl) (subG (f := Kd.kV) (d := Kd.nil) 9 rfl (by omega)) (by simp [Kd.kV, cI]) (by decide) (by omega) (Nat.mul_one _)) ?_)
                refine tl_step rfl (oj_val (y_ld Try.isAgg3 (fe_t rfl) (subG (f := Kd.kV) (d := Kd.nil) 9 rfl (by omega)) (getC (by omega))) ?_)
                refine tl_step rfl (oj_val (y_assign (fe_t rfl)) ?_)
                refine tl_nil ?_
                refine tx_then ?_
                refine tr_seq ?_
                obtain ⟨c, hcc⟩ : ∃ c : Nat, c = (t.kids k).getD i 0 := ⟨_, rfl⟩
                have hvc : (kl.getD k Kd.nil).ks.getD i 0 = (c : Int) := by rw [hks, kI_at (by omega), hcc]
                have hnc : c < t.n := by rw [hcc, E.getD_lt (by omega)]; exact (mem_kids.1 (List.getElem_mem _)).1
                have hnec : c ≠ k := by rw [hcc, E.getD_lt (by omega)]; exact kid_ne g (List.getElem_mem _)
                obtain ⟨hpc, hgc, hec⟩ := kq_facts (s := s) (by omega : i < (t.kids k).length) hcc
                obtain ⟨hxc1, hxc2, hxc3, _, _⟩ := hbd c
                have hRc := hR1 c hnc hnec
                have hRcb := hRc.bytes
                have hya := kidv_at (s := s) (t := t) (k := k) (y := y)
                have hy2 : y < 0 ∨ (0 ≤ kidv t k y ∧ kidv t k y < t.n ∧ (gq (kq s (t.kids k)) y.toNat).en = (dn s (kidv t k y).toNat).en) := by
                  by_cases h0 : y < 0
                  · exact .inl h0
                  · have h := hya (by omega) (by omega)
                    exact .inr ⟨h.1, h.2.1, h.2.2.2⟩
                have hby := (hbd (kidv t k y).toNat).2.2.1
                have hyk : 0 ≤ y → (kidv t k y).toNat ≠ k := fun h0 => kid_ne g (hya h0 (by omega)).2.2.1
                clear hya
                refine tb_draw1 37 [_, _, _, _, _, _, _, _, _, _, _] [_, _, _, _, _, _, _, _, _, _] (fun w h => h.pick [0, 1, 2, 3, 4, 5, 6, 7, 8, 9, 10] _ rfl (by decide)) (fun w h => h.pick [0, 1, 2, 3, 4, 5, 6, 7, 8, 9] _ rfl (by decide)) rfl ?_
                refine tb_float (i := 0) rfl (by kernel_rfl) rfl (wants_none rfl) (yq_of (y_ldb 0 Try.isAgg192 (fe_t rfl) rfl rfl)) ?_
                refine tb_float (i := 1) rfl (by kernel_rfl) rfl (wants_none rfl) (yq_of (y_move (fe_t rfl))) ?_
                refine tb_float (i := 2) rfl (by kernel_rfl) rfl (wants_none rfl) (yq_of (y_index Try.underlying192 Try.sizeOf196 (fe_t rfl) (fe_i hvc rfl) (rdl_vec 5 rfl) (by rw [flat_len hcX]; omega) (by decide) (by omega) rfl)) ?_
                refine tb_float (i := 3) rfl (by kernel_rfl) rfl (wants_none rfl) (yq_of (y_fieldAddrE (td := 3) Try.underlying196 rfl rfl Try.sizeOf3 rfl (fe_t rfl) (rdl_vec 5 rfl) (by rw [flat_len hcX]; omega))) ?_
                refine tb_float (i := 4) rfl (by kernel_rfl) rfl (wants_none rfl) (yq_of (y_ld Try.isAgg3 (fe_t rfl) (rdl_vec 5 rfl) (flatG (d := Rn.nil) (i := 1) hcX (by omega) rfl))) ?_
                refine tb_float (i := 5) rfl (by kernel_rfl) rfl (wants_none rfl) (yq_of (y_gtr (fe_t rfl) fe_c)) ?_
                refine tb_float (i := 6) rfl (by kernel_rfl) rfl (wants_none rfl) (yq_of (y_move (fe_t rfl))) ?_
                refine tb_splitp (d := 89) rfl (fun hq15 => ?_) (fun hq16 => ?_)
                · try (exfalso; omega)
                  all_goals
                    refine tb_float (i := 7) rfl (by kernel_rfl) rfl (wants_t rfl rfl rfl) (yq_of (y_ldb 0 Try.isAgg192 (fe_t rfl) rfl rfl)) ?_
                    refine tb_float (i := 8) rfl (by kernel_rfl) rfl (wants_t rfl rfl rfl) (yq_of (y_move (fe_t rfl))) ?_
                    refine tb_float (i := 9) rfl (by kernel_rfl) rfl (wants_t rfl rfl rfl) (yq_of (y_index Try.underlying192 Try.sizeOf196 (fe_t rfl) (fe_i hvc rfl) (rdl_vec 5 rfl) (by rw [flat_len hcX]; omega) (by decide) (by omega) rfl)) ?_
                    refine tb_float (i := 10) rfl (by kernel_rfl) rfl (wants_t rfl rfl rfl) (yq_of (y_fieldAddrE (td := 30) Try.underlying196 rfl rfl Try.sizeOf30 rfl (fe_t rfl) (rdl_vec 5 rfl) (by rw [flat_len hcX]; omega))) ?_
                    refine tb_float (i := 11) rfl (by kernel_rfl) rfl (wants_t rfl rfl rfl) (yq_of (y_ld Try.isAgg30 (fe_t rfl) (rdl_vec 5 rfl) (flatG (d := Rn.nil) (i := 2) hcX (by omega) rfl))) ?_
                    refine tb_float (i := 12) rfl (by kernel_rfl) rfl (wants_t rfl rfl rfl) (yq_of (y_move (fe_t rfl))) ?_
                    refine tb_float (i := 13) rfl (by kernel_rfl) rfl (wants_t rfl rfl rfl) (yq_of (y_nilCheckE (fe_t rfl) (rdl_vec 5 rfl) (by rw [flat_len hcX]; omega))) ?_
                    refine tb_float (i := 14) rfl (by kernel_rfl) rfl (wants_t rfl rfl rfl) (yq_of (y_fieldAddrE (td := 30) Try.underlying196 rfl rfl Try.sizeOf30 rfl (fe_t rfl) (rdl_vec 5 rfl) (by rw [flat_len hcX]; omega))) ?_
                    refine tb_float (i := 15) rfl (by kernel_rfl) rfl (wants_t rfl rfl rfl) (yq_of (y_ld Try.isAgg30 (fe_t rfl) (rdl_vec 5 rfl) (flatG (d := Rn.nil) (i := 4) hcX (by omega) rfl))) ?_
                    refine tb_one2 (i := 16) rfl (by kernel_rfl) (by kernel_rfl) (wants_t rfl rfl rfl) (oj_call2 Try.call24 fe_f (fel_cons (fe_t rfl) (fel_cons (fe_t rfl) fel_nil)) (fun w' hS => lift 10 hS rfl (fun T hS => cmpW hS hRc.bg hTk (by omega) (by omega))) (fun rc3 hrc3 => ⟨fun w h => h.pick [0, 1, 2, 3, 4, 5, 6, 7, 8, 9] _ rfl (by decide), ?_⟩))
                    refine tb_float (i := 17) rfl (by kernel_rfl) rfl (wants_t rfl rfl rfl) (yq_of (y_leq (fe_t rfl) fe_c)) ?_
                    refine tb_float (i := 18) rfl (by kernel_rfl) rfl (wants_none rfl) (yq_of (y_pickt (fe_t rfl) (fe_t rfl))) ?_
                    refine tb_float (i := 19) rfl (by kernel_rfl) rfl (wants_none rfl) (yq_of (y_move (fe_t rfl))) ?_
                    refine tb_splitp (d := 102) rfl (fun hq17 => ?_) (fun hq18 => ?_)
                    · try (exfalso; omega)
                      all_goals
                        refine tb_float (i := 20) rfl (by kernel_rfl) rfl (wants_t rfl rfl rfl) (yq_of (y_move (fe_t rfl))) ?_
                        refine tb_float (i := 21) rfl (by kernel_rfl) rfl (wants_t rfl rfl rfl) (yq_of (y_lss (fe_t rfl) fe_c)) ?_
                        refine tb_float (i := 22) rfl (by kernel_rfl) rfl (wants_t rfl rfl rfl) (yq_of (y_move (fe_t rfl))) ?_
                        refine tb_splitp (d := 105) rfl (fun hq19 => ?_) (fun hq20 => ?_)
                        · try (exfalso; omega)
                          all_goals
                            refine tb_skip (i := 23) rfl (by kernel_rfl) rfl (wants_f rfl rfl rfl rfl) ?_
                            refine tb_skip (i := 24) rfl (by kernel_rfl) rfl (wants_f rfl rfl rfl rfl) ?_
                            refine tb_skip (i := 25) rfl (by kernel_rfl) rfl (wants_f rfl rfl rfl rfl) ?_
                            refine tb_skip (i := 26) rfl (by kernel_rfl) rfl (wants_f rfl rfl rfl rfl) ?_
                            refine tb_skip (i := 27) rfl (by kernel_rfl) rfl (wants_f rfl rfl rfl rfl) ?_
                            refine tb_skip (i := 28) rfl (by kernel_rfl) rfl (wants_f rfl rfl rfl rfl) ?_
                            refine tb_skip (i := 29) rfl (by kernel_rfl) rfl (wants_f rfl rfl rfl rfl) ?_
                            refine tb_skip (i := 30) rfl (by kernel_rfl) rfl (wants_f rfl rfl rfl rfl) ?_
                            refine tb_skip (i := 31) rfl (by kernel_rfl) rfl (wants_f rfl rfl rfl rfl) ?_
                            refine tb_skip (i := 32) rfl (by kernel_rfl) rfl (wants_f rfl rfl rfl rfl) ?_
                            refine tb_skip (i := 33) rfl (by kernel_rfl) rfl (wants_f rfl rfl rfl rfl) ?_
                            refine tb_skip (i := 34) rfl (by kernel_rfl) rfl (wants_f rfl rfl rfl rfl) ?_
                            refine tb_float (i := 35) rfl (by kernel_rfl) rfl (wants_t rfl rfl rfl) (yq_of (y_pickt (fe_t rfl) fe_c)) ?_
                            refine tb_float (i := 36) rfl (by kernel_rfl) rfl (wants_none rfl) (yq_of (y_pickt (fe_t rfl) (fe_t rfl))) ?_
                            refine tb_done (by kernel_rfl) ?_
                            refine tx_then ?_
                            refine tr_condt (fe_t rfl) ?_
                            refine tr_region ?_
                            refine tl_step rfl (oj_val (y_move (fe_t rfl)) ?_)
                            refine tl_step rfl (oj_val (y_assign (fe_t rfl)) ?_)
                            refine tl_nil ?_
                            refine tx_in ?_
                            refine tx_then ?_
                            refine tr_region ?_
                            refine tl_step rfl (oj_val (y_inc (fe_t rfl) fe_c (by omega)) ?_)
                            refine tl_step rfl (oj_val (y_move (fe_t rfl)) ?_)
                            refine tl_nil ?_
                            apply tx_back4 (i + 1) ((i : Int)) (_) (_)
                            · exact (cov_cons (by first | rfl | exact v_int (by omega) | exact v_int (by dsimp only; omega) | exact v_int (by rw [hvc, kidv_nat, hcc])) (cov_cons (by first | rfl | exact v_int (by omega) | exact v_int (by dsimp only; omega) | exact v_int (by rw [hvc, kidv_nat, hcc])) (cov_nil)))
                            · repeat (first | exact over_nil | refine over_put rfl ?_ | refine over_drop rfl ?_)
                            · exact fun w h => h
                            · first
                                | exact ⟨⟨by omega, hm.take (by omega) (by omega) (by omega)⟩, by omega⟩
                                | exact ⟨⟨by omega, hm.skip (by omega)⟩, by omega⟩
                                | exact ⟨⟨by omega, hm.keep (by omega) (by omega)⟩, by omega⟩
                        · try (exfalso; omega)
                          all_goals
                            refine tb_float (i := 23) rfl (by kernel_rfl) rfl (wants_t rfl rfl rfl) (yq_of (y_ldb 0 Try.isAgg192 (fe_t rfl) rfl rfl)) ?_
                            refine tb_float (i := 24) rfl (by kernel_rfl) rfl (wants_t rfl rfl rfl) (yq_of (y_move (fe_t rfl))) ?_
                            refine tb_float (i := 25) rfl (by kernel_rfl) rfl (wants_t rfl rfl rfl) (yq_of (y_index Try.underlying192 Try.sizeOf196 (fe_t rfl) (fe_i hvc rfl) (rdl_vec 5 rfl) (by rw [flat_len hcX]; omega) (by decide) (by omega) rfl)) ?_
                            refine tb_float (i := 26) rfl (by kernel_rfl) rfl (wants_t rfl rfl rfl) (yq_of (y_fieldAddrE (td := 30) Try.underlying196 rfl rfl Try.sizeOf30 rfl (fe_t rfl) (rdl_vec 5 rfl) (by rw [flat_len hcX]; omega))) ?_
                            refine tb_float (i := 27) rfl (by kernel_rfl) rfl (wants_t rfl rfl rfl) (yq_of (y_ld Try.isAgg30 (fe_t rfl) (rdl_vec 5 rfl) (flatG (d := Rn.nil) (i := 3) hcX (by omega) rfl))) ?_
                            refine tb_float (i := 28) rfl (by kernel_rfl) rfl (wants_t rfl rfl rfl) (yq_of (y_ldb 0 Try.isAgg192 (fe_t rfl) rfl rfl)) ?_
                            refine tb_float (i := 29) rfl (by kernel_rfl) rfl (wants_t rfl rfl rfl) (yq_of (y_move (fe_t rfl))) ?_
                            refine tb_float (i := 30) rfl (by kernel_rfl) rfl (wants_t rfl rfl rfl) (yq_of (y_indexI Try.underlying192 Try.sizeOf196 (fe_t rfl) (fe_t rfl) (rdl_vec 5 rfl) (by rw [flat_len hcX]; omega) (by decide) (by omega) (by omega) rfl)) ?_
                            refine tb_float (i := 31) rfl (by kernel_rfl) rfl (wants_t rfl rfl rfl) (yq_of (y_fieldAddrE (td := 30) Try.underlying196 rfl rfl Try.sizeOf30 rfl (fe_t rfl) (rdl_vec 5 rfl) (by rw [flat_len hcX]; omega))) ?_
                            refine tb_float (i := 32) rfl (by kernel_rfl) rfl (wants_t rfl rfl rfl) (yq_of (y_ld Try.isAgg30 (fe_t rfl) (rdl_vec 5 rfl) (flatG (d := Rn.nil) (i := 3) hcX (by omega) rfl))) ?_
                            refine tb_one2 (i := 33) rfl (by kernel_rfl) (by kernel_rfl) (wants_t rfl rfl rfl) (oj_call2 Try.call24 fe_f (fel_cons (fe_t rfl) (fel_cons (fe_t rfl) fel_nil)) (fun w' hS => lift 10 hS rfl (fun T hS => cmpW hS hRc.en (hR1 (kidv t k y).toNat (by omega) (hyk (by omega))).en (by omega) (by omega))) (fun rc4 hrc4 => ⟨fun w h => h.pick [0, 1, 2, 3, 4, 5, 6, 7, 8, 9] _ rfl (by decide), ?_⟩))
                            refine tb_float (i := 34) rfl (by kernel_rfl) rfl (wants_t rfl rfl rfl) (yq_of (y_lss (fe_t rfl) fe_c)) ?_
                            refine tb_float (i := 35) rfl (by kernel_rfl) rfl (wants_t rfl rfl rfl) (yq_of (y_pickf (fe_t rfl) (fe_t rfl))) ?_
                            refine tb_float (i := 36) rfl (by kernel_rfl) rfl (wants_none rfl) (yq_of (y_pickt (fe_t rfl) (fe_t rfl))) ?_
                            refine tb_done (by kernel_rfl) ?_
                            refine tx_then ?_
                            refine tr_condp (fe_t rfl) (fun hq21 => ?_) (fun hq22 => ?_)
                            · try (exfalso; omega)
                              all_goals
                                refine tr_region ?_
                                refine tl_step rfl (oj_val (y_move (fe_t rfl)) ?_)
                                refine tl_step rfl (oj_val (y_assign (fe_t rfl)) ?_)
                                refine tl_nil ?_
                                refine tx_in ?_
                                refine tx_then ?_
                                refine tr_region ?_
                                refine tl_step rfl (oj_val (y_inc (fe_t rfl) fe_c (by omega)) ?_)
                                refine tl_step rfl (oj_val (y_move (fe_t rfl)) ?_)
                                refine tl_nil ?_
                                apply tx_back4 (i + 1) ((i : Int)) (_) (_)
                                · exact (cov_cons (by first | rfl | exact v_int (by omega) | exact v_int (by dsimp only; omega) | exact v_int (by rw [hvc, kidv_nat, hcc])) (cov_cons (by first | rfl | exact v_int (by omega) | exact v_int (by dsimp only; omega) | exact v_int (by rw [hvc, kidv_nat, hcc])) (cov_nil)))
                                · repeat (first | exact over_nil | refine over_put rfl ?_ | refine over_drop rfl ?_)
                                · exact fun w h => h
                                · first
                                    | exact ⟨⟨by omega, hm.take (by omega) (by omega) (by omega)⟩, by omega⟩
                                    | exact ⟨⟨by omega, hm.skip (by omega)⟩, by omega⟩
                                    | exact ⟨⟨by omega, hm.keep (by omega) (by omega)⟩, by omega⟩
                            · try (exfalso; omega)
                              all_goals
                                refine tr_skip ?_
                                refine tx_in ?_
                                refine tx_then ?_
                                refine tr_region ?_
                                refine tl_step rfl (oj_val (y_inc (fe_t rfl) fe_c (by omega)) ?_)
                                refine tl_step rfl (oj_val (y_move (fe_t rfl)) ?_)
                                refine tl_nil ?_
                                apply tx_back4 (i + 1) (y) (_) (_)
                                · exact (cov_cons (by first | rfl | exact v_int (by omega) | exact v_int (by dsimp only; omega) | exact v_int (by rw [hvc, kidv_nat, hcc])) (cov_cons (by first | rfl | exact v_int (by omega) | exact v_int (by dsimp only; omega) | exact v_int (by rw [hvc, kidv_nat, hcc])) (cov_nil)))
                                · repeat (first | exact over_nil | refine over_put rfl ?_ | refine over_drop rfl ?_)
                                · exact fun w h => h
                                · first
                                    | exact ⟨⟨by omega, hm.take (by omega) (by omega) (by omega)⟩, by omega⟩
                                    | exact ⟨⟨by omega, hm.skip (by omega)⟩, by omega⟩
                                    | exact ⟨⟨by omega, hm.keep (by omega) (by omega)⟩, by omega⟩
                    · try (exfalso; omega)
                      all_goals
                        refine tb_skip (i := 20) rfl (by kernel_rfl) rfl (wants_f rfl rfl rfl rfl) ?_
                        refine tb_skip (i := 21) rfl (by kernel_rfl) rfl (wants_f rfl rfl rfl rfl) ?_
                        refine tb_skip (i := 22) rfl (by kernel_rfl) rfl (wants_f rfl rfl rfl rfl) ?_
                        refine tb_skip (i := 23) rfl (by kernel_rfl) rfl (wants_undef rfl rfl rfl) ?_
                        refine tb_skip (i := 24) rfl (by kernel_rfl) rfl (wants_undef rfl rfl rfl) ?_
                        refine tb_skip (i := 25) rfl (by kernel_rfl) rfl (wants_undef rfl rfl rfl) ?_
                        refine tb_skip (i := 26) rfl (by kernel_rfl) rfl (wants_undef rfl rfl rfl) ?_
                        refine tb_skip (i := 27) rfl (by kernel_rfl) rfl (wants_undef rfl rfl rfl) ?_
                        refine tb_skip (i := 28) rfl (by kernel_rfl) rfl (wants_undef rfl rfl rfl) ?_
                        refine tb_skip (i := 29) rfl (by kernel_rfl) rfl (wants_undef rfl rfl rfl) ?_
                        refine tb_skip (i := 30) rfl (by kernel_rfl) rfl (wants_undef rfl rfl rfl) ?_
                        refine tb_skip (i := 31) rfl (by kernel_rfl) rfl (wants_undef rfl rfl rfl) ?_
                        refine tb_skip (i := 32) rfl (by kernel_rfl) rfl (wants_undef rfl rfl rfl) ?_
                        refine tb_skip (i := 33) rfl (by kernel_rfl) rfl (wants_undef rfl rfl rfl) ?_
                        refine tb_skip (i := 34) rfl (by kernel_rfl) rfl (wants_undef rfl rfl rfl) ?_
                        refine tb_skip (i := 35) rfl (by kernel_rfl) rfl (wants_f rfl rfl rfl rfl) ?_
                        refine tb_float (i := 36) rfl (by kernel_rfl) rfl (wants_none rfl) (yq_of (y_pickf (fe_t rfl) fe_c)) ?_
                        refine tb_done (by kernel_rfl) ?_
                        refine tx_then ?_
                        refine tr_condf (fe_t rfl) ?_
                        refine tr_skip ?_
                        refine tx_in ?_
                        refine tx_then ?_
                        refine tr_region ?_
                        refine tl_step rfl (oj_val (y_inc (fe_t rfl) fe_c (by omega)) ?_)
                        refine tl_step rfl (oj_val (y_move (fe_t rfl)) ?_)
                        refine tl_nil ?_
                        apply tx_back4 (i + 1) (y) (_) (_)
                        · exact (cov_cons (by first | rfl | exact v_int (by omega) | exact v_int (by dsimp only; omega) | exact v_int (by rw [hvc, kidv_nat, hcc])) (cov_cons (by first | rfl | exact v_int (by omega) | exact v_int (by dsimp only; omega) | exact v_int (by rw [hvc, kidv_nat, hcc])) (cov_nil)))
                        · repeat (first | exact over_nil | refine over_put rfl ?_ | refine over_drop rfl ?_)
                        · exact fun w h => h
                        · first
                            | exact ⟨⟨by omega, hm.take (by omega) (by omega) (by omega)⟩, by omega⟩
                            | exact ⟨⟨by omega, hm.skip (by omega)⟩, by omega⟩
                            | exact ⟨⟨by omega, hm.keep (by omega) (by omega)⟩, by omega⟩
                · try (exfalso; omega)
                  all_goals
                    refine tb_skip (i := 7) rfl (by kernel_rfl) rfl (wants_f rfl rfl rfl rfl) ?_
                    refine tb_skip (i := 8) rfl (by kernel_rfl) rfl (wants_f rfl rfl rfl rfl) ?_
                    refine tb_skip (i := 9) rfl (by kernel_rfl) rfl (wants_f rfl rfl rfl rfl) ?_
                    refine tb_skip (i := 10) rfl (by kernel_rfl) rfl (wants_f rfl rfl rfl rfl) ?_
                    refine tb_skip (i := 11) rfl (by kernel_rfl) rfl (wants_f rfl rfl rfl rfl) ?_
                    refine tb_skip (i := 12) rfl (by kernel_rfl) rfl (wants_f rfl rfl rfl rfl) ?_
                    refine tb_skip (i := 13) rfl (by kernel_rfl) rfl (wants_f rfl rfl rfl rfl) ?_
                    refine tb_skip (i := 14) rfl (by kernel_rfl) rfl (wants_f rfl rfl rfl rfl) ?_
                    refine tb_skip (i := 15) rfl (by kernel_rfl) rfl (wants_f rfl rfl rfl rfl) ?_
                    refine tb_skip (i := 16) rfl (by kernel_rfl) rfl (wants_f rfl rfl rfl rfl) ?_
                    refine tb_skip (i := 17) rfl (by kernel_rfl) rfl (wants_f rfl rfl rfl rfl) ?_
                    refine tb_float (i := 18) rfl (by kernel_rfl) rfl (wants_none rfl) (yq_of (y_pickf (fe_t rfl) fe_c)) ?_
                    refine tb_float (i := 19) rfl (by kernel_rfl) rfl (wants_none rfl) (yq_of (y_move (fe_t rfl))) ?_
                    refine tb_skip (i := 20) rfl (by kernel_rfl) rfl (wants_f rfl rfl rfl rfl) ?_
                    refine tb_skip (i := 21) rfl (by kernel_rfl) rfl (wants_f rfl rfl rfl rfl) ?_
                    refine tb_skip (i := 22) rfl (by kernel_rfl) rfl (wants_f rfl rfl rfl rfl) ?_
                    refine tb_skip (i := 23) rfl (by kernel_rfl) rfl (wants_undef rfl rfl rfl) ?_
                    refine tb_skip (i := 24) rfl (by kernel_rfl) rfl (wants_undef rfl rfl rfl) ?_
                    refine tb_skip (i := 25) rfl (by kernel_rfl) rfl (wants_undef rfl rfl rfl) ?_
                    refine tb_skip (i := 26) rfl (by kernel_rfl) rfl (wants_undef rfl rfl rfl) ?_
                    refine tb_skip (i := 27) rfl (by kernel_rfl) rfl (wants_undef rfl rfl rfl) ?_
                    refine tb_skip (i := 28) rfl (by kernel_rfl) rfl (wants_undef rfl rfl rfl) ?_
                    refine tb_skip (i := 29) rfl (by kernel_rfl) rfl (wants_undef rfl rfl rfl) ?_
                    refine tb_skip (i := 30) rfl (by kernel_rfl) rfl (wants_undef rfl rfl rfl) ?_
                    refine tb_skip (i := 31) rfl (by kernel_rfl) rfl (wants_undef rfl rfl rfl) ?_
                    refine tb_skip (i := 32) rfl (by kernel_rfl) rfl (wants_undef rfl rfl rfl) ?_
                    refine tb_skip (i := 33) rfl (by kernel_rfl) rfl (wants_undef rfl rfl rfl) ?_
                    refine tb_skip (i := 34) rfl (by kernel_rfl) rfl (wants_undef rfl rfl rfl) ?_
                    refine tb_skip (i := 35) rfl (by kernel_rfl) rfl (wants_f rfl rfl rfl rfl) ?_
                    refine tb_float (i := 36) rfl (by kernel_rfl) rfl (wants_none rfl) (yq_of (y_pickf (fe_t rfl) fe_c)) ?_
                    refine tb_done (by kernel_rfl) ?_
                    refine tx_then ?_
                    refine tr_condf (fe_t rfl) ?_
                    refine tr_skip ?_
                    refine tx_in ?_
                    refine tx_then ?_
                    refine tr_region ?_
                    refine tl_step rfl (oj_val (y_inc (fe_t rfl) fe_c (by omega)) ?_)
                    refine tl_step rfl (oj_val (y_move (fe_t rfl)) ?_)
                    refine tl_nil ?_
                    apply tx_back4 (i + 1) (y) (_) (_)
                    · exact (cov_cons (by first | rfl | exact v_int (by omega) | exact v_int (by dsimp only; omega) | exact v_int (by rw [hvc, kidv_nat, hcc])) (cov_cons (by first | rfl | exact v_int (by omega) | exact v_int (by dsimp only; omega) | exact v_int (by rw [hvc, kidv_nat, hcc])) (cov_nil)))
                    · repeat (first | exact over_nil | refine over_put rfl ?_ | refine over_drop rfl ?_)
                    · exact fun w h => h
                    · first
                        | exact ⟨⟨by omega, hm.take (by omega) (by omega) (by omega)⟩, by omega⟩
                        | exact ⟨⟨by omega, hm.skip (by omega)⟩, by omega⟩
                        | exact ⟨⟨by omega, hm.keep (by omega) (by omega)⟩, by omega⟩
            · try (exfalso; omega)
              all_goals
                refine tr_exit ?_
                refine tx_then_exit ?_
                refine tx_then_exit ?_
                refine tx_in_exit ?_
                refine tx_then ?_
                refine tr_seq ?_
                have hi2 : i = (t.kids k).length := by omega
                obtain ⟨q, hyq, hMy⟩ := mb_some hi2 hm hL
                obtain ⟨e, hce⟩ : ∃ e : Nat, e = (t.kids k).getD q 0 := ⟨_, rfl⟩
                subst hyq
                have hve : kidv t k (q : Int) = (e : Int) := by rw [kidv_nat, hce]
                have hne : e < t.n := by rw [hce, E.getD_lt hMy.1]; exact (mem_kids.1 (List.getElem_mem _)).1
                have hek : e ≠ k := by rw [hce, E.getD_lt hMy.1]; exact kid_ne g (List.getElem_mem _)
                have hRe := hR1 e hne hek
                have hReb := hRe.bytes
                have hRel := hRe.leaf
                have hbe := (hbd e).1
                obtain ⟨ta, tb, mta, mtb, hTr⟩ := hRk1.tm
                replace hTr : RatIs ta tb (mkRat (max (dn s k).tm (dn s a).bg) 27720) := hTr
                obtain ⟨⟨f1, f2⟩, f3, f4⟩ := time_bd2 hTb
                obtain ⟨k1, k2⟩ := mk_bd (n := (l1.getD e Rn.nil).bytes) (d := 1) (by omega)
                have k3 := (mkRat (l1.getD e Rn.nil).bytes (1 : Int).toNat).den_pos
                have k0 : ((mkRat (l1.getD e Rn.nil).bytes (1 : Int).toNat).den : Int) = 1 := by omega
                have k4 := prod_bd (a := (mkRat (l1.getD e Rn.nil).bytes (1 : Int).toNat).num) (b := ((mkRat (max (dn s k).tm (dn s a).bg) 27720).den : Int)) (A := 1500) (B := 27720) (by omega) (by omega) (by omega) (by omega)
                have k5 : (mkRat (max (dn s k).tm (dn s a).bg) 27720).num * ((mkRat (l1.getD e Rn.nil).bytes (1 : Int).toNat).den : Int) = (mkRat (max (dn s k).tm (dn s a).bg) 27720).num := by rw [k0, Int.mul_one]
                have k6 : ((mkRat (max (dn s k).tm (dn s a).bg) 27720).den : Int) * ((mkRat (l1.getD e Rn.nil).bytes (1 : Int).toNat).den : Int) = ((mkRat (max (dn s k).tm (dn s a).bg) 27720).den : Int) := by rw [k0, Int.mul_one]
                refine tb_draw1 15 [_, _, _, _, _, _, _, _, _, _] [_, _, _, _, _, _, _, _, _, _] (fun w h => h.pick [0, 1, 2, 3, 4, 5, 6, 7, 8, 9] _ rfl (by decide)) (fun w h => (h.weak (i := 5) rfl).pick [5, 0, 1, 2, 3, 4, 6, 7, 8, 9] _ rfl (by decide)) rfl ?_
                refine tb_float (i := 0) rfl (by kernel_rfl) rfl (wants_none rfl) (yq_of (y_move (fe_t rfl))) ?_
                refine tb_float (i := 2) rfl (by kernel_rfl) rfl (wants_none rfl) (yq_of (y_move (fe_t rfl))) ?_
                refine tb_float (i := 3) rfl (by kernel_rfl) rfl (wants_none rfl) (yq_of (y_nilCheckR (fe_t rfl) (rch_w 0 rfl (by omega)))) ?_
                refine tb_float (i := 4) rfl (by kernel_rfl) rfl (wants_none rfl) (yq_of (y_fieldAddrR (td := 30) Try.underlying196 rfl rfl Try.sizeOf30 rfl (fe_t rfl) (rch_w 0 rfl (by omega)))) ?_
                refine tb_float1 (i := 5) rfl (by kernel_rfl) (by kernel_rfl) rfl (wants_none rfl) (yq_of (y_ld Try.isAgg30 (fe_t rfl) (rdl_vec 5 rfl) (flatG (d := Rn.nil) (i := 4) hcX (by omega) rfl))) ?_
                refine tb_float (i := 6) rfl (by kernel_rfl) rfl (wants_none rfl) (yq_of (y_ldb 1 Try.isAgg192 (fe_t rfl) rfl rfl)) ?_
                refine tb_float (i := 7) rfl (by kernel_rfl) rfl (wants_none rfl) (yq_of (y_move (fe_t rfl))) ?_
                refine tb_float (i := 8) rfl (by kernel_rfl) rfl (wants_none rfl) (yq_of (y_indexR Try.underlying192 Try.sizeOf196 (fe_t rfl) (fe_i hve rfl) (rch_w 0 rfl (by omega)) (by omega) rfl)) ?_
                refine tb_float (i := 9) rfl (by kernel_rfl) rfl (wants_none rfl) (yq_of (y_fieldAddrR (td := 3) Try.underlying196 rfl rfl Try.sizeOf3 rfl (fe_t rfl) (rch_w 0 rfl (by omega)))) ?_
                refine tb_float1 (i := 10) rfl (by kernel_rfl) (by kernel_rfl) rfl (wants_none rfl) (yq_of (y_ld Try.isAgg3 (fe_t rfl) (rdl_vec 5 rfl) (flatG (d := Rn.nil) (i := 1) hcX (by omega) rfl))) ?_
                refine tb_two1 (i := 1) (j := 11) rfl rfl (by kernel_rfl) (by kernel_rfl) (by kernel_rfl) (wants_none rfl) (wants_none rfl) ?_ ?_
                · refine (oj_allocR 10 Try.zeroValue37 rfl (fun b_pf H_pf => ⟨fun w h => h.pick [0, 1, 2, 3, 4, 5, 6, 7, 8, 9] _ rfl (by decide), ?_⟩))
                  refine tb_one1 (i := 11) rfl (by kernel_rfl) (by kernel_rfl) (wants_none rfl) (oj_call2 Try.call83 fe_f (fel_cons (fe_t rfl) (fel_cons fe_c fel_nil)) (fun w' hS => lift 10 hS rfl (fun T hS => newR hS (l1.getD e Rn.nil).bytes 1 (by omega) (by omega) (by omega) (by omega))) (fun r1 hr1 => ⟨fun w h => h.pick [0, 1, 2, 3, 4, 5, 6, 7, 8, 9] _ rfl (by decide), ?_⟩))
                  refine tb_one1 (i := 12) rfl (by kernel_rfl) (by kernel_rfl) (wants_none rfl) (oj_call2 Try.call22 fe_f (fel_cons (fe_t rfl) (fel_cons (fe_t rfl) (fel_cons (fe_t rfl) fel_nil))) (fun w' hS => lift2 (p := fun m_ n_ => RatIs m_ n_ (mkRat (max (dn s k).tm (dn s a).bg) 27720 + mkRat (l1.getD e Rn.nil).bytes (1 : Int).toNat)) 10 2 3 hS rfl rfl rfl rfl (fun T l' hm hS => addR hS (hm _ (List.mem_cons_of_mem _ (List.mem_cons_of_mem _ (List.mem_cons_of_mem _ (List.mem_cons_of_mem _ mta))))) (hm _ (List.mem_cons_of_mem _ (List.mem_cons_of_mem _ (List.mem_cons_of_mem _ (List.mem_cons_of_mem _ mtb))))) (hm _ (pget_mem 0 rfl)) (hm _ (pget_mem 1 rfl)) hTr hr1 (by omega) (by omega) (by omega) (by omega) (by omega))) (fun r2 hr2 => ⟨fun w h => h.pick [0, 1, 2, 3, 4, 5, 6, 7, 8, 9] _ rfl (by decide), ?_⟩))
                  refine tb_float (i := 13) rfl (by kernel_rfl) rfl (wants_none rfl) (yq_of (y_nilCheckR (fe_t rfl) (rch_w 0 rfl (by omega)))) ?_
                  refine tb_float (i := 14) rfl (by kernel_rfl) rfl (wants_none rfl) (yq_of (y_fieldAddrR (td := 30) Try.underlying196 rfl rfl Try.sizeOf30 rfl (fe_t rfl) (rch_w 0 rfl (by omega)))) ?_
                  refine tb_one2 (i := 15) rfl (by kernel_rfl) (by kernel_rfl) (wants_none rfl) (oj_storeG (i := 5) Rn.nil (⟨(l1.getD k Rn.nil).leaf, (l1.getD k Rn.nil).bytes, (l1.getD k Rn.nil).pb, (l1.getD k Rn.nil).pe, b_pf, (l1.getD k Rn.nil).wA, (l1.getD k Rn.nil).wc, (l1.getD k Rn.nil).ws⟩ : Rn) hcX Try.sizeOf30 (fe_t rfl) (fe_t rfl) rfl rfl rfl (by (try rw [List.length_set]); omega) rfl (rfl) (⟨fun w h => (h.weak (i := 5) rfl).pick [5, 0, 1, 2, 3, 4, 6, 7, 8, 9] _ rfl (by decide), ?_⟩))
                  refine tb_done (by kernel_rfl) ?_
                  refine tx_then ?_
                  refine tr_bagEq 10 rfl (fun es1 he1 => ?_)
                  have hext : Ext es es1 := by rw [he1]; exact (.cons _ (.cons _ (.cons _ (.cons _ Ext.rfl))))
                  have hT3 : HoldR es1 b_pf ((max (dn s k).tm (dn s a).bg) + (dn s e).bytes * 27720) := by rw [he1, ← hReb]; exact ⟨_, _, pget_mem 2 rfl, pget_mem 3 rfl, by have h := hr2; rw [mk_one] at h; exact h⟩
                  generalize hl2 : l1.set k (⟨(l1.getD k Rn.nil).leaf, (l1.getD k Rn.nil).bytes, (l1.getD k Rn.nil).pb, (l1.getD k Rn.nil).pe, b_pf, (l1.getD k Rn.nil).wA, (l1.getD k Rn.nil).wc, (l1.getD k Rn.nil).ws⟩ : Rn) = l2
                  obtain ⟨hl2n, hl2k, hl2o⟩ := rn_k hl2 hl1n hkn
                  have hl2v := xV_same hl2 rfl
                  refine tr_as (r' := subs 3 1 (l2.map Rn.wV)) 6 rfl (congrArg (subs _ _) hl2v.symm) ?_
                  have hrel2 : RelT es1 t l2 (s.set k { dn s k with tm := (max (dn s k).tm (dn s a).bg) + (dn s e).bytes * 27720 }) := hrel_as ((hrel1.mono hext).set hl2 hk (d := { dn s k with tm := (max (dn s k).tm (dn s a).bg) + (dn s e).bytes * 27720 }) ⟨hRk1.leaf, hRk1.bytes, hRk1.ws, hRk1.bg.mono hext, hRk1.en.mono hext, hT3⟩) (List.set_set ..)
                  have hl2e : l2.getD e Rn.nil = l1.getD e Rn.nil := hl2o e hek
                  obtain ⟨bk1, bk2, bk3, bk4, bk5⟩ := hbd k
                  have hbd2 : Bd (M + 50000000) (s.set k { dn s k with tm := (max (dn s k).tm (dn s a).bg) + (dn s e).bytes * 27720 }) := hbd.set (by omega) ⟨bk1, by dsimp only; omega, by dsimp only; omega, by dsimp only; omega, bk5⟩
                  have hbb2 : 0 ≤ (l2.getD e Rn.nil).bytes ∧ (l2.getD e Rn.nil).bytes ≤ 1500 := by rw [hl2e]; omega
                  refine tb_draw1 12 [_, _, _, _, _, _, _, _, _, _, _] [_, _, _, _, _, _, _, _, _] (fun w h => h.pick [0, 1, 2, 3, 4, 5, 6, 7, 8, 9, 10] _ rfl (by decide)) (fun w h => (h.weak (i := 5) rfl).pick [5, 0, 1, 2, 3, 4, 7, 8, 9] _ rfl (by decide)) rfl ?_
                  refine tb_float (i := 0) rfl (by kernel_rfl) rfl (wants_none rfl) (yq_of (y_ldb 5 Try.isAgg198 (fe_t rfl) rfl rfl)) ?_
                  refine tb_float (i := 1) rfl (by kernel_rfl) rfl (wants_none rfl) (yq_of (y_move (fe_t rfl))) ?_
                  refine tb_float (i := 2) rfl (by kernel_rfl) rfl (wants_none rfl) (yq_of (y_ldb 1 Try.isAgg192 (fe_t rfl) rfl rfl)) ?_
                  refine tb_float (i := 3) rfl (by kernel_rfl) rfl (wants_none rfl) (yq_of (y_move (fe_t rfl))) ?_
                  refine tb_float (i := 4) rfl (by kernel_rfl) rfl (wants_none rfl) (yq_of (y_indexR Try.underlying192 Try.sizeOf196 (fe_t rfl) (fe_i hve rfl) (rch_w 0 rfl (by omega)) (by omega) rfl)) ?_
                  refine tb_float (i := 5) rfl (by kernel_rfl) rfl (wants_none rfl) (yq_of (y_fieldAddrR (td := 3) Try.underlying196 rfl rfl Try.sizeOf3 rfl (fe_t rfl) (rch_w 0 rfl (by omega)))) ?_
                  refine tb_float1 (i := 6) rfl (by kernel_rfl) (by kernel_rfl) rfl (wants_none rfl) (yq_of (y_ld Try.isAgg3 (fe_t rfl) (rdl_vec 5 rfl) (flatG (d := Rn.nil) (i := 0) hcX (by omega) rfl))) ?_
                  refine tb_float (i := 7) rfl (by kernel_rfl) rfl (wants_none rfl) (yq_of (y_ldb 1 Try.isAgg192 (fe_t rfl) rfl rfl)) ?_
                  refine tb_float (i := 8) rfl (by kernel_rfl) rfl (wants_none rfl) (yq_of (y_move (fe_t rfl))) ?_
                  refine tb_float (i := 9) rfl (by kernel_rfl) rfl (wants_none rfl) (yq_of (y_indexR Try.underlying192 Try.sizeOf196 (fe_t rfl) (fe_i hve rfl) (rch_w 0 rfl (by omega)) (by omega) rfl)) ?_
                  refine tb_float (i := 10) rfl (by kernel_rfl) rfl (wants_none rfl) (yq_of (y_fieldAddrR (td := 3) Try.underlying196 rfl rfl Try.sizeOf3 rfl (fe_t rfl) (rch_w 0 rfl (by omega)))) ?_
                  refine tb_float1 (i := 11) rfl (by kernel_rfl) (by kernel_rfl) rfl (wants_none rfl) (yq_of (y_ld Try.isAgg3 (fe_t rfl) (rdl_vec 5 rfl) (flatG (d := Rn.nil) (i := 1) hcX (by omega) rfl))) ?_
                  refine tb_one2 (i := 12) rfl (by kernel_rfl) (by kernel_rfl) (wants_none rfl) (oj_callF Try.call144 (fe_t rfl) (fel_cons (fe_t rfl) (fel_cons (fe_t rfl) (fel_cons (fe_t rfl) fel_nil))) (fun w' hS => offersE (pickT (l := [_, _, _, _, _, _, _, _, _, _, _]) hS [0, 1, 2, 5, 6, 7, 10, 3, 4, 8, 9] rfl (by decide)) hr hnl ht g hn hrel2 hsl hbd2 (by omega) (k := k) hk hbb2) (fun q1 hQ1 => ⟨fun w h => (h.weak (i := 3) rfl).pick [3, 0, 1, 2, 7, 8, 5, 9, 10] _ rfl (by decide), ?_⟩))
                  refine tb_done (by kernel_rfl) ?_
                  refine tx_end (res0 Try.results145 ) (fun w' hS => ?_)
                  have h1 := pickT (l := [_, _, _, _, _, _, _, _, _, _, _]) hS [0, 1, 2, 7, 8, 3, 4, 5, 9, 10, 6] rfl (by decide)
                  refine ⟨(q1.1, q1.2.1, q1.2.2.1, q1.2.2.2), ⟨hext.trans hQ1.1, ?_⟩, rfl, h1⟩
                  have h2 := hQ1.2
                  rw [hl2e, hRel, hReb, dn_set hsl1, if_pos rfl] at h2
                  rw [(Pick.some (ag := (decide (¬ (dn s k).bytes = 0))) (dn s a).bg q hL hMy).eq, ← hce]
                  exact h2
                · refine (oj_call2 Try.call83 fe_f (fel_cons (fe_t rfl) (fel_cons fe_c fel_nil)) (fun w' hS => lift 10 hS rfl (fun T hS => newR hS (l1.getD e Rn.nil).bytes 1 (by omega) (by omega) (by omega) (by omega))) (fun r3 hr3 => ⟨fun w h => h.pick [0, 1, 2, 3, 4, 5, 6, 7, 8, 9] _ rfl (by decide), ?_⟩))
                  refine tb_one1 (i := 1) rfl (by kernel_rfl) (by kernel_rfl) (wants_none rfl) (oj_allocR 10 Try.zeroValue37 rfl (fun b_pf H_pf => ⟨fun w h => h.pick [0, 1, 2, 3, 4, 5, 6, 7, 8, 9] _ rfl (by decide), ?_⟩))
                  refine tb_one1 (i := 12) rfl (by kernel_rfl) (by kernel_rfl) (wants_none rfl) (oj_call2 Try.call22 fe_f (fel_cons (fe_t rfl) (fel_cons (fe_t rfl) (fel_cons (fe_t rfl) fel_nil))) (fun w' hS => lift2 (p := fun m_ n_ => RatIs m_ n_ (mkRat (max (dn s k).tm (dn s a).bg) 27720 + mkRat (l1.getD e Rn.nil).bytes (1 : Int).toNat)) 10 0 1 hS rfl rfl rfl rfl (fun T l' hm hS => addR hS (hm _ (List.mem_cons_of_mem _ (List.mem_cons_of_mem _ (List.mem_cons_of_mem _ (List.mem_cons_of_mem _ mta))))) (hm _ (List.mem_cons_of_mem _ (List.mem_cons_of_mem _ (List.mem_cons_of_mem _ (List.mem_cons_of_mem _ mtb))))) (hm _ (pget_mem 2 rfl)) (hm _ (pget_mem 3 rfl)) hTr hr3 (by omega) (by omega) (by omega) (by omega) (by omega))) (fun r4 hr4 => ⟨fun w h => h.pick [0, 1, 2, 3, 4, 5, 6, 7, 8, 9] _ rfl (by decide), ?_⟩))
                  refine tb_float (i := 13) rfl (by kernel_rfl) rfl (wants_none rfl) (yq_of (y_nilCheckR (fe_t rfl) (rch_w 0 rfl (by omega)))) ?_
                  refine tb_float (i := 14) rfl (by kernel_rfl) rfl (wants_none rfl) (yq_of (y_fieldAddrR (td := 30) Try.underlying196 rfl rfl Try.sizeOf30 rfl (fe_t rfl) (rch_w 0 rfl (by omega)))) ?_
                  refine tb_one2 (i := 15) rfl (by kernel_rfl) (by kernel_rfl) (wants_none rfl) (oj_storeG (i := 5) Rn.nil (⟨(l1.getD k Rn.nil).leaf, (l1.getD k Rn.nil).bytes, (l1.getD k Rn.nil).pb, (l1.getD k Rn.nil).pe, b_pf, (l1.getD k Rn.nil).wA, (l1.getD k Rn.nil).wc, (l1.getD k Rn.nil).ws⟩ : Rn) hcX Try.sizeOf30 (fe_t rfl) (fe_t rfl) rfl rfl rfl (by (try rw [List.length_set]); omega) rfl (rfl) (⟨fun w h => (h.weak (i := 5) rfl).pick [5, 0, 1, 2, 3, 4, 6, 7, 8, 9] _ rfl (by decide), ?_⟩))
                  refine tb_done (by kernel_rfl) ?_
                  refine tx_then ?_
                  refine tr_bagEq 10 rfl (fun es1 he1 => ?_)
                  have hext : Ext es es1 := by rw [he1]; exact (.cons _ (.cons _ (.cons _ (.cons _ Ext.rfl))))
                  have hT3 : HoldR es1 b_pf ((max (dn s k).tm (dn s a).bg) + (dn s e).bytes * 27720) := by rw [he1, ← hReb]; exact ⟨_, _, pget_mem 0 rfl, pget_mem 1 rfl, by have h := hr4; rw [mk_one] at h; exact h⟩
                  generalize hl2 : l1.set k (⟨(l1.getD k Rn.nil).leaf, (l1.getD k Rn.nil).bytes, (l1.getD k Rn.nil).pb, (l1.getD k Rn.nil).pe, b_pf, (l1.getD k Rn.nil).wA, (l1.getD k Rn.nil).wc, (l1.getD k Rn.nil).ws⟩ : Rn) = l2
                  obtain ⟨hl2n, hl2k, hl2o⟩ := rn_k hl2 hl1n hkn
                  have hl2v := xV_same hl2 rfl
                  refine tr_as (r' := subs 3 1 (l2.map Rn.wV)) 6 rfl (congrArg (subs _ _) hl2v.symm) ?_
                  have hrel2 : RelT es1 t l2 (s.set k { dn s k with tm := (max (dn s k).tm (dn s a).bg) + (dn s e).bytes * 27720 }) := hrel_as ((hrel1.mono hext).set hl2 hk (d := { dn s k with tm := (max (dn s k).tm (dn s a).bg) + (dn s e).bytes * 27720 }) ⟨hRk1.leaf, hRk1.bytes, hRk1.ws, hRk1.bg.mono hext, hRk1.en.mono hext, hT3⟩) (List.set_set ..)
                  have hl2e : l2.getD e Rn.nil = l1.getD e Rn.nil := hl2o e hek
                  obtain ⟨bk1, bk2, bk3, bk4, bk5⟩ := hbd k
                  have hbd2 : Bd (M + 50000000) (s.set k { dn s k with tm := (max (dn s k).tm (dn s a).bg) + (dn s e).bytes * 27720 }) := hbd.set (by omega) ⟨bk1, by dsimp only; omega, by dsimp only; omega, by dsimp only; omega, bk5⟩
                  have hbb2 : 0 ≤ (l2.getD e Rn.nil).bytes ∧ (l2.getD e Rn.nil).bytes ≤ 1500 := by rw [hl2e]; omega
                  refine tb_draw1 12 [_, _, _, _, _, _, _, _, _, _, _] [_, _, _, _, _, _, _, _, _] (fun w h => h.pick [0, 1, 2, 3, 4, 5, 6, 7, 8, 9, 10] _ rfl (by decide)) (fun w h => (h.weak (i := 5) rfl).pick [5, 0, 1, 2, 3, 4, 7, 8, 9] _ rfl (by decide)) rfl ?_
                  refine tb_float (i := 0) rfl (by kernel_rfl) rfl (wants_none rfl) (yq_of (y_ldb 5 Try.isAgg198 (fe_t rfl) rfl rfl)) ?_
                  refine tb_float (i := 1) rfl (by kernel_rfl) rfl (wants_none rfl) (yq_of (y_move (fe_t rfl))) ?_
                  refine tb_float (i := 2) rfl (by kernel_rfl) rfl (wants_none rfl) (yq_of (y_ldb 1 Try.isAgg192 (fe_t rfl) rfl rfl)) ?_
                  refine tb_float (i := 3) rfl (by kernel_rfl) rfl (wants_none rfl) (yq_of (y_move (fe_t rfl))) ?_
                  refine tb_float (i := 4) rfl (by kernel_rfl) rfl (wants_none rfl) (yq_of (y_indexR Try.underlying192 Try.sizeOf196 (fe_t rfl) (fe_i hve rfl) (rch_w 0 rfl (by omega)) (by omega) rfl)) ?_
                  refine tb_float (i := 5) rfl (by kernel_rfl) rfl (wants_none rfl) (yq_of (y_fieldAddrR (td := 3) Try.underlying196 rfl rfl Try.sizeOf3 rfl (fe_t rfl) (rch_w 0 rfl (by omega)))) ?_
                  refine tb_float1 (i := 6) rfl (by kernel_rfl) (by kernel_rfl) rfl (wants_none rfl) (yq_of (y_ld Try.isAgg3 (fe_t rfl) (rdl_vec 5 rfl) (flatG (d := Rn.nil) (i := 0) hcX (by omega) rfl))) ?_
                  refine tb_float (i := 7) rfl (by kernel_rfl) rfl (wants_none rfl) (yq_of (y_ldb 1 Try.isAgg192 (fe_t rfl) rfl rfl)) ?_
                  refine tb_float (i := 8) rfl (by kernel_rfl) rfl (wants_none rfl) (yq_of (y_move (fe_t rfl))) ?_
                  refine tb_float (i := 9) rfl (by kernel_rfl) rfl (wants_none rfl) (yq_of (y_indexR Try.underlying192 Try.sizeOf196 (fe_t rfl) (fe_i hve rfl) (rch_w 0 rfl (by omega)) (by omega) rfl)) ?_
                  refine tb_float (i := 10) rfl (by kernel_rfl) rfl (wants_none rfl) (yq_of (y_fieldAddrR (td := 3) Try.underlying196 rfl rfl Try.sizeOf3 rfl (fe_t rfl) (rch_w 0 rfl (by omega)))) ?_
                  refine tb_float1 (i := 11) rfl (by kernel_rfl) (by kernel_rfl) rfl (wants_none rfl) (yq_of (y_ld Try.isAgg3 (fe_t rfl) (rdl_vec 5 rfl) (flatG (d := Rn.nil) (i := 1) hcX (by omega) rfl))) ?_
                  refine tb_one2 (i := 12) rfl (by kernel_rfl) (by kernel_rfl) (wants_none rfl) (oj_callF Try.call144 (fe_t rfl) (fel_cons (fe_t rfl) (fel_cons (fe_t rfl) (fel_cons (fe_t rfl) fel_nil))) (fun w' hS => offersE (pickT (l := [_, _, _, _, _, _, _, _, _, _, _]) hS [0, 1, 2, 5, 6, 7, 10, 3, 4, 8, 9] rfl (by decide)) hr hnl ht g hn hrel2 hsl hbd2 (by omega) (k := k) hk hbb2) (fun q1 hQ1 => ⟨fun w h => (h.weak (i := 3) rfl).pick [3, 0, 1, 2, 7, 8, 5, 9, 10] _ rfl (by decide), ?_⟩))
                  refine tb_done (by kernel_rfl) ?_
                  refine tx_end (res0 Try.results145 ) (fun w' hS => ?_)
                  have h1 := pickT (l := [_, _, _, _, _, _, _, _, _, _, _]) hS [0, 1, 2, 7, 8, 3, 4, 5, 9, 10, 6] rfl (by decide)
                  refine ⟨(q1.1, q1.2.1, q1.2.2.1, q1.2.2.2), ⟨hext.trans hQ1.1, ?_⟩, rfl, h1⟩
                  have h2 := hQ1.2
                  rw [hl2e, hRel, hReb, dn_set hsl1, if_pos rfl] at h2
                  rw [(Pick.some (ag := (decide (¬ (dn s k).bytes = 0))) (dn s a).bg q hL hMy).eq, ← hce]
                  exact h2

end Go.Proofs.Ytcpdelkamckmfaa.Hier
