/- the reference's RPlay. -/
import Derived.Test.YtcpdelkamckmfaaHrV
import Derived.Test.YtcpdelkamckmfaaHrY
namespace Go.Proofs.Ytcpdelkamckmfaa.Hier
open Go.RowKit Go.Proofs.Ytcpdelkamckmfaa.E Go.Proofs.Ytcpdelkamckmfaa.Wfq Go.Proofs.Ytcpdelkamckmfaa.Big Go.Proofs.Ytcpdelkamckmfaa.Frac
open Go.Proofs.Ytcpdelkamckmfaa.Scfq (hd hd_mem)

theorem leaf_dec {t : Tr} {kl : List Kd} {x : Int} (h : KidsAt t t.n kl) (h0 : 0 ≤ x) (h1 : x < t.n) : decide (((kl.getD x.toNat Kd.nil).ks.length : Int) = 0) = true ↔ t.leaf x := by
  have e : (kl.getD x.toNat Kd.nil).ks = kI (t.kids x.toNat) := h.at_ _ (by omega)
  rw [e, kI_len, decide_eq_true_eq]
  constructor
  · intro h2
    exact ⟨h0, h1, List.eq_nil_of_length_eq_zero (by omega)⟩
  · intro h2
    rw [h2.2.2]
    rfl
theorem InS.lt {t : Tr} {s sc : List D} {k p : Nat} {b : Int} {f : Nat} (h : InS t s k b f sc (p : Int)) (hp : p ≠ k) : p < f := by
  rcases h with h | ⟨_, _, _, h4⟩
  · omega
  · omega
theorem zero27 : RatIs nm0 nm0 (mkRat 0 27720) := by rw [show mkRat 0 27720 = 0 from Rat.zero_mkRat _]; exact ratis_zero
set_option maxRecDepth 100000 in
set_option maxHeartbeats 8000000 in
theorem rplay_ok (A : Option Addr) (n c : Nat) (ns : List (Int × Int)) (B : Option Addr) (m d : Nat) (os : List O3) (w : World) (hr : Rd w A (ns.flatMap c2)) (hn : ns.length = n) (hm : n ≤ 140737488355328) (hr2 : Rd w B (os.flatMap c3)) (hn2 : os.length = m) (hm2 : m ≤ 140737488355328) (hw : wrongT ns = 0) (hmo : m ≤ 400) :
    Calls Try.prog 76 #[.slice A n c, .slice B m d] w fun e w' => ∃ r : S × Vs × Vs × Vs, (Run (trOf ns) os m r.1 ∧ (r.2.1.n = r.1.errs.length ∧ r.2.1.xs = cI r.1.errs) ∧ (r.2.2.1.n = r.1.sent.length ∧ r.2.2.1.xs = r.1.sent.flatMap c2) ∧ r.2.2.2.n = n ∧ r.2.2.2.xs = cI (left r.1)) ∧ e = .returned (.tuple #[.slice r.2.1.A r.2.1.n r.2.1.c, .slice r.2.2.1.A r.2.2.1.n r.2.2.1.c, .slice r.2.2.2.A r.2.2.2.n r.2.2.2.c]) ∧ St w w' [vec 24 1 (.slice r.2.1.A r.2.1.n r.2.1.c) r.2.1.n r.2.1.xs, vec 102 2 (.slice r.2.2.1.A r.2.2.1.n r.2.2.1.c) r.2.2.1.n r.2.2.1.xs, vec 3 1 (.slice r.2.2.2.A r.2.2.2.n r.2.2.2.c) r.2.2.2.n r.2.2.2.xs] := by
  obtain ⟨t, ht⟩ : ∃ t, t = trOf ns := ⟨_, rfl⟩
  have g : t.Good := by rw [ht]; exact good_of hw
  have htn : t.n = n := by rw [ht, trOf_n, hn]
  have hn16 := g.n16
  have hn1 := g.n1
  have hnl := hn
  refine calls_tr Try.func76 Try.ntmps76 rfl rfl (St.refl _) ?_
  refine tr_seq ?_
  refine tr_region ?_
  refine tl_step rfl (oj_box (fe_t rfl) (fun bl => ?_))
  refine tl_step rfl (oj_val (y_assign fe_c) ?_)
  refine tl_step rfl (oj_val (y_assign fe_c) ?_)
  refine tl_step rfl (oj_val (y_assign fe_c) ?_)
  refine tl_nil ?_
  refine tx_then ?_
  refine tr_seq ?_
  refine tr_region ?_
  refine tl_step rfl (oj_val (y_ldb 0 Try.isAgg105 (fe_t rfl) rfl rfl) ?_)
  refine tl_step rfl (oj_val (y_len Try.underlying105 (fe_t rfl)) ?_)
  refine tl_step rfl (oj_makeF (z0 := (none : Option Rn)) (c := cX0) (n := n) (cs := [(.int .i64 0), (.int .i64 0), .pointer none, .pointer none, .pointer none, .slice none 0 0]) (s := 6) (bytes := 64) Try.underlying192 (by kernel_rfl) (fe_t rfl) (fe_t rfl) rfl rfl (by decide) ⟨by omega, by decide⟩ (fun ga => ?_))
  refine tl_step rfl (oj_alloc Try.zeroValue192 (fun bf => ?_))
  refine tl_step rfl (oj_store1 0 Try.sizeOf192 (fe_t rfl) (fe_t rfl) rfl rfl rfl rfl (?_))
  refine tl_nil ?_
  refine tx_then ?_
  refine tr_seq ?_
  refine tr_region ?_
  refine tl_step rfl (oj_val (y_ldb 2 Try.isAgg105 (fe_t rfl) rfl rfl) ?_)
  refine tl_step rfl (oj_val (y_len Try.underlying105 (fe_t rfl)) ?_)
  refine tl_step rfl (oj_make (z := .slice none 0 0) (bytes := 24) Try.underlying193 (by kernel_rfl) (fe_t rfl) (fe_t rfl) rfl ⟨by omega, by decide⟩ (fun gk => ?_))
  refine tl_step rfl (oj_alloc Try.zeroValue193 (fun bk => ?_))
  refine tl_step rfl (oj_store1 0 Try.sizeOf193 (fe_t rfl) (fe_t rfl) rfl rfl rfl rfl (?_))
  refine tl_nil ?_
  refine tx_then ?_
  refine tr_seq ?_
  refine tr_as (r' := vec 79 1 (.slice (some ⟨gk, 0, none⟩) n n) n ((List.replicate n Kd.nil).flatMap cK)) 1 rfl (congrArg (vec _ _ _ _) kd_nils) ?_
  refine tr_add (r := subs 3 1 ((List.replicate n Kd.nil).map Kd.kV)) (by rw [kd_kV]; exact subs_nils) (by rw [kd_kV]; exact subs_nils_foot) ?_
  refine tr_region ?_
  refine tl_step rfl (oj_val (y_ldb 5 Try.isAgg105 (fe_t rfl) rfl rfl) ?_)
  refine tl_step rfl (oj_val (y_len Try.underlying105 (fe_t rfl)) ?_)
  refine tl_step rfl (oj_make (z := (.int .i64 0)) (bytes := 8) Try.underlying194 (by kernel_rfl) (fe_t rfl) (fe_t rfl) rfl ⟨by omega, by decide⟩ (fun gs => ?_))
  refine tl_step rfl (oj_alloc Try.zeroValue194 (fun bs => ?_))
  refine tl_step rfl (oj_store1 0 Try.sizeOf194 (fe_t rfl) (fe_t rfl) rfl rfl rfl rfl (?_))
  refine tl_nil ?_
  refine tx_then ?_
  refine tr_seq ?_
  refine tr_seq ?_
  refine tr_as (r' := vec 2 1 (.slice (some ⟨gs, 0, none⟩) n n) n (cI (List.replicate n 0))) 1 rfl (congrArg (vec _ _ _ _) cI_zeros) ?_
  refine tr_region ?_
  refine tl_step rfl (oj_val (y_ldb 7 Try.isAgg105 (fe_t rfl) rfl rfl) ?_)
  refine tl_step rfl (oj_val (y_len Try.underlying105 (fe_t rfl)) ?_)
  refine tl_step rfl (oj_val (y_move fe_c) ?_)
  refine tl_nil ?_
  refine tx_then ?_
  refine tr_block ?_
  refine tr_add (r := bag [] [] []) bag_nil rfl ?_
  refine tr_loop7 [10, 11, 38, 39, 40, 41, 42, 43, 44, 45, 46, 47, 48, 49, 50, 51, 52, 53, 54, 55, 56, 57, 58, 59, 60, 61, 62, 63, 64, 65, 66, 67, 68, 69, 70, 71, 72, 73, 74, 75, 76] (fun (k : Nat) (l : List Rn) (kl : List Kd) (sl : List Int) (Hx : List Nat) (Dx : List Nat) (es : List Ent) => [(38, .int .i64 (k : Int))]) 0 (fun (k : Nat) (l : List Rn) (kl : List Kd) (sl : List Int) (Hx : List Nat) (Dx : List Nat) (es : List Ent) => [(7, vec 196 6 (.slice (some ⟨ga, 0, none⟩) n n) n ((halfX n k l).flatMap cX0)), (5, vec 79 1 (.slice (some ⟨gk, 0, none⟩) n n) n (kl.flatMap cK)), (3, subs 3 1 (kl.map Kd.kV)), (2, vec 2 1 (.slice (some ⟨gs, 0, none⟩) n n) n (cI sl)), (0, bag Hx Dx es)]) (fun (k : Nat) (l : List Rn) (kl : List Kd) (sl : List Int) (Hx : List Nat) (Dx : List Nat) (es : List Ent) => k ≤ n ∧ IniX es k l ∧ KidsAt t k kl ∧ SumsAt t k sl) (fun (k : Nat) (l : List Rn) (kl : List Kd) (sl : List Int) (Hx : List Nat) (Dx : List Nat) (es : List Ent) => n - k) (0) ([]) (List.replicate n Kd.nil) (List.replicate n 0) (_) (_) (_) (cov_cons (by first | rfl | exact v_int (by omega) | exact v_int (by dsimp only; omega)) (cov_nil)) (fun w h => h) ?_ ?_
  · try dsimp only
    exact ⟨by omega, iniX_zero, kids_zero htn, sums_zero htn⟩
  intro k l kl sl Hx Dx es hp
  obtain ⟨hk, hini, hK, hSm⟩ := hp
  have hkln : kl.length = n := by rw [hK.len, htn]
  have hsll : sl.length = n := by rw [hSm.len, htn]
  refine tr_seq ?_
  refine tr_region ?_
  refine tl_step rfl (oj_val (y_lss (fe_t rfl) (fe_t rfl)) ?_)
  refine tl_nil ?_
  refine tx_then ?_
  refine tr_seq ?_
  refine tr_condp (fe_t rfl) (fun hq1 => ?_) (fun hq2 => ?_)
  · try (exfalso; omega)
    all_goals
      refine tr_skip ?_
      refine tx_then ?_
      refine tr_seq ?_
      refine tr_block ?_
      refine tr_seq ?_
      refine tr_region ?_
      refine tl_step rfl (oj_val (y_move (fe_t rfl)) ?_)
      refine tl_step rfl (oj_val (y_assign (fe_t rfl)) ?_)
      refine tl_nil ?_
      refine tx_then ?_
      refine tr_seq ?_
      refine tr_region ?_
      refine tl_step rfl (oj_val (y_ldb 6 Try.isAgg192 (fe_t rfl) rfl rfl) ?_)
      refine tl_step rfl (oj_val (y_move (fe_t rfl)) ?_)
      refine tl_step rfl (oj_allocR 0 Try.zeroValue37 rfl (fun b_xa H_xa => ?_))
      refine tl_step rfl (oj_allocR 0 Try.zeroValue37 rfl (fun b_xb H_xb => ?_))
      refine tl_step rfl (oj_allocR 0 Try.zeroValue37 rfl (fun b_xc H_xc => ?_))
      refine tl_step rfl (oj_val ((fun {u0 u1 u2} hx hb => y_build (is := [2, 3, 4]) (vs := [u0, u1, u2]) (cs := [.int .i64 0, .int .i64 0, u0, u1, u2, .slice none 0 0]) rfl hx hb) (fel_cons (fe_t rfl) (fel_cons (fe_t rfl) (fel_cons (fe_t rfl) fel_nil))) (by kernel_rfl)) ?_)
      refine tl_step rfl (oj_val (y_index Try.underlying192 Try.sizeOf196 (fe_t rfl) (fe_t rfl) (rdl_vec 7 rfl) (by rw [flat_len hcX0, halfX_len hini.1 (by omega)]) (by decide) (by omega) rfl) ?_)
      refine tl_step rfl (oj_storeR (i := 7) (some (⟨0, 0, b_xa, b_xb, b_xc, none, 0, []⟩ : Rn)) hcX0 Try.sizeOf196 (fe_t rfl) (fe_t rfl) rfl rfl rfl (by rw [halfX_len hini.1 (by omega)]; omega) (by decide) (?_))
      refine tl_nil ?_
      refine tx_then ?_
      refine tr_seq ?_
      refine tr_as (r' := vec 196 6 (.slice (some ⟨ga, 0, none⟩) n n) n ((halfX n (k + 1) (l ++ [(⟨0, 0, b_xa, b_xb, b_xc, none, 0, []⟩ : Rn)])).flatMap cX0)) 7 rfl (congrArg (vec _ _ _ _) (congrArg (List.flatMap cX0) (halfX_set hini.1 (by omega)))) ?_
      refine tr_bagEq 0 rfl (fun es1 he1 => ?_)
      have hini1 : IniX es1 (k + 1) (l ++ [(⟨0, 0, b_xa, b_xb, b_xc, none, 0, []⟩ : Rn)]) := by rw [he1]; exact hini.step (.cons _ (.cons _ (.cons _ (.cons _ (.cons _ (.cons _ Ext.rfl)))))) ⟨_, _, pget_mem 4 rfl, pget_mem 5 rfl, zero27⟩ ⟨_, _, pget_mem 2 rfl, pget_mem 3 rfl, zero27⟩ ⟨_, _, pget_mem 0 rfl, pget_mem 1 rfl, zero27⟩
      refine tr_region ?_
      refine tl_step rfl (oj_val (y_move (fe_t rfl)) ?_)
      refine tl_step rfl (oj_val (y_gtr (fe_t rfl) fe_c) ?_)
      refine tl_nil ?_
      refine tx_then ?_
      refine tr_condp (fe_t rfl) (fun hq3 => ?_) (fun hq4 => ?_)
      · try (exfalso; omega)
        all_goals
          have hkn : k < t.n := by omega
          have huk := g.u k (by omega) hkn
          obtain ⟨p, hpu⟩ : ∃ p : Nat, t.u k = p := ⟨(t.u k).toNat, by omega⟩
          have hp : n1 ns k = (p : Int) := by rw [← hpu, ht, trOf_u]
          have hpn : p < t.n := by omega
          have hwk : 1 ≤ n2 ns k ∧ n2 ns k ≤ 12 := by have h := g.w k hkn; rw [ht, trOf_w] at h; exact h
          have hsb := sumTo_bd g (k := p) (n := k) (by omega)
          have hsp : sl.getD p 0 = t.sumTo k p := hSm.at_ p hpn
          have hkl0 := kidsTo_len (t := t) (m := k) (k := p)
          have hkp : (kl.getD p Kd.nil).ks.length ≤ 16 := by rw [hK.at_ p hpn, kI_len]; omega
          refine tr_seq ?_
          refine tr_region ?_
          refine tl_step rfl (oj_val (y_ldb 8 Try.isAgg105 (fe_t rfl) rfl rfl) ?_)
          refine tl_step rfl (oj_val (y_move (fe_t rfl)) ?_)
          refine tl_step rfl (oj_val (y_index Try.underlying105 Try.sizeOf121 (fe_t rfl) (fe_t rfl) (rdl_out hr) (lenN hnl) (by decide) (by omega) rfl) ?_)
          refine tl_step rfl (oj_val (y_fieldAddrE (td := 3) Try.underlying121 rfl rfl Try.sizeOf3 rfl (fe_t rfl) (rdl_out hr) (by rw [lenN hnl]; omega)) ?_)
          refine tl_step rfl (oj_val (y_ld Try.isAgg3 (fe_t rfl) (rdl_out hr) (getN1 (by omega))) ?_)
          refine tl_step rfl (oj_val (y_assign (fe_t rfl)) ?_)
          refine tl_nil ?_
          refine tx_then ?_
          refine tr_seq ?_
          refine tr_subOut 3 p rfl (map_at (d := Kd.nil) Kd.kV (by omega)) ?_
          have hbn : (Kd.kV (kl.getD p Kd.nil)).n ≤ 16 := hkp
          refine tr_norm (L' := [_, _, _, _, _, _, _, _, _, _]) (fun w h => h.pick [0, 1, 2, 3, 4, 5, 6, 7, 8, 9] _ rfl (by decide)) ?_
          refine tb_draw1 10 [_, _, _, _, _, _, _, _, _] [_, _, _, _, _, _, _, _, _] (fun w h => h.pick [1, 2, 3, 4, 5, 6, 7, 8, 9] _ rfl (by decide)) (fun w h => (h.weak (i := 5) rfl).pick [5, 0, 1, 2, 3, 4, 6, 7, 8] _ rfl (by decide)) rfl ?_
          refine tb_float (i := 0) rfl (by kernel_rfl) rfl (wants_none rfl) (yq_of (y_ldb 5 Try.isAgg193 (fe_t rfl) rfl rfl)) ?_
          refine tb_float (i := 1) rfl (by kernel_rfl) rfl (wants_none rfl) (yq_of (y_move (fe_t rfl))) ?_
          refine tb_float (i := 2) rfl (by kernel_rfl) rfl (wants_none rfl) (yq_of (y_ldb 5 Try.isAgg193 (fe_t rfl) rfl rfl)) ?_
          refine tb_float (i := 3) rfl (by kernel_rfl) rfl (wants_none rfl) (yq_of (y_move (fe_t rfl))) ?_
          refine tb_float (i := 4) rfl (by kernel_rfl) rfl (wants_none rfl) (yq_of (y_indexR Try.underlying193 Try.sizeOf79 (fe_t rfl) (fe_i hp rfl) (rch_w 0 rfl (by omega)) (by omega) rfl)) ?_
          refine tb_float1 (i := 5) rfl (by kernel_rfl) (by kernel_rfl) rfl (wants_none rfl) (yq_of (y_ld Try.isAgg79 (fe_t rfl) (rdl_vec 5 rfl) (flatG (d := Kd.nil) (i := 0) hcK (by omega) rfl))) ?_
          refine tb_float (i := 6) rfl (by kernel_rfl) rfl (wants_none rfl) (yq_of (y_move (fe_t rfl))) ?_
          refine tb_one1 (i := 7) rfl (by kernel_rfl) (by kernel_rfl) (wants_none rfl) (oj_slice1 Try.underlying79 Try.sizeOf3 Try.zeroValue3 (fe_t rfl) (by decide) rfl (fun b1 => ⟨fun w h => h.pick [2, 3, 4, 5, 6, 7, 8, 9, 10] _ rfl (by decide), ?_⟩))
          refine tb_one1 (i := 8) rfl (by kernel_rfl) (by kernel_rfl) (wants_none rfl) (oj_append (i := 1) (s := 1) (z := (.int .i64 0)) (bytes := 8) Try.underlying79 (by kernel_rfl) (fe_t rfl) (fe_t rfl) rfl (rdl_blk 0 rfl) rfl (by decide) (by first | exact oneI | exact oneF (fun _ => rfl) | exact fun u hu => List.all_eq_true.1 (show List.all _ (fun x => x.oneCell') = true from rfl) u hu | (intro u hu; revert u hu; simp [Value.oneCell'])) (by decide) ⟨by omega, by decide⟩ (fun Aa1 ca1 hca1 => ⟨fun w h => h.pick [2, 3, 4, 5, 6, 7, 8, 9, 10] _ rfl (by decide), ?_⟩))
          refine tb_float (i := 9) rfl (by kernel_rfl) rfl (wants_none rfl) (yq_of (y_indexR Try.underlying193 Try.sizeOf79 (fe_t rfl) (fe_i hp rfl) (rch_w 0 rfl (by omega)) (by omega) rfl)) ?_
          refine tb_one2 (i := 10) rfl (by kernel_rfl) (by kernel_rfl) (wants_none rfl) (oj_storeG (i := 7) (k := p) (o := 0) Kd.nil (⟨Aa1, ca1, (kl.getD p Kd.nil).ks ++ [(k : Int)]⟩ : Kd) hcK Try.sizeOf79 (fe_t rfl) (fe_t rfl) rfl rfl rfl (by omega) rfl (by simp [cK, Kd.kV]) (⟨fun w h => (h.weak (i := 7) rfl).pick [7, 2, 3, 4, 5, 6, 8, 9, 10] _ rfl (by decide), ?_⟩))
          refine tb_done (by kernel_rfl) ?_
          refine tx_then ?_
          refine tr_subInJ 1 5 p rfl rfl rfl (map_nil_at Kd.kV (by omega)) (map_back (x := (⟨Aa1, ca1, (kl.getD p Kd.nil).ks ++ [(k : Int)]⟩ : Kd)) Kd.kV (by simp [Kd.kV, cI, zc])) ?_
          generalize hkl1 : kl.set p (⟨Aa1, ca1, (kl.getD p Kd.nil).ks ++ [(k : Int)]⟩ : Kd) = kl1
          have hK1 : KidsAt t (k + 1) kl1 := hK.set hpn hpu hkl1 rfl
          refine tr_norm (L' := [_, _, _, _, _, _, _, _, _, _]) (fun w h => h.pick [0, 2, 3, 4, 5, 6, 7, 8, 9, 10] _ rfl (by decide)) ?_
          refine tb_draw1 11 [_, _, _, _, _, _, _, _, _, _] [_, _, _, _, _, _, _, _, _, _] (fun w h => h.pick [0, 1, 2, 3, 4, 5, 6, 7, 8, 9] _ rfl (by decide)) (fun w h => (h.weak (i := 3) rfl).pick [3, 0, 1, 2, 4, 5, 6, 7, 8, 9] _ rfl (by decide)) rfl ?_
          refine tb_float (i := 0) rfl (by kernel_rfl) rfl (wants_none rfl) (yq_of (y_ldb 3 Try.isAgg194 (fe_t rfl) rfl rfl)) ?_
          refine tb_float (i := 1) rfl (by kernel_rfl) rfl (wants_none rfl) (yq_of (y_move (fe_t rfl))) ?_
          refine tb_float (i := 2) rfl (by kernel_rfl) rfl (wants_none rfl) (yq_of (y_indexR Try.underlying194 Try.sizeOf2 (fe_t rfl) (fe_i hp rfl) (rch_w 0 rfl (by omega)) (by omega) (Nat.mul_one _))) ?_
          refine tb_float1 (i := 3) rfl (by kernel_rfl) (by kernel_rfl) rfl (wants_none rfl) (yq_of (y_ld Try.isAgg2 (fe_t rfl) (rdl_vec 3 rfl) (getC (by omega)))) ?_
          refine tb_float (i := 4) rfl (by kernel_rfl) rfl (wants_none rfl) (yq_of (y_ldb 9 Try.isAgg105 (fe_t rfl) rfl rfl)) ?_
          refine tb_float (i := 5) rfl (by kernel_rfl) rfl (wants_none rfl) (yq_of (y_move (fe_t rfl))) ?_
          refine tb_float (i := 6) rfl (by kernel_rfl) rfl (wants_none rfl) (yq_of (y_index Try.underlying105 Try.sizeOf121 (fe_t rfl) (fe_t rfl) (rdl_out hr) (lenN hnl) (by decide) (by omega) rfl)) ?_
          refine tb_float (i := 7) rfl (by kernel_rfl) rfl (wants_none rfl) (yq_of (y_fieldAddrE (td := 3) Try.underlying121 rfl rfl Try.sizeOf3 rfl (fe_t rfl) (rdl_out hr) (by rw [lenN hnl]; omega))) ?_
          refine tb_float (i := 8) rfl (by kernel_rfl) rfl (wants_none rfl) (yq_of (y_ld Try.isAgg3 (fe_t rfl) (rdl_out hr) (getN2 (by omega)))) ?_
          refine tb_float (i := 9) rfl (by kernel_rfl) rfl (wants_none rfl) (yq_of (y_add (fe_t rfl) (fe_t rfl) (by omega))) ?_
          refine tb_float (i := 10) rfl (by kernel_rfl) rfl (wants_none rfl) (yq_of (y_indexR Try.underlying194 Try.sizeOf2 (fe_t rfl) (fe_i hp rfl) (rch_w 0 rfl (by omega)) (by omega) (Nat.mul_one _))) ?_
          refine tb_one2 (i := 11) rfl (by kernel_rfl) (by kernel_rfl) (wants_none rfl) (oj_storeE1 (i := 3) Try.sizeOf2 (fe_t rfl) (fe_t rfl) rfl rfl rfl (by omega) (⟨fun w h => (h.weak (i := 3) rfl).pick [3, 0, 1, 2, 4, 5, 6, 7, 8, 9] _ rfl (by decide), ?_⟩))
          refine tb_done (by kernel_rfl) ?_
          refine tx_in ?_
          refine tx_then ?_
          refine tr_as (r' := vec 2 1 (.slice (some ⟨gs, 0, none⟩) n n) n (cI (sl.set p (sl.getD p 0 + n2 ns k)))) 3 rfl (congrArg (vec _ _ _ _) cI_set) ?_
          generalize hsl1 : sl.set p (sl.getD p 0 + n2 ns k) = sl1
          have hS1 : SumsAt t (k + 1) sl1 := hSm.set hpn hpu hsl1 (by rw [ht, trOf_w])
          refine tr_region ?_
          refine tl_step rfl (oj_val (y_inc (fe_t rfl) fe_c (by omega)) ?_)
          refine tl_step rfl (oj_val (y_move (fe_t rfl)) ?_)
          refine tl_nil ?_
          apply tx_back7 (k + 1) (_) (kl1) (sl1) (_) (_) (_)
          · exact (cov_cons (by first | rfl | exact v_int (by omega) | exact v_int (by dsimp only; omega)) (cov_nil))
          · repeat (first | exact over_nil | refine over_put rfl ?_ | refine over_drop rfl ?_)
          · exact fun w h => h.pick [1, 2, 3, 4, 5, 6, 7, 8, 9] _ rfl (by decide)
          · exact ⟨⟨by omega, hini1, hK1, hS1⟩, by omega⟩
      · try (exfalso; omega)
        all_goals
          have hu0 : t.u k < 0 := by have h := g.u0; rw [show k = 0 by omega]; omega
          refine tr_skip ?_
          refine tx_in ?_
          refine tx_then ?_
          refine tr_region ?_
          refine tl_step rfl (oj_val (y_inc (fe_t rfl) fe_c (by omega)) ?_)
          refine tl_step rfl (oj_val (y_move (fe_t rfl)) ?_)
          refine tl_nil ?_
          apply tx_back7 (k + 1) (_) (kl) (sl) (_) (_) (_)
          · exact (cov_cons (by first | rfl | exact v_int (by omega) | exact v_int (by dsimp only; omega)) (cov_nil))
          · repeat (first | exact over_nil | refine over_put rfl ?_ | refine over_drop rfl ?_)
          · exact fun w h => h.pick [0, 1, 2, 3, 4, 5, 6, 7, 8] _ rfl (by decide)
          · exact ⟨⟨by omega, hini1, hK.none g hu0, hSm.none hu0⟩, by omega⟩
  · try (exfalso; omega)
    all_goals
      refine tr_exit ?_
      refine tx_then_exit ?_
      refine tx_then_exit ?_
      refine tx_in_exit ?_
      refine tx_then ?_
      refine tr_seq ?_
      obtain rfl : n = k := by omega
      have hini2 : IniX es t.n l := by rw [htn]; exact hini
      have hrel0 := hini2.rel
      have hkl : KidsAt t t.n kl := by rw [htn]; exact hK
      have hsl : SumsAt t t.n sl := by rw [htn]; exact hSm
      clear hini2
      refine tr_as (r' := vec 196 6 (.slice (some ⟨ga, 0, none⟩) n n) n (l.flatMap cX)) 7 rfl (congrArg (vec _ _ _ _) (halfX_all (Nat.le_refl _))) ?_
      refine tr_add (r := subs 3 1 (l.map Rn.wV)) (by rw [hini.wV]; exact subs_nils) (by rw [hini.wV]; exact subs_nils_foot) ?_
      refine tr_region ?_
      refine tl_step rfl (oj_val (y_makeFunc (fel_cons (fe_t rfl) (fel_cons (fe_t rfl) (fel_cons (fe_t rfl) fel_nil)))) ?_)
      refine tl_step rfl (oj_alloc Try.zeroValue198 (fun bo => ?_))
      refine tl_step rfl (oj_store1 0 Try.sizeOf198 (fe_t rfl) (fe_t rfl) rfl rfl rfl rfl (?_))
      refine tl_nil ?_
      refine tx_then ?_
      refine tr_seq ?_
      refine tr_region ?_
      refine tl_step rfl (oj_val (y_makeFunc (fel_cons (fe_t rfl) (fel_cons (fe_t rfl) (fel_cons (fe_t rfl) fel_nil)))) ?_)
      refine tl_step rfl (oj_val (y_assign (fe_t rfl)) ?_)
      refine tl_nil ?_
      refine tx_then ?_
      refine tr_seq ?_
      refine tr_region ?_
      refine tl_step rfl (oj_val (y_assign fe_c) ?_)
      refine tl_nil ?_
      refine tx_then ?_
      refine tr_seq ?_
      refine tr_region ?_
      refine tl_step rfl (oj_val (y_assign fe_c) ?_)
      refine tl_nil ?_
      refine tx_then ?_
      refine tr_seq ?_
      refine tr_seq ?_
      refine tr_region ?_
      refine tl_step rfl (oj_val (y_move (fe_t rfl)) ?_)
      refine tl_step rfl (oj_val (y_len Try.underlying91 (fe_t rfl)) ?_)
      refine tl_step rfl (oj_val (y_move fe_c) ?_)
      refine tl_nil ?_
      refine tx_then ?_
      refine tr_block ?_
      refine tr_add (r := vec 24 1 (.slice none 0 0) 0 []) vec_nil rfl ?_
      refine tr_add (r := vec 102 2 (.slice none 0 0) 0 []) vec_nil rfl ?_
      refine tr_loop8 [14, 15, 17, 18, 19, 20, 21, 22, 23, 81, 82, 83, 84, 85, 86, 87, 88, 89, 90, 91, 92, 93, 94, 95, 96, 97, 98, 99, 100, 101, 102, 103, 104, 105, 106, 107, 108, 109, 110, 111, 112, 113, 114, 115, 116, 117, 118, 119, 120, 121, 122, 123, 124, 125, 126, 127, 128, 129, 130, 131, 132, 133, 134, 135, 136, 137, 138, 139, 140, 141, 142, 143, 144, 145, 146, 147, 148, 149, 150, 151, 152, 153, 154, 155, 156, 157, 158, 159, 160, 161, 162, 163, 164, 165, 166, 167, 168, 169, 170, 171, 172, 173, 174, 175, 176, 177, 178, 179, 180, 181, 182, 183, 184, 185, 186, 187, 188, 189, 190, 191, 192, 193, 194, 195, 196, 197, 198, 199, 200, 201, 202, 203, 204, 205, 206, 207, 208, 209, 210, 211, 212, 213, 214, 215, 216, 217, 218, 219, 220, 221, 222, 223, 224, 225, 226, 227, 228, 229, 230, 231, 232, 233, 234, 235, 236, 237, 238, 239, 240, 241, 242, 243, 244, 245, 246, 247, 248, 249, 250, 251] (fun (i : Nat) (s : S) (l : List Rn) (e1 : Vs) (s1 : Vs) (Hx : List Nat) (Dx : List Nat) (es : List Ent) => [(81, .int .i64 (i : Int)), (14, .slice e1.A e1.n e1.c), (15, .slice s1.A s1.n s1.c)]) 0 (fun (i : Nat) (s : S) (l : List Rn) (e1 : Vs) (s1 : Vs) (Hx : List Nat) (Dx : List Nat) (es : List Ent) => [(11, vec 196 6 (.slice (some ⟨ga, 0, none⟩) n n) n (l.flatMap cX)), (3, subs 3 1 (l.map Rn.wV)), (4, bag Hx Dx es), (1, vec 24 1 (.slice e1.A e1.n e1.c) e1.n e1.xs), (0, vec 102 2 (.slice s1.A s1.n s1.c) s1.n s1.xs)]) (fun (i : Nat) (s : S) (l : List Rn) (e1 : Vs) (s1 : Vs) (Hx : List Nat) (Dx : List Nat) (es : List Ent) => i ≤ m ∧ Run t os i s ∧ RelT es t l s.ds ∧ (e1.n = s.errs.length ∧ e1.xs = cI s.errs) ∧ s1.n = s.sent.length ∧ s1.xs = s.sent.flatMap c2) (fun (i : Nat) (s : S) (l : List Rn) (e1 : Vs) (s1 : Vs) (Hx : List Nat) (Dx : List Nat) (es : List Ent) => m - i) (0) (⟨List.replicate t.n D.nil, [], []⟩) (_) (⟨none, 0, 0, []⟩ : Vs) (⟨none, 0, 0, []⟩ : Vs) (_) (_) (_) (cov_cons (by first | rfl | exact v_int (by omega) | exact v_int (by dsimp only; omega)) (cov_cons (by first | rfl | exact v_int (by omega) | exact v_int (by dsimp only; omega)) (cov_cons (by first | rfl | exact v_int (by omega) | exact v_int (by dsimp only; omega)) (cov_nil)))) (fun w h => h) ?_ ?_
      · try dsimp only
        exact ⟨by omega, rfl, hrel0, ⟨rfl, rfl⟩, rfl, rfl⟩
      intro i s l e1 s1 Hx Dx es hp
      obtain ⟨hi, hrun, hrel, ⟨hen, hex⟩, hsn, hsx⟩ := hp
      have hwf := run_wf g hrun
      have hel := hwf.errs
      have hsl2 := hwf.sent
      have hll : l.length = n := by rw [hrel.len, htn]
      have hR0 := hrel.at_ 0 g.n1
      have hR0b := hR0.bytes
      have hR0l := hR0.leaf
      have hpos0 := hwf.ok.pos 0
      refine tr_seq ?_
      refine tr_region ?_
      refine tl_step rfl (oj_val (y_lss (fe_t rfl) (fe_t rfl)) ?_)
      refine tl_nil ?_
      refine tx_then ?_
      refine tr_seq ?_
      refine tr_condp (fe_t rfl) (fun hq5 => ?_) (fun hq6 => ?_)
      · try (exfalso; omega)
        all_goals
          refine tr_skip ?_
          refine tx_then ?_
          refine tr_seq ?_
          refine tr_block ?_
          refine tr_seq ?_
          refine tr_region ?_
          refine tl_step rfl (oj_val (y_index Try.underlying91 Try.sizeOf174 (fe_t rfl) (fe_t rfl) (rdl_out hr2) (lenO hn2) (by decide) (by omega) rfl) ?_)
          refine tl_step rfl (oj_val (y_ldA (cs := [(.int .i64 (o1 os i)), (.int .i64 (o2 os i)), (.int .i64 (o3 os i))]) Try.isAgg174 Try.sizeOf174 (fe_t rfl) (rdl_out hr2) rfl (by decide) (getO (by omega))) ?_)
          refine tl_step rfl (oj_alloc Try.zeroValue174 (fun bp => ?_))
          refine tl_step rfl (oj_storeW 0 Try.sizeOf174 (fe_t rfl) (fe_t rfl) rfl rfl rfl rfl rfl (?_))
          refine tl_nil ?_
          refine tx_then ?_
          refine tr_seq ?_
          refine tr_region ?_
          refine tl_step rfl (oj_val (y_assign fe_c) ?_)
          refine tl_nil ?_
          refine tx_then ?_
          refine tr_cut1 [19, 85, 86, 87, 88, 89, 90, 91, 92, 93, 94, 95, 96, 97, 98, 99, 100, 101, 102, 103] (fun (lf : Bool) => [(19, .bool lf)]) 0 (fun (lf : Bool) => []) (fun (lf : Bool) => lf = true ↔ t.leaf (o2 os i)) ?_ ?_
          · refine tr_region ?_
            refine tl_step rfl (oj_val (y_fieldAddr (td := 3) Try.underlying174 rfl rfl Try.sizeOf3 (o' := 1) rfl (fe_t rfl)) ?_)
            refine tl_step rfl (oj_val (y_ldb 0 Try.isAgg3 (fe_t rfl) rfl rfl) ?_)
            refine tl_step rfl (oj_val (y_geq (fe_t rfl) fe_c) ?_)
            refine tl_step rfl (oj_val (y_move (fe_t rfl)) ?_)
            refine tl_splitp (d := 88) rfl (fun hq7 => ?_) (fun hq8 => ?_)
            · try (exfalso; omega)
              all_goals
                refine tl_want rfl rfl rfl (oj_val (y_fieldAddr (td := 3) Try.underlying174 rfl rfl Try.sizeOf3 (o' := 1) rfl (fe_t rfl)) ?_)
                refine tl_want rfl rfl rfl (oj_val (y_ldb 0 Try.isAgg3 (fe_t rfl) rfl rfl) ?_)
                refine tl_want rfl rfl rfl (oj_val (y_ldb 13 Try.isAgg105 (fe_t rfl) rfl rfl) ?_)
                refine tl_want rfl rfl rfl (oj_val (y_len Try.underlying105 (fe_t rfl)) ?_)
                refine tl_want rfl rfl rfl (oj_val (y_lss (fe_t rfl) (fe_t rfl)) ?_)
                refine tl_step rfl (oj_val (y_pickt (fe_t rfl) (fe_t rfl)) ?_)
                refine tl_step rfl (oj_val (y_move (fe_t rfl)) ?_)
                refine tl_splitp (d := 95) rfl (fun hq9 => ?_) (fun hq10 => ?_)
                · try (exfalso; omega)
                  all_goals
                    refine tl_want rfl rfl rfl (oj_val (y_ldb 9 Try.isAgg193 (fe_t rfl) rfl rfl) ?_)
                    refine tl_want rfl rfl rfl (oj_val (y_fieldAddr (td := 3) Try.underlying174 rfl rfl Try.sizeOf3 (o' := 1) rfl (fe_t rfl)) ?_)
                    refine tl_want rfl rfl rfl (oj_val (y_ldb 0 Try.isAgg3 (fe_t rfl) rfl rfl) ?_)
                    refine tl_want rfl rfl rfl (oj_val (y_indexI Try.underlying193 Try.sizeOf79 (fe_t rfl) (fe_t rfl) (rdl_vec 10 rfl) (by rw [flat_len hcK]; omega) (by decide) (by omega) (by omega) rfl) ?_)
                    refine tl_want rfl rfl rfl (oj_val (y_ld Try.isAgg79 (fe_t rfl) (rdl_vec 10 rfl) (flatG (d := Kd.nil) (i := 0) hcK (by omega) rfl)) ?_)
                    refine tl_want rfl rfl rfl (oj_val (y_len Try.underlying79 (fe_t rfl)) ?_)
                    refine tl_want rfl rfl rfl (oj_val (y_eq (fe_t rfl) fe_c) ?_)
                    refine tl_step rfl (oj_val (y_pickt (fe_t rfl) (fe_t rfl)) ?_)
                    refine tl_step rfl (oj_val (y_assign (fe_t rfl)) ?_)
                    refine tl_nil ?_
                    apply tx_back1 (_)
                    · exact (cov_cons (by first | rfl | exact v_int (by omega) | exact v_int (by dsimp only; omega)) (cov_nil))
                    · repeat (first | exact over_nil | refine over_put rfl ?_ | refine over_drop rfl ?_)
                    · exact fun w h => h.pick [0, 1, 2, 3, 4, 5, 6, 7, 8, 9, 10, 11, 12, 13] _ rfl (by decide)
                    · exact leaf_dec hkl (by omega) (by omega)
                · try (exfalso; omega)
                  all_goals
                    refine tl_skip rfl rfl rfl rfl ?_
                    refine tl_skip rfl rfl rfl rfl ?_
                    refine tl_skip rfl rfl rfl rfl ?_
                    refine tl_skip rfl rfl rfl rfl ?_
                    refine tl_skip rfl rfl rfl rfl ?_
                    refine tl_skip rfl rfl rfl rfl ?_
                    refine tl_skip rfl rfl rfl rfl ?_
                    refine tl_step rfl (oj_val (y_pickf (fe_t rfl) fe_c) ?_)
                    refine tl_step rfl (oj_val (y_assign (fe_t rfl)) ?_)
                    refine tl_nil ?_
                    apply tx_back1 (_)
                    · exact (cov_cons (by first | rfl | exact v_int (by omega) | exact v_int (by dsimp only; omega)) (cov_nil))
                    · repeat (first | exact over_nil | refine over_put rfl ?_ | refine over_drop rfl ?_)
                    · exact fun w h => h.pick [0, 1, 2, 3, 4, 5, 6, 7, 8, 9, 10, 11, 12, 13] _ rfl (by decide)
                    · exact ⟨fun h => (by cases h), fun h => (by have := h.1; have := h.2.1; omega)⟩
            · try (exfalso; omega)
              all_goals
                refine tl_skip rfl rfl rfl rfl ?_
                refine tl_skip rfl rfl rfl rfl ?_
                refine tl_skip rfl rfl rfl rfl ?_
                refine tl_skip rfl rfl rfl rfl ?_
                refine tl_skip rfl rfl rfl rfl ?_
                refine tl_step rfl (oj_val (y_pickf (fe_t rfl) fe_c) ?_)
                refine tl_step rfl (oj_val (y_move (fe_t rfl)) ?_)
                refine tl_skip rfl rfl rfl rfl ?_
                refine tl_skip rfl rfl rfl rfl ?_
                refine tl_skip rfl rfl rfl rfl ?_
                refine tl_skip rfl rfl rfl rfl ?_
                refine tl_skip rfl rfl rfl rfl ?_
                refine tl_skip rfl rfl rfl rfl ?_
                refine tl_skip rfl rfl rfl rfl ?_
                refine tl_step rfl (oj_val (y_pickf (fe_t rfl) fe_c) ?_)
                refine tl_step rfl (oj_val (y_assign (fe_t rfl)) ?_)
                refine tl_nil ?_
                apply tx_back1 (_)
                · exact (cov_cons (by first | rfl | exact v_int (by omega) | exact v_int (by dsimp only; omega)) (cov_nil))
                · repeat (first | exact over_nil | refine over_put rfl ?_ | refine over_drop rfl ?_)
                · exact fun w h => h.pick [0, 1, 2, 3, 4, 5, 6, 7, 8, 9, 10, 11, 12, 13] _ rfl (by decide)
                · exact ⟨fun h => (by cases h), fun h => (by have := h.1; have := h.2.1; omega)⟩
          · intro lf hp
            have hlfi := hp
            refine tr_seq ?_
            refine tr_block ?_
            refine tr_seq ?_
            refine tr_region ?_
            refine tl_step rfl (oj_val (y_fieldAddr (td := 3) Try.underlying174 rfl rfl Try.sizeOf3 (o' := 0) rfl (fe_t rfl)) ?_)
            refine tl_step rfl (oj_val (y_ldb 0 Try.isAgg3 (fe_t rfl) rfl rfl) ?_)
            refine tl_step rfl (oj_val (y_lss (fe_t rfl) fe_c) ?_)
            refine tl_step rfl (oj_val (y_move (fe_t rfl)) ?_)
            refine tl_splitp (d := 161) rfl (fun hq11 => ?_) (fun hq12 => ?_)
            · try (exfalso; omega)
              all_goals
                refine tl_skip rfl rfl rfl rfl ?_
                refine tl_skip rfl rfl rfl rfl ?_
                refine tl_skip rfl rfl rfl rfl ?_
                refine tl_step rfl (oj_val (y_pickt (fe_t rfl) fe_c) ?_)
                refine tl_step rfl (oj_val (y_assign (fe_t rfl)) ?_)
                refine tl_nil ?_
                refine tx_then ?_
                refine tr_condt (fe_t rfl) ?_
                refine tr_region ?_
                refine tl_step rfl (oj_val (y_assign fe_c) ?_)
                refine tl_nil ?_
                refine tx_in ?_
                refine tx_then ?_
                refine tr_region ?_
                refine tl_step rfl (oj_val (y_move (fe_t rfl)) ?_)
                refine tl_step rfl (oj_val (y_move (fe_t rfl)) ?_)
                refine tl_step rfl (oj_slice1 Try.underlying92 Try.sizeOf24 Try.zeroValue24 (fe_t rfl) (by decide) rfl (fun b2 => ?_))
                refine tl_step rfl (oj_append (i := 3) (s := 1) (z := (.int .i64 0)) (bytes := 8) Try.underlying92 (by kernel_rfl) (fe_t rfl) (fe_t rfl) rfl (rdl_blk 0 rfl) rfl (by decide) (by first | exact oneI | exact oneF (fun _ => rfl) | exact fun u hu => List.all_eq_true.1 (show List.all _ (fun x => x.oneCell') = true from rfl) u hu | (intro u hu; revert u hu; simp [Value.oneCell'])) (by decide) ⟨by omega, by decide⟩ (fun Aa2 ca2 hca2 => ?_))
                refine tl_step rfl (oj_val (y_assign (fe_t rfl)) ?_)
                refine tl_nil ?_
                refine tx_in ?_
                refine tx_then ?_
                refine tr_region ?_
                refine tl_step rfl (oj_val (y_inc (fe_t rfl) fe_c (by omega)) ?_)
                refine tl_step rfl (oj_val (y_move (fe_t rfl)) ?_)
                refine tl_nil ?_
                apply tx_back8 (i + 1) ({ s with errs := s.errs ++ [5] }) (l) ((⟨_, _, _, _⟩ : Vs)) ((⟨_, _, _, _⟩ : Vs)) (_) (_) (es)
                · exact (cov_cons (by first | rfl | exact v_int (by omega) | exact v_int (by dsimp only; omega)) (cov_cons (by first | rfl | exact v_int (by omega) | exact v_int (by dsimp only; omega)) (cov_cons (by first | rfl | exact v_int (by omega) | exact v_int (by dsimp only; omega)) (cov_nil))))
                · repeat (first | exact over_nil | refine over_put rfl ?_ | refine over_drop rfl ?_)
                · exact fun w h => h.pick [2, 3, 4, 5, 6, 7, 8, 9, 10, 11, 12, 13, 14] _ rfl (by decide)
                · exact ⟨⟨by omega, ⟨s, hrun, .kind (by show o1 os i ≠ 1; omega) (by show o1 os i ≠ 2; omega)⟩, hrel, ⟨by simp; omega, by dsimp only; rw [hex, cI, cI, List.map_append]; rfl⟩, hsn, hsx⟩, by omega⟩
            · try (exfalso; omega)
              all_goals
                refine tl_want rfl rfl rfl (oj_val (y_fieldAddr (td := 3) Try.underlying174 rfl rfl Try.sizeOf3 (o' := 0) rfl (fe_t rfl)) ?_)
                refine tl_want rfl rfl rfl (oj_val (y_ldb 0 Try.isAgg3 (fe_t rfl) rfl rfl) ?_)
                refine tl_want rfl rfl rfl (oj_val (y_gtr (fe_t rfl) fe_c) ?_)
                refine tl_step rfl (oj_val (y_pickf (fe_t rfl) (fe_t rfl)) ?_)
                refine tl_step rfl (oj_val (y_assign (fe_t rfl)) ?_)
                refine tl_nil ?_
                refine tx_then ?_
                refine tr_condp (fe_t rfl) (fun hq13 => ?_) (fun hq14 => ?_)
                · try (exfalso; omega)
                  all_goals
                    refine tr_region ?_
                    refine tl_step rfl (oj_val (y_assign fe_c) ?_)
                    refine tl_nil ?_
                    refine tx_in ?_
                    refine tx_then ?_
                    refine tr_region ?_
                    refine tl_step rfl (oj_val (y_move (fe_t rfl)) ?_)
                    refine tl_step rfl (oj_val (y_move (fe_t rfl)) ?_)
                    refine tl_step rfl (oj_slice1 Try.underlying92 Try.sizeOf24 Try.zeroValue24 (fe_t rfl) (by decide) rfl (fun b3 => ?_))
                    refine tl_step rfl (oj_append (i := 3) (s := 1) (z := (.int .i64 0)) (bytes := 8) Try.underlying92 (by kernel_rfl) (fe_t rfl) (fe_t rfl) rfl (rdl_blk 0 rfl) rfl (by decide) (by first | exact oneI | exact oneF (fun _ => rfl) | exact fun u hu => List.all_eq_true.1 (show List.all _ (fun x => x.oneCell') = true from rfl) u hu | (intro u hu; revert u hu; simp [Value.oneCell'])) (by decide) ⟨by omega, by decide⟩ (fun Aa3 ca3 hca3 => ?_))
                    refine tl_step rfl (oj_val (y_assign (fe_t rfl)) ?_)
                    refine tl_nil ?_
                    refine tx_in ?_
                    refine tx_then ?_
                    refine tr_region ?_
                    refine tl_step rfl (oj_val (y_inc (fe_t rfl) fe_c (by omega)) ?_)
                    refine tl_step rfl (oj_val (y_move (fe_t rfl)) ?_)
                    refine tl_nil ?_
                    apply tx_back8 (i + 1) ({ s with errs := s.errs ++ [5] }) (l) ((⟨_, _, _, _⟩ : Vs)) ((⟨_, _, _, _⟩ : Vs)) (_) (_) (es)
                    · exact (cov_cons (by first | rfl | exact v_int (by omega) | exact v_int (by dsimp only; omega)) (cov_cons (by first | rfl | exact v_int (by omega) | exact v_int (by dsimp only; omega)) (cov_cons (by first | rfl | exact v_int (by omega) | exact v_int (by dsimp only; omega)) (cov_nil))))
                    · repeat (first | exact over_nil | refine over_put rfl ?_ | refine over_drop rfl ?_)
                    · exact fun w h => h.pick [2, 3, 4, 5, 6, 7, 8, 9, 10, 11, 12, 13, 14] _ rfl (by decide)
                    · exact ⟨⟨by omega, ⟨s, hrun, .kind (by show o1 os i ≠ 1; omega) (by show o1 os i ≠ 2; omega)⟩, hrel, ⟨by simp; omega, by dsimp only; rw [hex, cI, cI, List.map_append]; rfl⟩, hsn, hsx⟩, by omega⟩
                · try (exfalso; omega)
                  all_goals
                    refine tr_seq ?_
                    refine tr_seq ?_
                    refine tr_region ?_
                    refine tl_step rfl (oj_val (y_fieldAddr (td := 3) Try.underlying174 rfl rfl Try.sizeOf3 (o' := 0) rfl (fe_t rfl)) ?_)
                    refine tl_step rfl (oj_val (y_ldb 0 Try.isAgg3 (fe_t rfl) rfl rfl) ?_)
                    refine tl_step rfl (oj_val (y_eq (fe_t rfl) fe_c) ?_)
                    refine tl_step rfl (oj_val (y_move (fe_t rfl)) ?_)
                    refine tl_splitp (d := 170) rfl (fun hq15 => ?_) (fun hq16 => ?_)
                    · try (exfalso; omega)
                      all_goals
                        refine tl_want rfl rfl rfl (oj_val (y_move (fe_t rfl)) ?_)
                        refine tl_want rfl rfl rfl (oj_val (y_not (fe_t rfl)) ?_)
                        refine tl_step rfl (oj_val (y_pickt (fe_t rfl) (fe_t rfl)) ?_)
                        refine tl_step rfl (oj_val (y_assign (fe_t rfl)) ?_)
                        refine tl_nil ?_
                        refine tx_then ?_
                        refine tr_cond (fe_t rfl) (fun hq17 => ?_) (fun hq18 => ?_)
                        · try (exfalso; omega)
                          all_goals
                            have hcA := hq17
                            have hnl : ¬ t.leaf (o2 os i) := fun h0 => by have h1 := hlfi.2 h0; have h2 := hq17; simp [h1] at h2
                            refine tr_skip ?_
                            refine tx_then ?_
                            refine tr_cond (fe_t rfl) (fun hq19 => ?_) (fun hq20 => ?_)
                            · try (exfalso; omega)
                              all_goals
                                have hcA := hq19
                                have hnl : ¬ t.leaf (o2 os i) := fun h0 => by have h1 := hlfi.2 h0; have h2 := hq19; simp [h1] at h2
                                refine tr_region ?_
                                refine tl_step rfl (oj_val (y_assign fe_c) ?_)
                                refine tl_nil ?_
                                refine tx_in ?_
                                refine tx_then ?_
                                refine tr_region ?_
                                refine tl_step rfl (oj_val (y_move (fe_t rfl)) ?_)
                                refine tl_step rfl (oj_val (y_move (fe_t rfl)) ?_)
                                refine tl_step rfl (oj_slice1 Try.underlying92 Try.sizeOf24 Try.zeroValue24 (fe_t rfl) (by decide) rfl (fun b4 => ?_))
                                refine tl_step rfl (oj_append (i := 3) (s := 1) (z := (.int .i64 0)) (bytes := 8) Try.underlying92 (by kernel_rfl) (fe_t rfl) (fe_t rfl) rfl (rdl_blk 0 rfl) rfl (by decide) (by first | exact oneI | exact oneF (fun _ => rfl) | exact fun u hu => List.all_eq_true.1 (show List.all _ (fun x => x.oneCell') = true from rfl) u hu | (intro u hu; revert u hu; simp [Value.oneCell'])) (by decide) ⟨by omega, by decide⟩ (fun Aa4 ca4 hca4 => ?_))
                                refine tl_step rfl (oj_val (y_assign (fe_t rfl)) ?_)
                                refine tl_nil ?_
                                refine tx_in ?_
                                refine tx_then ?_
                                refine tr_region ?_
                                refine tl_step rfl (oj_val (y_inc (fe_t rfl) fe_c (by omega)) ?_)
                                refine tl_step rfl (oj_val (y_move (fe_t rfl)) ?_)
                                refine tl_nil ?_
                                apply tx_back8 (i + 1) ({ s with errs := s.errs ++ [3] }) (l) ((⟨_, _, _, _⟩ : Vs)) ((⟨_, _, _, _⟩ : Vs)) (_) (_) (es)
                                · exact (cov_cons (by first | rfl | exact v_int (by omega) | exact v_int (by dsimp only; omega)) (cov_cons (by first | rfl | exact v_int (by omega) | exact v_int (by dsimp only; omega)) (cov_cons (by first | rfl | exact v_int (by omega) | exact v_int (by dsimp only; omega)) (cov_nil))))
                                · repeat (first | exact over_nil | refine over_put rfl ?_ | refine over_drop rfl ?_)
                                · exact fun w h => h.pick [2, 3, 4, 5, 6, 7, 8, 9, 10, 11, 12, 13, 14] _ rfl (by decide)
                                · exact ⟨⟨by omega, ⟨s, hrun, .none (by show o1 os i = 1; omega) hnl⟩, hrel, ⟨by simp; omega, by dsimp only; rw [hex, cI, cI, List.map_append]; rfl⟩, hsn, hsx⟩, by omega⟩
                            · exfalso; rw [hcA] at hq20; cases hq20
                        · try (exfalso; omega)
                          all_goals
                            have hlf : t.leaf (o2 os i) := hlfi.1 (by have h2 := hq18; simpa using h2)
                            refine tr_region ?_
                            refine tl_step rfl (oj_val (y_fieldAddr (td := 3) Try.underlying174 rfl rfl Try.sizeOf3 (o' := 0) rfl (fe_t rfl)) ?_)
                            refine tl_step rfl (oj_val (y_ldb 0 Try.isAgg3 (fe_t rfl) rfl rfl) ?_)
                            refine tl_step rfl (oj_val (y_eq (fe_t rfl) fe_c) ?_)
                            refine tl_step rfl (oj_val (y_move (fe_t rfl)) ?_)
                            refine tl_splitp (d := 177) rfl (fun hq21 => ?_) (fun hq22 => ?_)
                            · exfalso; omega
                            · try (exfalso; omega)
                              all_goals
                                refine tl_skip rfl rfl rfl rfl ?_
                                refine tl_skip rfl rfl rfl rfl ?_
                                refine tl_skip rfl rfl rfl rfl ?_
                                refine tl_skip rfl rfl rfl rfl ?_
                                refine tl_skip rfl rfl rfl rfl ?_
                                refine tl_step rfl (oj_val (y_pickf (fe_t rfl) fe_c) ?_)
                                refine tl_step rfl (oj_val (y_assign (fe_t rfl)) ?_)
                                refine tl_nil ?_
                                refine tx_then ?_
                                refine tr_condf (fe_t rfl) ?_
                                refine tr_seq ?_
                                refine tr_region ?_
                                refine tl_step rfl (oj_val (y_fieldAddr (td := 3) Try.underlying174 rfl rfl Try.sizeOf3 (o' := 0) rfl (fe_t rfl)) ?_)
                                refine tl_step rfl (oj_val (y_ldb 0 Try.isAgg3 (fe_t rfl) rfl rfl) ?_)
                                refine tl_step rfl (oj_val (y_eq (fe_t rfl) fe_c) ?_)
                                refine tl_step rfl (oj_val (y_move (fe_t rfl)) ?_)
                                refine tl_splitp (d := 188) rfl (fun hq23 => ?_) (fun hq24 => ?_)
                                · try (exfalso; omega)
                                  all_goals
                                    refine tl_want rfl rfl rfl (oj_val (y_fieldAddr (td := 3) Try.underlying174 rfl rfl Try.sizeOf3 (o' := 2) rfl (fe_t rfl)) ?_)
                                    refine tl_want rfl rfl rfl (oj_val (y_ldb 0 Try.isAgg3 (fe_t rfl) rfl rfl) ?_)
                                    refine tl_want rfl rfl rfl (oj_val (y_lss (fe_t rfl) fe_c) ?_)
                                    refine tl_want rfl rfl rfl (oj_val (y_move (fe_t rfl)) ?_)
                                    refine tl_splitp (d := 192) rfl (fun hq25 => ?_) (fun hq26 => ?_)
                                    · try (exfalso; omega)
                                      all_goals
                                        refine tl_skip rfl rfl rfl rfl ?_
                                        refine tl_skip rfl rfl rfl rfl ?_
                                        refine tl_skip rfl rfl rfl rfl ?_
                                        refine tl_want rfl rfl rfl (oj_val (y_pickt (fe_t rfl) fe_c) ?_)
                                        refine tl_step rfl (oj_val (y_pickt (fe_t rfl) (fe_t rfl)) ?_)
                                        refine tl_step rfl (oj_val (y_assign (fe_t rfl)) ?_)
                                        refine tl_nil ?_
                                        refine tx_then ?_
                                        refine tr_condt (fe_t rfl) ?_
                                        refine tr_region ?_
                                        refine tl_step rfl (oj_val (y_assign fe_c) ?_)
                                        refine tl_nil ?_
                                        refine tx_in ?_
                                        refine tx_then ?_
                                        refine tr_region ?_
                                        refine tl_step rfl (oj_val (y_move (fe_t rfl)) ?_)
                                        refine tl_step rfl (oj_val (y_move (fe_t rfl)) ?_)
                                        refine tl_step rfl (oj_slice1 Try.underlying92 Try.sizeOf24 Try.zeroValue24 (fe_t rfl) (by decide) rfl (fun b5 => ?_))
                                        refine tl_step rfl (oj_append (i := 3) (s := 1) (z := (.int .i64 0)) (bytes := 8) Try.underlying92 (by kernel_rfl) (fe_t rfl) (fe_t rfl) rfl (rdl_blk 0 rfl) rfl (by decide) (by first | exact oneI | exact oneF (fun _ => rfl) | exact fun u hu => List.all_eq_true.1 (show List.all _ (fun x => x.oneCell') = true from rfl) u hu | (intro u hu; revert u hu; simp [Value.oneCell'])) (by decide) ⟨by omega, by decide⟩ (fun Aa5 ca5 hca5 => ?_))
                                        refine tl_step rfl (oj_val (y_assign (fe_t rfl)) ?_)
                                        refine tl_nil ?_
                                        refine tx_in ?_
                                        refine tx_then ?_
                                        refine tr_region ?_
                                        refine tl_step rfl (oj_val (y_inc (fe_t rfl) fe_c (by omega)) ?_)
                                        refine tl_step rfl (oj_val (y_move (fe_t rfl)) ?_)
                                        refine tl_nil ?_
                                        apply tx_back8 (i + 1) ({ s with errs := s.errs ++ [2] }) (l) ((⟨_, _, _, _⟩ : Vs)) ((⟨_, _, _, _⟩ : Vs)) (_) (_) (es)
                                        · exact (cov_cons (by first | rfl | exact v_int (by omega) | exact v_int (by dsimp only; omega)) (cov_cons (by first | rfl | exact v_int (by omega) | exact v_int (by dsimp only; omega)) (cov_cons (by first | rfl | exact v_int (by omega) | exact v_int (by dsimp only; omega)) (cov_nil))))
                                        · repeat (first | exact over_nil | refine over_put rfl ?_ | refine over_drop rfl ?_)
                                        · exact fun w h => h.pick [2, 3, 4, 5, 6, 7, 8, 9, 10, 11, 12, 13, 14] _ rfl (by decide)
                                        · exact ⟨⟨by omega, ⟨s, hrun, .range (by show o1 os i = 1; omega) hlf (by show o3 os i < 1 ∨ 1500 < o3 os i; omega)⟩, hrel, ⟨by simp; omega, by dsimp only; rw [hex, cI, cI, List.map_append]; rfl⟩, hsn, hsx⟩, by omega⟩
                                    · try (exfalso; omega)
                                      all_goals
                                        refine tl_want rfl rfl rfl (oj_val (y_fieldAddr (td := 3) Try.underlying174 rfl rfl Try.sizeOf3 (o' := 2) rfl (fe_t rfl)) ?_)
                                        refine tl_want rfl rfl rfl (oj_val (y_ldb 0 Try.isAgg3 (fe_t rfl) rfl rfl) ?_)
                                        refine tl_want rfl rfl rfl (oj_val (y_gtr (fe_t rfl) fe_c) ?_)
                                        refine tl_want rfl rfl rfl (oj_val (y_pickf (fe_t rfl) (fe_t rfl)) ?_)
                                        refine tl_step rfl (oj_val (y_pickt (fe_t rfl) (fe_t rfl)) ?_)
                                        refine tl_step rfl (oj_val (y_assign (fe_t rfl)) ?_)
                                        refine tl_nil ?_
                                        refine tx_then ?_
                                        refine tr_condp (fe_t rfl) (fun hq27 => ?_) (fun hq28 => ?_)
                                        · try (exfalso; omega)
                                          all_goals
                                            refine tr_region ?_
                                            refine tl_step rfl (oj_val (y_assign fe_c) ?_)
                                            refine tl_nil ?_
                                            refine tx_in ?_
                                            refine tx_then ?_
                                            refine tr_region ?_
                                            refine tl_step rfl (oj_val (y_move (fe_t rfl)) ?_)
                                            refine tl_step rfl (oj_val (y_move (fe_t rfl)) ?_)
                                            refine tl_step rfl (oj_slice1 Try.underlying92 Try.sizeOf24 Try.zeroValue24 (fe_t rfl) (by decide) rfl (fun b6 => ?_))
                                            refine tl_step rfl (oj_append (i := 3) (s := 1) (z := (.int .i64 0)) (bytes := 8) Try.underlying92 (by kernel_rfl) (fe_t rfl) (fe_t rfl) rfl (rdl_blk 0 rfl) rfl (by decide) (by first | exact oneI | exact oneF (fun _ => rfl) | exact fun u hu => List.all_eq_true.1 (show List.all _ (fun x => x.oneCell') = true from rfl) u hu | (intro u hu; revert u hu; simp [Value.oneCell'])) (by decide) ⟨by omega, by decide⟩ (fun Aa6 ca6 hca6 => ?_))
                                            refine tl_step rfl (oj_val (y_assign (fe_t rfl)) ?_)
                                            refine tl_nil ?_
                                            refine tx_in ?_
                                            refine tx_then ?_
                                            refine tr_region ?_
                                            refine tl_step rfl (oj_val (y_inc (fe_t rfl) fe_c (by omega)) ?_)
                                            refine tl_step rfl (oj_val (y_move (fe_t rfl)) ?_)
                                            refine tl_nil ?_
                                            apply tx_back8 (i + 1) ({ s with errs := s.errs ++ [2] }) (l) ((⟨_, _, _, _⟩ : Vs)) ((⟨_, _, _, _⟩ : Vs)) (_) (_) (es)
                                            · exact (cov_cons (by first | rfl | exact v_int (by omega) | exact v_int (by dsimp only; omega)) (cov_cons (by first | rfl | exact v_int (by omega) | exact v_int (by dsimp only; omega)) (cov_cons (by first | rfl | exact v_int (by omega) | exact v_int (by dsimp only; omega)) (cov_nil))))
                                            · repeat (first | exact over_nil | refine over_put rfl ?_ | refine over_drop rfl ?_)
                                            · exact fun w h => h.pick [2, 3, 4, 5, 6, 7, 8, 9, 10, 11, 12, 13, 14] _ rfl (by decide)
                                            · exact ⟨⟨by omega, ⟨s, hrun, .range (by show o1 os i = 1; omega) hlf (by show o3 os i < 1 ∨ 1500 < o3 os i; omega)⟩, hrel, ⟨by simp; omega, by dsimp only; rw [hex, cI, cI, List.map_append]; rfl⟩, hsn, hsx⟩, by omega⟩
                                        · try (exfalso; omega)
                                          all_goals
                                            refine tr_seq ?_
                                            refine tr_region ?_
                                            refine tl_step rfl (oj_val (y_fieldAddr (td := 3) Try.underlying174 rfl rfl Try.sizeOf3 (o' := 0) rfl (fe_t rfl)) ?_)
                                            refine tl_step rfl (oj_val (y_ldb 0 Try.isAgg3 (fe_t rfl) rfl rfl) ?_)
                                            refine tl_step rfl (oj_val (y_eq (fe_t rfl) fe_c) ?_)
                                            refine tl_step rfl (oj_val (y_assign (fe_t rfl)) ?_)
                                            refine tl_nil ?_
                                            refine tx_then ?_
                                            refine tr_condp (fe_t rfl) (fun hq29 => ?_) (fun hq30 => ?_)
                                            · try (exfalso; omega)
                                              all_goals
                                                refine tr_seq ?_
                                                obtain ⟨k, hk⟩ : ∃ k : Nat, o2 os i = k := ⟨(o2 os i).toNat, by have := hlf.1; omega⟩
                                                have hlk : t.leaf (k : Int) := by rw [← hk]; exact hlf
                                                have hkn : k < t.n := by have := hlk.2.1; omega
                                                have hkc := hwf.cnt k
                                                have hRk := hrel.at_ k hkn
                                                have hkw : (l.getD k Rn.nil).ws.length = (dn s.ds k).ws.length := by rw [hRk.ws]
                                                have hksl : k < s.ds.length := by rw [hwf.ok.len]; exact hkn
                                                obtain ⟨b1, b2, b3, b4, b5⟩ := hwf.bd k
                                                have hlt := g.lt hkn
                                                refine tr_region ?_
                                                refine tl_step rfl (oj_val (y_ldb 11 Try.isAgg192 (fe_t rfl) rfl rfl) ?_)
                                                refine tl_step rfl (oj_val (y_fieldAddr (td := 3) Try.underlying174 rfl rfl Try.sizeOf3 (o' := 1) rfl (fe_t rfl)) ?_)
                                                refine tl_step rfl (oj_val (y_ldb 0 Try.isAgg3 (fe_t rfl) rfl rfl) ?_)
                                                refine tl_step rfl (oj_val (y_index Try.underlying192 Try.sizeOf196 (fe_t rfl) (fe_i hk rfl) (rdl_vec 12 rfl) (by rw [flat_len hcX]; omega) (by decide) (by omega) rfl) ?_)
                                                refine tl_step rfl (oj_val (y_assign (fe_t rfl)) ?_)
                                                refine tl_nil ?_
                                                refine tx_then ?_
                                                refine tr_seq ?_
                                                refine tr_subOut 4 k rfl (map_at (d := Rn.nil) Rn.wV (by omega)) ?_
                                                have hbn : (Rn.wV (l.getD k Rn.nil)).n ≤ 400 := by show (l.getD k Rn.nil).ws.length ≤ 400; omega
                                                refine tr_norm (L' := [_, _, _, _, _, _, _, _, _, _, _, _, _, _, _]) (fun w h => h.pick [0, 1, 2, 3, 4, 5, 6, 7, 8, 9, 10, 11, 12, 13, 14] _ rfl (by decide)) ?_
                                                refine tb_draw1 11 [_, _, _, _, _, _, _, _, _, _, _, _, _, _] [_, _, _, _, _, _, _, _, _, _, _, _, _, _] (fun w h => h.pick [1, 2, 3, 4, 5, 6, 7, 8, 9, 10, 11, 12, 13, 14] _ rfl (by decide)) (fun w h => (h.weak (i := 12) rfl).pick [12, 0, 1, 2, 3, 4, 5, 6, 7, 8, 9, 10, 11, 13] _ rfl (by decide)) rfl ?_
                                                refine tb_float (i := 0) rfl (by kernel_rfl) rfl (wants_none rfl) (yq_of (y_move (fe_t rfl))) ?_
                                                refine tb_float (i := 1) rfl (by kernel_rfl) rfl (wants_none rfl) (yq_of (y_move (fe_t rfl))) ?_
                                                refine tb_float (i := 2) rfl (by kernel_rfl) rfl (wants_none rfl) (yq_of (y_nilCheckR (fe_t rfl) (rch_w 0 rfl (by omega)))) ?_
                                                refine tb_float (i := 3) rfl (by kernel_rfl) rfl (wants_none rfl) (yq_of (y_fieldAddrR (td := 79) Try.underlying196 rfl rfl Try.sizeOf79 rfl (fe_t rfl) (rch_w 0 rfl (by omega)))) ?_
                                                refine tb_float1 (i := 4) rfl (by kernel_rfl) (by kernel_rfl) rfl (wants_none rfl) (yq_of (y_ld Try.isAgg79 (fe_t rfl) (rdl_vec 12 rfl) (flatG (d := Rn.nil) (i := 5) hcX (by omega) rfl))) ?_
                                                refine tb_float (i := 5) rfl (by kernel_rfl) rfl (wants_none rfl) (yq_of (y_fieldAddr (td := 3) Try.underlying174 rfl rfl Try.sizeOf3 (o' := 2) rfl (fe_t rfl))) ?_
                                                refine tb_float (i := 6) rfl (by kernel_rfl) rfl (wants_none rfl) (yq_of (y_ldb 1 Try.isAgg3 (fe_t rfl) rfl rfl)) ?_
                                                refine tb_one1 (i := 7) rfl (by kernel_rfl) (by kernel_rfl) (wants_none rfl) (oj_slice1 Try.underlying79 Try.sizeOf3 Try.zeroValue3 (fe_t rfl) (by decide) rfl (fun b7 => ⟨fun w h => h.pick [2, 3, 4, 5, 6, 7, 8, 9, 10, 11, 12, 13, 14, 15] _ rfl (by decide), ?_⟩))
                                                refine tb_one1 (i := 8) rfl (by kernel_rfl) (by kernel_rfl) (wants_none rfl) (oj_append (i := 1) (s := 1) (z := (.int .i64 0)) (bytes := 8) Try.underlying79 (by kernel_rfl) (fe_t rfl) (fe_t rfl) rfl (rdl_blk 0 rfl) rfl (by decide) (by first | exact oneI | exact oneF (fun _ => rfl) | exact fun u hu => List.all_eq_true.1 (show List.all _ (fun x => x.oneCell') = true from rfl) u hu | (intro u hu; revert u hu; simp [Value.oneCell'])) (by decide) ⟨by omega, by decide⟩ (fun Aa7 ca7 hca7 => ⟨fun w h => h.pick [2, 3, 4, 5, 6, 7, 8, 9, 10, 11, 12, 13, 14, 15] _ rfl (by decide), ?_⟩))
                                                refine tb_float (i := 9) rfl (by kernel_rfl) rfl (wants_none rfl) (yq_of (y_nilCheckR (fe_t rfl) (rch_w 0 rfl (by omega)))) ?_
                                                refine tb_float (i := 10) rfl (by kernel_rfl) rfl (wants_none rfl) (yq_of (y_fieldAddrR (td := 79) Try.underlying196 rfl rfl Try.sizeOf79 rfl (fe_t rfl) (rch_w 0 rfl (by omega)))) ?_
                                                refine tb_one2 (i := 11) rfl (by kernel_rfl) (by kernel_rfl) (wants_none rfl) (oj_storeG (i := 14) Rn.nil (⟨(l.getD k Rn.nil).leaf, (l.getD k Rn.nil).bytes, (l.getD k Rn.nil).pb, (l.getD k Rn.nil).pe, (l.getD k Rn.nil).pt, Aa7, ca7, (l.getD k Rn.nil).ws ++ [o3 os i]⟩ : Rn) hcX Try.sizeOf79 (fe_t rfl) (fe_t rfl) rfl rfl rfl (by (try rw [List.length_set]); omega) rfl (by simp [cX, Rn.wV]) (⟨fun w h => (h.weak (i := 14) rfl).pick [14, 2, 3, 4, 5, 6, 7, 8, 9, 10, 11, 12, 13, 15] _ rfl (by decide), ?_⟩))
                                                refine tb_done (by kernel_rfl) ?_
                                                refine tx_then ?_
                                                refine tr_seq ?_
                                                refine tr_subInJ 1 6 k rfl rfl rfl (map_nil_at Rn.wV (by omega)) (map_back (x := (⟨(l.getD k Rn.nil).leaf, (l.getD k Rn.nil).bytes, (l.getD k Rn.nil).pb, (l.getD k Rn.nil).pe, (l.getD k Rn.nil).pt, Aa7, ca7, (l.getD k Rn.nil).ws ++ [o3 os i]⟩ : Rn)) Rn.wV (by simp [Rn.wV, cI, zc])) ?_
                                                generalize hl1 : l.set k (⟨(l.getD k Rn.nil).leaf, (l.getD k Rn.nil).bytes, (l.getD k Rn.nil).pb, (l.getD k Rn.nil).pe, (l.getD k Rn.nil).pt, Aa7, ca7, (l.getD k Rn.nil).ws ++ [o3 os i]⟩ : Rn) = l1
                                                have hrel1 : RelT es t l1 (S1 s.ds k (o3 os i)) := hrel.set hl1 hkn ⟨hRk.leaf, hRk.bytes, by dsimp only; rw [hRk.ws], hRk.bg, hRk.en, hRk.tm⟩
                                                have hbdS : Bd ((i : Int) * 162000000000) (S1 s.ds k (o3 os i)) := hwf.bd.set (Int.le_refl _) ⟨b1, b2, b3, b4, fun x hx => by
                                                  rcases List.mem_append.1 hx with hx | hx
                                                  · exact b5 x hx
                                                  · simp only [List.mem_singleton] at hx; subst hx; omega⟩
                                                refine tr_norm (L' := [_, _, _, _, _, _, _, _, _, _, _, _, _, _, _]) (fun w h => h.pick [0, 2, 3, 4, 5, 6, 7, 8, 9, 10, 11, 12, 13, 14, 15] _ rfl (by decide)) ?_
                                                refine tr_region ?_
                                                refine tl_step rfl (oj_val (y_fieldAddr (td := 3) Try.underlying174 rfl rfl Try.sizeOf3 (o' := 1) rfl (fe_t rfl)) ?_)
                                                refine tl_step rfl (oj_val (y_ldb 1 Try.isAgg3 (fe_t rfl) rfl rfl) ?_)
                                                refine tl_step rfl (oj_val (y_assign (fe_t rfl)) ?_)
                                                refine tl_nil ?_
                                                refine tx_then ?_
                                                refine tr_block ?_
                                                refine tr_loop7 [21, 219, 220, 221, 222, 223, 224, 225, 226, 227, 228, 229, 230, 231, 232, 233, 234, 235, 236, 237, 238, 239, 240, 241, 242, 243, 244, 245, 246] (fun (f : Nat) (c : Int) (sc : List D) (l3 : List Rn) (Hz : List Nat) (Dz : List Nat) (ez : List Ent) => [(21, .int .i64 c)]) 0 (fun (f : Nat) (c : Int) (sc : List D) (l3 : List Rn) (Hz : List Nat) (Dz : List Nat) (ez : List Ent) => [(13, vec 196 6 (.slice (some ⟨ga, 0, none⟩) n n) n (l3.flatMap cX)), (5, subs 3 1 (l3.map Rn.wV)), (6, bag Hz Dz ez)]) (fun (f : Nat) (c : Int) (sc : List D) (l3 : List Rn) (Hz : List Nat) (Dz : List Nat) (ez : List Ent) => (c < t.n ∧ -1 ≤ c ∧ f ≤ 17) ∧ InS t s.ds k (o3 os i) f sc c ∧ RelT ez t l3 sc ∧ Bd ((i : Int) * 162000000000 + (18 - (f : Int)) * 9000000000) sc) (fun (f : Nat) (c : Int) (sc : List D) (l3 : List Rn) (Hz : List Nat) (Dz : List Nat) (ez : List Ent) => (c + 1).toNat) (17) ((k : Int)) (S1 s.ds k (o3 os i)) (l1) (_) (_) (_) (cov_cons (by first | rfl | exact v_int (by omega) | exact v_int (by dsimp only; omega)) (cov_nil)) (fun w h => h) ?_ ?_
                                                · try dsimp only
                                                  exact ⟨by omega, InS.zero, hrel1, hbdS.mono (by omega)⟩
                                                intro f c sc l3 Hz Dz ez hp
                                                obtain ⟨⟨hcn, hc1, hf17⟩, hIn, hrel3, hbd3⟩ := hp
                                                have hl3n : l3.length = n := by rw [hrel3.len, htn]
                                                refine tr_seq ?_
                                                refine tr_seq ?_
                                                refine tr_region ?_
                                                refine tl_step rfl (oj_val (y_move (fe_t rfl)) ?_)
                                                refine tl_step rfl (oj_val (y_geq (fe_t rfl) fe_c) ?_)
                                                refine tl_step rfl (oj_val (y_move (fe_t rfl)) ?_)
                                                refine tl_splitp (d := 221) rfl (fun hq31 => ?_) (fun hq32 => ?_)
                                                · try (exfalso; omega)
                                                  all_goals
                                                    refine tl_want rfl rfl rfl (oj_val (y_ldb 12 Try.isAgg192 (fe_t rfl) rfl rfl) ?_)
                                                    refine tl_want rfl rfl rfl (oj_val (y_move (fe_t rfl)) ?_)
                                                    refine tl_want rfl rfl rfl (oj_val (y_indexI Try.underlying192 Try.sizeOf196 (fe_t rfl) (fe_t rfl) (rdl_vec 13 rfl) (by rw [flat_len hcX]; omega) (by decide) (by omega) (by omega) rfl) ?_)
                                                    refine tl_want rfl rfl rfl (oj_val (y_fieldAddrE (td := 3) Try.underlying196 rfl rfl Try.sizeOf3 rfl (fe_t rfl) (rdl_vec 13 rfl) (by rw [flat_len hcX]; omega)) ?_)
                                                    refine tl_want rfl rfl rfl (oj_val (y_ld Try.isAgg3 (fe_t rfl) (rdl_vec 13 rfl) (flatG (d := Rn.nil) (i := 1) hcX (by omega) rfl)) ?_)
                                                    refine tl_want rfl rfl rfl (oj_val (y_eq (fe_t rfl) fe_c) ?_)
                                                    refine tl_step rfl (oj_val (y_pickt (fe_t rfl) (fe_t rfl)) ?_)
                                                    refine tl_nil ?_
                                                    refine tx_then ?_
                                                    refine tr_condp (fe_t rfl) (fun hq33 => ?_) (fun hq34 => ?_)
                                                    · try (exfalso; omega)
                                                      all_goals
                                                        refine tr_skip ?_
                                                        refine tx_then ?_
                                                        refine tr_seq ?_
                                                        refine tr_block ?_
                                                        refine tr_seq ?_
                                                        obtain ⟨p, rfl⟩ : ∃ p : Nat, c = p := ⟨c.toNat, by omega⟩
                                                        have hpn : p < t.n := by omega
                                                        have hRp := (hrel3.at_ p hpn).bytes
                                                        have hby : (dn sc p).bytes = 0 := by rw [← hRp]; simpa using (by omega : (l3.getD (p : Int).toNat Rn.nil).bytes = 0)
                                                        have hltp := g.lt hpn
                                                        have hnu : t.u p = n1 ns p := by rw [ht, trOf_u]
                                                        refine tr_region ?_
                                                        refine tl_step rfl (oj_val (y_move (fe_t rfl)) ?_)
                                                        refine tl_step rfl (oj_val (y_fieldAddr (td := 3) Try.underlying174 rfl rfl Try.sizeOf3 (o' := 1) rfl (fe_t rfl)) ?_)
                                                        refine tl_step rfl (oj_val (y_ldb 1 Try.isAgg3 (fe_t rfl) rfl rfl) ?_)
                                                        refine tl_step rfl (oj_val (y_eq (fe_t rfl) (fe_t rfl)) ?_)
                                                        refine tl_nil ?_
                                                        refine tx_then ?_
                                                        refine tr_condp (fe_t rfl) (fun hq35 => ?_) (fun hq36 => ?_)
                                                        · try (exfalso; omega)
                                                          all_goals
                                                            obtain rfl : k = p := by omega
                                                            obtain rfl := hIn.first
                                                            have hby0 : (dn s.ds k).bytes = 0 := by rw [s1_dn hksl] at hby; exact hby
                                                            refine tr_region ?_
                                                            refine tl_step rfl (oj_val (y_ldb 4 Try.isAgg198 (fe_t rfl) rfl rfl) ?_)
                                                            refine tl_step rfl (oj_val (y_move (fe_t rfl)) ?_)
                                                            refine tl_step rfl (oj_val (y_move (fe_t rfl)) ?_)
                                                            refine tl_step rfl (oj_val (y_fieldAddr (td := 3) Try.underlying174 rfl rfl Try.sizeOf3 (o' := 2) rfl (fe_t rfl)) ?_)
                                                            refine tl_step rfl (oj_val (y_ldb 1 Try.isAgg3 (fe_t rfl) rfl rfl) ?_)
                                                            refine tl_step rfl (oj_callF Try.call144 (fe_t rfl) (fel_cons (fe_t rfl) (fel_cons (fe_t rfl) (fel_cons (fe_t rfl) fel_nil))) (fun w' hS => offersE (hS.pick [12, 14, 7, 13, 5, 8, 6, 0, 1, 2, 3, 4, 9, 10, 11] [_, _, _, _, _, _, _, _, _, _, _, _, _, _, _] rfl (by decide)) hr hn ht g htn hrel3 hsl hbdS (by omega) (k := k) (lf := (k : Int)) hkn (by omega)) (fun q1 hQ1 => ?_))
                                                            refine tl_nil ?_
                                                            refine tx_in ?_
                                                            refine tx_then ?_
                                                            refine tr_region ?_
                                                            refine tl_step rfl (oj_val (y_ldb 1 Try.isAgg105 (fe_t rfl) rfl rfl) ?_)
                                                            refine tl_step rfl (oj_val (y_move (fe_t rfl)) ?_)
                                                            refine tl_step rfl (oj_val (y_index Try.underlying105 Try.sizeOf121 (fe_t rfl) (fe_t rfl) (rdl_out hr) (lenN hnl) (by decide) (by omega) rfl) ?_)
                                                            refine tl_step rfl (oj_val (y_fieldAddrE (td := 3) Try.underlying121 rfl rfl Try.sizeOf3 rfl (fe_t rfl) (rdl_out hr) (by rw [lenN hnl]; omega)) ?_)
                                                            refine tl_step rfl (oj_val (y_ld Try.isAgg3 (fe_t rfl) (rdl_out hr) (getN1 (by omega))) ?_)
                                                            refine tl_step rfl (oj_val (y_assign (fe_t rfl)) ?_)
                                                            refine tl_nil ?_
                                                            apply tx_back7 (17) (t.u k) (offer t (S1 s.ds k (o3 os i)) k k (o3 os i) false) (q1.1) (_) (_) (q1.2.2.2)
                                                            · exact (cov_cons (by first | rfl | exact v_int (by omega) | exact v_int (by dsimp only; omega)) (cov_nil))
                                                            · repeat (first | exact over_nil | refine over_put rfl ?_ | refine over_drop rfl ?_)
                                                            · exact fun w h => h.pick [7, 8, 9, 10, 11, 4, 6, 2, 5, 12, 13, 14, 0, 3, 1] _ rfl (by decide)
                                                            · exact ⟨⟨by omega, InS.off hby0 (by omega) (by omega), hrel_as hQ1.2 (by rw [s1_dn hksl, decide_eq_false (by show ¬ ¬ (dn s.ds k).bytes = 0; omega)]), (offer_bd g hkn hbdS (by omega)).mono (by omega)⟩, by omega⟩
                                                        · try (exfalso; omega)
                                                          all_goals
                                                            have hpk : p ≠ k := by omega
                                                            have hpf := hIn.lt hpk
                                                            refine tr_region ?_
                                                            refine tl_step rfl (oj_val (y_move (fe_t rfl)) ?_)
                                                            refine tl_step rfl (oj_val (y_move (fe_t rfl)) ?_)
                                                            refine tl_step rfl (oj_callF Try.call145 (fe_t rfl) (fel_cons (fe_t rfl) fel_nil) (fun w' hS => chooseE (hS.pick [12, 14, 7, 10, 4, 13, 5, 8, 11, 9, 6, 0, 1, 2, 3] [_, _, _, _, _, _, _, _, _, _, _, _, _, _, _] rfl (by decide)) hr hn ht g htn hrel3 hsl hbd3 hkl (by omega) (k := p) hpn) (fun q2 hQ2 => ?_))
                                                            refine tl_nil ?_
                                                            refine tx_in ?_
                                                            refine tx_then ?_
                                                            refine tr_region ?_
                                                            refine tl_step rfl (oj_val (y_ldb 1 Try.isAgg105 (fe_t rfl) rfl rfl) ?_)
                                                            refine tl_step rfl (oj_val (y_move (fe_t rfl)) ?_)
                                                            refine tl_step rfl (oj_val (y_index Try.underlying105 Try.sizeOf121 (fe_t rfl) (fe_t rfl) (rdl_out hr) (lenN hnl) (by decide) (by omega) rfl) ?_)
                                                            refine tl_step rfl (oj_val (y_fieldAddrE (td := 3) Try.underlying121 rfl rfl Try.sizeOf3 rfl (fe_t rfl) (rdl_out hr) (by rw [lenN hnl]; omega)) ?_)
                                                            refine tl_step rfl (oj_val (y_ld Try.isAgg3 (fe_t rfl) (rdl_out hr) (getN1 (by omega))) ?_)
                                                            refine tl_step rfl (oj_val (y_assign (fe_t rfl)) ?_)
                                                            refine tl_nil ?_
                                                            apply tx_back7 (f - 1) (t.u p) (pick t sc p false) (q2.1) (_) (_) (q2.2.2.2)
                                                            · exact (cov_cons (by first | rfl | exact v_int (by omega) | exact v_int (by dsimp only; omega)) (cov_nil))
                                                            · repeat (first | exact over_nil | refine over_put rfl ?_ | refine over_drop rfl ?_)
                                                            · exact fun w h => h.pick [11, 12, 13, 14, 4, 6, 10, 2, 7, 9, 3, 8, 0, 5, 1] _ rfl (by decide)
                                                            · exact ⟨⟨by omega, hIn.pick hpk hby (by omega), hrel_as hQ2.2 (by rw [decide_eq_false (show ¬ ¬ (dn sc p).bytes = 0 by omega)]), (pick_bd g hpn hbd3).mono (by omega)⟩, by omega⟩
                                                    · try (exfalso; omega)
                                                      all_goals
                                                        refine tr_exit ?_
                                                        refine tx_then_exit ?_
                                                        refine tx_then_exit ?_
                                                        refine tx_in_exit ?_
                                                        refine tx_in ?_
                                                        refine tx_then ?_
                                                        have hsc : sc = inF t s.ds k (o3 os i) := hIn.done (by
                                                          by_cases h0 : c < 0
                                                          · exact .inl h0
                                                          · have h1 := (hrel3.at_ c.toNat (by omega)).bytes
                                                            omega) hksl (by omega)
                                                        refine tr_region ?_
                                                        refine tl_step rfl (oj_val (y_move (fe_t rfl)) ?_)
                                                        refine tl_step rfl (oj_val (y_move (fe_t rfl)) ?_)
                                                        refine tl_step rfl (oj_slice1 Try.underlying92 Try.sizeOf24 Try.zeroValue24 (fe_t rfl) (by decide) rfl (fun b8 => ?_))
                                                        refine tl_step rfl (oj_append (i := 4) (s := 1) (z := (.int .i64 0)) (bytes := 8) Try.underlying92 (by kernel_rfl) (fe_t rfl) (fe_t rfl) rfl (rdl_blk 0 rfl) rfl (by decide) (by first | exact oneI | exact oneF (fun _ => rfl) | exact fun u hu => List.all_eq_true.1 (show List.all _ (fun x => x.oneCell') = true from rfl) u hu | (intro u hu; revert u hu; simp [Value.oneCell'])) (by decide) ⟨by omega, by decide⟩ (fun Aa8 ca8 hca8 => ?_))
                                                        refine tl_step rfl (oj_val (y_assign (fe_t rfl)) ?_)
                                                        refine tl_nil ?_
                                                        refine tx_in ?_
                                                        refine tx_then ?_
                                                        refine tr_region ?_
                                                        refine tl_step rfl (oj_val (y_inc (fe_t rfl) fe_c (by omega)) ?_)
                                                        refine tl_step rfl (oj_val (y_move (fe_t rfl)) ?_)
                                                        refine tl_nil ?_
                                                        apply tx_back8 (i + 1) ({ s with errs := s.errs ++ [0], ds := inF t s.ds k (o3 os i) }) (l3) ((⟨_, _, _, _⟩ : Vs)) ((⟨_, _, _, _⟩ : Vs)) (_) (_) (ez)
                                                        · exact (cov_cons (by first | rfl | exact v_int (by omega) | exact v_int (by dsimp only; omega)) (cov_cons (by first | rfl | exact v_int (by omega) | exact v_int (by dsimp only; omega)) (cov_cons (by first | rfl | exact v_int (by omega) | exact v_int (by dsimp only; omega)) (cov_nil))))
                                                        · repeat (first | exact over_nil | refine over_put rfl ?_ | refine over_drop rfl ?_)
                                                        · exact fun w h => h.pick [3, 4, 5, 6, 7, 8, 9, 10, 11, 12, 13, 14, 15] _ rfl (by decide)
                                                        · exact ⟨⟨by omega, ⟨s, hrun, .inn k (by show o1 os i = 1; omega) (by show o2 os i = k; omega) hlk (by show 1 ≤ o3 os i ∧ o3 os i ≤ 1500; omega)⟩, by rw [← hsc]; exact hrel3, ⟨by simp; omega, by dsimp only; rw [hex, cI, cI, List.map_append]; rfl⟩, hsn, hsx⟩, by omega⟩
                                                · try (exfalso; omega)
                                                  all_goals
                                                    refine tl_skip rfl rfl rfl rfl ?_
                                                    refine tl_skip rfl rfl rfl rfl ?_
                                                    refine tl_skip rfl rfl rfl rfl ?_
                                                    refine tl_skip rfl rfl rfl rfl ?_
                                                    refine tl_skip rfl rfl rfl rfl ?_
                                                    refine tl_skip rfl rfl rfl rfl ?_
                                                    refine tl_step rfl (oj_val (y_pickf (fe_t rfl) fe_c) ?_)
                                                    refine tl_nil ?_
                                                    refine tx_then ?_
                                                    refine tr_condf (fe_t rfl) ?_
                                                    refine tr_exit ?_
                                                    refine tx_then_exit ?_
                                                    refine tx_then_exit ?_
                                                    refine tx_in_exit ?_
                                                    refine tx_in ?_
                                                    refine tx_then ?_
                                                    have hsc : sc = inF t s.ds k (o3 os i) := hIn.done (by
                                                      by_cases h0 : c < 0
                                                      · exact .inl h0
                                                      · have h1 := (hrel3.at_ c.toNat (by omega)).bytes
                                                        omega) hksl (by omega)
                                                    refine tr_region ?_
                                                    refine tl_step rfl (oj_val (y_move (fe_t rfl)) ?_)
                                                    refine tl_step rfl (oj_val (y_move (fe_t rfl)) ?_)
                                                    refine tl_step rfl (oj_slice1 Try.underlying92 Try.sizeOf24 Try.zeroValue24 (fe_t rfl) (by decide) rfl (fun b9 => ?_))
                                                    refine tl_step rfl (oj_append (i := 4) (s := 1) (z := (.int .i64 0)) (bytes := 8) Try.underlying92 (by kernel_rfl) (fe_t rfl) (fe_t rfl) rfl (rdl_blk 0 rfl) rfl (by decide) (by first | exact oneI | exact oneF (fun _ => rfl) | exact fun u hu => List.all_eq_true.1 (show List.all _ (fun x => x.oneCell') = true from rfl) u hu | (intro u hu; revert u hu; simp [Value.oneCell'])) (by decide) ⟨by omega, by decide⟩ (fun Aa9 ca9 hca9 => ?_))
                                                    refine tl_step rfl (oj_val (y_assign (fe_t rfl)) ?_)
                                                    refine tl_nil ?_
                                                    refine tx_in ?_
                                                    refine tx_then ?_
                                                    refine tr_region ?_
                                                    refine tl_step rfl (oj_val (y_inc (fe_t rfl) fe_c (by omega)) ?_)
                                                    refine tl_step rfl (oj_val (y_move (fe_t rfl)) ?_)
                                                    refine tl_nil ?_
                                                    apply tx_back8 (i + 1) ({ s with errs := s.errs ++ [0], ds := inF t s.ds k (o3 os i) }) (l3) ((⟨_, _, _, _⟩ : Vs)) ((⟨_, _, _, _⟩ : Vs)) (_) (_) (ez)
                                                    · exact (cov_cons (by first | rfl | exact v_int (by omega) | exact v_int (by dsimp only; omega)) (cov_cons (by first | rfl | exact v_int (by omega) | exact v_int (by dsimp only; omega)) (cov_cons (by first | rfl | exact v_int (by omega) | exact v_int (by dsimp only; omega)) (cov_nil))))
                                                    · repeat (first | exact over_nil | refine over_put rfl ?_ | refine over_drop rfl ?_)
                                                    · exact fun w h => h.pick [3, 4, 5, 6, 7, 8, 9, 10, 11, 12, 13, 14, 15] _ rfl (by decide)
                                                    · exact ⟨⟨by omega, ⟨s, hrun, .inn k (by show o1 os i = 1; omega) (by show o2 os i = k; omega) hlk (by show 1 ≤ o3 os i ∧ o3 os i ≤ 1500; omega)⟩, by rw [← hsc]; exact hrel3, ⟨by simp; omega, by dsimp only; rw [hex, cI, cI, List.map_append]; rfl⟩, hsn, hsx⟩, by omega⟩
                                            · exfalso; omega
                                · exfalso; omega
                    · try (exfalso; omega)
                      all_goals
                        refine tl_skip rfl rfl rfl rfl ?_
                        refine tl_skip rfl rfl rfl rfl ?_
                        refine tl_step rfl (oj_val (y_pickf (fe_t rfl) fe_c) ?_)
                        refine tl_step rfl (oj_val (y_assign (fe_t rfl)) ?_)
                        refine tl_nil ?_
                        refine tx_then ?_
                        refine tr_condf (fe_t rfl) ?_
                        refine tr_region ?_
                        refine tl_step rfl (oj_val (y_fieldAddr (td := 3) Try.underlying174 rfl rfl Try.sizeOf3 (o' := 0) rfl (fe_t rfl)) ?_)
                        refine tl_step rfl (oj_val (y_ldb 0 Try.isAgg3 (fe_t rfl) rfl rfl) ?_)
                        refine tl_step rfl (oj_val (y_eq (fe_t rfl) fe_c) ?_)
                        refine tl_step rfl (oj_val (y_move (fe_t rfl)) ?_)
                        refine tl_splitp (d := 177) rfl (fun hq37 => ?_) (fun hq38 => ?_)
                        · try (exfalso; omega)
                          all_goals
                            refine tl_want rfl rfl rfl (oj_val (y_ldb 11 Try.isAgg192 (fe_t rfl) rfl rfl) ?_)
                            refine tl_want rfl rfl rfl (oj_val (y_index (j := 0) Try.underlying192 Try.sizeOf196 (fe_t rfl) (show FE _ _ _ (.int .i64 ((0 : Nat) : Int)) from fe_c) (rdl_vec 12 rfl) (by rw [flat_len hcX]; omega) (by decide) (by omega) rfl) ?_)
                            refine tl_want rfl rfl rfl (oj_val (y_fieldAddrE (td := 3) Try.underlying196 rfl rfl Try.sizeOf3 rfl (fe_t rfl) (rdl_vec 12 rfl) (by rw [flat_len hcX]; omega)) ?_)
                            refine tl_want rfl rfl rfl (oj_val (y_ld Try.isAgg3 (fe_t rfl) (rdl_vec 12 rfl) (flatG (d := Rn.nil) (i := 1) hcX (by omega) rfl)) ?_)
                            refine tl_want rfl rfl rfl (oj_val (y_eq (fe_t rfl) fe_c) ?_)
                            refine tl_step rfl (oj_val (y_pickt (fe_t rfl) (fe_t rfl)) ?_)
                            refine tl_step rfl (oj_val (y_assign (fe_t rfl)) ?_)
                            refine tl_nil ?_
                            refine tx_then ?_
                            refine tr_condp (fe_t rfl) (fun hq39 => ?_) (fun hq40 => ?_)
                            · try (exfalso; omega)
                              all_goals
                                have e5 : (dn s.ds 0).bytes = 0 := by omega
                                refine tr_region ?_
                                refine tl_step rfl (oj_val (y_assign fe_c) ?_)
                                refine tl_nil ?_
                                refine tx_in ?_
                                refine tx_then ?_
                                refine tr_region ?_
                                refine tl_step rfl (oj_val (y_move (fe_t rfl)) ?_)
                                refine tl_step rfl (oj_val (y_move (fe_t rfl)) ?_)
                                refine tl_step rfl (oj_slice1 Try.underlying92 Try.sizeOf24 Try.zeroValue24 (fe_t rfl) (by decide) rfl (fun b10 => ?_))
                                refine tl_step rfl (oj_append (i := 3) (s := 1) (z := (.int .i64 0)) (bytes := 8) Try.underlying92 (by kernel_rfl) (fe_t rfl) (fe_t rfl) rfl (rdl_blk 0 rfl) rfl (by decide) (by first | exact oneI | exact oneF (fun _ => rfl) | exact fun u hu => List.all_eq_true.1 (show List.all _ (fun x => x.oneCell') = true from rfl) u hu | (intro u hu; revert u hu; simp [Value.oneCell'])) (by decide) ⟨by omega, by decide⟩ (fun Aa10 ca10 hca10 => ?_))
                                refine tl_step rfl (oj_val (y_assign (fe_t rfl)) ?_)
                                refine tl_nil ?_
                                refine tx_in ?_
                                refine tx_then ?_
                                refine tr_region ?_
                                refine tl_step rfl (oj_val (y_inc (fe_t rfl) fe_c (by omega)) ?_)
                                refine tl_step rfl (oj_val (y_move (fe_t rfl)) ?_)
                                refine tl_nil ?_
                                apply tx_back8 (i + 1) ({ s with errs := s.errs ++ [3] }) (l) ((⟨_, _, _, _⟩ : Vs)) ((⟨_, _, _, _⟩ : Vs)) (_) (_) (es)
                                · exact (cov_cons (by first | rfl | exact v_int (by omega) | exact v_int (by dsimp only; omega)) (cov_cons (by first | rfl | exact v_int (by omega) | exact v_int (by dsimp only; omega)) (cov_cons (by first | rfl | exact v_int (by omega) | exact v_int (by dsimp only; omega)) (cov_nil))))
                                · repeat (first | exact over_nil | refine over_put rfl ?_ | refine over_drop rfl ?_)
                                · exact fun w h => h.pick [2, 3, 4, 5, 6, 7, 8, 9, 10, 11, 12, 13, 14] _ rfl (by decide)
                                · exact ⟨⟨by omega, ⟨s, hrun, .nought (by show o1 os i = 2; omega) e5⟩, hrel, ⟨by simp; omega, by dsimp only; rw [hex, cI, cI, List.map_append]; rfl⟩, hsn, hsx⟩, by omega⟩
                            · try (exfalso; omega)
                              all_goals
                                refine tr_seq ?_
                                refine tr_region ?_
                                refine tl_step rfl (oj_val (y_fieldAddr (td := 3) Try.underlying174 rfl rfl Try.sizeOf3 (o' := 0) rfl (fe_t rfl)) ?_)
                                refine tl_step rfl (oj_val (y_ldb 0 Try.isAgg3 (fe_t rfl) rfl rfl) ?_)
                                refine tl_step rfl (oj_val (y_eq (fe_t rfl) fe_c) ?_)
                                refine tl_step rfl (oj_val (y_move (fe_t rfl)) ?_)
                                refine tl_splitp (d := 188) rfl (fun hq41 => ?_) (fun hq42 => ?_)
                                · exfalso; omega
                                · try (exfalso; omega)
                                  all_goals
                                    refine tl_skip rfl rfl rfl rfl ?_
                                    refine tl_skip rfl rfl rfl rfl ?_
                                    refine tl_skip rfl rfl rfl rfl ?_
                                    refine tl_skip rfl rfl rfl rfl ?_
                                    refine tl_skip rfl rfl rfl rfl ?_
                                    refine tl_skip rfl rfl rfl rfl ?_
                                    refine tl_skip rfl rfl rfl rfl ?_
                                    refine tl_skip rfl rfl rfl rfl ?_
                                    refine tl_step rfl (oj_val (y_pickf (fe_t rfl) fe_c) ?_)
                                    refine tl_step rfl (oj_val (y_assign (fe_t rfl)) ?_)
                                    refine tl_nil ?_
                                    refine tx_then ?_
                                    refine tr_condf (fe_t rfl) ?_
                                    refine tr_seq ?_
                                    refine tr_region ?_
                                    refine tl_step rfl (oj_val (y_fieldAddr (td := 3) Try.underlying174 rfl rfl Try.sizeOf3 (o' := 0) rfl (fe_t rfl)) ?_)
                                    refine tl_step rfl (oj_val (y_ldb 0 Try.isAgg3 (fe_t rfl) rfl rfl) ?_)
                                    refine tl_step rfl (oj_val (y_eq (fe_t rfl) fe_c) ?_)
                                    refine tl_step rfl (oj_val (y_assign (fe_t rfl)) ?_)
                                    refine tl_nil ?_
                                    refine tx_then ?_
                                    refine tr_condp (fe_t rfl) (fun hq43 => ?_) (fun hq44 => ?_)
                                    · exfalso; omega
                                    · try (exfalso; omega)
                                      all_goals
                                        refine tr_seq ?_
                                        obtain ⟨r, hrn, hrl, hrk, hrw, hrp⟩ := ok_leaf g hwf.ok (by omega)
                                        have hlf0 : (l.getD 0 Rn.nil).leaf = (r : Int) := by rw [hR0l]; exact hrl
                                        have hRr := hrel.at_ r hrn
                                        have hrws : (l.getD r Rn.nil).ws.length = (dn s.ds r).ws.length := by rw [hRr.ws]
                                        have hrb := hrp r (.here r)
                                        have hrsl : r < s.ds.length := by rw [hwf.ok.len]; exact hrn
                                        have hrc := hwf.cnt r
                                        obtain ⟨b1, b2, b3, b4, b5⟩ := hwf.bd r
                                        refine tr_region ?_
                                        refine tl_step rfl (oj_val (y_ldb 11 Try.isAgg192 (fe_t rfl) rfl rfl) ?_)
                                        refine tl_step rfl (oj_val (y_index (j := 0) Try.underlying192 Try.sizeOf196 (fe_t rfl) (show FE _ _ _ (.int .i64 ((0 : Nat) : Int)) from fe_c) (rdl_vec 12 rfl) (by rw [flat_len hcX]; omega) (by decide) (by omega) rfl) ?_)
                                        refine tl_step rfl (oj_val (y_fieldAddrE (td := 3) Try.underlying196 rfl rfl Try.sizeOf3 rfl (fe_t rfl) (rdl_vec 12 rfl) (by rw [flat_len hcX]; omega)) ?_)
                                        refine tl_step rfl (oj_val (y_ld Try.isAgg3 (fe_t rfl) (rdl_vec 12 rfl) (flatG (d := Rn.nil) (i := 0) hcX (by omega) rfl)) ?_)
                                        refine tl_step rfl (oj_val (y_assign (fe_t rfl)) ?_)
                                        refine tl_nil ?_
                                        refine tx_then ?_
                                        refine tr_seq ?_
                                        refine tr_region ?_
                                        refine tl_step rfl (oj_val (y_move (fe_t rfl)) ?_)
                                        refine tl_step rfl (oj_val (y_move (fe_t rfl)) ?_)
                                        refine tl_step rfl (oj_val (y_ldb 11 Try.isAgg192 (fe_t rfl) rfl rfl) ?_)
                                        refine tl_step rfl (oj_val (y_index (j := 0) Try.underlying192 Try.sizeOf196 (fe_t rfl) (show FE _ _ _ (.int .i64 ((0 : Nat) : Int)) from fe_c) (rdl_vec 12 rfl) (by rw [flat_len hcX]; omega) (by decide) (by omega) rfl) ?_)
                                        refine tl_step rfl (oj_val (y_fieldAddrE (td := 3) Try.underlying196 rfl rfl Try.sizeOf3 rfl (fe_t rfl) (rdl_vec 12 rfl) (by rw [flat_len hcX]; omega)) ?_)
                                        refine tl_step rfl (oj_val (y_ld Try.isAgg3 (fe_t rfl) (rdl_vec 12 rfl) (flatG (d := Rn.nil) (i := 1) hcX (by omega) rfl)) ?_)
                                        refine tl_step rfl (oj_val ((fun {u0 u1} hx hb => y_build (is := [0, 1]) (vs := [u0, u1]) (cs := [u0, u1]) rfl hx hb) (fel_cons (fe_t rfl) (fel_cons (fe_t rfl) fel_nil)) (by kernel_rfl)) ?_)
                                        refine tl_step rfl (oj_slice1 Try.underlying93 Try.sizeOf102 Try.zeroValue102 (fe_t rfl) (by decide) rfl (fun b11 => ?_))
                                        refine tl_step rfl (oj_append (i := 2) (s := 2) (z := (.agg #[.int .i64 0, .int .i64 0])) (bytes := 16) Try.underlying93 (by kernel_rfl) (fe_t rfl) (fe_t rfl) rfl (rdl_blk 0 rfl) rfl (by decide) (by first | exact oneI | exact oneF (fun _ => rfl) | exact fun u hu => List.all_eq_true.1 (show List.all _ (fun x => x.oneCell') = true from rfl) u hu | (intro u hu; revert u hu; simp [Value.oneCell'])) (by decide) ⟨by omega, by decide⟩ (fun Aa11 ca11 hca11 => ?_))
                                        refine tl_step rfl (oj_val (y_assign (fe_t rfl)) ?_)
                                        refine tl_nil ?_
                                        refine tx_then ?_
                                        refine tr_seq ?_
                                        refine tr_region ?_
                                        refine tl_step rfl (oj_val (y_ldb 12 Try.isAgg192 (fe_t rfl) rfl rfl) ?_)
                                        refine tl_step rfl (oj_val (y_move (fe_t rfl)) ?_)
                                        refine tl_step rfl (oj_val (y_index Try.underlying192 Try.sizeOf196 (fe_t rfl) (fe_i hlf0 rfl) (rdl_vec 13 rfl) (by rw [flat_len hcX]; omega) (by decide) (by omega) rfl) ?_)
                                        refine tl_step rfl (oj_val (y_assign (fe_t rfl)) ?_)
                                        refine tl_nil ?_
                                        refine tx_then ?_
                                        refine tr_cut4 [120, 121, 122, 123, 124, 125, 126, 127, 128, 129, 130, 131, 132, 133, 134, 135, 136, 137, 138, 139, 140, 141, 142, 143, 144, 145, 146] (fun (lg : List Rn) (Hx : List Nat) (Dx : List Nat) (eg : List Ent) => []) 0 (fun (lg : List Rn) (Hx : List Nat) (Dx : List Nat) (eg : List Ent) => [(13, vec 196 6 (.slice (some ⟨ga, 0, none⟩) n n) n (lg.flatMap cX)), (5, subs 3 1 (lg.map Rn.wV)), (6, bag Hx Dx eg)]) (fun (lg : List Rn) (Hx : List Nat) (Dx : List Nat) (eg : List Ent) => RelT eg t lg (goneF t s.ds r)) ?_ ?_
                                        · refine tr_seq ?_
                                          refine tr_subCut 5 r rfl (map_at (d := Rn.nil) Rn.wV (by omega)) (by show 1 ≤ (l.getD r Rn.nil).ws.length; omega) cut_x ?_
                                          refine tr_region ?_
                                          refine tl_step rfl (oj_val (y_move (fe_t rfl)) ?_)
                                          refine tl_step rfl (oj_val (y_move (fe_t rfl)) ?_)
                                          refine tl_step rfl (oj_val (y_nilCheckE (fe_t rfl) (rdl_vec 13 rfl) (by rw [flat_len hcX]; omega)) ?_)
                                          refine tl_step rfl (oj_val (y_fieldAddrE (td := 79) Try.underlying196 rfl rfl Try.sizeOf79 rfl (fe_t rfl) (rdl_vec 13 rfl) (by rw [flat_len hcX]; omega)) ?_)
                                          refine tl_step rfl (oj_val (y_ld Try.isAgg79 (fe_t rfl) (rdl_vec 13 rfl) (flatG (d := Rn.nil) (i := 5) hcX (by omega) rfl)) ?_)
                                          refine tl_step rfl (oj_val (y_cutL (l := 1) Try.underlying79 Try.sizeOf3 (fe_t rfl) fe_c (by omega)) ?_)
                                          refine tl_step rfl (oj_val (y_nilCheckE (fe_t rfl) (rdl_vec 13 rfl) (by rw [flat_len hcX]; omega)) ?_)
                                          refine tl_step rfl (oj_val (y_fieldAddrE (td := 79) Try.underlying196 rfl rfl Try.sizeOf79 rfl (fe_t rfl) (rdl_vec 13 rfl) (by rw [flat_len hcX]; omega)) ?_)
                                          refine tl_step rfl (oj_storeG (i := 13) Rn.nil (⟨(l.getD r Rn.nil).leaf, (l.getD r Rn.nil).bytes, (l.getD r Rn.nil).pb, (l.getD r Rn.nil).pe, (l.getD r Rn.nil).pt, cutA (l.getD r Rn.nil).wA 1 (l.getD r Rn.nil).wc 1, (l.getD r Rn.nil).wc - 1, (l.getD r Rn.nil).ws.drop 1⟩ : Rn) hcX Try.sizeOf79 (fe_t rfl) (fe_t rfl) rfl rfl rfl (by (try rw [List.length_set]); omega) rfl (by simp [cX]) (?_))
                                          refine tl_nil ?_
                                          refine tx_then ?_
                                          refine tr_seq ?_
                                          generalize hl1 : l.set r (⟨(l.getD r Rn.nil).leaf, (l.getD r Rn.nil).bytes, (l.getD r Rn.nil).pb, (l.getD r Rn.nil).pe, (l.getD r Rn.nil).pt, cutA (l.getD r Rn.nil).wA 1 (l.getD r Rn.nil).wc 1, (l.getD r Rn.nil).wc - 1, (l.getD r Rn.nil).ws.drop 1⟩ : Rn) = l1
                                          obtain ⟨hl1n, hl1k, hl1o⟩ := rn_k hl1 hll (by omega)
                                          have hrel1 : RelT es t l1 (s.ds.set r { dn s.ds r with ws := (dn s.ds r).ws.drop 1 }) := hrel.set hl1 hrn ⟨hRr.leaf, hRr.bytes, by dsimp only; rw [hRr.ws], hRr.bg, hRr.en, hRr.tm⟩
                                          have hw1 : (l1.getD r Rn.nil).ws = (dn s.ds r).ws.drop 1 := by rw [hl1k]; dsimp only; rw [hRr.ws]
                                          have hwl1 : (l1.getD r Rn.nil).ws.length = (dn s.ds r).ws.length - 1 := by rw [hw1, List.length_drop]
                                          have hbd1 : Bd ((i : Int) * 162000000000) (s.ds.set r { dn s.ds r with ws := (dn s.ds r).ws.drop 1 }) := hwf.bd.set (Int.le_refl _) ⟨b1, b2, b3, b4, fun x hx => b5 x (List.mem_of_mem_drop hx)⟩
                                          refine tr_region ?_
                                          refine tl_step rfl (oj_val (y_move (fe_t rfl)) ?_)
                                          refine tl_step rfl (oj_val (y_nilCheckE (fe_t rfl) (rdl_vec 13 rfl) (by rw [flat_len hcX]; omega)) ?_)
                                          refine tl_step rfl (oj_val (y_fieldAddrE (td := 79) Try.underlying196 rfl rfl Try.sizeOf79 rfl (fe_t rfl) (rdl_vec 13 rfl) (by rw [flat_len hcX]; omega)) ?_)
                                          refine tl_step rfl (oj_val (y_ld Try.isAgg79 (fe_t rfl) (rdl_vec 13 rfl) (flatG (d := Rn.nil) (i := 5) hcX (by omega) rfl)) ?_)
                                          refine tl_step rfl (oj_val (y_len Try.underlying79 (fe_t rfl)) ?_)
                                          refine tl_step rfl (oj_val (y_gtr (fe_t rfl) fe_c) ?_)
                                          refine tl_nil ?_
                                          refine tx_then ?_
                                          refine tr_condp (fe_t rfl) (fun hq45 => ?_) (fun hq46 => ?_)
                                          · try (exfalso; omega)
                                            all_goals
                                              have hhd := hd_pos (hwf.bd r) (by omega)
                                              have hhb : 0 ≤ hd (l1.getD r Rn.nil).ws ∧ hd (l1.getD r Rn.nil).ws ≤ 1500 := by rw [hw1]; omega
                                              refine tb_draw 10 (sel _ [0, 1, 2, 3, 4, 7, 8, 9, 10, 11, 12, 14]) (fun w h => h.sel _ rfl (by decide)) rfl ?_
                                              refine tb_float (i := 0) rfl (by kernel_rfl) rfl (wants_none rfl) (yq_of (y_ldb 4 Try.isAgg198 (fe_t rfl) rfl rfl)) ?_
                                              refine tb_float (i := 1) rfl (by kernel_rfl) rfl (wants_none rfl) (yq_of (y_move (fe_t rfl))) ?_
                                              refine tb_float (i := 2) rfl (by kernel_rfl) rfl (wants_none rfl) (yq_of (y_move (fe_t rfl))) ?_
                                              refine tb_float (i := 3) rfl (by kernel_rfl) rfl (wants_none rfl) (yq_of (y_move (fe_t rfl))) ?_
                                              refine tb_one2 (i := 4) rfl (by kernel_rfl) (by kernel_rfl) (wants_none rfl) (oj_val (y_nilCheckE (fe_t rfl) (rdl_vec 13 rfl) (by rw [flat_len hcX]; omega)) (⟨fun w h => h.pick [0, 1, 2, 3, 4, 7, 8, 9, 10, 11, 12, 14] _ rfl (by decide), ?_⟩))
                                              refine tb_one2 (i := 5) rfl (by kernel_rfl) (by kernel_rfl) (wants_none rfl) (oj_val (y_fieldAddrE (td := 79) Try.underlying196 rfl rfl Try.sizeOf79 rfl (fe_t rfl) (rdl_vec 13 rfl) (by rw [flat_len hcX]; omega)) (⟨fun w h => h.pick [0, 1, 2, 3, 4, 7, 8, 9, 10, 11, 12, 14] _ rfl (by decide), ?_⟩))
                                              refine tb_one2 (i := 6) rfl (by kernel_rfl) (by kernel_rfl) (wants_none rfl) (oj_val (y_ld Try.isAgg79 (fe_t rfl) (rdl_vec 13 rfl) (flatG (d := Rn.nil) (i := 5) hcX (by omega) rfl)) (⟨fun w h => h.pick [0, 1, 2, 3, 4, 7, 8, 9, 10, 11, 12, 14] _ rfl (by decide), ?_⟩))
                                              refine tb_one2 (i := 7) rfl (by kernel_rfl) (by kernel_rfl) (wants_none rfl) (oj_val (y_indexI (m := 0) Try.underlying79 Try.sizeOf3 (fe_t rfl) fe_c (subG (f := Rn.wV) (d := Rn.nil) 5 rfl (by omega)) (by simp [Rn.wV, cI]) (by decide) (by decide) (by omega) rfl) (⟨fun w h => h.pick [0, 1, 2, 3, 4, 7, 8, 9, 10, 11, 12, 14] _ rfl (by decide), ?_⟩))
                                              refine tb_one2 (i := 8) rfl (by kernel_rfl) (by kernel_rfl) (wants_none rfl) (oj_val (y_ld Try.isAgg3 (fe_t rfl) (subG (f := Rn.wV) (d := Rn.nil) 5 rfl (by omega)) (hdI (by omega))) (⟨fun w h => h.pick [0, 1, 2, 3, 4, 7, 8, 9, 10, 11, 12, 14] _ rfl (by decide), ?_⟩))
                                              refine tb_one2 (i := 9) rfl (by kernel_rfl) (by kernel_rfl) (wants_none rfl) (oj_callF Try.call144 (fe_t rfl) (fel_cons (fe_i hlf0 rfl) (fel_cons (fe_t rfl) (fel_cons (fe_t rfl) fel_nil))) (fun w' hS => offersE (hS.pick [12, 14, 7, 13, 5, 8, 6, 0, 1, 2, 3, 4, 9, 10, 11] [_, _, _, _, _, _, _, _, _, _, _, _, _, _, _] rfl (by decide)) hr hn ht g htn hrel1 hsl hbd1 (by omega) (k := r) hrn hhb) (fun q1 hQ1 => ⟨fun w h => h.pick [7, 8, 9, 10, 11, 2, 5, 12, 13, 14, 0, 1] _ rfl (by decide), ?_⟩))
                                              refine tb_done (by kernel_rfl) ?_
                                              apply tx_back4 (q1.1) (_) (_) (q1.2.2.2)
                                              · exact (cov_nil)
                                              · repeat (first | exact over_nil | refine over_put rfl ?_ | refine over_drop rfl ?_)
                                              · exact fun w h => h.pick [7, 8, 9, 10, 11, 4, 6, 2, 5, 12, 13, 14, 0, 3, 1] _ rfl (by decide)
                                              · exact hrel_as hQ1.2 (by rw [dn_set hrsl, if_pos rfl, hlf0, hw1, decide_eq_true (by dsimp only; omega)]; unfold goneF; rw [if_neg (by omega)])
                                          · try (exfalso; omega)
                                            all_goals
                                              refine tr_region ?_
                                              refine tl_step rfl (oj_val (y_move (fe_t rfl)) ?_)
                                              refine tl_step rfl (oj_val (y_nilCheckE (fe_t rfl) (rdl_vec 13 rfl) (by rw [flat_len hcX]; omega)) ?_)
                                              refine tl_step rfl (oj_val (y_fieldAddrE (td := 3) Try.underlying196 rfl rfl Try.sizeOf3 rfl (fe_t rfl) (rdl_vec 13 rfl) (by rw [flat_len hcX]; omega)) ?_)
                                              refine tl_step rfl (oj_storeG (i := 13) Rn.nil (⟨(l1.getD r Rn.nil).leaf, 0, (l1.getD r Rn.nil).pb, (l1.getD r Rn.nil).pe, (l1.getD r Rn.nil).pt, (l1.getD r Rn.nil).wA, (l1.getD r Rn.nil).wc, (l1.getD r Rn.nil).ws⟩ : Rn) hcX Try.sizeOf3 (fe_t rfl) fe_c rfl rfl rfl (by (try rw [List.length_set]); omega) rfl (rfl) (?_))
                                              refine tl_nil ?_
                                              apply tx_back4 (l1.set r (⟨(l1.getD r Rn.nil).leaf, 0, (l1.getD r Rn.nil).pb, (l1.getD r Rn.nil).pe, (l1.getD r Rn.nil).pt, (l1.getD r Rn.nil).wA, (l1.getD r Rn.nil).wc, (l1.getD r Rn.nil).ws⟩ : Rn)) (_) (_) (es)
                                              · exact (cov_nil)
                                              · repeat (first | exact over_nil | refine over_put rfl ?_ | refine over_drop rfl ?_)
                                              · exact fun w h => (by (try dsimp only); rw [xV_same (l1 := l1.set r (⟨(l1.getD r Rn.nil).leaf, 0, (l1.getD r Rn.nil).pb, (l1.getD r Rn.nil).pe, (l1.getD r Rn.nil).pt, (l1.getD r Rn.nil).wA, (l1.getD r Rn.nil).wc, (l1.getD r Rn.nil).ws⟩ : Rn)) (l := l1) rfl rfl]; exact h.pick [0, 1, 2, 3, 4, 5, 6, 7, 8, 9, 10, 11, 12, 13, 14] _ rfl (by decide))
                                              · exact hrel_as (hrel1.set rfl hrn (d := { dn s.ds r with ws := (dn s.ds r).ws.drop 1, bytes := 0 }) ⟨by dsimp only; rw [hl1k]; exact hRr.leaf, rfl, hw1, by dsimp only; rw [hl1k]; exact hRr.bg, by dsimp only; rw [hl1k]; exact hRr.en, by dsimp only; rw [hl1k]; exact hRr.tm⟩) (by rw [List.set_set]; unfold goneF; rw [if_pos (by omega)])
                                        · intro lg Hx Dx eg hp
                                          have hrelg := hp
                                          refine tr_block ?_
                                          refine tr_loop7 [22, 147, 148, 149, 150, 151, 152, 153, 154, 155, 156] (fun (f : Nat) (c : Nat) (sc : List D) (l3 : List Rn) (Hz : List Nat) (Dz : List Nat) (ez : List Ent) => [(22, .int .i64 (c : Int))]) 0 (fun (f : Nat) (c : Nat) (sc : List D) (l3 : List Rn) (Hz : List Nat) (Dz : List Nat) (ez : List Ent) => [(13, vec 196 6 (.slice (some ⟨ga, 0, none⟩) n n) n (l3.flatMap cX)), (5, subs 3 1 (l3.map Rn.wV)), (6, bag Hz Dz ez)]) (fun (f : Nat) (c : Nat) (sc : List D) (l3 : List Rn) (Hz : List Nat) (Dz : List Nat) (ez : List Ent) => (c < t.n ∧ c ≤ f ∧ f ≤ 17) ∧ upOut t 17 (goneF t s.ds r) (t.u r) = upOut t f sc (t.u c) ∧ AncPos t sc c ∧ RelT ez t l3 sc ∧ Bd ((i : Int) * 162000000000 + 8000000000 + (17 - (f : Int)) * 9000000000) sc) (fun (f : Nat) (c : Nat) (sc : List D) (l3 : List Rn) (Hz : List Nat) (Dz : List Nat) (ez : List Ent) => c) (17) (r) (goneF t s.ds r) (lg) (_) (_) (_) (cov_cons (by first | rfl | exact v_int (by omega) | exact v_int (by dsimp only; omega)) (cov_nil)) (fun w h => h) ?_ ?_
                                          · try dsimp only
                                            exact ⟨by omega, rfl, AncPos.gone hrp (by omega), hrelg, (gone_bd g hrn hrw hwf.bd).mono (by omega)⟩
                                          intro f c sc l3 Hz Dz ez hp
                                          obtain ⟨⟨hcn, hcf, hf17⟩, hup, hap, hrel3, hbd3⟩ := hp
                                          have hl3n : l3.length = n := by rw [hrel3.len, htn]
                                          refine tr_seq ?_
                                          refine tr_seq ?_
                                          refine tr_region ?_
                                          refine tl_step rfl (oj_val (y_move (fe_t rfl)) ?_)
                                          refine tl_step rfl (oj_val (y_gtr (fe_t rfl) fe_c) ?_)
                                          refine tl_nil ?_
                                          refine tx_then ?_
                                          refine tr_condp (fe_t rfl) (fun hq47 => ?_) (fun hq48 => ?_)
                                          · try (exfalso; omega)
                                            all_goals
                                              refine tr_skip ?_
                                              refine tx_then ?_
                                              refine tr_block ?_
                                              refine tr_seq ?_
                                              have huc := g.u c (by omega) hcn
                                              obtain ⟨p, hpu⟩ : ∃ p : Nat, t.u c = p := ⟨(t.u c).toNat, by omega⟩
                                              have hup2 : n1 ns c = (p : Int) := by rw [← hpu, ht, trOf_u]
                                              have hpn : p < t.n := by omega
                                              have hap2 := hap.up g hcn hrel3.sen hpu
                                              have hap3 := hap2.1
                                              refine tr_region ?_
                                              refine tl_step rfl (oj_val (y_ldb 14 Try.isAgg105 (fe_t rfl) rfl rfl) ?_)
                                              refine tl_step rfl (oj_val (y_move (fe_t rfl)) ?_)
                                              refine tl_step rfl (oj_val (y_index Try.underlying105 Try.sizeOf121 (fe_t rfl) (fe_t rfl) (rdl_out hr) (lenN hnl) (by decide) (by omega) rfl) ?_)
                                              refine tl_step rfl (oj_val (y_fieldAddrE (td := 3) Try.underlying121 rfl rfl Try.sizeOf3 rfl (fe_t rfl) (rdl_out hr) (by rw [lenN hnl]; omega)) ?_)
                                              refine tl_step rfl (oj_val (y_ld Try.isAgg3 (fe_t rfl) (rdl_out hr) (getN1 (by omega))) ?_)
                                              refine tl_step rfl (oj_val (y_assign (fe_t rfl)) ?_)
                                              refine tl_nil ?_
                                              refine tx_then ?_
                                              refine tr_region ?_
                                              refine tl_step rfl (oj_val (y_move (fe_t rfl)) ?_)
                                              refine tl_step rfl (oj_val (y_move (fe_t rfl)) ?_)
                                              refine tl_step rfl (oj_callF Try.call145 (fe_t rfl) (fel_cons (fe_i hup2 rfl) fel_nil) (fun w' hS => chooseE (hS.pick [12, 14, 7, 10, 4, 13, 5, 8, 11, 9, 6, 0, 1, 2, 3] [_, _, _, _, _, _, _, _, _, _, _, _, _, _, _] rfl (by decide)) hr hn ht g htn hrel3 hsl hbd3 hkl (by omega) (k := p) hpn) (fun q2 hQ2 => ?_))
                                              refine tl_nil ?_
                                              refine tx_in ?_
                                              apply tx_back7 (f - 1) (p) (pick t sc p true) (q2.1) (_) (_) (q2.2.2.2)
                                              · exact (cov_cons (by first | rfl | exact v_int (by omega) | exact v_int (by dsimp only; omega)) (cov_nil))
                                              · repeat (first | exact over_nil | refine over_put rfl ?_ | refine over_drop rfl ?_)
                                              · exact fun w h => h.pick [11, 12, 13, 14, 4, 6, 10, 2, 7, 9, 3, 8, 0, 5, 1] _ rfl (by decide)
                                              · exact ⟨⟨by omega, by rw [hup, upOut_step hpu (by omega)], hap2.2, hrel_as hQ2.2 (by rw [decide_eq_true (show ¬ (dn sc p).bytes = 0 by omega)]), (pick_bd g hpn hbd3).mono (by omega)⟩, by omega⟩
                                          · try (exfalso; omega)
                                            all_goals
                                              refine tr_exit ?_
                                              refine tx_then_exit ?_
                                              refine tx_then_exit ?_
                                              refine tx_in_exit ?_
                                              refine tx_in ?_
                                              refine tx_then ?_
                                              have hsc : sc = outF t s.ds := by
                                                unfold outF
                                                rw [hrl, Int.toNat_natCast, hup, upOut_stop (by have h := g.u0; rw [show c = 0 by omega]; omega)]
                                              refine tr_region ?_
                                              refine tl_step rfl (oj_val (y_move (fe_t rfl)) ?_)
                                              refine tl_step rfl (oj_val (y_move (fe_t rfl)) ?_)
                                              refine tl_step rfl (oj_slice1 Try.underlying92 Try.sizeOf24 Try.zeroValue24 (fe_t rfl) (by decide) rfl (fun b12 => ?_))
                                              refine tl_step rfl (oj_append (i := 4) (s := 1) (z := (.int .i64 0)) (bytes := 8) Try.underlying92 (by kernel_rfl) (fe_t rfl) (fe_t rfl) rfl (rdl_blk 0 rfl) rfl (by decide) (by first | exact oneI | exact oneF (fun _ => rfl) | exact fun u hu => List.all_eq_true.1 (show List.all _ (fun x => x.oneCell') = true from rfl) u hu | (intro u hu; revert u hu; simp [Value.oneCell'])) (by decide) ⟨by omega, by decide⟩ (fun Aa12 ca12 hca12 => ?_))
                                              refine tl_step rfl (oj_val (y_assign (fe_t rfl)) ?_)
                                              refine tl_nil ?_
                                              refine tx_in ?_
                                              refine tx_then ?_
                                              refine tr_region ?_
                                              refine tl_step rfl (oj_val (y_inc (fe_t rfl) fe_c (by omega)) ?_)
                                              refine tl_step rfl (oj_val (y_move (fe_t rfl)) ?_)
                                              refine tl_nil ?_
                                              apply tx_back8 (i + 1) (⟨outF t s.ds, s.errs ++ [0], s.sent ++ [((dn s.ds 0).leaf, (dn s.ds 0).bytes)]⟩) (l3) ((⟨_, _, _, _⟩ : Vs)) ((⟨_, _, _, _⟩ : Vs)) (_) (_) (ez)
                                              · exact (cov_cons (by first | rfl | exact v_int (by omega) | exact v_int (by dsimp only; omega)) (cov_cons (by first | rfl | exact v_int (by omega) | exact v_int (by dsimp only; omega)) (cov_cons (by first | rfl | exact v_int (by omega) | exact v_int (by dsimp only; omega)) (cov_nil))))
                                              · repeat (first | exact over_nil | refine over_put rfl ?_ | refine over_drop rfl ?_)
                                              · exact fun w h => h.pick [3, 4, 5, 6, 7, 8, 9, 10, 11, 12, 13, 14, 15] _ rfl (by decide)
                                              · exact ⟨⟨by omega, ⟨s, hrun, .out (by show o1 os i = 2; omega) (by omega)⟩, by rw [← hsc]; exact hrel3, ⟨by simp; omega, by dsimp only; rw [hex, cI, cI, List.map_append]; rfl⟩, by simp; omega, by dsimp only; rw [hsx, List.flatMap_append, ← hR0l, ← hR0b]; rfl⟩, by omega⟩
                        · exfalso; omega
      · try (exfalso; omega)
        all_goals
          refine tr_exit ?_
          refine tx_then_exit ?_
          refine tx_then_exit ?_
          refine tx_in_exit ?_
          refine tx_then ?_
          refine tr_seq ?_
          refine tr_region ?_
          refine tl_step rfl (oj_val (y_assign fe_c) ?_)
          refine tl_nil ?_
          refine tx_then ?_
          refine tr_seq ?_
          refine tr_seq ?_
          refine tr_region ?_
          refine tl_step rfl (oj_val (y_ldb 10 Try.isAgg192 (fe_t rfl) rfl rfl) ?_)
          refine tl_step rfl (oj_val (y_len Try.underlying192 (fe_t rfl)) ?_)
          refine tl_step rfl (oj_val (y_move fe_c) ?_)
          refine tl_nil ?_
          refine tx_then ?_
          refine tr_block ?_
          refine tr_add (r := vec 3 1 (.slice none 0 0) 0 []) vec_nil rfl ?_
          refine tr_loop2 [24, 26, 254, 255, 256, 257, 258, 259, 260, 261, 262, 263, 264] (fun (k : Nat) (z1 : Vs) => [(254, .int .i64 (k : Int)), (24, .slice z1.A z1.n z1.c)]) 0 (fun (k : Nat) (z1 : Vs) => [(0, vec 3 1 (.slice z1.A z1.n z1.c) z1.n z1.xs)]) (fun (k : Nat) (z1 : Vs) => k ≤ n ∧ z1.n = k ∧ z1.xs = cI ((left s).take k)) (fun (k : Nat) (z1 : Vs) => n - k) (0) (⟨none, 0, 0, []⟩ : Vs) (cov_cons (by first | rfl | exact v_int (by omega) | exact v_int (by dsimp only; omega)) (cov_cons (by first | rfl | exact v_int (by omega) | exact v_int (by dsimp only; omega)) (cov_nil))) (fun w h => h) ?_ ?_
          · try dsimp only
            exact ⟨by omega, rfl, rfl⟩
          intro k z1 hp
          obtain ⟨hk, hzn, hzx⟩ := hp
          refine tr_seq ?_
          refine tr_region ?_
          refine tl_step rfl (oj_val (y_lss (fe_t rfl) (fe_t rfl)) ?_)
          refine tl_nil ?_
          refine tx_then ?_
          refine tr_seq ?_
          refine tr_condp (fe_t rfl) (fun hq49 => ?_) (fun hq50 => ?_)
          · try (exfalso; omega)
            all_goals
              refine tr_skip ?_
              refine tx_then ?_
              refine tr_seq ?_
              refine tr_block ?_
              refine tr_seq ?_
              refine tr_region ?_
              refine tl_step rfl (oj_val (y_index Try.underlying192 Try.sizeOf196 (fe_t rfl) (fe_t rfl) (rdl_vec 12 rfl) (by rw [flat_len hcX]; omega) (by decide) (by omega) rfl) ?_)
              refine tl_step rfl (oj_val (y_ldA (cs := cX (l.getD k Rn.nil)) Try.isAgg196 Try.sizeOf196 (fe_t rfl) (rdl_vec 12 rfl) rfl (by decide) (flatGA (d := Rn.nil) hcX (by omega))) ?_)
              refine tl_step rfl (oj_alloc Try.zeroValue196 (fun bg => ?_))
              refine tl_step rfl (oj_storeW 0 Try.sizeOf196 (fe_t rfl) (fe_t rfl) rfl rfl rfl rfl rfl (?_))
              refine tl_nil ?_
              refine tx_then ?_
              refine tr_region ?_
              refine tl_step rfl (oj_val (y_move (fe_t rfl)) ?_)
              refine tl_step rfl (oj_val (y_fieldAddr (td := 79) Try.underlying196 rfl rfl Try.sizeOf79 (o' := 5) rfl (fe_t rfl)) ?_)
              refine tl_step rfl (oj_val (y_ldb 0 Try.isAgg79 (fe_t rfl) rfl rfl) ?_)
              refine tl_step rfl (oj_val (y_len Try.underlying79 (fe_t rfl)) ?_)
              refine tl_step rfl (oj_slice1 Try.underlying79 Try.sizeOf3 Try.zeroValue3 (fe_t rfl) (by decide) rfl (fun b13 => ?_))
              refine tl_step rfl (oj_append (i := 2) (s := 1) (z := (.int .i64 0)) (bytes := 8) Try.underlying79 (by kernel_rfl) (fe_t rfl) (fe_t rfl) rfl (rdl_blk 0 rfl) rfl (by decide) (by first | exact oneI | exact oneF (fun _ => rfl) | exact fun u hu => List.all_eq_true.1 (show List.all _ (fun x => x.oneCell') = true from rfl) u hu | (intro u hu; revert u hu; simp [Value.oneCell'])) (by decide) ⟨by omega, by decide⟩ (fun Aa13 ca13 hca13 => ?_))
              refine tl_step rfl (oj_val (y_assign (fe_t rfl)) ?_)
              refine tl_nil ?_
              refine tx_in ?_
              refine tx_then ?_
              refine tr_region ?_
              refine tl_step rfl (oj_val (y_inc (fe_t rfl) fe_c (by omega)) ?_)
              refine tl_step rfl (oj_val (y_move (fe_t rfl)) ?_)
              refine tl_nil ?_
              apply tx_back2 (k + 1) ((⟨_, _, _, _⟩ : Vs))
              · exact (cov_cons (by first | rfl | exact v_int (by omega) | exact v_int (by dsimp only; omega)) (cov_cons (by first | rfl | exact v_int (by omega) | exact v_int (by dsimp only; omega)) (cov_nil)))
              · repeat (first | exact over_nil | refine over_put rfl ?_ | refine over_drop rfl ?_)
              · exact fun w h => h.pick [2, 3, 4, 5, 6, 7, 8, 9, 10, 11, 12, 13, 14, 15] _ rfl (by decide)
              · refine ⟨⟨by omega, by dsimp only; omega, ?_⟩, by omega⟩
                dsimp only
                rw [hzx, left_take (by rw [hwf.ok.len]; omega), cI, cI, List.map_append, (hrel.at_ k (by omega)).ws]
                rfl
          · try (exfalso; omega)
            all_goals
              refine tr_exit ?_
              refine tx_then_exit ?_
              refine tx_then_exit ?_
              refine tx_in_exit ?_
              refine tx_then ?_
              refine tr_seq ?_
              refine tr_region ?_
              refine tl_step rfl (oj_val (y_move (fe_t rfl)) ?_)
              refine tl_step rfl (oj_val (y_move (fe_t rfl)) ?_)
              refine tl_step rfl (oj_val (y_move (fe_t rfl)) ?_)
              refine tl_step rfl (oj_val (y_assign (fe_t rfl)) ?_)
              refine tl_step rfl (oj_val (y_assign (fe_t rfl)) ?_)
              refine tl_step rfl (oj_val (y_assign (fe_t rfl)) ?_)
              refine tl_nil ?_
              refine tx_then ?_
              refine tr_ret ?_
              refine tx_ret (res3 Try.results76 (rok_t rfl) (rok_t rfl) (rok_t rfl)) (fun w' hS => ?_)
              obtain rfl : k = n := by omega
              obtain rfl : i = m := by omega
              rw [ht] at hrun
              exact ⟨(s, e1, s1, z1), ⟨hrun, ⟨hen, hex⟩, ⟨hsn, hsx⟩, hzn, by rw [hzx, List.take_of_length_le (by simp [left, hwf.ok.len]; omega)]⟩, rfl, hS.pick [2, 1, 0] _ rfl (by decide)⟩

end Go.Proofs.Ytcpdelkamckmfaa.Hier
