/- the reference's QShare. -/
import Derived.Test.YtcpdelkamckmfaaTwA
import Derived.Test.YtcpdelkamckmfaaWqR
namespace Go.Proofs.Ytcpdelkamckmfaa.Hier
open Go.RowKit Go.Proofs.Ytcpdelkamckmfaa.E Go.Proofs.Ytcpdelkamckmfaa.Frac Go.Proofs.Ytcpdelkamckmfaa.Big
open Go.Proofs.Ytcpdelkamckmfaa.Wfq (Ext Ext.rfl Ext.trans Ext.cons mul_in)

def optP (o : Option Nat) : Value := .pointer (o.map fun b => ⟨b, 0, none⟩)
def Ext' (a b : List Ent) : Prop := ∀ x ∈ a, x ∈ b
set_option maxRecDepth 100000 in
set_option maxHeartbeats 4000000 in
theorem qshare_step {A : Option Addr} {n c : Nat} {ns : List (Int × Int)} (hn : ns.length = n) (hm : n ≤ 140737488355328) {t : Tr} (ht : t = trOf ns) (g : t.Good) {w0 : World} (hr : Rd w0 A (ns.flatMap c2)) {k : Nat} (hk : k < t.n) (ih : ∀ p, p < k → ∀ {w : World} {T : List Res} {H D : List Nat} {es : List Ent}, St w0 w (bag H D es :: T) → Calls Try.prog 90 #[.slice A n c, (.int .i64 ((p : Int)))] w fun e w' => ∃ q : Option Nat × List Nat × List Nat × List Ent, (Ext es q.2.2.2 ∧ ((share t p).2.2 = 0 → ∃ b qa qb, q.1 = some b ∧ (⟨b, 0, qa⟩ : Ent) ∈ q.2.2.2 ∧ (⟨b, 2, qb⟩ : Ent) ∈ q.2.2.2 ∧ RatIs qa qb (mkRat (share t p).1 (share t p).2.1.toNat))) ∧ e = .returned (.tuple #[optP q.1, (.int .i64 ((share t p).2.2))]) ∧ St w0 w' (bag q.2.1 q.2.2.1 q.2.2.2 :: T)) {w : World} {T : List Res} {H D : List Nat} {es : List Ent} (hS : St w0 w (bag H D es :: T)) :
    Calls Try.prog 90 #[.slice A n c, (.int .i64 ((k : Int)))] w fun e w' => ∃ q : Option Nat × List Nat × List Nat × List Ent, (Ext es q.2.2.2 ∧ ((share t k).2.2 = 0 → ∃ b qa qb, q.1 = some b ∧ (⟨b, 0, qa⟩ : Ent) ∈ q.2.2.2 ∧ (⟨b, 2, qb⟩ : Ent) ∈ q.2.2.2 ∧ RatIs qa qb (mkRat (share t k).1 (share t k).2.1.toNat))) ∧ e = .returned (.tuple #[optP q.1, (.int .i64 ((share t k).2.2))]) ∧ St w0 w' (bag q.2.1 q.2.2.1 q.2.2.2 :: T) := by
  have htn : t.n = n := by rw [ht, trOf_n, hn]
  have hn16 := g.n16
  have hn1 := g.n1
  refine calls_tr Try.func90 Try.ntmps90 rfl rfl hS ?_
  refine tr_seq ?_
  refine tr_region ?_
  refine tl_step rfl (oj_val (y_assign fe_c) ?_)
  refine tl_step rfl (oj_val (y_assign fe_c) ?_)
  refine tl_nil ?_
  refine tx_then ?_
  refine tr_seq ?_
  refine tr_seq ?_
  refine tr_region ?_
  refine tl_step rfl (oj_val (y_move (fe_t rfl)) ?_)
  refine tl_step rfl (oj_val (y_eq (fe_t rfl) fe_c) ?_)
  refine tl_nil ?_
  refine tx_then ?_
  refine tr_condp (fe_t rfl) (fun hq1 => ?_) (fun hq2 => ?_)
  · try (exfalso; omega)
    all_goals
      refine tr_seq ?_
      refine tr_region ?_
      refine tl_step rfl (oj_call2 Try.call83 fe_f (fel_cons fe_c (fel_cons fe_c fel_nil)) (fun w' hS => lift 0 hS rfl (fun T hS => newR hS 1 1 (by omega) (by omega) (by omega) (by omega))) (fun r1 hr1 => ?_))
      refine tl_step rfl (oj_val (y_assign (fe_t rfl)) ?_)
      refine tl_step rfl (oj_val (y_assign fe_c) ?_)
      refine tl_nil ?_
      refine tx_then ?_
      refine tr_ret ?_
      refine tx_then_ret ?_
      refine tx_ret (res2 Try.results90 (rok_t rfl) (rok_t rfl)) (fun w' hS => ?_)
      have h1 := pickT (l := [_]) hS [0] rfl (by decide)
      exact ⟨(some r1.b, _, _, _), ⟨(.cons _ (.cons _ Ext.rfl)), fun _ => ⟨_, _, _, rfl, pget_mem 0 rfl, pget_mem 1 rfl, by rw [show k = 0 by omega]; exact hr1⟩⟩, by rw [show k = 0 by omega]; rfl, h1⟩
  · try (exfalso; omega)
    all_goals
      refine tr_skip ?_
      refine tx_then ?_
      refine tr_seq ?_
      have huk := g.u k (by omega) hk
      obtain ⟨p, hp⟩ : ∃ p : Nat, t.u k = p := ⟨(t.u k).toNat, by omega⟩
      have hup : n1 ns k = (p : Int) := by rw [← hp, ht, trOf_u]
      have hpn : p < t.n := by omega
      have hss := share_step g hk hp
      refine tr_region ?_
      refine tl_step rfl (oj_val (y_move (fe_t rfl)) ?_)
      refine tl_step rfl (oj_val (y_move (fe_t rfl)) ?_)
      refine tl_step rfl (oj_val (y_move (fe_t rfl)) ?_)
      refine tl_step rfl (oj_val (y_index Try.underlying105 Try.sizeOf121 (fe_t rfl) (fe_t rfl) (rdl_out hr) (lenN hn) (by decide) (by omega) rfl) ?_)
      refine tl_step rfl (oj_val (y_fieldAddrE (td := 3) Try.underlying121 rfl rfl Try.sizeOf3 rfl (fe_t rfl) (rdl_out hr) (by rw [lenN hn]; omega)) ?_)
      refine tl_step rfl (oj_val (y_ld Try.isAgg3 (fe_t rfl) (rdl_out hr) (getN1 (by omega))) ?_)
      refine tl_step rfl (oj_call2 Try.call90 fe_f (fel_cons (fe_t rfl) (fel_cons (fe_i hup rfl) fel_nil)) (fun w' hS => ih p (by omega) hS) ?_)
      rintro ⟨o0, H0, D0, es0⟩ h0; dsimp only at h0 ⊢
      refine tl_step rfl (oj_val (y_move (fe_t rfl)) ?_)
      refine tl_step rfl (oj_val (y_extract (fe_t rfl) rfl) ?_)
      refine tl_step rfl (oj_val (y_extract (fe_t rfl) rfl) ?_)
      refine tl_step rfl (oj_val (y_assign (fe_t rfl)) ?_)
      refine tl_step rfl (oj_val (y_assign (fe_t rfl)) ?_)
      refine tl_nil ?_
      refine tx_then ?_
      refine tr_seq ?_
      refine tr_seq ?_
      refine tr_region ?_
      refine tl_step rfl (oj_val (y_move (fe_t rfl)) ?_)
      refine tl_step rfl (oj_val (y_neq (fe_t rfl) fe_c) ?_)
      refine tl_nil ?_
      refine tx_then ?_
      refine tr_condp (fe_t rfl) (fun hq3 => ?_) (fun hq4 => ?_)
      · try (exfalso; omega)
        all_goals
          refine tr_seq ?_
          refine tr_region ?_
          refine tl_step rfl (oj_val (y_move (fe_t rfl)) ?_)
          refine tl_step rfl (oj_val (y_assign fe_c) ?_)
          refine tl_step rfl (oj_val (y_assign (fe_t rfl)) ?_)
          refine tl_nil ?_
          refine tx_then ?_
          refine tr_ret ?_
          refine tx_then_ret ?_
          refine tx_ret (res2 Try.results90 (rok_t rfl) (rok_t rfl)) (fun w' hS => ?_)
          have h1 := pickT (l := [_]) hS [0] rfl (by decide)
          rw [if_neg (by omega)] at hss
          exact ⟨(none, _, _, _), ⟨h0.1, fun h => absurd (by rw [hss] at h; exact h) (by omega)⟩, by rw [hss]; rfl, h1⟩
      · try (exfalso; omega)
        all_goals
          have h00 : (share t p).2.2 = 0 := by omega
          obtain ⟨b0, xa, xb, hq, mxa, mxb, hx⟩ := h0.2 h00
          subst hq
          have hbr := share_ok g p hpn h00
          obtain ⟨x, y, hsp⟩ : ∃ x y, share t p = (x, y, 0) := ⟨(share t p).1, (share t p).2.1, Prod.ext rfl (Prod.ext rfl h00)⟩
          rw [hsp] at hx hbr hss
          dsimp only at hx hbr
          rw [if_pos rfl] at hss
          dsimp only at hss
          obtain ⟨a1, a2, a3, a4⟩ := bright_iff.1 hbr
          have hz1 : t.sumTo 1 p = 0 := by rw [Tr.sumTo, decide_eq_false (by have := g.u0; omega)]; rfl
          refine tr_skip ?_
          refine tx_then ?_
          refine tr_seq ?_
          refine tr_region ?_
          refine tl_step rfl (oj_val (y_assign fe_c) ?_)
          refine tl_nil ?_
          refine tx_then ?_
          refine tr_seq ?_
          refine tr_seq ?_
          refine tr_region ?_
          refine tl_step rfl (oj_val (y_assign fe_c) ?_)
          refine tl_nil ?_
          refine tx_then ?_
          refine tr_block ?_
          refine tr_loop2 [8, 9, 27, 28, 29, 30, 31, 32, 33, 34, 35, 36, 37, 38, 39, 40, 41, 42, 43, 44, 45, 46, 47, 48, 49, 50] (fun (i : Nat) (z : Int) => [(9, .int .i64 (i : Int)), (8, .int .i64 z)]) 0 (fun (i : Nat) (z : Int) => []) (fun (i : Nat) (z : Int) => 1 ≤ i ∧ i ≤ n ∧ z = t.sumTo i p) (fun (i : Nat) (z : Int) => n - i) (1) (0) (cov_cons (by first | rfl | exact v_int (by omega) | exact v_bool (by simp [*])) (cov_cons (by first | rfl | exact v_int (by omega) | exact v_bool (by simp [*])) (cov_nil))) (fun w h => h) ?_ ?_
          · try dsimp only
            exact ⟨by omega, by omega, hz1.symm⟩
          intro i z hp
          obtain ⟨hi1, hi, hz⟩ := hp
          have hzb := sumTo_bd g (k := p) (n := i) (by omega)
          refine tr_seq ?_
          refine tr_seq ?_
          refine tr_region ?_
          refine tl_step rfl (oj_val (y_move (fe_t rfl)) ?_)
          refine tl_step rfl (oj_val (y_move (fe_t rfl)) ?_)
          refine tl_step rfl (oj_val (y_len Try.underlying105 (fe_t rfl)) ?_)
          refine tl_step rfl (oj_val (y_lss (fe_t rfl) (fe_t rfl)) ?_)
          refine tl_nil ?_
          refine tx_then ?_
          refine tr_condp (fe_t rfl) (fun hq5 => ?_) (fun hq6 => ?_)
          · try (exfalso; omega)
            all_goals
              refine tr_skip ?_
              refine tx_then ?_
              refine tr_seq ?_
              refine tr_block ?_
              refine tr_seq ?_
              have hwi : 1 ≤ n2 ns i ∧ n2 ns i ≤ 12 := by have h := g.w i (by omega); rw [ht, trOf_w] at h; exact h
              refine tb_draw 11 (sel _ [0]) (fun w h => h.sel _ rfl (by decide)) rfl ?_
              refine tb_float (i := 0) rfl (by kernel_rfl) rfl (wants_none rfl) (yq_of (y_move (fe_t rfl))) ?_
              refine tb_float (i := 1) rfl (by kernel_rfl) rfl (wants_none rfl) (yq_of (y_move (fe_t rfl))) ?_
              refine tb_float (i := 2) rfl (by kernel_rfl) rfl (wants_none rfl) (yq_of (y_index Try.underlying105 Try.sizeOf121 (fe_t rfl) (fe_t rfl) (rdl_out hr) (lenN hn) (by decide) (by omega) rfl)) ?_
              refine tb_float (i := 3) rfl (by kernel_rfl) rfl (wants_none rfl) (yq_of (y_fieldAddrE (td := 3) Try.underlying121 rfl rfl Try.sizeOf3 rfl (fe_t rfl) (rdl_out hr) (by rw [lenN hn]; omega))) ?_
              refine tb_float (i := 4) rfl (by kernel_rfl) rfl (wants_none rfl) (yq_of (y_ld Try.isAgg3 (fe_t rfl) (rdl_out hr) (getN1 (by omega)))) ?_
              refine tb_float (i := 5) rfl (by kernel_rfl) rfl (wants_none rfl) (yq_of (y_move (fe_t rfl))) ?_
              refine tb_float (i := 6) rfl (by kernel_rfl) rfl (wants_none rfl) (yq_of (y_move (fe_t rfl))) ?_
              refine tb_float (i := 7) rfl (by kernel_rfl) rfl (wants_none rfl) (yq_of (y_index Try.underlying105 Try.sizeOf121 (fe_t rfl) (fe_t rfl) (rdl_out hr) (lenN hn) (by decide) (by omega) rfl)) ?_
              refine tb_float (i := 8) rfl (by kernel_rfl) rfl (wants_none rfl) (yq_of (y_fieldAddrE (td := 3) Try.underlying121 rfl rfl Try.sizeOf3 rfl (fe_t rfl) (rdl_out hr) (by rw [lenN hn]; omega))) ?_
              refine tb_float (i := 9) rfl (by kernel_rfl) rfl (wants_none rfl) (yq_of (y_ld Try.isAgg3 (fe_t rfl) (rdl_out hr) (getN1 (by omega)))) ?_
              refine tb_float (i := 10) rfl (by kernel_rfl) rfl (wants_none rfl) (yq_of (y_eq (fe_t rfl) (fe_t rfl))) ?_
              refine tb_done (by kernel_rfl) ?_
              refine tx_then ?_
              refine tr_condp (fe_t rfl) (fun hq7 => ?_) (fun hq8 => ?_)
              · try (exfalso; omega)
                all_goals
                  refine tr_region ?_
                  refine tl_step rfl (oj_val (y_move (fe_t rfl)) ?_)
                  refine tl_step rfl (oj_val (y_move (fe_t rfl)) ?_)
                  refine tl_step rfl (oj_val (y_move (fe_t rfl)) ?_)
                  refine tl_step rfl (oj_val (y_index Try.underlying105 Try.sizeOf121 (fe_t rfl) (fe_t rfl) (rdl_out hr) (lenN hn) (by decide) (by omega) rfl) ?_)
                  refine tl_step rfl (oj_val (y_fieldAddrE (td := 3) Try.underlying121 rfl rfl Try.sizeOf3 rfl (fe_t rfl) (rdl_out hr) (by rw [lenN hn]; omega)) ?_)
                  refine tl_step rfl (oj_val (y_ld Try.isAgg3 (fe_t rfl) (rdl_out hr) (getN2 (by omega))) ?_)
                  refine tl_step rfl (oj_val (y_add (fe_t rfl) (fe_t rfl) (by omega)) ?_)
                  refine tl_step rfl (oj_val (y_assign (fe_t rfl)) ?_)
                  refine tl_nil ?_
                  refine tx_in ?_
                  refine tx_then ?_
                  refine tr_region ?_
                  refine tl_step rfl (oj_val (y_move (fe_t rfl)) ?_)
                  refine tl_step rfl (oj_val (y_inc (fe_t rfl) fe_c (by omega)) ?_)
                  refine tl_step rfl (oj_val (y_assign (fe_t rfl)) ?_)
                  refine tl_nil ?_
                  apply tx_back2 (i + 1) (_)
                  · exact (cov_cons (by first | rfl | exact v_int (by omega) | exact v_bool (by simp [*])) (cov_cons (by first | rfl | exact v_int (by omega) | exact v_bool (by simp [*])) (cov_nil)))
                  · repeat (first | exact over_nil | refine over_put rfl ?_ | refine over_drop rfl ?_)
                  · exact fun w h => h
                  · exact ⟨⟨by omega, by omega, by rw [Tr.sumTo, ← hz, decide_eq_true (show t.u i = (p : Int) by rw [ht, trOf_u]; omega), cond_true, ht, trOf_w]⟩, by omega⟩
              · try (exfalso; omega)
                all_goals
                  refine tr_skip ?_
                  refine tx_in ?_
                  refine tx_then ?_
                  refine tr_region ?_
                  refine tl_step rfl (oj_val (y_move (fe_t rfl)) ?_)
                  refine tl_step rfl (oj_val (y_inc (fe_t rfl) fe_c (by omega)) ?_)
                  refine tl_step rfl (oj_val (y_assign (fe_t rfl)) ?_)
                  refine tl_nil ?_
                  apply tx_back2 (i + 1) (_)
                  · exact (cov_cons (by first | rfl | exact v_int (by omega) | exact v_bool (by simp [*])) (cov_cons (by first | rfl | exact v_int (by omega) | exact v_bool (by simp [*])) (cov_nil)))
                  · repeat (first | exact over_nil | refine over_put rfl ?_ | refine over_drop rfl ?_)
                  · exact fun w h => h
                  · exact ⟨⟨by omega, by omega, by rw [Tr.sumTo, ← hz, decide_eq_false (show ¬ t.u i = (p : Int) by rw [ht, trOf_u]; omega), cond_false]; omega⟩, by omega⟩
          · try (exfalso; omega)
            all_goals
              refine tr_exit ?_
              refine tx_then_exit ?_
              refine tx_then_exit ?_
              refine tx_in_exit ?_
              refine tx_then ?_
              refine tr_seq ?_
              have hzs : z = t.sum p := by rw [hz, show i = t.n by omega]; rfl
              have hz0 : 1 ≤ z := by rw [hzs]; have h := sum_pos g hk (by omega); rwa [show (t.u k).toNat = p by omega] at h
              have hwk : 1 ≤ n2 ns k ∧ n2 ns k ≤ 12 := by have h := g.w k hk; rw [ht, trOf_w] at h; exact h
              have hprt : prt t k = (n2 ns k, z) := by unfold prt; rw [if_neg (by omega), show (t.u k).toNat = p by omega, hzs, ht, trOf_w]
              rw [hprt] at hss
              dsimp only at hss
              obtain ⟨k1, k2⟩ := mk_bd (n := x) (d := y) (by omega)
              obtain ⟨k3, k4⟩ := mk_bd (n := n2 ns k) (d := z) (by omega)
              have k5 := (mkRat x y.toNat).den_pos
              have k6 := (mkRat (n2 ns k) z.toNat).den_pos
              have k7 := prod_bd (a := (mkRat x y.toNat).num) (b := (mkRat (n2 ns k) z.toNat).num) (A := 1073741824) (B := 12) (by omega) (by omega) (by omega) (by omega)
              have k8 := mul_in (show (0 : Int) ≤ ((mkRat x y.toNat).den : Int) by omega) (show _ ≤ (1073741824 : Int) by omega) (show (0 : Int) ≤ ((mkRat (n2 ns k) z.toNat).den : Int) by omega) (show _ ≤ (192 : Int) by omega)
              have k9 := prod_bd (a := x) (b := n2 ns k) (A := 1073741824) (B := 12) (by omega) (by omega) (by omega) (by omega)
              have k10 := mul_in (show 0 ≤ y by omega) a2 (show 0 ≤ z by omega) (show z ≤ 192 by omega)
              have k11 := Int.mul_pos (show 0 < y by omega) (show 0 < z by omega)
              refine tr_region ?_
              refine tl_step rfl (oj_allocR 0 Try.zeroValue37 rfl (fun b_pf H_pf => ?_))
              refine tl_step rfl (oj_val (y_move (fe_t rfl)) ?_)
              refine tl_step rfl (oj_val (y_move (fe_t rfl)) ?_)
              refine tl_step rfl (oj_val (y_move (fe_t rfl)) ?_)
              refine tl_step rfl (oj_val (y_index Try.underlying105 Try.sizeOf121 (fe_t rfl) (fe_t rfl) (rdl_out hr) (lenN hn) (by decide) (by omega) rfl) ?_)
              refine tl_step rfl (oj_val (y_fieldAddrE (td := 3) Try.underlying121 rfl rfl Try.sizeOf3 rfl (fe_t rfl) (rdl_out hr) (by rw [lenN hn]; omega)) ?_)
              refine tl_step rfl (oj_val (y_ld Try.isAgg3 (fe_t rfl) (rdl_out hr) (getN2 (by omega))) ?_)
              refine tl_step rfl (oj_val (y_move (fe_t rfl)) ?_)
              refine tl_step rfl (oj_call2 Try.call83 fe_f (fel_cons (fe_t rfl) (fel_cons (fe_t rfl) fel_nil)) (fun w' hS => lift 0 hS rfl (fun T hS => newR hS (n2 ns k) z (by omega) (by omega) (by omega) (by omega))) (fun r2 hr2 => ?_))
              refine tl_step rfl (oj_call2 Try.call23 fe_f (fel_cons (fe_t rfl) (fel_cons (fe_t rfl) (fel_cons (fe_t rfl) fel_nil))) (fun w' hS => lift2 (p := fun m_ n_ => RatIs m_ n_ (mkRat x y.toNat * mkRat (n2 ns k) z.toNat)) 0 2 3 hS rfl rfl rfl rfl (fun T l' hm hS => mulR hS (hm _ (List.mem_cons_of_mem _ (List.mem_cons_of_mem _ (List.mem_cons_of_mem _ (List.mem_cons_of_mem _ mxa))))) (hm _ (List.mem_cons_of_mem _ (List.mem_cons_of_mem _ (List.mem_cons_of_mem _ (List.mem_cons_of_mem _ mxb))))) (hm _ (pget_mem 0 rfl)) (hm _ (pget_mem 1 rfl)) hx hr2 (by omega) (by omega) (sm_of (by omega) (by omega)) (sm_of (by omega) (by omega)) (by omega))) (fun r3 hr3 => ?_))
              refine tl_step rfl (oj_val (y_assign (fe_t rfl)) ?_)
              refine tl_nil ?_
              refine tx_then ?_
              refine tr_seq ?_
              have hm2 := hr3
              rw [mk_mul (by omega) (by omega)] at hm2
              refine tr_region ?_
              refine tl_step rfl (oj_val (y_move (fe_t rfl)) ?_)
              refine tl_step rfl (oj_call2 Try.call21 fe_f (fel_cons (fe_t rfl) fel_nil) (fun w' hS => lift 0 hS rfl (fun T hS => bfracM hS (pget_mem 2 rfl) (pget_mem 3 rfl) k11 hm2 (by omega) (by omega) (by omega))) (fun rg hrg => ?_))
              refine tl_step rfl (oj_val (y_move (fe_t rfl)) ?_)
              refine tl_step rfl (oj_val (y_extract (fe_t rfl) rfl) ?_)
              refine tl_step rfl (oj_val (y_extract (fe_t rfl) rfl) ?_)
              refine tl_step rfl (oj_val (y_assign (fe_t rfl)) ?_)
              refine tl_nil ?_
              refine tx_then ?_
              refine tr_seq ?_
              refine tr_region ?_
              refine tl_step rfl (oj_val (y_move (fe_t rfl)) ?_)
              refine tl_step rfl (oj_val (y_move (fe_t rfl)) ?_)
              refine tl_step rfl (oj_val (y_assign (fe_t rfl)) ?_)
              refine tl_step rfl (oj_val (y_assign (fe_t rfl)) ?_)
              refine tl_nil ?_
              refine tx_then ?_
              refine tr_ret ?_
              refine tx_ret (res2 Try.results90 (rok_t rfl) (rok_t rfl)) (fun w' hS => ?_)
              have h1 := pickT (l := [_]) hS [0] rfl (by decide)
              exact ⟨(some b_pf, _, _, _), ⟨h0.1.trans (.cons _ (.cons _ (.cons _ (.cons _ Ext.rfl)))), fun h => ⟨_, _, _, rfl, pget_mem 2 rfl, pget_mem 3 rfl, by rw [hss] at h ⊢; rw [(lo_rat k11 h).1]; exact hm2⟩⟩, by rw [hss]; rfl, h1⟩
theorem qshareE {A : Option Addr} {n c : Nat} {ns : List (Int × Int)} (hn : ns.length = n) (hm : n ≤ 140737488355328) {t : Tr} (ht : t = trOf ns) (g : t.Good) {w0 : World} (hr : Rd w0 A (ns.flatMap c2)) : ∀ k, k < t.n → ∀ {w : World} {T : List Res} {H D : List Nat} {es : List Ent}, St w0 w (bag H D es :: T) →
    Calls Try.prog 90 #[.slice A n c, (.int .i64 ((k : Int)))] w fun e w' => ∃ q : Option Nat × List Nat × List Nat × List Ent, (Ext es q.2.2.2 ∧ ((share t k).2.2 = 0 → ∃ b qa qb, q.1 = some b ∧ (⟨b, 0, qa⟩ : Ent) ∈ q.2.2.2 ∧ (⟨b, 2, qb⟩ : Ent) ∈ q.2.2.2 ∧ RatIs qa qb (mkRat (share t k).1 (share t k).2.1.toNat))) ∧ e = .returned (.tuple #[optP q.1, (.int .i64 ((share t k).2.2))]) ∧ St w0 w' (bag q.2.1 q.2.2.1 q.2.2.2 :: T) := fun k => by
  induction k using Nat.strongRecOn with
  | _ k ih => exact fun hk w T H D es hS => qshare_step hn hm ht g hr hk (fun p hp w T H D es hS => ih p hp (by omega) hS) hS

end Go.Proofs.Ytcpdelkamckmfaa.Hier
