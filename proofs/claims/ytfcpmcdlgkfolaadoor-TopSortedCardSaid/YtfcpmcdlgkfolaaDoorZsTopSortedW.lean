/- Walks: by a heap, and by a row. -/
import Derived.Test.YtfcpmcdlgkfolaaDoorZsBnAl
import Derived.Test.YtfcpmcdlgkfolaaDoorZsTsQ
import Derived.Test.YtfcpmcdlgkfolaaDoorZsWqA
import Derived.Test.YtfcpmcdlgkfolaaDoorZsEqE
namespace Go.Proofs.YtfcpmcdlgkfolaaDoor.Top
open Go.RowKit Go.Lib Go.Proofs.YtfcpmcdlgkfolaaDoor.E

theorem rd_v {w0 w : World} {L : List Res} {e s n c : Nat} {A : Option Addr} {xs : List Value} (hS : St w0 w L) (i : Nat) (hi : lget L i = some (vec e s (.slice A n c) n xs)) : Rd w A xs := (OwnV.rd (hS.holds i _ hi)).2.2
theorem eq_list {A B : Option Addr} {n m c d : Nat} {xs ys : List Value} {zs : List Int} (w : World) (h1 : Rd w A xs) (h2 : Rd w B ys) (hx : xs = zs.map (.int .i64)) (hy : ys = zs.map (.int .i64)) (hn : n = zs.length) (hm : zs.length = m) (hb : n ≤ 140737488355328) :
    Calls Tryd.prog 33 #[.slice A n c, .slice B m d] w fun e w' => e = .returned (.bool true) ∧ St w w' [] := by
  subst hx hy hm
  obtain rfl := hn
  exact eq_ints A B _ c d zs w h1 h2 rfl hb

set_option maxRecDepth 100000 in
set_option maxHeartbeats 4000000 in
theorem sorted_bad {w : World} (hw : Bn.Gw w) (A B : Option Addr) (n m c d : Nat) (bs ws : List Int) (hb : Rd w A (bs.map (.int .i64))) (hv : Rd w B (ws.map (.int .i64))) (hbl : bs.length = n) (hwl : ws.length = m) (hn : n ≤ 140737488355328) (hm : m ≤ 140737488355328) (hx : ¬ (Gps.wr bs ws = 0 ∧ Scfq.wrongOf ws = 0)) :
    Calls Tryd.prog 8 #[.slice A n c, .slice B m d] w fun e w' => e = .returned (.bool true) ∧ St w w' [] := by
  refine calls_tr Tryd.func8 Tryd.ntmps8 rfl rfl (St.refl _) ?_
  refine tr_seq ?_
  refine tr_region ?_
  refine tl_step rfl (oj_val (y_assign fe_c) ?_)
  refine tl_nil ?_
  refine tx_then ?_
  refine tr_seq ?_
  refine tr_seq ?_
  refine tr_region ?_
  refine tl_step rfl (oj_callv Tryd.call17 fe_f fel_nil (fun w' hS => Bn.aliveE (hw.st hS)) ?_)
  refine tl_step rfl (oj_val (y_not (fe_t rfl)) ?_)
  refine tl_nil ?_
  refine tx_then ?_
  refine tr_condf (fe_t rfl) ?_
  refine tr_skip ?_
  refine tx_then ?_
  refine tr_seq ?_
  refine tr_seq ?_
  refine tr_region ?_
  refine tl_step rfl (oj_val (y_move (fe_t rfl)) ?_)
  refine tl_step rfl (oj_val (y_move (fe_t rfl)) ?_)
  refine tl_step rfl (oj_callv Tryd.call29 fe_f (fel_cons (fe_t rfl) (fel_cons (fe_t rfl) fel_nil)) (fun w' hS => Gps.wrongE A B n m c d bs ws w' (Rd.below hb hS.below) (Rd.below hv hS.below) hbl hwl hn hm) ?_)
  refine tl_step rfl (oj_val (y_neq (fe_t rfl) fe_c) ?_)
  refine tl_step rfl (oj_val (y_move (fe_t rfl)) ?_)
  refine tl_splitp (d := 19) rfl (fun hq1 => ?_) (fun hq2 => ?_)
  · refine tl_skip rfl rfl rfl rfl ?_
    refine tl_skip rfl rfl rfl rfl ?_
    refine tl_skip rfl rfl rfl rfl ?_
    refine tl_step rfl (oj_val (y_pickt (fe_t rfl) fe_c) ?_)
    refine tl_nil ?_
    refine tx_then ?_
    refine tr_condt (fe_t rfl) ?_
    refine tr_seq ?_
    refine tr_region ?_
    refine tl_step rfl (oj_val (y_assign fe_c) ?_)
    refine tl_nil ?_
    refine tx_then ?_
    refine tr_ret ?_
    refine tx_then_ret ?_
    refine tx_ret (res1 Tryd.results8 (rok_t rfl)) (fun w' hS => ?_)
    exact ⟨rfl, hS.pick [] _ rfl (by decide)⟩
  · refine tl_want rfl rfl rfl (oj_val (y_move (fe_t rfl)) ?_)
    refine tl_want rfl rfl rfl (oj_callv Tryd.call30 fe_f (fel_cons (fe_t rfl) fel_nil) (fun w' hS => Wfq.wrongE B m d ws w' (Rd.below hv hS.below) hwl hm) ?_)
    refine tl_want rfl rfl rfl (oj_val (y_neq (fe_t rfl) fe_c) ?_)
    refine tl_step rfl (oj_val (y_pickf (fe_t rfl) (fe_t rfl)) ?_)
    refine tl_nil ?_
    refine tx_then ?_
    refine tr_condp (fe_t rfl) (fun hq3 => ?_) (fun hq4 => ?_)
    · refine tr_seq ?_
      refine tr_region ?_
      refine tl_step rfl (oj_val (y_assign fe_c) ?_)
      refine tl_nil ?_
      refine tx_then ?_
      refine tr_ret ?_
      refine tx_then_ret ?_
      refine tx_ret (res1 Tryd.results8 (rok_t rfl)) (fun w' hS => ?_)
      exact ⟨rfl, hS.pick [] _ rfl (by decide)⟩
    · exact absurd ⟨Classical.not_not.1 (by assumption), Classical.not_not.1 hq4⟩ hx

set_option maxRecDepth 100000 in
set_option maxHeartbeats 4000000 in
theorem sorted_ok {w : World} (hw : Bn.Gw w) (A B : Option Addr) (n m c d : Nat) (bs ws : List Int) (hb : Rd w A (bs.map (.int .i64))) (hv : Rd w B (ws.map (.int .i64))) (hbl : bs.length = n) (hwl : ws.length = m) (hn : n ≤ 140737488355328) (hm : m ≤ 140737488355328) (hz : Gps.wr bs ws = 0) (hz2 : Scfq.wrongOf ws = 0) :
    Calls Tryd.prog 8 #[.slice A n c, .slice B m d] w fun e w' => e = .returned (.bool true) ∧ St w w' [] := by
  refine calls_tr Tryd.func8 Tryd.ntmps8 rfl rfl (St.refl _) ?_
  refine tr_seq ?_
  refine tr_region ?_
  refine tl_step rfl (oj_val (y_assign fe_c) ?_)
  refine tl_nil ?_
  refine tx_then ?_
  refine tr_seq ?_
  refine tr_seq ?_
  refine tr_region ?_
  refine tl_step rfl (oj_callv Tryd.call17 fe_f fel_nil (fun w' hS => Bn.aliveE (hw.st hS)) ?_)
  refine tl_step rfl (oj_val (y_not (fe_t rfl)) ?_)
  refine tl_nil ?_
  refine tx_then ?_
  refine tr_condf (fe_t rfl) ?_
  refine tr_skip ?_
  refine tx_then ?_
  refine tr_seq ?_
  refine tr_seq ?_
  refine tr_region ?_
  refine tl_step rfl (oj_val (y_move (fe_t rfl)) ?_)
  refine tl_step rfl (oj_val (y_move (fe_t rfl)) ?_)
  refine tl_step rfl (oj_callv Tryd.call29 fe_f (fel_cons (fe_t rfl) (fel_cons (fe_t rfl) fel_nil)) (fun w' hS => Gps.wrongE A B n m c d bs ws w' (Rd.below hb hS.below) (Rd.below hv hS.below) hbl hwl hn hm) ?_)
  refine tl_step rfl (oj_val (y_neq (fe_t rfl) fe_c) ?_)
  refine tl_step rfl (oj_val (y_move (fe_t rfl)) ?_)
  refine tl_splitp (d := 19) rfl (fun hq1 => ?_) (fun hq2 => ?_)
  · exact absurd hz hq1
  · try (exfalso; omega)
    all_goals
      refine tl_want rfl rfl rfl (oj_val (y_move (fe_t rfl)) ?_)
      refine tl_want rfl rfl rfl (oj_callv Tryd.call30 fe_f (fel_cons (fe_t rfl) fel_nil) (fun w' hS => Wfq.wrongE B m d ws w' (Rd.below hv hS.below) hwl hm) ?_)
      refine tl_want rfl rfl rfl (oj_val (y_neq (fe_t rfl) fe_c) ?_)
      refine tl_step rfl (oj_val (y_pickf (fe_t rfl) (fe_t rfl)) ?_)
      refine tl_nil ?_
      refine tx_then ?_
      refine tr_condp (fe_t rfl) (fun hq3 => ?_) (fun hq4 => ?_)
      · exact absurd hz2 hq3
      · try (exfalso; omega)
        all_goals
          refine tr_skip ?_
          refine tx_then ?_
          refine tr_seq ?_
          have hrg := Gps.wr_rg hz
          rw [hbl] at hrg
          have hn16 := hrg.n16
          have hwl2 := hrg.wl
          have hwk := (Scfq.wrong_ok hz2).2
          have hw12 : ∀ k, k < n → Gps.gI ws k ≤ 12 := fun k hk => (hwk k (by omega)).2
          refine tr_region ?_
          refine tl_step rfl (oj_val (y_move (fe_t rfl)) ?_)
          refine tl_step rfl (oj_val (y_move (fe_t rfl)) ?_)
          refine tl_step rfl (oj_call Tryd.call31 fe_f (fel_cons (fe_t rfl) (fel_cons (fe_t rfl) fel_nil)) (fun w' hS => Gps.order_ok A B n m c d bs ws w' (Rd.below hb hS.below) (Rd.below hv hS.below) hbl hwl hn hm hz) (fun r0 hr0 => ?_))
          refine tl_step rfl (oj_val (y_move (fe_t rfl)) ?_)
          refine tl_step rfl (oj_val (y_extract (fe_t rfl) rfl) ?_)
          refine tl_step rfl (oj_val (y_extract (fe_t rfl) rfl) ?_)
          refine tl_step rfl (oj_val (y_assign (fe_t rfl)) ?_)
          refine tl_step rfl (oj_val (y_assign (fe_t rfl)) ?_)
          refine tl_nil ?_
          refine tx_then ?_
          refine tr_seq ?_
          refine tr_region ?_
          refine tl_step rfl (oj_val (y_assign fe_c) ?_)
          refine tl_nil ?_
          refine tx_then ?_
          refine tr_seq ?_
          refine tr_seq ?_
          refine tr_region ?_
          refine tl_step rfl (oj_val (y_move (fe_t rfl)) ?_)
          refine tl_step rfl (oj_val (y_len Tryd.underlying39 (fe_t rfl)) ?_)
          refine tl_step rfl (oj_val (y_move fe_c) ?_)
          refine tl_nil ?_
          refine tx_then ?_
          refine tr_block ?_
          refine tr_add (r := vec 90 4 (.slice none 0 0) 0 []) vec_nil rfl ?_
          refine tr_loop2 [7, 8, 9, 32, 33, 34, 35, 36, 37, 38, 39, 40, 41, 42, 43, 44, 45, 46, 47, 48, 49, 50, 51, 52] (fun (k : Nat) (z : Vs) => [(32, .int .i64 (k : Int)), (7, .slice z.A z.n z.c)]) 0 (fun (k : Nat) (z : Vs) => [(0, vec 90 4 (.slice z.A z.n z.c) z.n z.xs)]) (fun (k : Nat) (z : Vs) => k ≤ n ∧ z.n = k ∧ z.xs = (Sorted.pushes bs ws k).flatMap Heap.c4) (fun (k : Nat) (z : Vs) => n - k) (0) (⟨none, 0, 0, []⟩ : Vs) (cov_cons (by first | rfl | exact v_int (by omega) | exact v_bool (by simp [*])) (cov_cons (by first | rfl | exact v_int (by omega) | exact v_bool (by simp [*])) (cov_nil))) (fun w h => h) ?_ ?_
          · try dsimp only
            exact ⟨by omega, rfl, rfl⟩
          intro k z hp
          obtain ⟨hk, hzn, hzx⟩ := hp
          refine tr_seq ?_
          refine tr_region ?_
          refine tl_step rfl (oj_val (y_lss (fe_t rfl) (fe_t rfl)) ?_)
          refine tl_nil ?_
          refine tx_then ?_
          refine tr_seq ?_
          refine tr_condp (fe_t rfl) (fun hq5 => ?_) (fun hq6 => ?_)
          · try (exfalso; omega)
            all_goals
              refine tr_skip ?_
              refine tx_then ?_
              refine tr_seq ?_
              refine tr_block ?_
              refine tr_seq ?_
              refine tr_region ?_
              refine tl_step rfl (oj_val (y_move (fe_t rfl)) ?_)
              refine tl_step rfl (oj_val (y_index Tryd.underlying39 Tryd.sizeOf3 (fe_t rfl) (fe_t rfl) (rdl_out hb) (by simp; omega) (by decide) (by omega) (Nat.mul_one _)) ?_)
              refine tl_step rfl (oj_val (y_ld Tryd.isAgg3 (fe_t rfl) (rdl_out hb) (Gps.getG (zs := bs) (by omega))) ?_)
              refine tl_step rfl (oj_val (y_assign (fe_t rfl)) ?_)
              refine tl_step rfl (oj_val (y_assign (fe_t rfl)) ?_)
              refine tl_nil ?_
              refine tx_then ?_
              have hgb := (hrg.ok k (by omega)).1
              have hgw := (hrg.ok k (by omega)).2
              have hg12 := hw12 k (by omega)
              have hkb := Sorted.key_bd (bs := bs) (k := k) hgb ⟨hgw.1, hg12⟩
              have hq0 : 0 ≤ 27720 / Gps.gI ws k := Int.ediv_nonneg (by decide) (by omega)
              have hq1 : 27720 / Gps.gI ws k ≤ 27720 := Int.ediv_le_self _ (by decide)
              refine tr_region ?_
              refine tl_step rfl (oj_val (y_move (fe_t rfl)) ?_)
              refine tl_step rfl (oj_val (y_move (fe_t rfl)) ?_)
              refine tl_step rfl (oj_val (y_move (fe_t rfl)) ?_)
              refine tl_step rfl (oj_val (y_convi Tryd.underlying3 Tryd.underlying60 (fe_t rfl) (IntWalk.u64_in _ (by omega))) ?_)
              refine tl_step rfl (oj_val (y_move (fe_t rfl)) ?_)
              refine tl_step rfl (oj_val (y_move (fe_t rfl)) ?_)
              refine tl_step rfl (oj_val (y_index Tryd.underlying39 Tryd.sizeOf3 (fe_t rfl) (fe_t rfl) (rdl_out hv) (by simp; omega) (by decide) (by omega) (Nat.mul_one _)) ?_)
              refine tl_step rfl (oj_val (y_ld Tryd.isAgg3 (fe_t rfl) (rdl_out hv) (Gps.getG (zs := ws) (by omega))) ?_)
              refine tl_step rfl (oj_val (y_quo fe_c (fe_t rfl) (by omega)) ?_)
              refine tl_step rfl (oj_val (y_convi Tryd.underlying3 Tryd.underlying60 (fe_t rfl) (IntWalk.u64_in _ (by omega))) ?_)
              refine tl_step rfl (oj_val (y_to (y_mulk (fe_t rfl) (fe_t rfl)) (by rw [IntWalk.u64_in _ (by have := hkb; unfold Sorted.key at this; omega)])) ?_)
              refine tl_step rfl (oj_val ((fun {u0} hx hb => y_build (is := [1]) (vs := [u0]) (cs := [.int .u64 0, u0]) rfl hx hb) (fel_cons (fe_t rfl) fel_nil) (by kernel_rfl)) ?_)
              refine tl_step rfl (oj_val ((fun {u0 u1 p q} hx hb => y_build (is := [0, 1, 2]) (vs := [u0, u1, .agg #[p, q]]) (cs := [u0, u1, p, q]) rfl hx hb) (fel_cons (fe_c (v := .int .i64 1)) (fel_cons (fe_t rfl) (fel_cons (fe_t rfl) fel_nil))) (by kernel_rfl)) ?_)
              refine tl_step rfl (oj_slice1 Tryd.underlying86 Tryd.sizeOf90 Tryd.zeroValue90 (fe_t rfl) (by decide) rfl (fun b1 => ?_))
              refine tl_step rfl (oj_append (i := 1) (s := 4) (z := (.agg #[.int .i64 0, .int .i64 0, .int .u64 0, .int .u64 0])) (bytes := 32) Tryd.underlying86 (by kernel_rfl) (fe_t rfl) (fe_t rfl) rfl (rdl_blk 0 rfl) rfl (by decide) (by first | exact oneI | exact oneF (fun _ => rfl) | exact fun u hu => List.all_eq_true.1 (show List.all _ (fun x => x.oneCell') = true from rfl) u hu | (intro u hu; revert u hu; simp [Value.oneCell'])) (by decide) ⟨by omega, by decide⟩ (fun Aa1 ca1 hca1 => ?_))
              refine tl_step rfl (oj_val (y_assign (fe_t rfl)) ?_)
              refine tl_nil ?_
              refine tx_in ?_
              refine tx_then ?_
              refine tr_region ?_
              refine tl_step rfl (oj_val (y_inc (fe_t rfl) fe_c (by omega)) ?_)
              refine tl_step rfl (oj_val (y_move (fe_t rfl)) ?_)
              refine tl_nil ?_
              apply tx_back2 (k + 1) ((⟨_, _, _, _⟩ : Vs))
              · exact (cov_cons (by first | rfl | exact v_int (by omega) | exact v_bool (by simp [*])) (cov_cons (by first | rfl | exact v_int (by omega) | exact v_bool (by simp [*])) (cov_nil)))
              · repeat (first | exact over_nil | refine over_put rfl ?_ | refine over_drop rfl ?_)
              · exact fun w h => h.pick [1, 2] _ rfl (by decide)
              · refine ⟨⟨by omega, by dsimp only; omega, ?_⟩, by omega⟩
                dsimp only
                rw [Sorted.pushes_succ, List.flatMap_append, hzx]
                simp only [List.flatMap_cons, List.flatMap_nil, List.append_nil]
                rfl
          · try (exfalso; omega)
            all_goals
              refine tr_exit ?_
              refine tx_then_exit ?_
              refine tx_then_exit ?_
              refine tx_in_exit ?_
              refine tx_then ?_
              refine tr_seq ?_
              obtain rfl : k = n := by omega
              refine tr_region ?_
              refine tl_step rfl (oj_val (y_move (fe_t rfl)) ?_)
              refine tl_step rfl (oj_call Tryd.call32 fe_f (fel_cons (fe_t rfl) fel_nil) (fun w' hS => Sorted.playQ (rd_v hS 0 rfl) hzx hzn (by omega)) (fun r1 hr1 => ?_))
              refine tl_step rfl (oj_val (y_move (fe_t rfl)) ?_)
              refine tl_step rfl (oj_val (y_extract (fe_t rfl) rfl) ?_)
              refine tl_step rfl (oj_val (y_extract (fe_t rfl) rfl) ?_)
              refine tl_step rfl (oj_val (y_extract (fe_t rfl) rfl) ?_)
              refine tl_step rfl (oj_val (y_assign (fe_t rfl)) ?_)
              refine tl_step rfl (oj_val (y_assign (fe_t rfl)) ?_)
              refine tl_step rfl (oj_val (y_assign (fe_t rfl)) ?_)
              refine tl_nil ?_
              refine tx_then ?_
              refine tr_seq ?_
              have hL := Sorted.left hrg hw12 hr0 hr1
              have hcN : Gps.cN r0.2 = (r0.2.map fun (k : Nat) => (k : Int)).map (.int .i64) := by simp [Gps.cN, List.map_map]
              refine tr_region ?_
              refine tl_step rfl (oj_val (y_move (fe_t rfl)) ?_)
              refine tl_step rfl (oj_val (y_eq (fe_t rfl) fe_c) ?_)
              refine tl_step rfl (oj_val (y_move (fe_t rfl)) ?_)
              refine tl_splitp (d := 61) rfl (fun hq7 => ?_) (fun hq8 => ?_)
              · try (exfalso; omega)
                all_goals
                  refine tl_want rfl rfl rfl (oj_val (y_move (fe_t rfl)) ?_)
                  refine tl_want rfl rfl rfl (oj_val (y_move (fe_t rfl)) ?_)
                  refine tl_want rfl rfl rfl (oj_callv Tryd.call33 fe_f (fel_cons (fe_t rfl) (fel_cons (fe_t rfl) fel_nil)) (fun w' hS => eq_list (zs := r0.2.map fun (k : Nat) => (k : Int)) w' (rd_v hS 2 rfl) (rd_v hS 4 rfl) hL.2 hcN hL.1 (by rw [List.length_map, hr0.len]) (by have h1 := hL.1; have h2 := hr0.len; (try simp only [List.length_map] at h1 ⊢); omega)) ?_)
                  refine tl_step rfl (oj_val (y_pickt (fe_t rfl) (fe_t rfl)) ?_)
                  refine tl_step rfl (oj_val (y_assign (fe_t rfl)) ?_)
                  refine tl_nil ?_
                  refine tx_then ?_
                  refine tr_ret ?_
                  refine tx_ret (res1 Tryd.results8 (rok_t rfl)) (fun w' hS => ?_)
                  exact ⟨rfl, hS.pick [] _ rfl (by decide)⟩
              · exact absurd rfl hq8

theorem sorted_walk {w : World} (hw : Bn.Gw w) (A B : Option Addr) (n m c d : Nat) (bs ws : List Int) (hb : Rd w A (bs.map (.int .i64))) (hv : Rd w B (ws.map (.int .i64))) (hbl : bs.length = n) (hwl : ws.length = m) (hn : n ≤ 140737488355328) (hm : m ≤ 140737488355328) :
    Calls Tryd.prog 8 #[.slice A n c, .slice B m d] w fun e w' => e = .returned (.bool true) ∧ St w w' [] := by
  by_cases hx : Gps.wr bs ws = 0 ∧ Scfq.wrongOf ws = 0
  · exact sorted_ok hw A B n m c d bs ws hb hv hbl hwl hn hm hx.1 hx.2
  · exact sorted_bad hw A B n m c d bs ws hb hv hbl hwl hn hm hx

end Go.Proofs.YtfcpmcdlgkfolaaDoor.Top
