/- Walk: trie.Find. -/
import Derived.Test.YtpknjfeiiaopgaaTfB
import Derived.Test.YtpknjfeiiaopgaaTfW
namespace Go.Proofs.Ytpknjfeiiaopgaa.Trie
open Go.RowKit Go.Proofs.Ytpknjfeiiaopgaa.E

set_option maxRecDepth 100000 in
set_option maxHeartbeats 4000000 in
theorem findE (A : Option Addr) (n c : Nat) (l : List Pfx) (w : World) (hr : Rd w A (l.flatMap cPx)) (hn : l.length = n) (hm : n ≤ 140737488355328) (hc : n ≤ c) (hok : ∀ p ∈ l, p.x.ok) (A2 : Option Addr) (n2 c2 : Nat) (ad : List Ad) (hr2 : Rd w A2 (ad.flatMap cA)) (hn2 : ad.length = n2) (hm2 : n2 ≤ 140737488355) (hok2 : ∀ x ∈ ad, x.ok) (hw0 : wrong l = 0) :
    Calls Try.prog 10 #[.slice A n c, .slice A2 n2 c2] w fun e w' => ∃ q : Vs × Vs × Rs, (q.2.2.length = n2 ∧ (∀ j, j < n2 → Best l (ad.getD j aN).v 33 (q.2.2.getD j rN).1 (q.2.2.getD j rN).2) ∧ q.1.n = n2 ∧ q.1.xs = cI (q.2.2.map Prod.fst) ∧ q.2.1.n = n2 ∧ q.2.1.xs = bls (q.2.2.map Prod.snd)) ∧ e = .returned (.tuple #[.slice q.1.A q.1.n q.1.c, .slice q.2.1.A q.2.1.n q.2.1.c, (.int .i64 0)]) ∧ St w w' [vec 3 1 (.slice q.1.A q.1.n q.1.c) q.1.n q.1.xs, vec 4 1 (.slice q.2.1.A q.2.1.n q.2.1.c) q.2.1.n q.2.1.xs] := by
  have hf := fine_of hw0
  refine calls_tr Try.func10 Try.ntmps10 rfl rfl (St.refl _) ?_
  refine tr_seq ?_
  refine tr_region ?_
  refine tl_step rfl (oj_val (y_assign fe_c) ?_)
  refine tl_step rfl (oj_val (y_assign fe_c) ?_)
  refine tl_step rfl (oj_val (y_assign fe_c) ?_)
  refine tl_nil ?_
  refine tx_then ?_
  refine tr_seq ?_
  refine tr_seq ?_
  refine tr_region ?_
  refine tl_step rfl (oj_val (y_move (fe_t rfl)) ?_)
  refine tl_step rfl (oj_callv Try.call12 fe_f (fel_cons (fe_t rfl) fel_nil) (fun w' hS => hw0 ▸ wrongE A n c l w' (Rd.below hr hS.below) hn hm hc hok) ?_)
  refine tl_step rfl (oj_val (y_assign (fe_t rfl)) ?_)
  refine tl_nil ?_
  refine tx_then ?_
  refine tr_seq ?_
  refine tr_region ?_
  refine tl_step rfl (oj_val (y_move (fe_t rfl)) ?_)
  refine tl_step rfl (oj_val (y_neq (fe_t rfl) fe_c) ?_)
  refine tl_nil ?_
  refine tx_then ?_
  refine tr_condp (fe_t rfl) (fun hq1 => ?_) (fun hq2 => ?_)
  · try (exfalso; omega)
    all_goals
      refine tr_seq ?_
      refine tr_region ?_
      refine tl_step rfl (oj_val (y_move (fe_t rfl)) ?_)
      refine tl_step rfl (oj_val (y_assign fe_c) ?_)
      refine tl_step rfl (oj_val (y_assign fe_c) ?_)
      refine tl_step rfl (oj_val (y_assign (fe_t rfl)) ?_)
      refine tl_nil ?_
      refine tx_then ?_
      refine tr_ret ?_
      refine tx_then_ret ?_
      refine tx_ret (res3 Try.results10 (rok_t rfl) (rok_t rfl) (rok_t rfl)) (fun w' hS => ?_)
      obtain rfl : i = n2 := by omega
      exact ⟨(q1, q2, rs), ⟨hrl, hbs, hn1, hx1, hn3, hx2⟩, rfl, hS.pick [0, 0] _ rfl (by decide)⟩
  · try (exfalso; omega)
    all_goals
      refine tr_skip ?_
      refine tx_then ?_
      refine tr_seq ?_
      refine tr_region ?_
      refine tl_step rfl (oj_val (y_move (fe_t rfl)) ?_)
      refine tl_step rfl (oj_call Try.call49 fe_f (fel_cons (fe_t rfl) fel_nil) (fun w' hS => buildE A n c l w' (Rd.below hr hS.below) hn hm hc hok hf) (fun y hy => ?_))
      refine tl_step rfl (oj_val (y_assign (fe_t rfl)) ?_)
      refine tl_nil ?_
      refine tx_then ?_
      refine tr_seq ?_
      refine tr_region ?_
      refine tl_step rfl (oj_val (y_assign fe_c) ?_)
      refine tl_nil ?_
      refine tx_then ?_
      refine tr_seq ?_
      refine tr_region ?_
      refine tl_step rfl (oj_val (y_assign fe_c) ?_)
      refine tl_nil ?_
      refine tx_then ?_
      refine tr_seq ?_
      refine tr_seq ?_
      refine tr_region ?_
      refine tl_step rfl (oj_val (y_move (fe_t rfl)) ?_)
      refine tl_step rfl (oj_val (y_len Try.underlying23 (fe_t rfl)) ?_)
      refine tl_step rfl (oj_val (y_move fe_c) ?_)
      refine tl_nil ?_
      refine tx_then ?_
      refine tr_block ?_
      refine tr_add (r := vec 3 1 (.slice none 0 0) 0 []) vec_nil rfl ?_
      refine tr_add (r := vec 4 1 (.slice none 0 0) 0 []) vec_nil rfl ?_
      refine tr_loop4 [9, 10, 12, 13, 14, 15, 16, 26, 27, 28, 29, 30, 31, 32, 33, 34, 35, 36, 37, 38, 39, 40, 41, 42, 43, 44, 45, 46, 47, 48, 49, 50, 51, 52, 53, 54, 55, 56, 57, 58, 59, 60, 61, 62, 63, 64] (fun (i : Nat) (rs : Rs) (q1 : Vs) (q2 : Vs) => [(26, .int .i64 (i : Int)), (9, .slice q1.A q1.n q1.c), (10, .slice q2.A q2.n q2.c)]) 0 (fun (i : Nat) (rs : Rs) (q1 : Vs) (q2 : Vs) => [(1, vec 3 1 (.slice q1.A q1.n q1.c) q1.n q1.xs), (0, vec 4 1 (.slice q2.A q2.n q2.c) q2.n q2.xs)]) (fun (i : Nat) (rs : Rs) (q1 : Vs) (q2 : Vs) => i ≤ n2 ∧ rs.length = i ∧ (∀ j, j < i → Best l (ad.getD j aN).v 33 (rs.getD j rN).1 (rs.getD j rN).2) ∧ q1.n = i ∧ q1.xs = cI (rs.map Prod.fst) ∧ q2.n = i ∧ q2.xs = bls (rs.map Prod.snd)) (fun (i : Nat) (rs : Rs) (q1 : Vs) (q2 : Vs) => n2 - i) (0) ([]) (⟨none, 0, 0, []⟩ : Vs) (⟨none, 0, 0, []⟩ : Vs) (cov_cons (by first | rfl | exact v_int (by omega) | exact v_bool (by simp [*])) (cov_cons (by first | rfl | exact v_int (by omega) | exact v_bool (by simp [*])) (cov_cons (by first | rfl | exact v_int (by omega) | exact v_bool (by simp [*])) (cov_nil)))) (fun w h => h) ?_ ?_
      · try dsimp only
        exact ⟨by omega, rfl, fun j hj => absurd hj (Nat.not_lt_zero _), rfl, rfl, rfl, rfl⟩
      intro i rs q1 q2 hp
      obtain ⟨hi, hrl, hbs, hn1, hx1, hn3, hx2⟩ := hp
      refine tr_seq ?_
      refine tr_region ?_
      refine tl_step rfl (oj_val (y_lss (fe_t rfl) (fe_t rfl)) ?_)
      refine tl_nil ?_
      refine tx_then ?_
      refine tr_seq ?_
      refine tr_condp (fe_t rfl) (fun hq3 => ?_) (fun hq4 => ?_)
      · try (exfalso; omega)
        all_goals
          have hxa : (ad.getD i aN).ok := hok2 _ (by rw [getD_lt (by omega)]; exact List.getElem_mem _)
          refine tr_skip ?_
          refine tx_then ?_
          refine tr_seq ?_
          refine tr_block ?_
          refine tr_seq ?_
          refine tr_region ?_
          refine tl_step rfl (oj_val (y_index Try.underlying23 Try.sizeOf24 (fe_t rfl) (fe_t rfl) (rdl_out hr2) (by rw [flat_len hcA]; omega) (by decide) (by omega) rfl) ?_)
          refine tl_step rfl (oj_val (y_ldA (cs := cA (ad.getD i aN)) Try.isAgg24 Try.sizeOf24 (fe_t rfl) (rdl_out hr2) rfl (by decide) (flatGA (d := aN) hcA (by omega))) ?_)
          refine tl_step rfl (oj_alloc Try.zeroValue24 (fun ab => ?_))
          refine tl_step rfl (oj_storeW 0 Try.sizeOf24 (fe_t rfl) (fe_t rfl) rfl rfl rfl rfl rfl (?_))
          refine tl_nil ?_
          refine tx_then ?_
          refine tr_seq ?_
          refine tr_region ?_
          refine tl_step rfl (oj_val (y_assign fe_c) ?_)
          refine tl_step rfl (oj_val (y_assign fe_c) ?_)
          refine tl_nil ?_
          refine tx_then ?_
          refine tr_seq ?_
          refine tr_region ?_
          refine tl_step rfl (oj_val (y_move (fe_t rfl)) ?_)
          refine tl_step rfl (oj_val (y_assign (fe_t rfl)) ?_)
          refine tl_nil ?_
          refine tx_then ?_
          refine tr_seq ?_
          refine tr_seq ?_
          refine tr_region ?_
          refine tl_step rfl (oj_val (y_assign fe_c) ?_)
          refine tl_nil ?_
          refine tx_then ?_
          refine tr_block ?_
          refine tr_loop4 [13, 14, 15, 16, 31, 32, 33, 34, 35, 36, 37, 38, 39, 40, 41, 42, 43, 44, 45, 46, 47, 48, 49, 50, 51, 52, 53, 54, 55] (fun (k : Nat) (o : Option Nat) (bt : Int) (ok : Bool) => [(15, ptr o), (16, .int .i64 (k : Int)), (13, .int .i64 bt), (14, .bool ok)]) 0 (fun (k : Nat) (o : Option Nat) (bt : Int) (ok : Bool) => []) (fun (k : Nat) (o : Option Nat) (bt : Int) (ok : Bool) => k ≤ 32 ∧ Best l (ad.getD i aN).v k bt ok ∧ o = kid y.2 k (pre (ad.getD i aN).v k)) (fun (k : Nat) (o : Option Nat) (bt : Int) (ok : Bool) => 33 - k) (0) (some y.1) (0) (false) (cov_cons (by first | rfl | exact v_int (by omega) | exact v_bool (by simp [*])) (cov_cons (by first | rfl | exact v_int (by omega) | exact v_bool (by simp [*])) (cov_cons (by first | rfl | exact v_int (by omega) | exact v_bool (by simp [*])) (cov_cons (by first | rfl | exact v_int (by omega) | exact v_bool (by simp [*])) (cov_nil))))) (fun w h => h) ?_ ?_
          · try dsimp only
            exact ⟨by omega, Best.zero hf _, by rw [pre_zero (Ad.bd hxa).1 (Ad.bd hxa).2]; exact hy.2.symm⟩
          intro k o bt ok hp
          obtain ⟨hk, hb, ho⟩ := hp
          refine tr_seq ?_
          refine tr_seq ?_
          refine tr_region ?_
          refine tl_step rfl (oj_val (y_move (fe_t rfl)) ?_)
          refine tl_step rfl (oj_val (y_neptr Try.underlying94 (fe_t rfl) fe_c) ?_)
          refine tl_nil ?_
          refine tx_then ?_
          refine tr_cond (fe_t rfl) (fun hq5 => ?_) (fun hq6 => ?_)
          · try (exfalso; omega)
            all_goals
              obtain ⟨b0, hob⟩ : ∃ b0, o = some b0 := by
                cases o with
                | none => exact absurd hq5 (by decide)
                | some b => exact ⟨b, rfl⟩
              subst hob
              obtain ⟨e, hem, hek, hex, heb⟩ := kid_some ho.symm
              subst heb
              obtain ⟨hbh, hbm⟩ := Best.at_ hf hy.1 hb hem hek hex
              refine tr_skip ?_
              refine tx_then ?_
              refine tr_seq ?_
              refine tr_block ?_
              refine tr_seq ?_
              refine tr_seq ?_
              refine tr_region ?_
              refine tl_step rfl (oj_val (y_move (fe_t rfl)) ?_)
              refine tl_step rfl (oj_val (y_nilCheck (fe_t rfl)) ?_)
              refine tl_step rfl (oj_val (y_fieldAddr (td := 97) Try.underlying99 rfl rfl Try.sizeOf97 (o' := 2) rfl (fe_t rfl)) ?_)
              refine tl_step rfl (oj_val (y_ld (j := 2) (v := (ptr (e.to.map Prod.fst))) Try.isAgg97 (fe_t rfl) (rdl_nd 3 rfl hem) (rfl)) ?_)
              refine tl_step rfl (oj_val (y_neptr Try.underlying97 (fe_t rfl) fe_c) ?_)
              refine tl_nil ?_
              refine tx_then ?_
              refine tr_cond (fe_t rfl) (fun hq7 => ?_) (fun hq8 => ?_)
              · try (exfalso; omega)
                all_goals
                  obtain ⟨t, u, ht⟩ : ∃ t u, e.to = some (t, u) := by
                    cases hq : e.to with
                    | none => exact absurd hq7 (by rw [hq]; decide)
                    | some p => exact ⟨p.1, p.2, rfl⟩
                  have hb2 := hbh t u ht
                  refine tr_region ?_
                  refine tl_step rfl (oj_val (y_move (fe_t rfl)) ?_)
                  refine tl_step rfl (oj_val (y_nilCheck (fe_t rfl)) ?_)
                  refine tl_step rfl (oj_val (y_fieldAddr (td := 97) Try.underlying99 rfl rfl Try.sizeOf97 (o' := 2) rfl (fe_t rfl)) ?_)
                  refine tl_step rfl (oj_val (y_ld (j := 2) (v := (.pointer (some ⟨t, 0, none⟩))) Try.isAgg97 (fe_t rfl) (rdl_nd 3 rfl hem) (by simp [ndC, ht, ptr])) ?_)
                  refine tl_step rfl (oj_val (y_nilCheck (fe_t rfl)) ?_)
                  refine tl_step rfl (oj_val (y_ld (A := some ⟨t, 0, none⟩) (j := 0) (v := (.int .i64 u)) Try.isAgg3 (fe_t rfl) (rdl_ndto 3 rfl hem ht) rfl) ?_)
                  refine tl_step rfl (oj_val (y_assign (fe_t rfl)) ?_)
                  refine tl_step rfl (oj_val (y_assign fe_c) ?_)
                  refine tl_nil ?_
                  refine tx_then ?_
                  refine tr_seq ?_
                  refine tr_seq ?_
                  refine tr_region ?_
                  refine tl_step rfl (oj_val (y_move (fe_t rfl)) ?_)
                  refine tl_step rfl (oj_val (y_eq (fe_t rfl) fe_c) ?_)
                  refine tl_nil ?_
                  refine tx_then ?_
                  refine tr_condp (fe_t rfl) (fun hq9 => ?_) (fun hq10 => ?_)
                  · try (exfalso; omega)
                    all_goals
                      have hbe : Best l (ad.getD i aN).v 33 u true := by have h9 := hb2; rw [show k + 1 = 33 by omega] at h9; exact h9
                      refine tr_exit ?_
                      refine tx_then_exit ?_
                      refine tx_in_pass rfl ?_
                      refine tx_then_exit ?_
                      refine tx_then_exit ?_
                      refine tx_in_exit ?_
                      refine tx_then ?_
                      refine tr_region ?_
                      refine tl_step rfl (oj_val (y_move (fe_t rfl)) ?_)
                      refine tl_step rfl (oj_val (y_move (fe_t rfl)) ?_)
                      refine tl_step rfl (oj_slice1 Try.underlying27 Try.sizeOf3 Try.zeroValue3 (fe_t rfl) (by decide) rfl (fun b1 => ?_))
                      refine tl_step rfl (oj_append (i := 3) (s := 1) (z := (.int .i64 0)) (bytes := 8) Try.underlying27 (by kernel_rfl) (fe_t rfl) (fe_t rfl) rfl (rdl_blk 0 rfl) rfl (by decide) (by first | exact oneI | exact oneF (fun _ => rfl) | exact fun u hu => List.all_eq_true.1 (show List.all _ (fun x => x.oneCell') = true from rfl) u hu | (intro u hu; revert u hu; simp [Value.oneCell'])) (by decide) ⟨by omega, by decide⟩ (fun Aa1 ca1 hca1 => ?_))
                      refine tl_step rfl (oj_val (y_move (fe_t rfl)) ?_)
                      refine tl_step rfl (oj_val (y_move (fe_t rfl)) ?_)
                      refine tl_step rfl (oj_slice1 Try.underlying28 Try.sizeOf4 Try.zeroValue4 (fe_t rfl) (by decide) rfl (fun b2 => ?_))
                      refine tl_step rfl (oj_append (i := 3) (s := 1) (z := (.bool false)) (bytes := 1) Try.underlying28 (by kernel_rfl) (fe_t rfl) (fe_t rfl) rfl (rdl_blk 0 rfl) rfl (by decide) (by first | exact oneI | exact oneF (fun _ => rfl) | exact fun u hu => List.all_eq_true.1 (show List.all _ (fun x => x.oneCell') = true from rfl) u hu | (intro u hu; revert u hu; simp [Value.oneCell'])) (by decide) ⟨by omega, by decide⟩ (fun Aa2 ca2 hca2 => ?_))
                      refine tl_step rfl (oj_val (y_assign (fe_t rfl)) ?_)
                      refine tl_step rfl (oj_val (y_assign (fe_t rfl)) ?_)
                      refine tl_nil ?_
                      refine tx_in ?_
                      refine tx_then ?_
                      refine tr_region ?_
                      refine tl_step rfl (oj_val (y_inc (fe_t rfl) fe_c (by omega)) ?_)
                      refine tl_step rfl (oj_val (y_move (fe_t rfl)) ?_)
                      refine tl_nil ?_
                      apply tx_back4 (i + 1) (rs ++ [(u, true)]) ((⟨_, _, _, _⟩ : Vs)) ((⟨_, _, _, _⟩ : Vs))
                      · exact (cov_cons (by first | rfl | exact v_int (by omega) | exact v_bool (by simp [*])) (cov_cons (by first | rfl | exact v_int (by omega) | exact v_bool (by simp [*])) (cov_cons (by first | rfl | exact v_int (by omega) | exact v_bool (by simp [*])) (cov_nil))))
                      · repeat (first | exact over_nil | refine over_put rfl ?_ | refine over_drop rfl ?_)
                      · exact fun w h => h.pick [3, 4, 5] _ rfl (by decide)
                      · refine ⟨⟨by omega, by simp; omega, best_next hbs hrl hbe, by dsimp only; omega, ?_, by dsimp only; omega, ?_⟩, by omega⟩
                        · dsimp only; rw [hx1]; simp [cI, zc]
                        · dsimp only; rw [hx2]; simp [bls, zc]
                  · try (exfalso; omega)
                    all_goals
                      refine tr_skip ?_
                      refine tx_then ?_
                      have hab := abit_bd (ad.getD i aN).v k
                      have hab2 : abit (ad.getD i aN).v k = 0 ∨ abit (ad.getD i aN).v k = 1 := by omega
                      have hps := pre_succ (ad.getD i aN).v k (by omega)
                      have hkx : 2 * e.x + abit (ad.getD i aN).v k = pre (ad.getD i aN).v (k + 1) := by rw [hex, hps]
                      have hkid : (ndC y.2 e)[(abit (ad.getD i aN).v k).toNat]? = some (ptr (kid y.2 (k + 1) (pre (ad.getD i aN).v (k + 1)))) := by rw [ndC_kid hab2, hek, hkx]
                      refine tb_draw 9 (sel _ [0, 1, 2, 3]) (fun w h => h.sel _ rfl (by decide)) rfl ?_
                      refine tb_float (i := 0) rfl (by kernel_rfl) rfl (wants_none rfl) (yq_of (y_move (fe_t rfl))) ?_
                      refine tb_float (i := 1) rfl (by kernel_rfl) rfl (wants_none rfl) (yq_of (y_ldbA 0 Try.isAgg24 Try.sizeOf24 (fe_t rfl) rfl rfl rfl)) ?_
                      refine tb_float (i := 2) rfl (by kernel_rfl) rfl (wants_none rfl) (yq_of (y_move (fe_t rfl))) ?_
                      refine tb_float (i := 3) rfl (by kernel_rfl) rfl (wants_none rfl) (yq_call Try.call50 fe_f (fel_cons (fe_t rfl) (fel_cons (fe_t rfl) fel_nil)) (fun w' hS => bitE (ad.getD i aN) hxa k (by omega) w')) ?_
                      refine tb_float (i := 4) rfl (by kernel_rfl) rfl (wants_none rfl) (yq_of (y_nilCheck (fe_t rfl))) ?_
                      refine tb_float (i := 5) rfl (by kernel_rfl) rfl (wants_none rfl) (yq_of (y_fieldAddr (td := 96) Try.underlying99 rfl rfl Try.sizeOf96 (o' := 0) rfl (fe_t rfl))) ?_
                      refine tb_float (i := 6) rfl (by kernel_rfl) rfl (wants_none rfl) (yq_of (y_indexPA (z := abit (ad.getD i aN).v k) Try.underlying96 Try.sizeOf94 (fe_t rfl) (fe_t rfl) (by omega) (by omega))) ?_
                      refine tb_float (i := 7) rfl (by kernel_rfl) rfl (wants_none rfl) (yq_of (y_ld (v := (ptr (kid y.2 (k + 1) (pre (ad.getD i aN).v (k + 1))))) Try.isAgg94 (fe_t rfl) (rdl_nd 3 rfl hem) (hkid))) ?_
                      refine tb_float (i := 8) rfl (by kernel_rfl) rfl (wants_none rfl) (yq_of (y_assign (fe_t rfl))) ?_
                      refine tb_done (by kernel_rfl) ?_
                      refine tx_in ?_
                      refine tx_then ?_
                      refine tr_region ?_
                      refine tl_step rfl (oj_val (y_move (fe_t rfl)) ?_)
                      refine tl_step rfl (oj_val (y_inc (fe_t rfl) fe_c (by omega)) ?_)
                      refine tl_step rfl (oj_val (y_assign (fe_t rfl)) ?_)
                      refine tl_nil ?_
                      apply tx_back4 (k + 1) (kid y.2 (k + 1) (pre (ad.getD i aN).v (k + 1))) (u) (true)
                      · exact (cov_cons (by first | rfl | exact v_int (by omega) | exact v_bool (by simp [*])) (cov_cons (by first | rfl | exact v_int (by omega) | exact v_bool (by simp [*])) (cov_cons (by first | rfl | exact v_int (by omega) | exact v_bool (by simp [*])) (cov_cons (by first | rfl | exact v_int (by omega) | exact v_bool (by simp [*])) (cov_nil)))))
                      · repeat (first | exact over_nil | refine over_put rfl ?_ | refine over_drop rfl ?_)
                      · exact fun w h => h.pick [0, 1, 2, 3] _ rfl (by decide)
                      · exact ⟨⟨by omega, hb2, rfl⟩, by omega⟩
              · try (exfalso; omega)
                all_goals
                  have ht : e.to = none := by
                    cases hq : e.to with
                    | none => rfl
                    | some p => exact absurd hq8 (by rw [hq]; simp)
                  have hb2 := hbm ht
                  refine tr_skip ?_
                  refine tx_then ?_
                  refine tr_seq ?_
                  refine tr_seq ?_
                  refine tr_region ?_
                  refine tl_step rfl (oj_val (y_move (fe_t rfl)) ?_)
                  refine tl_step rfl (oj_val (y_eq (fe_t rfl) fe_c) ?_)
                  refine tl_nil ?_
                  refine tx_then ?_
                  refine tr_condp (fe_t rfl) (fun hq11 => ?_) (fun hq12 => ?_)
                  · try (exfalso; omega)
                    all_goals
                      have hbe : Best l (ad.getD i aN).v 33 bt ok := by have h9 := hb2; rw [show k + 1 = 33 by omega] at h9; exact h9
                      refine tr_exit ?_
                      refine tx_then_exit ?_
                      refine tx_in_pass rfl ?_
                      refine tx_then_exit ?_
                      refine tx_then_exit ?_
                      refine tx_in_exit ?_
                      refine tx_then ?_
                      refine tr_region ?_
                      refine tl_step rfl (oj_val (y_move (fe_t rfl)) ?_)
                      refine tl_step rfl (oj_val (y_move (fe_t rfl)) ?_)
                      refine tl_step rfl (oj_slice1 Try.underlying27 Try.sizeOf3 Try.zeroValue3 (fe_t rfl) (by decide) rfl (fun b3 => ?_))
                      refine tl_step rfl (oj_append (i := 3) (s := 1) (z := (.int .i64 0)) (bytes := 8) Try.underlying27 (by kernel_rfl) (fe_t rfl) (fe_t rfl) rfl (rdl_blk 0 rfl) rfl (by decide) (by first | exact oneI | exact oneF (fun _ => rfl) | exact fun u hu => List.all_eq_true.1 (show List.all _ (fun x => x.oneCell') = true from rfl) u hu | (intro u hu; revert u hu; simp [Value.oneCell'])) (by decide) ⟨by omega, by decide⟩ (fun Aa3 ca3 hca3 => ?_))
                      refine tl_step rfl (oj_val (y_move (fe_t rfl)) ?_)
                      refine tl_step rfl (oj_val (y_move (fe_t rfl)) ?_)
                      refine tl_step rfl (oj_slice1 Try.underlying28 Try.sizeOf4 Try.zeroValue4 (fe_t rfl) (by decide) rfl (fun b4 => ?_))
                      refine tl_step rfl (oj_append (i := 3) (s := 1) (z := (.bool false)) (bytes := 1) Try.underlying28 (by kernel_rfl) (fe_t rfl) (fe_t rfl) rfl (rdl_blk 0 rfl) rfl (by decide) (by first | exact oneI | exact oneF (fun _ => rfl) | exact fun u hu => List.all_eq_true.1 (show List.all _ (fun x => x.oneCell') = true from rfl) u hu | (intro u hu; revert u hu; simp [Value.oneCell'])) (by decide) ⟨by omega, by decide⟩ (fun Aa4 ca4 hca4 => ?_))
                      refine tl_step rfl (oj_val (y_assign (fe_t rfl)) ?_)
                      refine tl_step rfl (oj_val (y_assign (fe_t rfl)) ?_)
                      refine tl_nil ?_
                      refine tx_in ?_
                      refine tx_then ?_
                      refine tr_region ?_
                      refine tl_step rfl (oj_val (y_inc (fe_t rfl) fe_c (by omega)) ?_)
                      refine tl_step rfl (oj_val (y_move (fe_t rfl)) ?_)
                      refine tl_nil ?_
                      apply tx_back4 (i + 1) (rs ++ [(bt, ok)]) ((⟨_, _, _, _⟩ : Vs)) ((⟨_, _, _, _⟩ : Vs))
                      · exact (cov_cons (by first | rfl | exact v_int (by omega) | exact v_bool (by simp [*])) (cov_cons (by first | rfl | exact v_int (by omega) | exact v_bool (by simp [*])) (cov_cons (by first | rfl | exact v_int (by omega) | exact v_bool (by simp [*])) (cov_nil))))
                      · repeat (first | exact over_nil | refine over_put rfl ?_ | refine over_drop rfl ?_)
                      · exact fun w h => h.pick [3, 4, 5] _ rfl (by decide)
                      · refine ⟨⟨by omega, by simp; omega, best_next hbs hrl hbe, by dsimp only; omega, ?_, by dsimp only; omega, ?_⟩, by omega⟩
                        · dsimp only; rw [hx1]; simp [cI, zc]
                        · dsimp only; rw [hx2]; simp [bls, zc]
                  · try (exfalso; omega)
                    all_goals
                      refine tr_skip ?_
                      refine tx_then ?_
                      have hab := abit_bd (ad.getD i aN).v k
                      have hab2 : abit (ad.getD i aN).v k = 0 ∨ abit (ad.getD i aN).v k = 1 := by omega
                      have hps := pre_succ (ad.getD i aN).v k (by omega)
                      have hkx : 2 * e.x + abit (ad.getD i aN).v k = pre (ad.getD i aN).v (k + 1) := by rw [hex, hps]
                      have hkid : (ndC y.2 e)[(abit (ad.getD i aN).v k).toNat]? = some (ptr (kid y.2 (k + 1) (pre (ad.getD i aN).v (k + 1)))) := by rw [ndC_kid hab2, hek, hkx]
                      refine tb_draw 9 (sel _ [0, 1, 2, 3]) (fun w h => h.sel _ rfl (by decide)) rfl ?_
                      refine tb_float (i := 0) rfl (by kernel_rfl) rfl (wants_none rfl) (yq_of (y_move (fe_t rfl))) ?_
                      refine tb_float (i := 1) rfl (by kernel_rfl) rfl (wants_none rfl) (yq_of (y_ldbA 0 Try.isAgg24 Try.sizeOf24 (fe_t rfl) rfl rfl rfl)) ?_
                      refine tb_float (i := 2) rfl (by kernel_rfl) rfl (wants_none rfl) (yq_of (y_move (fe_t rfl))) ?_
                      refine tb_float (i := 3) rfl (by kernel_rfl) rfl (wants_none rfl) (yq_call Try.call50 fe_f (fel_cons (fe_t rfl) (fel_cons (fe_t rfl) fel_nil)) (fun w' hS => bitE (ad.getD i aN) hxa k (by omega) w')) ?_
                      refine tb_float (i := 4) rfl (by kernel_rfl) rfl (wants_none rfl) (yq_of (y_nilCheck (fe_t rfl))) ?_
                      refine tb_float (i := 5) rfl (by kernel_rfl) rfl (wants_none rfl) (yq_of (y_fieldAddr (td := 96) Try.underlying99 rfl rfl Try.sizeOf96 (o' := 0) rfl (fe_t rfl))) ?_
                      refine tb_float (i := 6) rfl (by kernel_rfl) rfl (wants_none rfl) (yq_of (y_indexPA (z := abit (ad.getD i aN).v k) Try.underlying96 Try.sizeOf94 (fe_t rfl) (fe_t rfl) (by omega) (by omega))) ?_
                      refine tb_float (i := 7) rfl (by kernel_rfl) rfl (wants_none rfl) (yq_of (y_ld (v := (ptr (kid y.2 (k + 1) (pre (ad.getD i aN).v (k + 1))))) Try.isAgg94 (fe_t rfl) (rdl_nd 3 rfl hem) (hkid))) ?_
                      refine tb_float (i := 8) rfl (by kernel_rfl) rfl (wants_none rfl) (yq_of (y_assign (fe_t rfl))) ?_
                      refine tb_done (by kernel_rfl) ?_
                      refine tx_in ?_
                      refine tx_then ?_
                      refine tr_region ?_
                      refine tl_step rfl (oj_val (y_move (fe_t rfl)) ?_)
                      refine tl_step rfl (oj_val (y_inc (fe_t rfl) fe_c (by omega)) ?_)
                      refine tl_step rfl (oj_val (y_assign (fe_t rfl)) ?_)
                      refine tl_nil ?_
                      apply tx_back4 (k + 1) (kid y.2 (k + 1) (pre (ad.getD i aN).v (k + 1))) (bt) (ok)
                      · exact (cov_cons (by first | rfl | exact v_int (by omega) | exact v_bool (by simp [*])) (cov_cons (by first | rfl | exact v_int (by omega) | exact v_bool (by simp [*])) (cov_cons (by first | rfl | exact v_int (by omega) | exact v_bool (by simp [*])) (cov_cons (by first | rfl | exact v_int (by omega) | exact v_bool (by simp [*])) (cov_nil)))))
                      · repeat (first | exact over_nil | refine over_put rfl ?_ | refine over_drop rfl ?_)
                      · exact fun w h => h.pick [0, 1, 2, 3] _ rfl (by decide)
                      · exact ⟨⟨by omega, hb2, rfl⟩, by omega⟩
          · try (exfalso; omega)
            all_goals
              have hon : o = none := by
                cases o with
                | none => rfl
                | some b => exact absurd hq6 (by simp)
              have hbe := Best.none_ hf hy.1 hb (ho ▸ hon)
              refine tr_exit ?_
              refine tx_then_exit ?_
              refine tx_then_exit ?_
              refine tx_in_exit ?_
              refine tx_then ?_
              refine tr_region ?_
              refine tl_step rfl (oj_val (y_move (fe_t rfl)) ?_)
              refine tl_step rfl (oj_val (y_move (fe_t rfl)) ?_)
              refine tl_step rfl (oj_slice1 Try.underlying27 Try.sizeOf3 Try.zeroValue3 (fe_t rfl) (by decide) rfl (fun b5 => ?_))
              refine tl_step rfl (oj_append (i := 3) (s := 1) (z := (.int .i64 0)) (bytes := 8) Try.underlying27 (by kernel_rfl) (fe_t rfl) (fe_t rfl) rfl (rdl_blk 0 rfl) rfl (by decide) (by first | exact oneI | exact oneF (fun _ => rfl) | exact fun u hu => List.all_eq_true.1 (show List.all _ (fun x => x.oneCell') = true from rfl) u hu | (intro u hu; revert u hu; simp [Value.oneCell'])) (by decide) ⟨by omega, by decide⟩ (fun Aa5 ca5 hca5 => ?_))
              refine tl_step rfl (oj_val (y_move (fe_t rfl)) ?_)
              refine tl_step rfl (oj_val (y_move (fe_t rfl)) ?_)
              refine tl_step rfl (oj_slice1 Try.underlying28 Try.sizeOf4 Try.zeroValue4 (fe_t rfl) (by decide) rfl (fun b6 => ?_))
              refine tl_step rfl (oj_append (i := 3) (s := 1) (z := (.bool false)) (bytes := 1) Try.underlying28 (by kernel_rfl) (fe_t rfl) (fe_t rfl) rfl (rdl_blk 0 rfl) rfl (by decide) (by first | exact oneI | exact oneF (fun _ => rfl) | exact fun u hu => List.all_eq_true.1 (show List.all _ (fun x => x.oneCell') = true from rfl) u hu | (intro u hu; revert u hu; simp [Value.oneCell'])) (by decide) ⟨by omega, by decide⟩ (fun Aa6 ca6 hca6 => ?_))
              refine tl_step rfl (oj_val (y_assign (fe_t rfl)) ?_)
              refine tl_step rfl (oj_val (y_assign (fe_t rfl)) ?_)
              refine tl_nil ?_
              refine tx_in ?_
              refine tx_then ?_
              refine tr_region ?_
              refine tl_step rfl (oj_val (y_inc (fe_t rfl) fe_c (by omega)) ?_)
              refine tl_step rfl (oj_val (y_move (fe_t rfl)) ?_)
              refine tl_nil ?_
              apply tx_back4 (i + 1) (rs ++ [(bt, ok)]) ((⟨_, _, _, _⟩ : Vs)) ((⟨_, _, _, _⟩ : Vs))
              · exact (cov_cons (by first | rfl | exact v_int (by omega) | exact v_bool (by simp [*])) (cov_cons (by first | rfl | exact v_int (by omega) | exact v_bool (by simp [*])) (cov_cons (by first | rfl | exact v_int (by omega) | exact v_bool (by simp [*])) (cov_nil))))
              · repeat (first | exact over_nil | refine over_put rfl ?_ | refine over_drop rfl ?_)
              · exact fun w h => h.pick [3, 4, 5] _ rfl (by decide)
              · refine ⟨⟨by omega, by simp; omega, best_next hbs hrl hbe, by dsimp only; omega, ?_, by dsimp only; omega, ?_⟩, by omega⟩
                · dsimp only; rw [hx1]; simp [cI, zc]
                · dsimp only; rw [hx2]; simp [bls, zc]
      · try (exfalso; omega)
        all_goals
          refine tr_exit ?_
          refine tx_then_exit ?_
          refine tx_then_exit ?_
          refine tx_in_exit ?_
          refine tx_then ?_
          refine tr_seq ?_
          refine tr_region ?_
          refine tl_step rfl (oj_val (y_move (fe_t rfl)) ?_)
          refine tl_step rfl (oj_val (y_move (fe_t rfl)) ?_)
          refine tl_step rfl (oj_val (y_assign (fe_t rfl)) ?_)
          refine tl_step rfl (oj_val (y_assign (fe_t rfl)) ?_)
          refine tl_step rfl (oj_val (y_assign fe_c) ?_)
          refine tl_nil ?_
          refine tx_then ?_
          refine tr_ret ?_
          refine tx_ret (res3 Try.results10 (rok_t rfl) (rok_t rfl) (rok_t rfl)) (fun w' hS => ?_)
          obtain rfl : i = n2 := by omega
          exact ⟨(q1, q2, rs), ⟨hrl, hbs, hn1, hx1, hn3, hx2⟩, rfl, hS.pick [1, 0] _ rfl (by decide)⟩

set_option maxRecDepth 100000 in
set_option maxHeartbeats 4000000 in
theorem findN (A : Option Addr) (n c : Nat) (l : List Pfx) (w : World) (hr : Rd w A (l.flatMap cPx)) (hn : l.length = n) (hm : n ≤ 140737488355328) (hc : n ≤ c) (hok : ∀ p ∈ l, p.x.ok) (A2 : Option Addr) (n2 c2 : Nat) (hw0 : wrong l ≠ 0) :
    Calls Try.prog 10 #[.slice A n c, .slice A2 n2 c2] w fun e w' => e = .returned (.tuple #[.slice none 0 0, .slice none 0 0, (.int .i64 (wrong l))]) ∧ St w w' [] := by
  refine calls_tr Try.func10 Try.ntmps10 rfl rfl (St.refl _) ?_
  refine tr_seq ?_
  refine tr_region ?_
  refine tl_step rfl (oj_val (y_assign fe_c) ?_)
  refine tl_step rfl (oj_val (y_assign fe_c) ?_)
  refine tl_step rfl (oj_val (y_assign fe_c) ?_)
  refine tl_nil ?_
  refine tx_then ?_
  refine tr_seq ?_
  refine tr_seq ?_
  refine tr_region ?_
  refine tl_step rfl (oj_val (y_move (fe_t rfl)) ?_)
  refine tl_step rfl (oj_callv Try.call12 fe_f (fel_cons (fe_t rfl) fel_nil) (fun w' hS => wrongE A n c l w' (Rd.below hr hS.below) hn hm hc hok) ?_)
  refine tl_step rfl (oj_val (y_assign (fe_t rfl)) ?_)
  refine tl_nil ?_
  refine tx_then ?_
  refine tr_seq ?_
  refine tr_region ?_
  refine tl_step rfl (oj_val (y_move (fe_t rfl)) ?_)
  refine tl_step rfl (oj_val (y_neq (fe_t rfl) fe_c) ?_)
  refine tl_nil ?_
  refine tx_then ?_
  refine tr_condp (fe_t rfl) (fun hq1 => ?_) (fun hq2 => ?_)
  · try (exfalso; omega)
    all_goals
      refine tr_seq ?_
      refine tr_region ?_
      refine tl_step rfl (oj_val (y_move (fe_t rfl)) ?_)
      refine tl_step rfl (oj_val (y_assign fe_c) ?_)
      refine tl_step rfl (oj_val (y_assign fe_c) ?_)
      refine tl_step rfl (oj_val (y_assign (fe_t rfl)) ?_)
      refine tl_nil ?_
      refine tx_then ?_
      refine tr_ret ?_
      refine tx_then_ret ?_
      refine tx_ret (res3 Try.results10 (rok_t rfl) (rok_t rfl) (rok_t rfl)) (fun w' hS => ?_)
      exact ⟨rfl, hS.pick [] _ rfl (by decide)⟩
  · exact absurd hq2 (by simpa using hw0)

end Go.Proofs.Ytpknjfeiiaopgaa.Trie
