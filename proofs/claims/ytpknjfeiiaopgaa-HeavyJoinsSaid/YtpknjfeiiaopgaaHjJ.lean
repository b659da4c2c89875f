/- heavy.Join. -/
import Derived.Test.YtpknjfeiiaopgaaHjC
import Derived.Test.YtpknjfeiiaopgaaHjT
import Derived.Test.YtpknjfeiiaopgaaHjS
import Derived.Test.YtpknjfeiiaopgaaHvA
namespace Go.Proofs.Ytpknjfeiiaopgaa.Heavy
open Go.RowKit Go.Proofs.Ytpknjfeiiaopgaa.E

set_option maxRecDepth 100000 in
set_option maxHeartbeats 8000000 in
theorem joinE (A B : Option Addr) (n m c d : Nat) (a b : List (Int × Int)) (w : World) (hra : Rd w A (a.flatMap c2)) (hrb : Rd w B (b.flatMap c2)) (han : a.length = n) (hbn : b.length = m) (hn : n ≤ 140737488355328) (hm : m ≤ 140737488355328) {k : Int} :
    Calls Try.prog 46 #[(.int .i64 k), .slice A n c, .slice B m d] w fun e w' => ∃ r : Vs × List (Int × Int) × Int, (JR k a b r.2.1 r.2.2 ∧ r.1.n = r.2.1.length ∧ r.1.xs = r.2.1.flatMap c2 ∧ r.2.1.length ≤ 1000000) ∧ e = .returned (.tuple #[.slice r.1.A r.1.n r.1.c, (.int .i64 r.2.2)]) ∧ St w w' [vec 92 2 (.slice r.1.A r.1.n r.1.c) r.1.n r.1.xs] := by
  refine calls_tr Try.func46 Try.ntmps46 rfl rfl (St.refl _) ?_
  refine tr_seq ?_
  refine tr_region ?_
  refine tl_step rfl (oj_val (y_assign fe_c) ?_)
  refine tl_step rfl (oj_val (y_assign fe_c) ?_)
  refine tl_nil ?_
  refine tx_then ?_
  refine tr_seq ?_
  refine tr_seq ?_
  refine tr_add (r := vec 92 2 (.slice none 0 0) 0 []) vec_nil rfl ?_
  refine tr_region ?_
  refine tl_step rfl (oj_val (y_move (fe_t rfl)) ?_)
  refine tl_step rfl (oj_val (y_move (fe_t rfl)) ?_)
  refine tl_step rfl (oj_callv Try.call85 fe_f (fel_cons (fe_t rfl) (fel_cons (fe_t rfl) fel_nil)) (fun w' hS => rightE A n c a w' (Rd.below hra hS.below) han hn) ?_)
  refine tl_step rfl (oj_val (y_not (fe_t rfl)) ?_)
  refine tl_step rfl (oj_val (y_move (fe_t rfl)) ?_)
  refine tl_split (d := 19) rfl (fun hq1 => ?_) (fun hq2 => ?_)
  · try (exfalso; omega)
    all_goals
      have hnr : ¬ (Rt k a ∧ Rt k b) := fun h0 => by have h1 := hq1; rw [rB_t h0.1] at h1; cases h1
      refine tl_skip rfl rfl rfl rfl ?_
      refine tl_skip rfl rfl rfl rfl ?_
      refine tl_skip rfl rfl rfl rfl ?_
      refine tl_skip rfl rfl rfl rfl ?_
      refine tl_step rfl (oj_val (y_pickt (fe_t rfl) fe_c) ?_)
      refine tl_nil ?_
      refine tx_then ?_
      refine tr_condt (fe_t rfl) ?_
      refine tr_seq ?_
      refine tr_region ?_
      refine tl_step rfl (oj_val (y_assign fe_c) ?_)
      refine tl_step rfl (oj_val (y_assign fe_c) ?_)
      refine tl_nil ?_
      refine tx_then ?_
      refine tr_ret ?_
      refine tx_then_ret ?_
      refine tx_ret (res2 Try.results46 (rok_t rfl) (rok_t rfl)) (fun w' hS => ?_)
      exact ⟨(⟨none, 0, 0, []⟩, [], 1), ⟨.form hnr, rfl, rfl, by simp⟩, rfl, hS.pick [0] _ rfl (by decide)⟩
  · try (exfalso; omega)
    all_goals
      have hra1 : rB k a = true := by simpa using hq2
      refine tl_want rfl rfl rfl (oj_val (y_move (fe_t rfl)) ?_)
      refine tl_want rfl rfl rfl (oj_val (y_move (fe_t rfl)) ?_)
      refine tl_want rfl rfl rfl (oj_callv Try.call85 fe_f (fel_cons (fe_t rfl) (fel_cons (fe_t rfl) fel_nil)) (fun w' hS => rightE B m d b w' (Rd.below hrb hS.below) hbn hm) ?_)
      refine tl_want rfl rfl rfl (oj_val (y_not (fe_t rfl)) ?_)
      refine tl_step rfl (oj_val (y_pickf (fe_t rfl) (fe_t rfl)) ?_)
      refine tl_nil ?_
      refine tx_then ?_
      refine tr_cond (fe_t rfl) (fun hq3 => ?_) (fun hq4 => ?_)
      · try (exfalso; omega)
        all_goals
          have hnr : ¬ (Rt k a ∧ Rt k b) := fun h0 => by have h1 := hq3; rw [rB_t h0.2] at h1; cases h1
          refine tr_seq ?_
          refine tr_region ?_
          refine tl_step rfl (oj_val (y_assign fe_c) ?_)
          refine tl_step rfl (oj_val (y_assign fe_c) ?_)
          refine tl_nil ?_
          refine tx_then ?_
          refine tr_ret ?_
          refine tx_then_ret ?_
          refine tx_ret (res2 Try.results46 (rok_t rfl) (rok_t rfl)) (fun w' hS => ?_)
          exact ⟨(⟨none, 0, 0, []⟩, [], 1), ⟨.form hnr, rfl, rfl, by simp⟩, rfl, hS.pick [0] _ rfl (by decide)⟩
      · try (exfalso; omega)
        all_goals
          have hrt : Rt k a ∧ Rt k b := ⟨rB_iff.1 hra1, rB_iff.1 (by simpa using hq4)⟩
          have hcat := rt_cat hrt
          have hst := sum_tok hrt
          have hto := acc_tok hcat.1
          have hkb := hcat.1
          have hll : (a ++ b).length = n + m := by rw [List.length_append]; omega
          have hla : n ≤ 400 := by have := hrt.1.1; omega
          have hlb : m ≤ 400 := by have := hrt.2.1; omega
          have hkk : 1 ≤ k ∧ k ≤ 400 := ⟨hrt.1.1.1, hrt.1.1.2.1⟩
          refine tr_skip ?_
          refine tx_then ?_
          refine tr_seq ?_
          refine tr_region ?_
          refine tl_step rfl (oj_makeMap (fun b_mp => ?_))
          refine tl_step rfl (oj_val (y_assign (fe_t rfl)) ?_)
          refine tl_nil ?_
          refine tx_then ?_
          refine tr_seq ?_
          refine tr_seq ?_
          refine tr_region ?_
          refine tl_step rfl (oj_val (y_move (fe_t rfl)) ?_)
          refine tl_step rfl (oj_val (y_move (fe_t rfl)) ?_)
          refine tl_step rfl (oj_lit2s Try.underlying184 Try.sizeOf87 Try.zeroValue87 (fe_t rfl) (fe_t rfl) (fun g2 => ?_))
          refine tl_step rfl (oj_call Try.call86 fe_f (fel_cons (fe_t rfl) fel_nil) (fun w' hS => concatE w' (OwnV.rd (hS.holds 0 _ rfl)).2.2 (Rd.below hra hS.below) (Rd.below hrb hS.below) han hbn ⟨hla, hlb⟩) (fun r0 h0 => ?_))
          refine tl_step rfl (oj_val (y_len Try.underlying87 (fe_t rfl)) ?_)
          refine tl_step rfl (oj_val (y_move fe_c) ?_)
          refine tl_nil ?_
          refine tx_then ?_
          refine tr_block ?_
          refine tr_loop1 [10, 31, 32, 33, 34, 35, 36, 37, 38, 39, 40, 41, 42] (fun (i : Nat) => [(31, .int .i64 (i : Int))]) 0 (fun (i : Nat) => [(2, mpR b_mp (tb (accT (a ++ b) i)) [])]) (fun (i : Nat) => i ≤ n + m) (fun (i : Nat) => n + m - i) (0) (cov_cons (by first | rfl | exact v_int (by omega) | exact v_bool (by simp [*])) (cov_nil)) (fun w h => h) ?_ ?_
          · try dsimp only
            exact Nat.zero_le _
          intro i hp
          have hi := hp
          have hrn := h0.1
          refine tr_seq ?_
          refine tr_region ?_
          refine tl_step rfl (oj_val (y_lss (fe_t rfl) (fe_t rfl)) ?_)
          refine tl_nil ?_
          refine tx_then ?_
          refine tr_seq ?_
          refine tr_condp (fe_t rfl) (fun hq5 => ?_) (fun hq6 => ?_)
          · try (exfalso; omega)
            all_goals
              refine tr_skip ?_
              refine tx_then ?_
              refine tr_seq ?_
              refine tr_block ?_
              refine tr_seq ?_
              refine tr_region ?_
              refine tl_step rfl (oj_val (y_index Try.underlying87 Try.sizeOf92 (fe_t rfl) (fe_t rfl) (rdl_vec 0 rfl) (by rw [h0.2]; exact lenK (by omega)) (by decide) (by omega) rfl) ?_)
              refine tl_step rfl (oj_val (y_ldA (cs := [(.int .i64 (k1 (a ++ b) i)), (.int .i64 (k2 (a ++ b) i))]) Try.isAgg92 Try.sizeOf92 (fe_t rfl) (rdl_vec 0 rfl) rfl (by decide) (by rw [h0.2]; exact getK (by omega))) ?_)
              refine tl_step rfl (oj_alloc Try.zeroValue92 (fun bc => ?_))
              refine tl_step rfl (oj_storeW 0 Try.sizeOf92 (fe_t rfl) (fe_t rfl) rfl rfl rfl rfl rfl (?_))
              refine tl_nil ?_
              refine tx_then ?_
              obtain ⟨v, hlk, hvb, hput⟩ := put_add (x := k1 (a ++ b) i) (n := k2 (a ++ b) i) (hto i (by omega)).1 (by omega)
              have hki := hkb i (by omega)
              refine tr_region ?_
              refine tl_step rfl (oj_val (y_move (fe_t rfl)) ?_)
              refine tl_step rfl (oj_val (y_fieldAddr (td := 3) Try.underlying92 rfl rfl Try.sizeOf3 (o' := 0) rfl (fe_t rfl)) ?_)
              refine tl_step rfl (oj_val (y_ldb 0 Try.isAgg3 (fe_t rfl) rfl rfl) ?_)
              refine tl_step rfl (oj_val (y_asv (y_lookup 3 Try.underlying113 Try.underlying3 Try.zeroValue3 (fe_t rfl) (fe_t rfl) rfl) hlk) ?_)
              refine tl_step rfl (oj_val (y_fieldAddr (td := 3) Try.underlying92 rfl rfl Try.sizeOf3 (o' := 1) rfl (fe_t rfl)) ?_)
              refine tl_step rfl (oj_val (y_ldb 0 Try.isAgg3 (fe_t rfl) rfl rfl) ?_)
              refine tl_step rfl (oj_val (y_add (fe_t rfl) (fe_t rfl) (by omega)) ?_)
              refine tl_step rfl (oj_mapPut 3 Try.underlying113 Try.underlying3 (fe_t rfl) (fe_t rfl) (fe_t rfl) rfl (.inl rfl) (?_))
              refine tl_nil ?_
              refine tx_in ?_
              refine tx_then ?_
              refine tr_as (r' := mpR b_mp (tb (accT (a ++ b) (i + 1))) []) 3 rfl (congrArg (fun m => mpR b_mp m []) (by rw [hput, accT_succ (by omega)])) ?_
              refine tr_region ?_
              refine tl_step rfl (oj_val (y_inc (fe_t rfl) fe_c (by omega)) ?_)
              refine tl_step rfl (oj_val (y_move (fe_t rfl)) ?_)
              refine tl_nil ?_
              apply tx_back1 (i + 1)
              · exact (cov_cons (by first | rfl | exact v_int (by omega) | exact v_bool (by simp [*])) (cov_nil))
              · repeat (first | exact over_nil | refine over_put rfl ?_ | refine over_drop rfl ?_)
              · exact fun w h => h.pick [1, 2, 3, 4] _ rfl (by decide)
              · exact ⟨by omega, by omega⟩
          · try (exfalso; omega)
            all_goals
              refine tr_exit ?_
              refine tx_then_exit ?_
              refine tx_then_exit ?_
              refine tx_in_exit ?_
              refine tx_then ?_
              refine tr_seq ?_
              refine tr_as (r' := mpR b_mp (tb (sumT a b)) []) 2 rfl (congrArg (fun l => mpR b_mp (tb l) []) (sumT_acc (by omega))) ?_
              refine tr_region ?_
              refine tl_step rfl (oj_val (y_assign fe_c) ?_)
              refine tl_nil ?_
              refine tx_then ?_
              refine tr_seq ?_
              refine tr_region ?_
              refine tl_step rfl (oj_val (y_assign fe_c) ?_)
              refine tl_nil ?_
              refine tx_then ?_
              refine tr_seq ?_
              refine tr_seq ?_
              refine tr_region ?_
              refine tl_step rfl (oj_val (y_move (fe_t rfl)) ?_)
              refine tl_step rfl (oj_range 2 Try.underlying113 (fe_t rfl) rfl (fun it => ?_))
              refine tl_nil ?_
              refine tx_then ?_
              refine tr_block ?_
              refine tr_add (r := vec 92 2 (.slice none 0 0) 0 []) vec_nil rfl ?_
              refine tr_add (r := vec 3 1 (.slice none 0 0) 0 []) vec_nil rfl ?_
              refine tr_loop5 [6, 7, 11, 12, 13, 14, 45, 46, 47, 48, 49, 50, 51, 52, 53, 54, 55, 56, 57, 58, 59, 60, 61] (fun (left : List Int) (la : Option Int) (o : List (Int × Int)) (z1 : Vs) (z2 : Vs) => [(11, .slice z1.A z1.n z1.c), (12, .slice z2.A z2.n z2.c)]) 0 (fun (left : List Int) (la : Option Int) (o : List (Int × Int)) (z1 : Vs) (z2 : Vs) => [(4, mpR b_mp (tb (sumT a b)) [⟨it, left, la⟩]), (1, vec 92 2 (.slice z1.A z1.n z1.c) z1.n z1.xs), (0, vec 3 1 (.slice z2.A z2.n z2.c) z2.n z2.xs)]) (fun (left : List Int) (la : Option Int) (o : List (Int × Int)) (z1 : Vs) (z2 : Vs) => (z1.n = o.length ∧ z1.xs = o.flatMap c2) ∧ (z2.n = o.length ∧ z2.xs = (o.map (·.2)).map (Value.int .i64)) ∧ (∀ d ∈ o, d.2 ≤ 1099511627776) ∧ (∀ c, c ∈ o ↔ c ∈ sumT a b ∧ 0 < c.2 ∧ c.1 ∉ left) ∧ (o.map (·.1)).Nodup ∧ o.length + left.length ≤ (sumT a b).length) (fun (left : List Int) (la : Option Int) (o : List (Int × Int)) (z1 : Vs) (z2 : Vs) => left.length) (keys (tb (sumT a b))) (none) ([]) (⟨none, 0, 0, []⟩ : Vs) (⟨none, 0, 0, []⟩ : Vs) (cov_cons (by first | rfl | exact v_int (by omega) | exact v_bool (by simp [*])) (cov_cons (by first | rfl | exact v_int (by omega) | exact v_bool (by simp [*])) (cov_nil))) (fun w h => h) ?_ ?_
              · try dsimp only
                exact ⟨⟨rfl, rfl⟩, ⟨rfl, rfl⟩, fun d h => by simp at h, fun c => ⟨fun h => by simp at h, fun h => absurd (by rw [tb_keys]; exact List.mem_map.2 ⟨c, h.1, rfl⟩) h.2.2⟩, by simp, by rw [tb_keys]; simp⟩
              intro left la o z1 z2 hp
              obtain ⟨⟨hzn, hzx⟩, ⟨hyn, hyx⟩, hle, hmem, hno, hcnt⟩ := hp
              have hT8 := hst.2
              refine tr_seq ?_
              refine tr_region ?_
              refine tl_step rfl (oj_next 4 (fe_t rfl) rfl rfl (fun hleft1 => ?_) (fun kk1 vv1 hkl1 hkg1 => ?_))
              · refine tl_step rfl (oj_val (y_extract (fe_t rfl) rfl) ?_)
                refine tl_nil ?_
                refine tx_then ?_
                refine tr_seq ?_
                refine tr_condf (fe_t rfl) ?_
                refine tr_exit ?_
                refine tx_then_exit ?_
                refine tx_then_exit ?_
                refine tx_in_exit ?_
                refine tx_then ?_
                refine tr_seq ?_
                subst hleft1
                have hpo := done_perm hst.1 hno hmem
                have hol := hpo.length_eq
                have hxs : ∀ d ∈ sumT a b, d.2 ≤ 1099511627776 := fun d hd => hle d (hpo.mem_iff.2 hd)
                refine tr_as (r' := vec 92 2 (.slice z1.A z1.n z1.c) z1.n (o.flatMap c2)) 1 rfl (congrArg (vec _ _ _ _) hzx) ?_
                refine tr_as (r' := vec 3 1 (.slice z2.A z2.n z2.c) z2.n ((o.map (·.2)).map (Value.int .i64))) 0 rfl (congrArg (vec _ _ _ _) hyx) ?_
                refine tr_region ?_
                refine tl_step rfl (oj_val (y_move (fe_t rfl)) ?_)
                refine tl_step rfl (oj_call2 Try.call87 fe_f (fel_cons (fe_t rfl) (fel_cons fe_f fel_nil)) (fun w' hS => sortCE (hS.pick [1, 0, 2, 3, 4, 5] [_, _, _, _, _, _] rfl (by decide)) hzn.symm (by omega) hno) (fun r3 h3 => ?_))
                refine tl_nil ?_
                refine tx_then ?_
                refine tr_seq ?_
                refine tr_seq ?_
                refine tr_region ?_
                refine tl_step rfl (oj_val (y_move (fe_t rfl)) ?_)
                refine tl_step rfl (oj_val (y_len Try.underlying87 (fe_t rfl)) ?_)
                refine tl_step rfl (oj_val (y_move (fe_t rfl)) ?_)
                refine tl_step rfl (oj_val (y_leq (fe_t rfl) (fe_t rfl)) ?_)
                refine tl_nil ?_
                refine tx_then ?_
                refine tr_condp (fe_t rfl) (fun hq7 => ?_) (fun hq8 => ?_)
                · try (exfalso; omega)
                  all_goals
                    refine tr_seq ?_
                    refine tr_region ?_
                    refine tl_step rfl (oj_val (y_move (fe_t rfl)) ?_)
                    refine tl_step rfl (oj_val (y_assign (fe_t rfl)) ?_)
                    refine tl_step rfl (oj_val (y_assign fe_c) ?_)
                    refine tl_nil ?_
                    refine tx_then ?_
                    refine tr_ret ?_
                    refine tx_then_ret ?_
                    refine tx_ret (res2 Try.results46 (rok_t rfl) (rok_t rfl)) (fun w' hS => ?_)
                    exact ⟨(⟨z1.A, z1.n, z1.c, r3.flatMap c2⟩, r3, 0), ⟨jr_few hrt hxs hpo h3.1 h3.2 (by omega), by dsimp only; rw [h3.1.length_eq]; exact hzn, rfl, by have h7 := h3.1.length_eq; dsimp only; omega⟩, rfl, hS.pick [0] _ rfl (by decide)⟩
                · try (exfalso; omega)
                  all_goals
                    refine tr_skip ?_
                    refine tx_then ?_
                    refine tr_seq ?_
                    refine tr_region ?_
                    refine tl_step rfl (oj_val (y_move (fe_t rfl)) ?_)
                    refine tl_step rfl (oj_call2 Try.call89 fe_f (fel_cons (fe_t rfl) fel_nil) (fun w' hS => sortIE (hS.pick [1, 0, 2, 3, 4, 5] [_, _, _, _, _, _] rfl (by decide)) (by rw [List.length_map]; omega) (by omega) (by omega)) (fun ss hss => ?_))
                    refine tl_nil ?_
                    refine tx_then ?_
                    refine tr_seq ?_
                    have hsl := hss.1.length_eq
                    rw [List.length_map] at hsl
                    have hcu := cut_sorted (k := k.toNat) (hss.1.trans (hpo.map (·.2))) hss.2 (by omega)
                    rw [show ss.length - 1 - k.toNat = z2.n - 1 - k.toNat by omega, show ((k.toNat : Nat) : Int) = k by omega] at hcu
                    have hxb := cut_bd hst.1 (by decide) (.inr hcu)
                    have hk2b : ∀ i, k2 r3 i ≤ 9223372036854775807 := fun i => by
                      by_cases hi : i < r3.length
                      · have := hst.1.bd _ (hpo.mem_iff.1 (h3.1.mem_iff.1 (mem_k hi))); omega
                      · unfold k2; rw [List.getD_eq_getElem?_getD, List.getElem?_eq_none (by omega)]; decide
                    refine tr_region ?_
                    refine tl_step rfl (oj_val (y_move (fe_t rfl)) ?_)
                    refine tl_step rfl (oj_val (y_move (fe_t rfl)) ?_)
                    refine tl_step rfl (oj_val (y_move (fe_t rfl)) ?_)
                    refine tl_step rfl (oj_val (y_len Try.underlying27 (fe_t rfl)) ?_)
                    refine tl_step rfl (oj_val (y_sub (fe_t rfl) fe_c (by omega)) ?_)
                    refine tl_step rfl (oj_val (y_move (fe_t rfl)) ?_)
                    refine tl_step rfl (oj_val (y_sub (fe_t rfl) (fe_t rfl) (by omega)) ?_)
                    refine tl_step rfl (oj_val (y_index (j := z2.n - 1 - k.toNat) Try.underlying27 Try.sizeOf3 (fe_t rfl) (fe_i (by omega) rfl) (rdl_vec 0 rfl) (by simp; omega) (by decide) (by omega) (Nat.mul_one _)) ?_)
                    refine tl_step rfl (oj_val (y_ld (v := (.int .i64 (ss.getD (z2.n - 1 - k.toNat) 0))) Try.isAgg3 (fe_t rfl) (rdl_vec 0 rfl) (by rw [List.getElem?_map, List.getD_eq_getElem?_getD, List.getElem?_eq_getElem (by omega)]; rfl)) ?_)
                    refine tl_step rfl (oj_call Try.call90 fe_f (fel_cons (fe_t rfl) (fel_cons (fe_t rfl) fel_nil)) (fun w' hS => lessE z1.A z1.n z1.c r3 w' (OwnV.rd (hS.holds 1 _ rfl)).2.2 (by rw [h3.1.length_eq]; exact hzn.symm) (by omega) (by omega) hk2b (by omega)) (fun r5 h5 => ?_))
                    refine tl_step rfl (oj_val (y_assign (fe_t rfl)) ?_)
                    refine tl_step rfl (oj_val (y_assign fe_c) ?_)
                    refine tl_nil ?_
                    refine tx_then ?_
                    refine tr_ret ?_
                    refine tx_ret (res2 Try.results46 (rok_t rfl) (rok_t rfl)) (fun w' hS => ?_)
                    exact ⟨(r5, lessF r3 _, 0), ⟨jr_many hrt hxs hpo h3.1 h3.2 hcu, h5.1, h5.2, by dsimp only; exact Nat.le_trans lessF_len (by have h7 := h3.1.length_eq; omega)⟩, rfl, hS.pick [0] _ rfl (by decide)⟩
              · obtain ⟨ce, hce, rfl, rfl⟩ := tb_some hkg1
                have hcb := hst.1.bd ce hce
                refine tl_step rfl (oj_val (y_extract (fe_t rfl) rfl) ?_)
                refine tl_nil ?_
                refine tx_then ?_
                refine tr_seq ?_
                refine tr_condt (fe_t rfl) ?_
                refine tr_skip ?_
                refine tx_then ?_
                refine tr_block ?_
                refine tr_seq ?_
                refine tr_region ?_
                refine tl_step rfl (oj_val (y_entry 4 (fe_t rfl) rfl hkg1) ?_)
                refine tl_step rfl (oj_val (y_extract (fe_t rfl) rfl) ?_)
                refine tl_step rfl (oj_val (y_extract (fe_t rfl) rfl) ?_)
                refine tl_step rfl (oj_val (y_assign (fe_t rfl)) ?_)
                refine tl_step rfl (oj_val (y_assign (fe_t rfl)) ?_)
                refine tl_nil ?_
                refine tx_then ?_
                refine tr_seq ?_
                refine tr_seq ?_
                refine tr_region ?_
                refine tl_step rfl (oj_val (y_move (fe_t rfl)) ?_)
                refine tl_step rfl (oj_val (y_gtr (fe_t rfl) fe_c) ?_)
                refine tl_nil ?_
                refine tx_then ?_
                refine tr_condp (fe_t rfl) (fun hq9 => ?_) (fun hq10 => ?_)
                · try (exfalso; omega)
                  all_goals
                    refine tr_seq ?_
                    refine tr_region ?_
                    refine tl_step rfl (oj_val (y_assign fe_c) ?_)
                    refine tl_step rfl (oj_val (y_assign fe_c) ?_)
                    refine tl_nil ?_
                    refine tx_then ?_
                    refine tr_ret ?_
                    refine tx_then_ret ?_
                    refine tx_in_ret ?_
                    refine tx_then_ret ?_
                    refine tx_in_ret ?_
                    refine tx_then_ret ?_
                    refine tx_ret (res2 Try.results46 (rok_t rfl) (rok_t rfl)) (fun w' hS => ?_)
                    exact ⟨(⟨none, 0, 0, []⟩, [], 4), ⟨.full hrt ⟨ce, hce, by omega⟩, rfl, rfl, by simp⟩, rfl, hS.pick [5] _ rfl (by decide)⟩
                · try (exfalso; omega)
                  all_goals
                    refine tr_skip ?_
                    refine tx_then ?_
                    refine tr_region ?_
                    refine tl_step rfl (oj_val (y_move (fe_t rfl)) ?_)
                    refine tl_step rfl (oj_val (y_move (fe_t rfl)) ?_)
                    refine tl_step rfl (oj_val (y_move (fe_t rfl)) ?_)
                    refine tl_step rfl (oj_val ((fun {u0 u1} hx hb => y_build (is := [0, 1]) (vs := [u0, u1]) (cs := [u0, u1]) rfl hx hb) (fel_cons (fe_t rfl) (fel_cons (fe_t rfl) fel_nil)) (by kernel_rfl)) ?_)
                    refine tl_step rfl (oj_slice1 Try.underlying87 Try.sizeOf92 Try.zeroValue92 (fe_t rfl) (by decide) rfl (fun b1 => ?_))
                    refine tl_step rfl (oj_append (i := 2) (s := 2) (z := (.agg #[.int .i64 0, .int .i64 0])) (bytes := 16) Try.underlying87 (by kernel_rfl) (fe_t rfl) (fe_t rfl) rfl (rdl_blk 0 rfl) rfl (by decide) (by first | exact oneI | exact oneF (fun _ => rfl) | exact fun u hu => List.all_eq_true.1 (show List.all _ (fun x => x.oneCell') = true from rfl) u hu | (intro u hu; revert u hu; simp [Value.oneCell'])) (by decide) ⟨by omega, by decide⟩ (fun Aa1 ca1 hca1 => ?_))
                    refine tl_step rfl (oj_val (y_move (fe_t rfl)) ?_)
                    refine tl_step rfl (oj_val (y_move (fe_t rfl)) ?_)
                    refine tl_step rfl (oj_slice1 Try.underlying27 Try.sizeOf3 Try.zeroValue3 (fe_t rfl) (by decide) rfl (fun b2 => ?_))
                    refine tl_step rfl (oj_append (i := 2) (s := 1) (z := (.int .i64 0)) (bytes := 8) Try.underlying27 (by kernel_rfl) (fe_t rfl) (fe_t rfl) rfl (rdl_blk 0 rfl) rfl (by decide) (by first | exact oneI | exact oneF (fun _ => rfl) | exact fun u hu => List.all_eq_true.1 (show List.all _ (fun x => x.oneCell') = true from rfl) u hu | (intro u hu; revert u hu; simp [Value.oneCell'])) (by decide) ⟨by omega, by decide⟩ (fun Aa2 ca2 hca2 => ?_))
                    refine tl_step rfl (oj_val (y_assign (fe_t rfl)) ?_)
                    refine tl_step rfl (oj_val (y_assign (fe_t rfl)) ?_)
                    refine tl_nil ?_
                    refine tx_in ?_
                    apply tx_back5 (left.filter (· != ce.1)) (some ce.1) (o ++ [ce]) ((⟨_, _, _, _⟩ : Vs)) ((⟨_, _, _, _⟩ : Vs))
                    · exact (cov_cons (by first | rfl | exact v_int (by omega) | exact v_bool (by simp [*])) (cov_cons (by first | rfl | exact v_int (by omega) | exact v_bool (by simp [*])) (cov_nil)))
                    · repeat (first | exact over_nil | refine over_put rfl ?_ | refine over_drop rfl ?_)
                    · exact fun w h => h.pick [2, 3, 4, 5, 6, 7] _ rfl (by decide)
                    · exact ⟨⟨⟨by dsimp only; rw [List.length_append]; simp; omega, by dsimp only; rw [hzx, List.flatMap_append]; rfl⟩, ⟨by dsimp only; rw [List.length_append]; simp; omega, by dsimp only; rw [hyx, List.map_append, List.map_append]; rfl⟩, fun d hd => by
                        rcases List.mem_append.1 hd with hd | hd
                        · exact hle d hd
                        · simp at hd; subst hd; omega, next_in hst.1.nd hce (by omega) hmem, nd_next hno hmem hkl1, by rw [List.length_append, List.length_singleton]; have := left_less hkl1; omega⟩, left_less hkl1⟩

end Go.Proofs.Ytpknjfeiiaopgaa.Heavy
