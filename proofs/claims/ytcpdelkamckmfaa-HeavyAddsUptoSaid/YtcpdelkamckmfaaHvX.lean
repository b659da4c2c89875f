/- the reference's WAdd. -/
import Derived.Test.YtcpdelkamckmfaaHvO
import Derived.Test.YtcpdelkamckmfaaHvW
import Derived.Test.YtcpdelkamckmfaaHvC
namespace Go.Proofs.Ytcpdelkamckmfaa.Heavy
open Go.RowKit Go.Proofs.Ytcpdelkamckmfaa.E

theorem rt_k1 {k : Int} {l : List (Int × Int)} (h : Rt k l) : ∀ i, 0 ≤ k2 l i := fun i => by
  by_cases hi : i < l.length
  · have := (h.2 i hi).1; omega
  · unfold k2
    rw [List.getD_eq_getElem?_getD, List.getElem?_eq_none (by omega)]
    decide
set_option maxRecDepth 100000 in
set_option maxHeartbeats 4000000 in
theorem waddE (A : Option Addr) (n c : Nat) (l : List (Int × Int)) (w : World) (hr : Rd w A (l.flatMap c2)) (hn : l.length = n) (hm : n ≤ 140737488355328) {k x : Int} :
    Calls Try.prog 93 #[(.int .i64 k), .slice A n c, (.int .i64 x)] w fun e w' => ∃ r : Vs × List (Int × Int) × Int, (AddR k l x r.2.1 r.2.2 ∧ r.1.n = r.2.1.length ∧ r.1.xs = r.2.1.flatMap c2) ∧ e = .returned (.tuple #[.slice r.1.A r.1.n r.1.c, (.int .i64 r.2.2)]) ∧ St w w' [vec 134 2 (.slice r.1.A r.1.n r.1.c) r.1.n r.1.xs] := by
  refine calls_tr Try.func93 Try.ntmps93 rfl rfl (St.refl _) ?_
  refine tr_seq ?_
  refine tr_region ?_
  refine tl_step rfl (oj_val (y_assign fe_c) ?_)
  refine tl_step rfl (oj_val (y_assign fe_c) ?_)
  refine tl_nil ?_
  refine tx_then ?_
  refine tr_seq ?_
  refine tr_seq ?_
  refine tr_add (r := vec 134 2 (.slice none 0 0) 0 []) vec_nil rfl ?_
  refine tr_region ?_
  refine tl_step rfl (oj_val (y_move (fe_t rfl)) ?_)
  refine tl_step rfl (oj_val (y_move (fe_t rfl)) ?_)
  refine tl_step rfl (oj_callv Try.call96 fe_f (fel_cons (fe_t rfl) (fel_cons (fe_t rfl) fel_nil)) (fun w' hS => wrightE A n c l w' (Rd.below hr hS.below) hn hm) ?_)
  refine tl_step rfl (oj_val (y_not (fe_t rfl)) ?_)
  refine tl_nil ?_
  refine tx_then ?_
  refine tr_cond (fe_t rfl) (fun hq1 => ?_) (fun hq2 => ?_)
  · try (exfalso; omega)
    all_goals
      have hnr : ¬ Rt k l := fun h0 => by have h1 := hq1; rw [rB_t h0] at h1; cases h1
      refine tr_seq ?_
      refine tr_region ?_
      refine tl_step rfl (oj_val (y_assign fe_c) ?_)
      refine tl_step rfl (oj_val (y_assign fe_c) ?_)
      refine tl_nil ?_
      refine tx_then ?_
      refine tr_ret ?_
      refine tx_then_ret ?_
      refine tx_ret (res2 Try.results93 (rok_t rfl) (rok_t rfl)) (fun w' hS => ?_)
      exact ⟨(⟨none, 0, 0, []⟩, [], 1), ⟨.form hnr, rfl, rfl⟩, rfl, hS.pick [0] _ rfl (by decide)⟩
  · try (exfalso; omega)
    all_goals
      have hrt : Rt k l := rB_iff.1 (by have h1 := hq2; simpa using h1)
      have hn4 : n ≤ 400 := by have := hrt.1; omega
      have hk2 := rt_k2 hrt
      have hk1 := rt_k1 hrt
      obtain ⟨p, hpl⟩ := lb_ex (x := x) hrt.up
      have hlk := tb_lookup hrt.up hpl
      have htv := tv_cases hpl
      have htb : 0 ≤ tv l p x ∧ tv l p x ≤ 1099511627776 := by have := hk2 p; have := hk1 p; rcases htv with h | h <;> omega
      refine tr_skip ?_
      refine tx_then ?_
      refine tr_seq ?_
      refine tr_region ?_
      refine tl_step rfl (oj_val (y_move (fe_t rfl)) ?_)
      refine tl_step rfl (oj_call Try.call160 fe_f (fel_cons (fe_t rfl) fel_nil) (fun w' hS => wtableE A n c l w' (Rd.below hr hS.below) hn hm hrt.up hk2 hk1) (fun q0 _ => ?_))
      refine tl_step rfl (oj_val (y_assign (fe_t rfl)) ?_)
      refine tl_nil ?_
      refine tx_then ?_
      refine tr_seq ?_
      refine tr_seq ?_
      refine tr_region ?_
      refine tl_step rfl (oj_val (y_move (fe_t rfl)) ?_)
      refine tl_step rfl (oj_val (y_move (fe_t rfl)) ?_)
      refine tl_step rfl (oj_val (y_asv (y_lookup 0 Try.underlying213 Try.underlying3 Try.zeroValue3 (fe_t rfl) (fe_t rfl) rfl) hlk) ?_)
      refine tl_step rfl (oj_val (y_eq (fe_t rfl) fe_c) ?_)
      refine tl_nil ?_
      refine tx_then ?_
      refine tr_condp (fe_t rfl) (fun hq3 => ?_) (fun hq4 => ?_)
      · try (exfalso; omega)
        all_goals
          refine tr_seq ?_
          refine tr_region ?_
          refine tl_step rfl (oj_val (y_assign fe_c) ?_)
          refine tl_step rfl (oj_val (y_assign fe_c) ?_)
          refine tl_nil ?_
          refine tx_then ?_
          refine tr_ret ?_
          refine tx_then_ret ?_
          refine tx_ret (res2 Try.results93 (rok_t rfl) (rok_t rfl)) (fun w' hS => ?_)
          exact ⟨(⟨none, 0, 0, []⟩, [], 4), ⟨.full p hrt hpl (by omega) (by omega) (by omega), rfl, rfl⟩, rfl, hS.pick [1] _ rfl (by decide)⟩
      · try (exfalso; omega)
        all_goals
          refine tr_skip ?_
          refine tx_then ?_
          refine tr_seq ?_
          refine tr_seq ?_
          refine tr_region ?_
          refine tl_step rfl (oj_val (y_move (fe_t rfl)) ?_)
          refine tl_step rfl (oj_val (y_move (fe_t rfl)) ?_)
          refine tl_step rfl (oj_val (y_asv (y_lookup 0 Try.underlying213 Try.underlying3 Try.zeroValue3 (fe_t rfl) (fe_t rfl) rfl) hlk) ?_)
          refine tl_step rfl (oj_val (y_geq (fe_t rfl) fe_c) ?_)
          refine tl_step rfl (oj_val (y_move (fe_t rfl)) ?_)
          refine tl_splitp (d := 24) rfl (fun hq5 => ?_) (fun hq6 => ?_)
          · try (exfalso; omega)
            all_goals
              refine tl_skip rfl rfl rfl rfl ?_
              refine tl_skip rfl rfl rfl rfl ?_
              refine tl_skip rfl rfl rfl rfl ?_
              refine tl_skip rfl rfl rfl rfl ?_
              refine tl_step rfl (oj_val (y_pickt (fe_t rfl) fe_c) ?_)
              refine tl_nil ?_
              refine tx_then ?_
              refine tr_condt (fe_t rfl) ?_
              refine tr_region ?_
              refine tl_step rfl (oj_val (y_move (fe_t rfl)) ?_)
              refine tl_step rfl (oj_val (y_move (fe_t rfl)) ?_)
              refine tl_step rfl (oj_val (y_asv (y_lookup 0 Try.underlying213 Try.underlying3 Try.zeroValue3 (fe_t rfl) (fe_t rfl) rfl) hlk) ?_)
              refine tl_step rfl (oj_val (y_add (fe_t rfl) fe_c (by omega)) ?_)
              refine tl_step rfl (oj_mapPut 0 Try.underlying213 Try.underlying3 (fe_t rfl) (fe_t rfl) (fe_t rfl) rfl (.inl rfl) (?_))
              refine tl_nil ?_
              refine tx_then ?_
              refine tr_seq ?_
              obtain ⟨l2, hl2, hnd2, hln2, hfin⟩ := wadd_inc hrt hpl (by omega) (by omega)
              refine tr_as (r' := mpR q0 (tb l2) []) 0 rfl (congrArg (fun m => mpR q0 m []) hl2) ?_
              refine tr_region ?_
              refine tl_step rfl (oj_val (y_move (fe_t rfl)) ?_)
              refine tl_step rfl (oj_call2 Try.call161 fe_f (fel_cons (fe_t rfl) fel_nil) (fun w' hS => wsortE (hS.pick [0, 1] [_, _] rfl (by decide)) hnd2 (by omega)) (fun r1 h1 => ?_))
              refine tl_step rfl (oj_val (y_assign (fe_t rfl)) ?_)
              refine tl_step rfl (oj_val (y_assign fe_c) ?_)
              refine tl_nil ?_
              refine tx_then ?_
              refine tr_ret ?_
              refine tx_ret (res2 Try.results93 (rok_t rfl) (rok_t rfl)) (fun w' hS => ?_)
              exact ⟨(r1.1, r1.2, 0), ⟨hfin _ h1.1 h1.2.1, h1.2.2.1, h1.2.2.2⟩, rfl, hS.pick [0] _ rfl (by decide)⟩
          · try (exfalso; omega)
            all_goals
              refine tl_want rfl rfl rfl (oj_val (y_move (fe_t rfl)) ?_)
              refine tl_want rfl rfl rfl (oj_val (y_len Try.underlying127 (fe_t rfl)) ?_)
              refine tl_want rfl rfl rfl (oj_val (y_move (fe_t rfl)) ?_)
              refine tl_want rfl rfl rfl (oj_val (y_lss (fe_t rfl) (fe_t rfl)) ?_)
              refine tl_step rfl (oj_val (y_pickf (fe_t rfl) (fe_t rfl)) ?_)
              refine tl_nil ?_
              refine tx_then ?_
              refine tr_condp (fe_t rfl) (fun hq7 => ?_) (fun hq8 => ?_)
              · try (exfalso; omega)
                all_goals
                  refine tr_region ?_
                  refine tl_step rfl (oj_val (y_move (fe_t rfl)) ?_)
                  refine tl_step rfl (oj_val (y_move (fe_t rfl)) ?_)
                  refine tl_step rfl (oj_val (y_asv (y_lookup 0 Try.underlying213 Try.underlying3 Try.zeroValue3 (fe_t rfl) (fe_t rfl) rfl) hlk) ?_)
                  refine tl_step rfl (oj_val (y_add (fe_t rfl) fe_c (by omega)) ?_)
                  refine tl_step rfl (oj_mapPut 0 Try.underlying213 Try.underlying3 (fe_t rfl) (fe_t rfl) (fe_t rfl) rfl (.inl rfl) (?_))
                  refine tl_nil ?_
                  refine tx_then ?_
                  refine tr_seq ?_
                  obtain ⟨l2, hl2, hnd2, hln2, hfin⟩ := wadd_inc hrt hpl (by omega) (by omega)
                  refine tr_as (r' := mpR q0 (tb l2) []) 0 rfl (congrArg (fun m => mpR q0 m []) hl2) ?_
                  refine tr_region ?_
                  refine tl_step rfl (oj_val (y_move (fe_t rfl)) ?_)
                  refine tl_step rfl (oj_call2 Try.call161 fe_f (fel_cons (fe_t rfl) fel_nil) (fun w' hS => wsortE (hS.pick [0, 1] [_, _] rfl (by decide)) hnd2 (by omega)) (fun r1 h1 => ?_))
                  refine tl_step rfl (oj_val (y_assign (fe_t rfl)) ?_)
                  refine tl_step rfl (oj_val (y_assign fe_c) ?_)
                  refine tl_nil ?_
                  refine tx_then ?_
                  refine tr_ret ?_
                  refine tx_ret (res2 Try.results93 (rok_t rfl) (rok_t rfl)) (fun w' hS => ?_)
                  exact ⟨(r1.1, r1.2, 0), ⟨hfin _ h1.1 h1.2.1, h1.2.2.1, h1.2.2.2⟩, rfl, hS.pick [0] _ rfl (by decide)⟩
              · try (exfalso; omega)
                all_goals
                  refine tr_seq ?_
                  refine tr_region ?_
                  refine tl_step rfl (oj_val (y_move (fe_t rfl)) ?_)
                  refine tl_step rfl (oj_val (y_move (fe_t rfl)) ?_)
                  refine tl_step rfl (oj_mapDel 0 Try.underlying213 Try.underlying3 (fe_t rfl) (fe_t rfl) rfl (?_))
                  refine tl_nil ?_
                  refine tx_then ?_
                  refine tr_seq ?_
                  have hnx : x ∉ l.map (·.1) := not_key hpl (htv.elim (fun h => absurd (hrt.2 p h.1).1 (by omega)) (fun h => h.1)) hrt.up
                  have hnd := up_pair hrt.up
                  refine tr_as (r' := mpR q0 (tb (decL l (l.map (·.1)))) []) 0 rfl (congrArg (fun m => mpR q0 m []) (by rw [mdel_none (by rw [tb_keys]; exact hnx), decL_all])) ?_
                  refine tr_region ?_
                  refine tl_step rfl (oj_val (y_move (fe_t rfl)) ?_)
                  refine tl_step rfl (oj_range 0 Try.underlying213 (fe_t rfl) rfl (fun it => ?_))
                  refine tl_nil ?_
                  refine tx_then ?_
                  refine tr_block ?_
                  refine tr_as (r' := mpR q0 (tb (decL l (l.map (·.1)))) [⟨it, l.map (·.1), none⟩]) 0 rfl (congrArg (fun k => mpR q0 (tb (decL l (l.map (·.1)))) [⟨it, k, none⟩]) (by rw [tb_keys, decL_ids])) ?_
                  refine tr_loop2 [9, 38, 39, 40, 41, 42, 43, 44, 45] (fun (left : List Int) (la : Option Int) => []) 0 (fun (left : List Int) (la : Option Int) => [(0, mpR q0 (tb (decL l left)) [⟨it, left, la⟩])]) (fun (left : List Int) (la : Option Int) => left.length ≤ l.length) (fun (left : List Int) (la : Option Int) => left.length) (l.map (fun c : Int × Int => c.1)) (none) (cov_nil) (fun w h => h) ?_ ?_
                  · try dsimp only
                    simp
                  intro left la hp
                  have hcl := hp
                  refine tr_seq ?_
                  refine tr_region ?_
                  refine tl_step rfl (oj_next 0 (fe_t rfl) rfl rfl (fun hleft1 => ?_) (fun kk1 vv1 hkl1 hkg1 => ?_))
                  · refine tl_step rfl (oj_val (y_extract (fe_t rfl) rfl) ?_)
                    refine tl_nil ?_
                    refine tx_then ?_
                    refine tr_seq ?_
                    refine tr_condf (fe_t rfl) ?_
                    refine tr_exit ?_
                    refine tx_then_exit ?_
                    refine tx_then_exit ?_
                    refine tx_in_exit ?_
                    refine tx_then ?_
                    refine tr_seq ?_
                    refine tr_forget 0 [] rfl (List.nil_sublist _) ?_
                    subst hleft1
                    obtain ⟨l2, hl2, hnd2, hln2, hfin⟩ : ∃ l2, decL l [] = l2 ∧ (l2.map (·.1)).Nodup ∧ l2.length ≤ 1000 ∧ ∀ r, Up r → (∀ c, c ∈ r ↔ c ∈ l2 ∧ 0 < c.2) → AddR k l x r 0 := ⟨_, rfl, by rw [decL_ids]; exact hnd, by rw [decL_len]; omega, wadd_less hrt hpl (by omega) (by omega)⟩
                    refine tr_as (r' := mpR q0 (tb l2) []) 0 rfl (congrArg (fun m => mpR q0 (tb m) []) hl2) ?_
                    refine tr_region ?_
                    refine tl_step rfl (oj_val (y_move (fe_t rfl)) ?_)
                    refine tl_step rfl (oj_call2 Try.call161 fe_f (fel_cons (fe_t rfl) fel_nil) (fun w' hS => wsortE (hS.pick [0, 1] [_, _] rfl (by decide)) hnd2 (by omega)) (fun r1 h1 => ?_))
                    refine tl_step rfl (oj_val (y_assign (fe_t rfl)) ?_)
                    refine tl_step rfl (oj_val (y_assign fe_c) ?_)
                    refine tl_nil ?_
                    refine tx_then ?_
                    refine tr_ret ?_
                    refine tx_ret (res2 Try.results93 (rok_t rfl) (rok_t rfl)) (fun w' hS => ?_)
                    exact ⟨(r1.1, r1.2, 0), ⟨hfin _ h1.1 h1.2.1, h1.2.2.1, h1.2.2.2⟩, rfl, hS.pick [0] _ rfl (by decide)⟩
                  · obtain ⟨ce, hce, hce1, hce2⟩ := tb_some hkg1
                    obtain ⟨j, hj, hj1, hj2⟩ := k_of_mem hce
                    rw [decL_len] at hj
                    rw [(decL_k hj).1] at hj1
                    obtain rfl : kk1 = k1 l j := by omega
                    rw [(decL_k hj).2, if_pos hkl1] at hj2
                    subst hce2
                    have hlk2 : (mget (tb (decL l left)) (k1 l j)).getD (.int .i64 0) = .int .i64 (k2 l j) := by rw [hkg1, ← hj2]; rfl
                    have hkj := hk2 j
                    have hkj1 := hk1 j
                    have hdec : mput (tb (decL l left)) (k1 l j) (.int .i64 (k2 l j - 1)) = tb (decL l (left.filter (· != k1 l j))) := by rw [tb_put_set (by rw [decL_ids]; exact hnd) (by rw [decL_len]; exact hj) (decL_k hj).1, decL_step hnd hj rfl]
                    refine tl_step rfl (oj_val (y_extract (fe_t rfl) rfl) ?_)
                    refine tl_nil ?_
                    refine tx_then ?_
                    refine tr_seq ?_
                    refine tr_condt (fe_t rfl) ?_
                    refine tr_skip ?_
                    refine tx_then ?_
                    refine tr_block ?_
                    refine tr_seq ?_
                    refine tr_region ?_
                    refine tl_step rfl (oj_val (y_entry 0 (fe_t rfl) rfl hkg1) ?_)
                    refine tl_step rfl (oj_val (y_extract (fe_t rfl) rfl) ?_)
                    refine tl_step rfl (oj_val (y_assign (fe_t rfl)) ?_)
                    refine tl_nil ?_
                    refine tx_then ?_
                    refine tr_region ?_
                    refine tl_step rfl (oj_val (y_move (fe_t rfl)) ?_)
                    refine tl_step rfl (oj_val (y_move (fe_t rfl)) ?_)
                    refine tl_step rfl (oj_val (y_asv (y_lookup 0 Try.underlying213 Try.underlying3 Try.zeroValue3 (fe_t rfl) (fe_t rfl) rfl) hlk2) ?_)
                    refine tl_step rfl (oj_val (y_sub (fe_t rfl) fe_c (by omega)) ?_)
                    refine tl_step rfl (oj_mapPut 0 Try.underlying213 Try.underlying3 (fe_t rfl) (fe_t rfl) (fe_t rfl) rfl (.inr (by rw [tb_keys, decL_ids]; exact List.mem_map.2 ⟨_, mem_k hj, rfl⟩)) (?_))
                    refine tl_nil ?_
                    refine tx_in ?_
                    apply tx_back2 (left.filter (· != k1 l j)) (some (k1 l j))
                    · exact (cov_nil)
                    · repeat (first | exact over_nil | refine over_put rfl ?_ | refine over_drop rfl ?_)
                    · exact fun w h => (by (try dsimp only); rw [← hdec]; exact h.pick [0, 1] _ rfl (by decide))
                    · exact ⟨by have := left_less hkl1; omega, left_less hkl1⟩

end Go.Proofs.Ytcpdelkamckmfaa.Heavy
