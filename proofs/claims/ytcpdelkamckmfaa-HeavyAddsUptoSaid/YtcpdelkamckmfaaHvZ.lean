/- the law HeavyAdds. -/
import Derived.Test.YtcpdelkamckmfaaHvY
namespace Go.Proofs.Ytcpdelkamckmfaa.Heavy
open Go.RowKit Go.Proofs.Ytcpdelkamckmfaa.E

theorem addr_len {k x e : Int} {l r : List (Int × Int)} (h : AddR k l x r e) : r.length ≤ 1000000 := by
  cases h with
  | form h => simp
  | full p h => simp
  | inc p h => rw [List.length_set]; have := h.1; omega
  | new p h hp => rw [List.length_append, List.length_cons, List.length_take, List.length_drop]; have := h.1; have := hp.le; omega
  | less p h => have := lessF_len (l := l) (n := 1); have := h.1; omega

set_option maxRecDepth 100000 in
set_option maxHeartbeats 4000000 in
theorem law_bad (A : Option Addr) (n c : Nat) (l : List (Int × Int)) (D : Option Addr) (m d : Nat) (zs : List Int) (w : World) (hr : Rd w A (l.flatMap c2)) (hn : l.length = n) (hm : n ≤ 140737488355328) (hz : Rd w D (zs.map (.int .i64))) (hzl : zs.length = m) {k x : Int} (hk : k < 1 ∨ 400 < k) :
    Calls Try.prog 13 #[(.int .i64 k), .slice A n c, (.int .i64 x), .slice D m d] w fun e w' => e = .returned (.bool true) ∧ St w w' [] := by
  refine calls_tr Try.func13 Try.ntmps13 rfl rfl (St.refl _) ?_
  refine tr_seq ?_
  refine tr_region ?_
  refine tl_step rfl (oj_val (y_assign fe_c) ?_)
  refine tl_nil ?_
  refine tx_then ?_
  refine tr_seq ?_
  refine tr_region ?_
  refine tl_step rfl (oj_val (y_move (fe_t rfl)) ?_)
  refine tl_step rfl (oj_val (y_move (fe_t rfl)) ?_)
  refine tl_step rfl (oj_val (y_move (fe_t rfl)) ?_)
  refine tl_step rfl (oj_call Try.call92 fe_f (fel_cons (fe_t rfl) (fel_cons (fe_t rfl) (fel_cons (fe_t rfl) fel_nil))) (fun w' hS => addE A n c l w' (Rd.below hr hS.below) hn hm) (fun r1 h1 => ?_))
  refine tl_step rfl (oj_val (y_move (fe_t rfl)) ?_)
  refine tl_step rfl (oj_val (y_extract (fe_t rfl) rfl) ?_)
  refine tl_step rfl (oj_val (y_extract (fe_t rfl) rfl) ?_)
  refine tl_step rfl (oj_val (y_assign (fe_t rfl)) ?_)
  refine tl_step rfl (oj_val (y_assign (fe_t rfl)) ?_)
  refine tl_nil ?_
  refine tx_then ?_
  refine tr_seq ?_
  refine tr_region ?_
  refine tl_step rfl (oj_val (y_move (fe_t rfl)) ?_)
  refine tl_step rfl (oj_val (y_move (fe_t rfl)) ?_)
  refine tl_step rfl (oj_val (y_move (fe_t rfl)) ?_)
  refine tl_step rfl (oj_call Try.call93 fe_f (fel_cons (fe_t rfl) (fel_cons (fe_t rfl) (fel_cons (fe_t rfl) fel_nil))) (fun w' hS => waddE A n c l w' (Rd.below hr hS.below) hn hm) (fun r2 h2 => ?_))
  refine tl_step rfl (oj_val (y_move (fe_t rfl)) ?_)
  refine tl_step rfl (oj_val (y_extract (fe_t rfl) rfl) ?_)
  refine tl_step rfl (oj_val (y_extract (fe_t rfl) rfl) ?_)
  refine tl_step rfl (oj_val (y_assign (fe_t rfl)) ?_)
  refine tl_step rfl (oj_val (y_assign (fe_t rfl)) ?_)
  refine tl_nil ?_
  refine tx_then ?_
  refine tr_seq ?_
  have hu := AddR.uniq h1.1 h2.1
  have hu2 := hu.2
  refine tr_region ?_
  refine tl_step rfl (oj_val (y_move (fe_t rfl)) ?_)
  refine tl_step rfl (oj_val (y_move (fe_t rfl)) ?_)
  refine tl_step rfl (oj_callv Try.call94 fe_f (fel_cons (fe_t rfl) (fel_cons (fe_t rfl) fel_nil)) (fun w' hS => all_bad D m d zs w' (Rd.below hz hS.below) hzl hk) ?_)
  refine tl_step rfl (oj_val (y_move (fe_t rfl)) ?_)
  refine tl_step rfl (oj_val (y_extract (fe_t rfl) rfl) ?_)
  refine tl_step rfl (oj_val (y_extract (fe_t rfl) rfl) ?_)
  refine tl_step rfl (oj_val (y_assign (fe_t rfl)) ?_)
  refine tl_step rfl (oj_val (y_assign (fe_t rfl)) ?_)
  refine tl_nil ?_
  refine tx_then ?_
  refine tr_seq ?_
  refine tr_seq ?_
  refine tr_region ?_
  refine tl_step rfl (oj_val (y_move (fe_t rfl)) ?_)
  refine tl_step rfl (oj_val (y_move (fe_t rfl)) ?_)
  refine tl_step rfl (oj_callv Try.call95 fe_f (fel_cons (fe_t rfl) (fel_cons (fe_t rfl) fel_nil)) (fun w' hS => rightE A n c l w' (Rd.below hr hS.below) hn hm) ?_)
  refine tl_step rfl (oj_val (y_move (fe_t rfl)) ?_)
  refine tl_step rfl (oj_val (y_move (fe_t rfl)) ?_)
  refine tl_step rfl (oj_callv Try.call96 fe_f (fel_cons (fe_t rfl) (fel_cons (fe_t rfl) fel_nil)) (fun w' hS => wrightE A n c l w' (Rd.below hr hS.below) hn hm) ?_)
  refine tl_step rfl (oj_val (y_asv (v' := .bool false) (y_neqb Try.underlying4 (fe_t rfl) (fe_t rfl)) (by simp)) ?_)
  refine tl_step rfl (oj_val (y_move (fe_t rfl)) ?_)
  refine tl_want rfl rfl rfl (oj_val (y_move (fe_t rfl)) ?_)
  refine tl_want rfl rfl rfl (oj_val (y_move (fe_t rfl)) ?_)
  refine tl_want rfl rfl rfl (oj_val (y_neq (fe_t rfl) (fe_t rfl)) ?_)
  refine tl_step rfl (oj_val (y_pickf (fe_t rfl) (fe_t rfl)) ?_)
  refine tl_step rfl (oj_val (y_move (fe_t rfl)) ?_)
  refine tl_splitp (d := 50) rfl (fun hq1 => ?_) (fun hq2 => ?_)
  · try (exfalso; omega)
    all_goals
      refine tl_skip rfl rfl rfl rfl ?_
      refine tl_skip rfl rfl rfl rfl ?_
      refine tl_skip rfl rfl rfl rfl ?_
      refine tl_skip rfl rfl rfl rfl ?_
      refine tl_step rfl (oj_val (y_pickt (fe_t rfl) fe_c) ?_)
      refine tl_nil ?_
      refine tx_then ?_
      exfalso; omega
  · try (exfalso; omega)
    all_goals
      refine tl_want rfl rfl rfl (oj_val (y_move (fe_t rfl)) ?_)
      refine tl_want rfl rfl rfl (oj_val (y_move (fe_t rfl)) ?_)
      refine tl_want rfl rfl rfl (oj_callv Try.call97 fe_f (fel_cons (fe_t rfl) (fel_cons (fe_t rfl) fel_nil)) (fun w' hS => same_counts hu.1 h1.2 h2.2 w' (hS.holds 1 _ rfl) (hS.holds 0 _ rfl) (addr_len h1.1)) ?_)
      refine tl_want rfl rfl rfl (oj_val (y_not (fe_t rfl)) ?_)
      refine tl_step rfl (oj_val (y_pickf (fe_t rfl) (fe_t rfl)) ?_)
      refine tl_nil ?_
      refine tx_then ?_
      refine tr_condf (fe_t rfl) ?_
      refine tr_skip ?_
      refine tx_then ?_
      refine tr_seq ?_
      refine tr_seq ?_
      refine tr_region ?_
      refine tl_step rfl (oj_val (y_move (fe_t rfl)) ?_)
      refine tl_step rfl (oj_val (y_lss (fe_t rfl) fe_c) ?_)
      refine tl_step rfl (oj_val (y_move (fe_t rfl)) ?_)
      refine tl_splitp (d := 58) rfl (fun hq3 => ?_) (fun hq4 => ?_)
      · try (exfalso; omega)
        all_goals
          refine tl_skip rfl rfl rfl rfl ?_
          refine tl_skip rfl rfl rfl rfl ?_
          refine tl_step rfl (oj_val (y_pickt (fe_t rfl) fe_c) ?_)
          refine tl_nil ?_
          refine tx_then ?_
          refine tr_condt (fe_t rfl) ?_
          refine tr_seq ?_
          refine tr_region ?_
          refine tl_step rfl (oj_val (y_move (fe_t rfl)) ?_)
          refine tl_step rfl (oj_val (y_eq (fe_t rfl) fe_c) ?_)
          refine tl_step rfl (oj_val (y_move (fe_t rfl)) ?_)
          refine tl_splitp (d := 64) rfl (fun hq5 => ?_) (fun hq6 => ?_)
          · try (exfalso; omega)
            all_goals
              refine tl_want rfl rfl rfl (oj_val (y_move (fe_t rfl)) ?_)
              refine tl_want rfl rfl rfl (oj_val (y_len Try.underlying127 (fe_t rfl)) ?_)
              refine tl_want rfl rfl rfl (oj_val (y_eq (fe_t rfl) fe_c) ?_)
              refine tl_step rfl (oj_val (y_pickt (fe_t rfl) (fe_t rfl)) ?_)
              refine tl_step rfl (oj_val (y_assign (fe_t rfl)) ?_)
              refine tl_nil ?_
              refine tx_then ?_
              refine tr_ret ?_
              refine tx_then_ret ?_
              refine tx_ret (res1 Try.results13 (rok_t rfl)) (fun w' hS => ?_)
              exact ⟨ret_bool (by first | rfl | (simp; done) | (simp [*]; done)), hS.pick [] _ rfl (by decide)⟩
          · try (exfalso; omega)
            all_goals
              refine tl_skip rfl rfl rfl rfl ?_
              refine tl_skip rfl rfl rfl rfl ?_
              refine tl_skip rfl rfl rfl rfl ?_
              refine tl_step rfl (oj_val (y_pickf (fe_t rfl) fe_c) ?_)
              refine tl_step rfl (oj_val (y_assign (fe_t rfl)) ?_)
              refine tl_nil ?_
              refine tx_then ?_
              refine tr_ret ?_
              refine tx_then_ret ?_
              refine tx_ret (res1 Try.results13 (rok_t rfl)) (fun w' hS => ?_)
              exact ⟨ret_bool (by first | rfl | (simp; done) | (simp [*]; done)), hS.pick [] _ rfl (by decide)⟩
      · try (exfalso; omega)
        all_goals
          refine tl_want rfl rfl rfl (oj_val (y_move (fe_t rfl)) ?_)
          refine tl_want rfl rfl rfl (oj_val (y_gtr (fe_t rfl) fe_c) ?_)
          refine tl_step rfl (oj_val (y_pickf (fe_t rfl) (fe_t rfl)) ?_)
          refine tl_nil ?_
          refine tx_then ?_
          refine tr_condp (fe_t rfl) (fun hq7 => ?_) (fun hq8 => ?_)
          · try (exfalso; omega)
            all_goals
              refine tr_seq ?_
              refine tr_region ?_
              refine tl_step rfl (oj_val (y_move (fe_t rfl)) ?_)
              refine tl_step rfl (oj_val (y_eq (fe_t rfl) fe_c) ?_)
              refine tl_step rfl (oj_val (y_move (fe_t rfl)) ?_)
              refine tl_splitp (d := 64) rfl (fun hq9 => ?_) (fun hq10 => ?_)
              · try (exfalso; omega)
                all_goals
                  refine tl_want rfl rfl rfl (oj_val (y_move (fe_t rfl)) ?_)
                  refine tl_want rfl rfl rfl (oj_val (y_len Try.underlying127 (fe_t rfl)) ?_)
                  refine tl_want rfl rfl rfl (oj_val (y_eq (fe_t rfl) fe_c) ?_)
                  refine tl_step rfl (oj_val (y_pickt (fe_t rfl) (fe_t rfl)) ?_)
                  refine tl_step rfl (oj_val (y_assign (fe_t rfl)) ?_)
                  refine tl_nil ?_
                  refine tx_then ?_
                  refine tr_ret ?_
                  refine tx_then_ret ?_
                  refine tx_ret (res1 Try.results13 (rok_t rfl)) (fun w' hS => ?_)
                  exact ⟨ret_bool (by first | rfl | (simp; done) | (simp [*]; done)), hS.pick [] _ rfl (by decide)⟩
              · try (exfalso; omega)
                all_goals
                  refine tl_skip rfl rfl rfl rfl ?_
                  refine tl_skip rfl rfl rfl rfl ?_
                  refine tl_skip rfl rfl rfl rfl ?_
                  refine tl_step rfl (oj_val (y_pickf (fe_t rfl) fe_c) ?_)
                  refine tl_step rfl (oj_val (y_assign (fe_t rfl)) ?_)
                  refine tl_nil ?_
                  refine tx_then ?_
                  refine tr_ret ?_
                  refine tx_then_ret ?_
                  refine tx_ret (res1 Try.results13 (rok_t rfl)) (fun w' hS => ?_)
                  exact ⟨ret_bool (by first | rfl | (simp; done) | (simp [*]; done)), hS.pick [] _ rfl (by decide)⟩
          · exfalso; omega

set_option maxRecDepth 100000 in
set_option maxHeartbeats 4000000 in
theorem law_ok (A : Option Addr) (n c : Nat) (l : List (Int × Int)) (D : Option Addr) (m d : Nat) (zs : List Int) (w : World) (hr : Rd w A (l.flatMap c2)) (hn : l.length = n) (hm : n ≤ 140737488355328) (hz : Rd w D (zs.map (.int .i64))) (hzl : zs.length = m) {k x : Int} (hm6 : m ≤ 1048576) (hk : 1 ≤ k ∧ k ≤ 400) :
    Calls Try.prog 13 #[(.int .i64 k), .slice A n c, (.int .i64 x), .slice D m d] w fun e w' => e = .returned (.bool true) ∧ St w w' [] := by
  refine calls_tr Try.func13 Try.ntmps13 rfl rfl (St.refl _) ?_
  refine tr_seq ?_
  refine tr_region ?_
  refine tl_step rfl (oj_val (y_assign fe_c) ?_)
  refine tl_nil ?_
  refine tx_then ?_
  refine tr_seq ?_
  refine tr_region ?_
  refine tl_step rfl (oj_val (y_move (fe_t rfl)) ?_)
  refine tl_step rfl (oj_val (y_move (fe_t rfl)) ?_)
  refine tl_step rfl (oj_val (y_move (fe_t rfl)) ?_)
  refine tl_step rfl (oj_call Try.call92 fe_f (fel_cons (fe_t rfl) (fel_cons (fe_t rfl) (fel_cons (fe_t rfl) fel_nil))) (fun w' hS => addE A n c l w' (Rd.below hr hS.below) hn hm) (fun r1 h1 => ?_))
  refine tl_step rfl (oj_val (y_move (fe_t rfl)) ?_)
  refine tl_step rfl (oj_val (y_extract (fe_t rfl) rfl) ?_)
  refine tl_step rfl (oj_val (y_extract (fe_t rfl) rfl) ?_)
  refine tl_step rfl (oj_val (y_assign (fe_t rfl)) ?_)
  refine tl_step rfl (oj_val (y_assign (fe_t rfl)) ?_)
  refine tl_nil ?_
  refine tx_then ?_
  refine tr_seq ?_
  refine tr_region ?_
  refine tl_step rfl (oj_val (y_move (fe_t rfl)) ?_)
  refine tl_step rfl (oj_val (y_move (fe_t rfl)) ?_)
  refine tl_step rfl (oj_val (y_move (fe_t rfl)) ?_)
  refine tl_step rfl (oj_call Try.call93 fe_f (fel_cons (fe_t rfl) (fel_cons (fe_t rfl) (fel_cons (fe_t rfl) fel_nil))) (fun w' hS => waddE A n c l w' (Rd.below hr hS.below) hn hm) (fun r2 h2 => ?_))
  refine tl_step rfl (oj_val (y_move (fe_t rfl)) ?_)
  refine tl_step rfl (oj_val (y_extract (fe_t rfl) rfl) ?_)
  refine tl_step rfl (oj_val (y_extract (fe_t rfl) rfl) ?_)
  refine tl_step rfl (oj_val (y_assign (fe_t rfl)) ?_)
  refine tl_step rfl (oj_val (y_assign (fe_t rfl)) ?_)
  refine tl_nil ?_
  refine tx_then ?_
  refine tr_seq ?_
  have hu := AddR.uniq h1.1 h2.1
  have hu2 := hu.2
  refine tr_region ?_
  refine tl_step rfl (oj_val (y_move (fe_t rfl)) ?_)
  refine tl_step rfl (oj_val (y_move (fe_t rfl)) ?_)
  refine tl_step rfl (oj_call Try.call94 fe_f (fel_cons (fe_t rfl) (fel_cons (fe_t rfl) fel_nil)) (fun w' hS => all_ok D m d zs w' (Rd.below hz hS.below) hzl hm6 hk) (fun r3 h3 => ?_))
  refine tl_step rfl (oj_val (y_move (fe_t rfl)) ?_)
  refine tl_step rfl (oj_val (y_extract (fe_t rfl) rfl) ?_)
  refine tl_step rfl (oj_val (y_extract (fe_t rfl) rfl) ?_)
  refine tl_step rfl (oj_val (y_assign (fe_t rfl)) ?_)
  refine tl_step rfl (oj_val (y_assign (fe_t rfl)) ?_)
  refine tl_nil ?_
  refine tx_then ?_
  refine tr_seq ?_
  refine tr_seq ?_
  refine tr_region ?_
  refine tl_step rfl (oj_val (y_move (fe_t rfl)) ?_)
  refine tl_step rfl (oj_val (y_move (fe_t rfl)) ?_)
  refine tl_step rfl (oj_callv Try.call95 fe_f (fel_cons (fe_t rfl) (fel_cons (fe_t rfl) fel_nil)) (fun w' hS => rightE A n c l w' (Rd.below hr hS.below) hn hm) ?_)
  refine tl_step rfl (oj_val (y_move (fe_t rfl)) ?_)
  refine tl_step rfl (oj_val (y_move (fe_t rfl)) ?_)
  refine tl_step rfl (oj_callv Try.call96 fe_f (fel_cons (fe_t rfl) (fel_cons (fe_t rfl) fel_nil)) (fun w' hS => wrightE A n c l w' (Rd.below hr hS.below) hn hm) ?_)
  refine tl_step rfl (oj_val (y_asv (v' := .bool false) (y_neqb Try.underlying4 (fe_t rfl) (fe_t rfl)) (by simp)) ?_)
  refine tl_step rfl (oj_val (y_move (fe_t rfl)) ?_)
  refine tl_want rfl rfl rfl (oj_val (y_move (fe_t rfl)) ?_)
  refine tl_want rfl rfl rfl (oj_val (y_move (fe_t rfl)) ?_)
  refine tl_want rfl rfl rfl (oj_val (y_neq (fe_t rfl) (fe_t rfl)) ?_)
  refine tl_step rfl (oj_val (y_pickf (fe_t rfl) (fe_t rfl)) ?_)
  refine tl_step rfl (oj_val (y_move (fe_t rfl)) ?_)
  refine tl_splitp (d := 50) rfl (fun hq1 => ?_) (fun hq2 => ?_)
  · try (exfalso; omega)
    all_goals
      refine tl_skip rfl rfl rfl rfl ?_
      refine tl_skip rfl rfl rfl rfl ?_
      refine tl_skip rfl rfl rfl rfl ?_
      refine tl_skip rfl rfl rfl rfl ?_
      refine tl_step rfl (oj_val (y_pickt (fe_t rfl) fe_c) ?_)
      refine tl_nil ?_
      refine tx_then ?_
      exfalso; omega
  · try (exfalso; omega)
    all_goals
      refine tl_want rfl rfl rfl (oj_val (y_move (fe_t rfl)) ?_)
      refine tl_want rfl rfl rfl (oj_val (y_move (fe_t rfl)) ?_)
      refine tl_want rfl rfl rfl (oj_callv Try.call97 fe_f (fel_cons (fe_t rfl) (fel_cons (fe_t rfl) fel_nil)) (fun w' hS => same_counts hu.1 h1.2 h2.2 w' (hS.holds 2 _ rfl) (hS.holds 1 _ rfl) (addr_len h1.1)) ?_)
      refine tl_want rfl rfl rfl (oj_val (y_not (fe_t rfl)) ?_)
      refine tl_step rfl (oj_val (y_pickf (fe_t rfl) (fe_t rfl)) ?_)
      refine tl_nil ?_
      refine tx_then ?_
      refine tr_condf (fe_t rfl) ?_
      refine tr_skip ?_
      refine tx_then ?_
      refine tr_seq ?_
      refine tr_seq ?_
      refine tr_region ?_
      refine tl_step rfl (oj_val (y_move (fe_t rfl)) ?_)
      refine tl_step rfl (oj_val (y_lss (fe_t rfl) fe_c) ?_)
      refine tl_step rfl (oj_val (y_move (fe_t rfl)) ?_)
      refine tl_splitp (d := 58) rfl (fun hq3 => ?_) (fun hq4 => ?_)
      · try (exfalso; omega)
        all_goals
          refine tl_skip rfl rfl rfl rfl ?_
          refine tl_skip rfl rfl rfl rfl ?_
          refine tl_step rfl (oj_val (y_pickt (fe_t rfl) fe_c) ?_)
          refine tl_nil ?_
          refine tx_then ?_
          exfalso; omega
      · try (exfalso; omega)
        all_goals
          refine tl_want rfl rfl rfl (oj_val (y_move (fe_t rfl)) ?_)
          refine tl_want rfl rfl rfl (oj_val (y_gtr (fe_t rfl) fe_c) ?_)
          refine tl_step rfl (oj_val (y_pickf (fe_t rfl) (fe_t rfl)) ?_)
          refine tl_nil ?_
          refine tx_then ?_
          refine tr_condp (fe_t rfl) (fun hq5 => ?_) (fun hq6 => ?_)
          · exfalso; omega
          · try (exfalso; omega)
            all_goals
              refine tr_skip ?_
              refine tx_then ?_
              refine tr_seq ?_
              refine tr_region ?_
              refine tl_step rfl (oj_val (y_assign fe_c) ?_)
              refine tl_nil ?_
              refine tx_then ?_
              refine tr_seq ?_
              refine tr_seq ?_
              refine tr_region ?_
              refine tl_step rfl (oj_val (y_move (fe_t rfl)) ?_)
              refine tl_step rfl (oj_val (y_len Try.underlying79 (fe_t rfl)) ?_)
              refine tl_step rfl (oj_val (y_move fe_c) ?_)
              refine tl_nil ?_
              refine tx_then ?_
              refine tr_block ?_
              refine tr_add (r := vec 134 2 (.slice none 0 0) 0 []) vec_nil rfl ?_
              refine tr_loop3 [15, 17, 71, 72, 73, 74, 75, 76, 77, 78, 79, 80, 81, 82] (fun (i : Nat) (L : List (Int × Int)) (z4 : Vs) => [(71, .int .i64 (i : Int)), (15, .slice z4.A z4.n z4.c)]) 0 (fun (i : Nat) (L : List (Int × Int)) (z4 : Vs) => [(0, vec 134 2 (.slice z4.A z4.n z4.c) z4.n z4.xs)]) (fun (i : Nat) (L : List (Int × Int)) (z4 : Vs) => i ≤ m ∧ AllR k zs i L ∧ z4.n = L.length ∧ z4.xs = L.flatMap c2) (fun (i : Nat) (L : List (Int × Int)) (z4 : Vs) => m - i) (0) ([]) (⟨none, 0, 0, []⟩ : Vs) (cov_cons (by first | rfl | exact v_int (by omega) | exact v_bool (by simp [*])) (cov_cons (by first | rfl | exact v_int (by omega) | exact v_bool (by simp [*])) (cov_nil))) (fun w h => h) ?_ ?_
              · try dsimp only
                exact ⟨by omega, rfl, rfl, rfl⟩
              intro i L z4 hp
              obtain ⟨hi, hall, hzn, hzx⟩ := hp
              have hrb := all_rb hk (by omega) hall
              have hln := hrb.rt.1.2.2
              refine tr_seq ?_
              refine tr_region ?_
              refine tl_step rfl (oj_val (y_lss (fe_t rfl) (fe_t rfl)) ?_)
              refine tl_nil ?_
              refine tx_then ?_
              refine tr_seq ?_
              refine tr_condp (fe_t rfl) (fun hq7 => ?_) (fun hq8 => ?_)
              · try (exfalso; omega)
                all_goals
                  refine tr_skip ?_
                  refine tx_then ?_
                  refine tr_seq ?_
                  refine tr_block ?_
                  refine tr_seq ?_
                  refine tr_region ?_
                  refine tl_step rfl (oj_val (y_index Try.underlying79 Try.sizeOf3 (fe_t rfl) (fe_t rfl) (rdl_out hz) (by simp; omega) (by decide) (by omega) (Nat.mul_one _)) ?_)
                  refine tl_step rfl (oj_val (y_ld Try.isAgg3 (fe_t rfl) (rdl_out hz) (getWz (by omega))) ?_)
                  refine tl_step rfl (oj_val (y_assign (fe_t rfl)) ?_)
                  refine tl_nil ?_
                  refine tx_then ?_
                  refine tr_region ?_
                  refine tl_step rfl (oj_val (y_move (fe_t rfl)) ?_)
                  refine tl_step rfl (oj_val (y_move (fe_t rfl)) ?_)
                  refine tl_step rfl (oj_val (y_move (fe_t rfl)) ?_)
                  refine tl_step rfl (oj_call Try.call93 fe_f (fel_cons (fe_t rfl) (fel_cons (fe_t rfl) (fel_cons (fe_t rfl) fel_nil))) (fun w' hS => waddE z4.A z4.n z4.c L w' (hzx ▸ (OwnV.rd (hS.holds 0 _ rfl)).2.2) hzn.symm (by omega)) (fun r4 h4 => ?_))
                  refine tl_step rfl (oj_val (y_move (fe_t rfl)) ?_)
                  refine tl_step rfl (oj_val (y_extract (fe_t rfl) rfl) ?_)
                  refine tl_step rfl (oj_val (y_extract (fe_t rfl) rfl) ?_)
                  refine tl_step rfl (oj_val (y_assign (fe_t rfl)) ?_)
                  refine tl_nil ?_
                  refine tx_in ?_
                  refine tx_then ?_
                  refine tr_region ?_
                  refine tl_step rfl (oj_val (y_inc (fe_t rfl) fe_c (by omega)) ?_)
                  refine tl_step rfl (oj_val (y_move (fe_t rfl)) ?_)
                  refine tl_nil ?_
                  apply tx_back3 (i + 1) (r4.2.1) (r4.1)
                  · exact (cov_cons (by first | rfl | exact v_int (by omega) | exact v_bool (by simp [*])) (cov_cons (by first | rfl | exact v_int (by omega) | exact v_bool (by simp [*])) (cov_nil)))
                  · repeat (first | exact over_nil | refine over_put rfl ?_ | refine over_drop rfl ?_)
                  · exact fun w h => h.pick [0, 2, 3, 4] _ rfl (by decide)
                  · exact ⟨⟨by omega, ⟨L, hall, (add_rb hrb (by omega) h4.1).1 ▸ h4.1⟩, h4.2.1, h4.2.2⟩, by omega⟩
              · try (exfalso; omega)
                all_goals
                  refine tr_exit ?_
                  refine tx_then_exit ?_
                  refine tx_then_exit ?_
                  refine tx_in_exit ?_
                  refine tx_then ?_
                  refine tr_seq ?_
                  obtain rfl : i = m := by omega
                  refine tr_region ?_
                  refine tl_step rfl (oj_val (y_move (fe_t rfl)) ?_)
                  refine tl_step rfl (oj_val (y_eq (fe_t rfl) fe_c) ?_)
                  refine tl_step rfl (oj_val (y_move (fe_t rfl)) ?_)
                  refine tl_splitp (d := 85) rfl (fun hq9 => ?_) (fun hq10 => ?_)
                  · try (exfalso; omega)
                    all_goals
                      refine tl_want rfl rfl rfl (oj_val (y_move (fe_t rfl)) ?_)
                      refine tl_want rfl rfl rfl (oj_val (y_move (fe_t rfl)) ?_)
                      refine tl_want rfl rfl rfl (oj_callv Try.call97 fe_f (fel_cons (fe_t rfl) (fel_cons (fe_t rfl) fel_nil)) (fun w' hS => same_counts (all_uniq h3.1 hall) h3.2 ⟨hzn, hzx⟩ w' (hS.holds 1 _ rfl) (hS.holds 0 _ rfl) (by rw [all_uniq h3.1 hall]; omega)) ?_)
                      refine tl_step rfl (oj_val (y_pickt (fe_t rfl) (fe_t rfl)) ?_)
                      refine tl_step rfl (oj_val (y_assign (fe_t rfl)) ?_)
                      refine tl_nil ?_
                      refine tx_then ?_
                      refine tr_ret ?_
                      refine tx_ret (res1 Try.results13 (rok_t rfl)) (fun w' hS => ?_)
                      exact ⟨ret_bool (by first | rfl | (simp; done) | (simp [*]; done)), hS.pick [] _ rfl (by decide)⟩
                  · try (exfalso; omega)
                    all_goals
                      refine tl_skip rfl rfl rfl rfl ?_
                      refine tl_skip rfl rfl rfl rfl ?_
                      refine tl_skip rfl rfl rfl rfl ?_
                      refine tl_step rfl (oj_val (y_pickf (fe_t rfl) fe_c) ?_)
                      refine tl_step rfl (oj_val (y_assign (fe_t rfl)) ?_)
                      refine tl_nil ?_
                      refine tx_then ?_
                      refine tr_ret ?_
                      refine tx_ret (res1 Try.results13 (rok_t rfl)) (fun w' hS => ?_)
                      exact ⟨ret_bool (by first | rfl | (simp; done) | (simp [*]; done)), hS.pick [] _ rfl (by decide)⟩

end Go.Proofs.Ytcpdelkamckmfaa.Heavy
