/- heavy.Add. -/
import Derived.Test.YtcpdelkamckmfaaHvA
import Derived.Test.YtcpdelkamckmfaaHvI
namespace Go.Proofs.Ytcpdelkamckmfaa.Heavy
open Go.RowKit Go.Proofs.Ytcpdelkamckmfaa.E

theorem rd_none {w : World} {l : List (Int × Int)} {A : Option Addr} (h : Rd w A (l.flatMap c2)) : A = none → l = [] := fun e => by
  subst e
  rcases h with h | ⟨g, o, h, _⟩
  · cases l with
    | nil => rfl
    | cons a l => simp [c2] at h
  · cases h
theorem rt_k2 {k : Int} {l : List (Int × Int)} (h : Rt k l) : ∀ i, k2 l i ≤ 1099511627776 := fun i => by
  by_cases hi : i < l.length
  · exact (h.2 i hi).2.1
  · unfold k2
    rw [List.getD_eq_getElem?_getD, List.getElem?_eq_none (by omega)]
    decide
theorem cloneV (A : Option Addr) (n c : Nat) (l : List (Int × Int)) (w : World) (hr : Rd w A (l.flatMap c2)) (hn : l.length = n) (hm : n ≤ 140737488355328) (h4 : n ≤ 1000000) :
    Calls Try.prog 157 #[.slice A n c] w fun e w' => ∃ r : Option Addr × Nat, True ∧ e = .returned (.slice r.1 n r.2) ∧ St w w' [vec 134 2 (.slice r.1 n r.2) n (l.flatMap c2)] :=
  (cloneE A n c l w hr hn hm h4 (rd_none hr)).mono fun e w' ⟨r, ⟨h1, h2⟩, he, h⟩ => by
    obtain ⟨A', n', c', xs⟩ := r
    dsimp only at h1 h2 he h
    subst h2
    obtain rfl : n' = n := by omega
    exact ⟨(A', c'), trivial, he, h⟩
set_option maxRecDepth 100000 in
set_option maxHeartbeats 4000000 in
theorem addE (A : Option Addr) (n c : Nat) (l : List (Int × Int)) (w : World) (hr : Rd w A (l.flatMap c2)) (hn : l.length = n) (hm : n ≤ 140737488355328) {k x : Int} :
    Calls Try.prog 92 #[(.int .i64 k), .slice A n c, (.int .i64 x)] w fun e w' => ∃ r : Vs × List (Int × Int) × Int, (AddR k l x r.2.1 r.2.2 ∧ r.1.n = r.2.1.length ∧ r.1.xs = r.2.1.flatMap c2) ∧ e = .returned (.tuple #[.slice r.1.A r.1.n r.1.c, (.int .i64 r.2.2)]) ∧ St w w' [vec 134 2 (.slice r.1.A r.1.n r.1.c) r.1.n r.1.xs] := by
  refine calls_tr Try.func92 Try.ntmps92 rfl rfl (St.refl _) ?_
  refine tr_seq ?_
  refine tr_region ?_
  refine tl_step rfl (oj_val (y_assign fe_c) ?_)
  refine tl_step rfl (oj_val (y_assign fe_c) ?_)
  refine tl_nil ?_
  refine tx_then ?_
  refine tr_seq ?_
  refine tr_seq ?_
  refine tr_add (r := vec 134 2 (.slice none 0 0) 0 []) vec_nil rfl ?_
  refine tr_region ?_
  refine tl_step rfl (oj_val (y_move (fe_t rfl)) ?_)
  refine tl_step rfl (oj_val (y_move (fe_t rfl)) ?_)
  refine tl_step rfl (oj_callv Try.call95 fe_f (fel_cons (fe_t rfl) (fel_cons (fe_t rfl) fel_nil)) (fun w' hS => rightE A n c l w' (Rd.below hr hS.below) hn hm) ?_)
  refine tl_step rfl (oj_val (y_not (fe_t rfl)) ?_)
  refine tl_nil ?_
  refine tx_then ?_
  refine tr_cond (fe_t rfl) (fun hq1 => ?_) (fun hq2 => ?_)
  · try (exfalso; omega)
    all_goals
      have hnr : ¬ Rt k l := fun h0 => by have h1 := hq1; rw [rB_t h0] at h1; cases h1
      refine tr_seq ?_
      refine tr_region ?_
      refine tl_step rfl (oj_val (y_assign fe_c) ?_)
      refine tl_step rfl (oj_val (y_assign fe_c) ?_)
      refine tl_nil ?_
      refine tx_then ?_
      refine tr_ret ?_
      refine tx_then_ret ?_
      refine tx_ret (res2 Try.results92 (rok_t rfl) (rok_t rfl)) (fun w' hS => ?_)
      exact ⟨(⟨none, 0, 0, []⟩, [], 1), ⟨.form hnr, rfl, rfl⟩, rfl, hS.pick [0] _ rfl (by decide)⟩
  · try (exfalso; omega)
    all_goals
      have hrt : Rt k l := rB_iff.1 (by have h1 := hq2; simpa using h1)
      have hn4 : n ≤ 400 := by have := hrt.1; omega
      refine tr_skip ?_
      refine tx_then ?_
      refine tr_seq ?_
      refine tr_region ?_
      refine tl_step rfl (oj_val (y_move (fe_t rfl)) ?_)
      refine tl_step rfl (oj_val (y_move (fe_t rfl)) ?_)
      refine tl_step rfl (oj_call Try.call155 fe_f (fel_cons (fe_t rfl) (fel_cons (fe_t rfl) (fel_cons fe_f fel_nil))) (fun w' hS => bsearchE A n c l w' (Rd.below hr hS.below) hn hm hrt.up (by omega)) (fun p hp => ?_))
      refine tl_step rfl (oj_val (y_move (fe_t rfl)) ?_)
      refine tl_step rfl (oj_val (y_extract (fe_t rfl) rfl) ?_)
      refine tl_step rfl (oj_val (y_extract (fe_t rfl) rfl) ?_)
      refine tl_step rfl (oj_val (y_assign (fe_t rfl)) ?_)
      refine tl_step rfl (oj_val (y_assign (fe_t rfl)) ?_)
      refine tl_nil ?_
      refine tx_then ?_
      refine tr_seq ?_
      refine tr_block ?_
      refine tr_seq ?_
      have hkp := rt_k2 hrt p
      have hple := hp.le
      refine tr_region ?_
      refine tl_step rfl (oj_val (y_move (fe_t rfl)) ?_)
      refine tl_step rfl (oj_val (y_move (fe_t rfl)) ?_)
      refine tl_splitp (d := 23) rfl (fun hq3 => ?_) (fun hq4 => ?_)
      · try (exfalso; omega)
        all_goals
          refine tl_want rfl rfl rfl (oj_val (y_move (fe_t rfl)) ?_)
          refine tl_want rfl rfl rfl (oj_val (y_move (fe_t rfl)) ?_)
          refine tl_want rfl rfl rfl (oj_val (y_index Try.underlying127 Try.sizeOf134 (fe_t rfl) (fe_t rfl) (rdl_out hr) (lenK hn) (by decide) (by omega) rfl) ?_)
          refine tl_want rfl rfl rfl (oj_val (y_fieldAddrE (td := 3) Try.underlying134 rfl rfl Try.sizeOf3 rfl (fe_t rfl) (rdl_out hr) (by rw [lenK hn]; omega)) ?_)
          refine tl_want rfl rfl rfl (oj_val (y_ld Try.isAgg3 (fe_t rfl) (rdl_out hr) (getK2 (by omega))) ?_)
          refine tl_want rfl rfl rfl (oj_val (y_eq (fe_t rfl) fe_c) ?_)
          refine tl_step rfl (oj_val (y_pickt (fe_t rfl) (fe_t rfl)) ?_)
          refine tl_step rfl (oj_val (y_assign (fe_t rfl)) ?_)
          refine tl_nil ?_
          refine tx_then ?_
          refine tr_condp (fe_t rfl) (fun hq5 => ?_) (fun hq6 => ?_)
          · try (exfalso; omega)
            all_goals
              refine tr_seq ?_
              refine tr_region ?_
              refine tl_step rfl (oj_val (y_assign fe_c) ?_)
              refine tl_step rfl (oj_val (y_assign fe_c) ?_)
              refine tl_nil ?_
              refine tx_then ?_
              refine tr_ret ?_
              refine tx_in_ret ?_
              refine tx_then_ret ?_
              refine tx_ret (res2 Try.results92 (rok_t rfl) (rok_t rfl)) (fun w' hS => ?_)
              exact ⟨(⟨none, 0, 0, []⟩, [], 4), ⟨.full p hrt hp (by omega) (by omega) (by omega), rfl, rfl⟩, rfl, hS.pick [0] _ rfl (by decide)⟩
          · try (exfalso; omega)
            all_goals
              refine tr_seq ?_
              refine tr_region ?_
              refine tl_step rfl (oj_val (y_move (fe_t rfl)) ?_)
              refine tl_step rfl (oj_val (y_assign (fe_t rfl)) ?_)
              refine tl_nil ?_
              refine tx_then ?_
              refine tr_condp (fe_t rfl) (fun hq7 => ?_) (fun hq8 => ?_)
              · try (exfalso; omega)
                all_goals
                  have hkl := (hrt.2 p (by omega)).1
                  refine tr_seq ?_
                  refine tr_region ?_
                  refine tl_step rfl (oj_val (y_move (fe_t rfl)) ?_)
                  refine tl_step rfl (oj_call Try.call157 fe_f (fel_cons (fe_t rfl) fel_nil) (fun w' hS => cloneV A n c l w' (Rd.below hr hS.below) hn hm (by omega)) (fun r0 _ => ?_))
                  refine tl_step rfl (oj_val (y_assign (fe_t rfl)) ?_)
                  refine tl_nil ?_
                  refine tx_then ?_
                  refine tr_seq ?_
                  refine tr_region ?_
                  refine tl_step rfl (oj_val (y_move (fe_t rfl)) ?_)
                  refine tl_step rfl (oj_val (y_move (fe_t rfl)) ?_)
                  refine tl_step rfl (oj_val (y_index (j := p) Try.underlying127 Try.sizeOf134 (fe_t rfl) (fe_t rfl) (rdl_vec 0 rfl) (lenK hn) (by decide) (by omega) rfl) ?_)
                  refine tl_step rfl (oj_val (y_fieldAddrE (td := 3) Try.underlying134 rfl rfl Try.sizeOf3 rfl (fe_t rfl) (rdl_vec 0 rfl) (by rw [lenK hn]; omega)) ?_)
                  refine tl_step rfl (oj_val (y_ld Try.isAgg3 (fe_t rfl) (rdl_vec 0 rfl) (getK2 (by omega))) ?_)
                  refine tl_step rfl (oj_val (y_add (fe_t rfl) fe_c (by omega)) ?_)
                  refine tl_step rfl (oj_val (y_index (j := p) Try.underlying127 Try.sizeOf134 (fe_t rfl) (fe_t rfl) (rdl_vec 0 rfl) (lenK hn) (by decide) (by omega) rfl) ?_)
                  refine tl_step rfl (oj_val (y_fieldAddrE (td := 3) Try.underlying134 rfl rfl Try.sizeOf3 rfl (fe_t rfl) (rdl_vec 0 rfl) (by rw [lenK hn]; omega)) ?_)
                  refine tl_step rfl (oj_storeG (al := l) (c := c2) (i := 0) (k := p) (o := 1) ((0, 0) : Int × Int) (x, k2 l p + 1) (fun _ => rfl) Try.sizeOf3 (fe_t rfl) (fe_t rfl) rfl rfl rfl (by omega) rfl (by rw [show x = k1 l p by omega]; rfl) (?_))
                  refine tl_nil ?_
                  refine tx_then ?_
                  refine tr_seq ?_
                  refine tr_region ?_
                  refine tl_step rfl (oj_val (y_move (fe_t rfl)) ?_)
                  refine tl_step rfl (oj_val (y_assign (fe_t rfl)) ?_)
                  refine tl_step rfl (oj_val (y_assign fe_c) ?_)
                  refine tl_nil ?_
                  refine tx_then ?_
                  refine tr_ret ?_
                  refine tx_in_ret ?_
                  refine tx_then_ret ?_
                  refine tx_ret (res2 Try.results92 (rok_t rfl) (rok_t rfl)) (fun w' hS => ?_)
                  exact ⟨(⟨_, _, _, _⟩, l.set p (x, k2 l p + 1), 0), ⟨.inc p hrt hp (by omega) (by omega) (by omega), by dsimp only; rw [List.length_set]; omega, rfl⟩, rfl, hS.pick [0] _ rfl (by decide)⟩
              · try (exfalso; omega)
                all_goals
                  refine tr_seq ?_
                  refine tr_region ?_
                  refine tl_step rfl (oj_val (y_move (fe_t rfl)) ?_)
                  refine tl_step rfl (oj_val (y_len Try.underlying127 (fe_t rfl)) ?_)
                  refine tl_step rfl (oj_val (y_move (fe_t rfl)) ?_)
                  refine tl_step rfl (oj_val (y_lss (fe_t rfl) (fe_t rfl)) ?_)
                  refine tl_step rfl (oj_val (y_assign (fe_t rfl)) ?_)
                  refine tl_nil ?_
                  refine tx_then ?_
                  refine tr_condp (fe_t rfl) (fun hq9 => ?_) (fun hq10 => ?_)
                  · try (exfalso; omega)
                    all_goals
                      refine tr_seq ?_
                      refine tr_region ?_
                      refine tl_step rfl (oj_val (y_move (fe_t rfl)) ?_)
                      refine tl_step rfl (oj_call Try.call157 fe_f (fel_cons (fe_t rfl) fel_nil) (fun w' hS => cloneV A n c l w' (Rd.below hr hS.below) hn hm (by omega)) (fun r0 _ => ?_))
                      refine tl_step rfl (oj_val (y_move (fe_t rfl)) ?_)
                      refine tl_step rfl (oj_val (y_move (fe_t rfl)) ?_)
                      refine tl_step rfl (oj_val ((fun {u0 u1} hx hb => y_build (is := [0, 1]) (vs := [u0, u1]) (cs := [u0, u1]) rfl hx hb) (fel_cons (fe_t rfl) (fel_cons (fe_c (v := .int .i64 1)) fel_nil)) (by kernel_rfl)) ?_)
                      refine tl_step rfl (oj_slice1 Try.underlying127 Try.sizeOf134 Try.zeroValue134 (fe_t rfl) (by decide) rfl (fun b1 => ?_))
                      refine tl_step rfl (oj_call2 Try.call158 fe_f (fel_cons (fe_t rfl) (fel_cons (fe_t rfl) (fel_cons (fe_t rfl) fel_nil))) (fun w' hS => insertK (x := x) (y := 1) (hS.pick [1, 0, 2] [_, _, _] rfl (by decide)) hn (by omega) (by have := hp.le; omega)) (fun r1 h1 => ?_))
                      refine tl_step rfl (oj_val (y_assign (fe_t rfl)) ?_)
                      refine tl_step rfl (oj_val (y_assign fe_c) ?_)
                      refine tl_nil ?_
                      refine tx_then ?_
                      refine tr_ret ?_
                      refine tx_in_ret ?_
                      refine tx_then_ret ?_
                      refine tx_ret (res2 Try.results92 (rok_t rfl) (rok_t rfl)) (fun w' hS => ?_)
                      exact ⟨(r1, l.take p ++ (x, 1) :: l.drop p, 0), ⟨.new p hrt hp (by omega) (by omega), by rw [h1.1, List.length_append, List.length_take, List.length_cons, List.length_drop]; have := hp.le; omega, h1.2⟩, rfl, hS.pick [0] _ rfl (by decide)⟩
                  · try (exfalso; omega)
                    all_goals
                      refine tr_skip ?_
                      refine tx_in ?_
                      refine tx_then ?_
                      refine tr_seq ?_
                      have hk2 := rt_k2 hrt
                      refine tr_region ?_
                      refine tl_step rfl (oj_val (y_move (fe_t rfl)) ?_)
                      refine tl_step rfl (oj_call Try.call159 fe_f (fel_cons (fe_t rfl) (fel_cons fe_c fel_nil)) (fun w' hS => lessE A n c l w' (Rd.below hr hS.below) hn hm (x := 1) (by omega) (fun i => by have := hk2 i; omega) (by omega)) (fun r0 h0 => ?_))
                      refine tl_step rfl (oj_val (y_assign (fe_t rfl)) ?_)
                      refine tl_step rfl (oj_val (y_assign fe_c) ?_)
                      refine tl_nil ?_
                      refine tx_then ?_
                      refine tr_ret ?_
                      refine tx_ret (res2 Try.results92 (rok_t rfl) (rok_t rfl)) (fun w' hS => ?_)
                      exact ⟨(r0, lessF l 1, 0), ⟨.less p hrt hp (by omega) (by omega), h0.1, h0.2⟩, rfl, hS.pick [0] _ rfl (by decide)⟩
      · try (exfalso; omega)
        all_goals
          refine tl_skip rfl rfl rfl rfl ?_
          refine tl_skip rfl rfl rfl rfl ?_
          refine tl_skip rfl rfl rfl rfl ?_
          refine tl_skip rfl rfl rfl rfl ?_
          refine tl_skip rfl rfl rfl rfl ?_
          refine tl_skip rfl rfl rfl rfl ?_
          refine tl_step rfl (oj_val (y_pickf (fe_t rfl) fe_c) ?_)
          refine tl_step rfl (oj_val (y_assign (fe_t rfl)) ?_)
          refine tl_nil ?_
          refine tx_then ?_
          refine tr_condf (fe_t rfl) ?_
          refine tr_seq ?_
          refine tr_region ?_
          refine tl_step rfl (oj_val (y_move (fe_t rfl)) ?_)
          refine tl_step rfl (oj_val (y_assign (fe_t rfl)) ?_)
          refine tl_nil ?_
          refine tx_then ?_
          refine tr_condp (fe_t rfl) (fun hq11 => ?_) (fun hq12 => ?_)
          · try (exfalso; omega)
            all_goals
              have hkl := (hrt.2 p (by omega)).1
              refine tr_seq ?_
              refine tr_region ?_
              refine tl_step rfl (oj_val (y_move (fe_t rfl)) ?_)
              refine tl_step rfl (oj_call Try.call157 fe_f (fel_cons (fe_t rfl) fel_nil) (fun w' hS => cloneV A n c l w' (Rd.below hr hS.below) hn hm (by omega)) (fun r0 _ => ?_))
              refine tl_step rfl (oj_val (y_assign (fe_t rfl)) ?_)
              refine tl_nil ?_
              refine tx_then ?_
              refine tr_seq ?_
              refine tr_region ?_
              refine tl_step rfl (oj_val (y_move (fe_t rfl)) ?_)
              refine tl_step rfl (oj_val (y_move (fe_t rfl)) ?_)
              refine tl_step rfl (oj_val (y_index (j := p) Try.underlying127 Try.sizeOf134 (fe_t rfl) (fe_t rfl) (rdl_vec 0 rfl) (lenK hn) (by decide) (by omega) rfl) ?_)
              refine tl_step rfl (oj_val (y_fieldAddrE (td := 3) Try.underlying134 rfl rfl Try.sizeOf3 rfl (fe_t rfl) (rdl_vec 0 rfl) (by rw [lenK hn]; omega)) ?_)
              refine tl_step rfl (oj_val (y_ld Try.isAgg3 (fe_t rfl) (rdl_vec 0 rfl) (getK2 (by omega))) ?_)
              refine tl_step rfl (oj_val (y_add (fe_t rfl) fe_c (by omega)) ?_)
              refine tl_step rfl (oj_val (y_index (j := p) Try.underlying127 Try.sizeOf134 (fe_t rfl) (fe_t rfl) (rdl_vec 0 rfl) (lenK hn) (by decide) (by omega) rfl) ?_)
              refine tl_step rfl (oj_val (y_fieldAddrE (td := 3) Try.underlying134 rfl rfl Try.sizeOf3 rfl (fe_t rfl) (rdl_vec 0 rfl) (by rw [lenK hn]; omega)) ?_)
              refine tl_step rfl (oj_storeG (al := l) (c := c2) (i := 0) (k := p) (o := 1) ((0, 0) : Int × Int) (x, k2 l p + 1) (fun _ => rfl) Try.sizeOf3 (fe_t rfl) (fe_t rfl) rfl rfl rfl (by omega) rfl (by rw [show x = k1 l p by omega]; rfl) (?_))
              refine tl_nil ?_
              refine tx_then ?_
              refine tr_seq ?_
              refine tr_region ?_
              refine tl_step rfl (oj_val (y_move (fe_t rfl)) ?_)
              refine tl_step rfl (oj_val (y_assign (fe_t rfl)) ?_)
              refine tl_step rfl (oj_val (y_assign fe_c) ?_)
              refine tl_nil ?_
              refine tx_then ?_
              refine tr_ret ?_
              refine tx_in_ret ?_
              refine tx_then_ret ?_
              refine tx_ret (res2 Try.results92 (rok_t rfl) (rok_t rfl)) (fun w' hS => ?_)
              exact ⟨(⟨_, _, _, _⟩, l.set p (x, k2 l p + 1), 0), ⟨.inc p hrt hp (by omega) (by omega) (by omega), by dsimp only; rw [List.length_set]; omega, rfl⟩, rfl, hS.pick [0] _ rfl (by decide)⟩
          · try (exfalso; omega)
            all_goals
              refine tr_seq ?_
              refine tr_region ?_
              refine tl_step rfl (oj_val (y_move (fe_t rfl)) ?_)
              refine tl_step rfl (oj_val (y_len Try.underlying127 (fe_t rfl)) ?_)
              refine tl_step rfl (oj_val (y_move (fe_t rfl)) ?_)
              refine tl_step rfl (oj_val (y_lss (fe_t rfl) (fe_t rfl)) ?_)
              refine tl_step rfl (oj_val (y_assign (fe_t rfl)) ?_)
              refine tl_nil ?_
              refine tx_then ?_
              refine tr_condp (fe_t rfl) (fun hq13 => ?_) (fun hq14 => ?_)
              · try (exfalso; omega)
                all_goals
                  refine tr_seq ?_
                  refine tr_region ?_
                  refine tl_step rfl (oj_val (y_move (fe_t rfl)) ?_)
                  refine tl_step rfl (oj_call Try.call157 fe_f (fel_cons (fe_t rfl) fel_nil) (fun w' hS => cloneV A n c l w' (Rd.below hr hS.below) hn hm (by omega)) (fun r0 _ => ?_))
                  refine tl_step rfl (oj_val (y_move (fe_t rfl)) ?_)
                  refine tl_step rfl (oj_val (y_move (fe_t rfl)) ?_)
                  refine tl_step rfl (oj_val ((fun {u0 u1} hx hb => y_build (is := [0, 1]) (vs := [u0, u1]) (cs := [u0, u1]) rfl hx hb) (fel_cons (fe_t rfl) (fel_cons (fe_c (v := .int .i64 1)) fel_nil)) (by kernel_rfl)) ?_)
                  refine tl_step rfl (oj_slice1 Try.underlying127 Try.sizeOf134 Try.zeroValue134 (fe_t rfl) (by decide) rfl (fun b2 => ?_))
                  refine tl_step rfl (oj_call2 Try.call158 fe_f (fel_cons (fe_t rfl) (fel_cons (fe_t rfl) (fel_cons (fe_t rfl) fel_nil))) (fun w' hS => insertK (x := x) (y := 1) (hS.pick [1, 0, 2] [_, _, _] rfl (by decide)) hn (by omega) (by have := hp.le; omega)) (fun r1 h1 => ?_))
                  refine tl_step rfl (oj_val (y_assign (fe_t rfl)) ?_)
                  refine tl_step rfl (oj_val (y_assign fe_c) ?_)
                  refine tl_nil ?_
                  refine tx_then ?_
                  refine tr_ret ?_
                  refine tx_in_ret ?_
                  refine tx_then_ret ?_
                  refine tx_ret (res2 Try.results92 (rok_t rfl) (rok_t rfl)) (fun w' hS => ?_)
                  exact ⟨(r1, l.take p ++ (x, 1) :: l.drop p, 0), ⟨.new p hrt hp (by omega) (by omega), by rw [h1.1, List.length_append, List.length_take, List.length_cons, List.length_drop]; have := hp.le; omega, h1.2⟩, rfl, hS.pick [0] _ rfl (by decide)⟩
              · try (exfalso; omega)
                all_goals
                  refine tr_skip ?_
                  refine tx_in ?_
                  refine tx_then ?_
                  refine tr_seq ?_
                  have hk2 := rt_k2 hrt
                  refine tr_region ?_
                  refine tl_step rfl (oj_val (y_move (fe_t rfl)) ?_)
                  refine tl_step rfl (oj_call Try.call159 fe_f (fel_cons (fe_t rfl) (fel_cons fe_c fel_nil)) (fun w' hS => lessE A n c l w' (Rd.below hr hS.below) hn hm (x := 1) (by omega) (fun i => by have := hk2 i; omega) (by omega)) (fun r0 h0 => ?_))
                  refine tl_step rfl (oj_val (y_assign (fe_t rfl)) ?_)
                  refine tl_step rfl (oj_val (y_assign fe_c) ?_)
                  refine tl_nil ?_
                  refine tx_then ?_
                  refine tr_ret ?_
                  refine tx_ret (res2 Try.results92 (rok_t rfl) (rok_t rfl)) (fun w' hS => ?_)
                  exact ⟨(r0, lessF l 1, 0), ⟨.less p hrt hp (by omega) (by omega), h0.1, h0.2⟩, rfl, hS.pick [0] _ rfl (by decide)⟩

end Go.Proofs.Ytcpdelkamckmfaa.Heavy
