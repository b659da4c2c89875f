/- Walks: the law GpsEnds. -/
import Derived.Test.YtpknjfeiiaopgaaGpC
import Derived.Test.YtpknjfeiiaopgaaGpD
namespace Go.Proofs.Ytpknjfeiiaopgaa.Gps
open Go.RowKit Go.Proofs.Ytpknjfeiiaopgaa.E Go.Proofs.Ytpknjfeiiaopgaa.Big Go.Proofs.Ytpknjfeiiaopgaa.Frac

set_option maxRecDepth 100000 in
set_option maxHeartbeats 4000000 in
theorem law_bad (A B : Option Addr) (n m c d : Nat) (bs ws : List Int) (w : World) (hb : Rd w A (bs.map (.int .i64))) (hw : Rd w B (ws.map (.int .i64))) (hbl : bs.length = n) (hwl : ws.length = m) (hn : n ≤ 140737488355328) (hm : m ≤ 140737488355328) (hne : ¬ wr bs ws = 0) :
    Calls Try.prog 7 #[.slice A n c, .slice B m d] w fun e w' => e = .returned (.bool true) ∧ St w w' [] := by
  refine calls_tr Try.func7 Try.ntmps7 rfl rfl (St.refl _) ?_
  refine tr_seq ?_
  refine tr_region ?_
  refine tl_step rfl (oj_val (y_assign fe_c) ?_)
  refine tl_nil ?_
  refine tx_then ?_
  refine tr_seq ?_
  refine tr_region ?_
  refine tl_step rfl (oj_val (y_move (fe_t rfl)) ?_)
  refine tl_step rfl (oj_val (y_move (fe_t rfl)) ?_)
  refine tl_step rfl (oj_callv Try.call32 fe_f (fel_cons (fe_t rfl) (fel_cons (fe_t rfl) fel_nil)) (fun w' hS => end_bad A B n m c d bs ws w' (Rd.below hb hS.below) (Rd.below hw hS.below) hbl hwl hn hm hne) ?_)
  refine tl_step rfl (oj_val (y_move (fe_t rfl)) ?_)
  refine tl_step rfl (oj_val (y_extract (fe_t rfl) rfl) ?_)
  refine tl_step rfl (oj_val (y_extract (fe_t rfl) rfl) ?_)
  refine tl_step rfl (oj_val (y_assign (fe_t rfl)) ?_)
  refine tl_step rfl (oj_val (y_assign (fe_t rfl)) ?_)
  refine tl_nil ?_
  refine tx_then ?_
  refine tr_seq ?_
  refine tr_region ?_
  refine tl_step rfl (oj_val (y_move (fe_t rfl)) ?_)
  refine tl_step rfl (oj_val (y_move (fe_t rfl)) ?_)
  refine tl_step rfl (oj_callv Try.call33 fe_f (fel_cons (fe_t rfl) (fel_cons (fe_t rfl) fel_nil)) (fun w' hS => order_bad A B n m c d bs ws w' (Rd.below hb hS.below) (Rd.below hw hS.below) hbl hwl hn hm hne) ?_)
  refine tl_step rfl (oj_val (y_move (fe_t rfl)) ?_)
  refine tl_step rfl (oj_val (y_extract (fe_t rfl) rfl) ?_)
  refine tl_step rfl (oj_val (y_extract (fe_t rfl) rfl) ?_)
  refine tl_step rfl (oj_val (y_assign (fe_t rfl)) ?_)
  refine tl_step rfl (oj_val (y_assign (fe_t rfl)) ?_)
  refine tl_nil ?_
  refine tx_then ?_
  refine tr_seq ?_
  refine tr_region ?_
  refine tl_step rfl (oj_val (y_move (fe_t rfl)) ?_)
  refine tl_step rfl (oj_val (y_move (fe_t rfl)) ?_)
  refine tl_step rfl (oj_callv Try.call34 fe_f (fel_cons (fe_t rfl) (fel_cons (fe_t rfl) fel_nil)) (fun w' hS => whole_bad A B n m c d bs ws w' (Rd.below hb hS.below) (Rd.below hw hS.below) hbl hwl hn hm hne) ?_)
  refine tl_step rfl (oj_val (y_move (fe_t rfl)) ?_)
  refine tl_step rfl (oj_val (y_extract (fe_t rfl) rfl) ?_)
  refine tl_step rfl (oj_val (y_extract (fe_t rfl) rfl) ?_)
  refine tl_step rfl (oj_val (y_assign (fe_t rfl)) ?_)
  refine tl_step rfl (oj_val (y_assign (fe_t rfl)) ?_)
  refine tl_nil ?_
  refine tx_then ?_
  refine tr_seq ?_
  refine tr_region ?_
  refine tl_step rfl (oj_val (y_move (fe_t rfl)) ?_)
  refine tl_step rfl (oj_val (y_move (fe_t rfl)) ?_)
  refine tl_step rfl (oj_callv Try.call35 fe_f (fel_cons (fe_t rfl) (fel_cons (fe_t rfl) fel_nil)) (fun w' hS => mwrongE A B n m c d bs ws w' (Rd.below hb hS.below) (Rd.below hw hS.below) hbl hwl hn hm) ?_)
  refine tl_step rfl (oj_val (y_assign (fe_t rfl)) ?_)
  refine tl_nil ?_
  refine tx_then ?_
  refine tr_seq ?_
  refine tr_seq ?_
  refine tr_region ?_
  refine tl_step rfl (oj_val (y_move (fe_t rfl)) ?_)
  refine tl_step rfl (oj_val (y_move (fe_t rfl)) ?_)
  refine tl_step rfl (oj_callv Try.call36 fe_f (fel_cons (fe_t rfl) (fel_cons (fe_t rfl) fel_nil)) (fun w' hS => wrongE A B n m c d bs ws w' (Rd.below hb hS.below) (Rd.below hw hS.below) hbl hwl hn hm) ?_)
  refine tl_step rfl (oj_val (y_move (fe_t rfl)) ?_)
  refine tl_step rfl (oj_val (y_neq (fe_t rfl) (fe_t rfl)) ?_)
  refine tl_step rfl (oj_val (y_move (fe_t rfl)) ?_)
  refine tl_splitp (d := 46) rfl (fun hq1 => ?_) (fun hq2 => ?_)
  · try (exfalso; omega)
    all_goals
      refine tl_skip rfl rfl rfl rfl ?_
      refine tl_skip rfl rfl rfl rfl ?_
      refine tl_skip rfl rfl rfl rfl ?_
      refine tl_step rfl (oj_val (y_pickt (fe_t rfl) fe_c) ?_)
      refine tl_step rfl (oj_val (y_move (fe_t rfl)) ?_)
      refine tl_skip rfl rfl rfl rfl ?_
      refine tl_skip rfl rfl rfl rfl ?_
      refine tl_skip rfl rfl rfl rfl ?_
      refine tl_step rfl (oj_val (y_pickt (fe_t rfl) fe_c) ?_)
      refine tl_step rfl (oj_val (y_move (fe_t rfl)) ?_)
      refine tl_skip rfl rfl rfl rfl ?_
      refine tl_skip rfl rfl rfl rfl ?_
      refine tl_skip rfl rfl rfl rfl ?_
      refine tl_step rfl (oj_val (y_pickt (fe_t rfl) fe_c) ?_)
      refine tl_nil ?_
      refine tx_then ?_
      refine tr_condt (fe_t rfl) ?_
      refine tr_seq ?_
      refine tr_region ?_
      refine tl_step rfl (oj_val (y_assign fe_c) ?_)
      refine tl_nil ?_
      refine tx_then ?_
      refine tr_ret ?_
      refine tx_then_ret ?_
      refine tx_ret (res1 Try.results7 (rok_t rfl)) (fun w' hS => ?_)
      exact ⟨ret_bool (by first | rfl | (simp; done) | (simp [*]; done)), hS.pick [] _ rfl (by decide)⟩
  · try (exfalso; omega)
    all_goals
      refine tl_want rfl rfl rfl (oj_val (y_move (fe_t rfl)) ?_)
      refine tl_want rfl rfl rfl (oj_val (y_move (fe_t rfl)) ?_)
      refine tl_want rfl rfl rfl (oj_val (y_neq (fe_t rfl) (fe_t rfl)) ?_)
      refine tl_step rfl (oj_val (y_pickf (fe_t rfl) (fe_t rfl)) ?_)
      refine tl_step rfl (oj_val (y_move (fe_t rfl)) ?_)
      refine tl_splitp (d := 51) rfl (fun hq3 => ?_) (fun hq4 => ?_)
      · try (exfalso; omega)
        all_goals
          refine tl_skip rfl rfl rfl rfl ?_
          refine tl_skip rfl rfl rfl rfl ?_
          refine tl_skip rfl rfl rfl rfl ?_
          refine tl_step rfl (oj_val (y_pickt (fe_t rfl) fe_c) ?_)
          refine tl_step rfl (oj_val (y_move (fe_t rfl)) ?_)
          refine tl_skip rfl rfl rfl rfl ?_
          refine tl_skip rfl rfl rfl rfl ?_
          refine tl_skip rfl rfl rfl rfl ?_
          refine tl_step rfl (oj_val (y_pickt (fe_t rfl) fe_c) ?_)
          refine tl_nil ?_
          refine tx_then ?_
          refine tr_condt (fe_t rfl) ?_
          refine tr_seq ?_
          refine tr_region ?_
          refine tl_step rfl (oj_val (y_assign fe_c) ?_)
          refine tl_nil ?_
          refine tx_then ?_
          refine tr_ret ?_
          refine tx_then_ret ?_
          refine tx_ret (res1 Try.results7 (rok_t rfl)) (fun w' hS => ?_)
          exact ⟨ret_bool (by first | rfl | (simp; done) | (simp [*]; done)), hS.pick [] _ rfl (by decide)⟩
      · try (exfalso; omega)
        all_goals
          refine tl_want rfl rfl rfl (oj_val (y_move (fe_t rfl)) ?_)
          refine tl_want rfl rfl rfl (oj_val (y_move (fe_t rfl)) ?_)
          refine tl_want rfl rfl rfl (oj_val (y_neq (fe_t rfl) (fe_t rfl)) ?_)
          refine tl_step rfl (oj_val (y_pickf (fe_t rfl) (fe_t rfl)) ?_)
          refine tl_step rfl (oj_val (y_move (fe_t rfl)) ?_)
          refine tl_splitp (d := 56) rfl (fun hq5 => ?_) (fun hq6 => ?_)
          · try (exfalso; omega)
            all_goals
              refine tl_skip rfl rfl rfl rfl ?_
              refine tl_skip rfl rfl rfl rfl ?_
              refine tl_skip rfl rfl rfl rfl ?_
              refine tl_step rfl (oj_val (y_pickt (fe_t rfl) fe_c) ?_)
              refine tl_nil ?_
              refine tx_then ?_
              refine tr_condt (fe_t rfl) ?_
              refine tr_seq ?_
              refine tr_region ?_
              refine tl_step rfl (oj_val (y_assign fe_c) ?_)
              refine tl_nil ?_
              refine tx_then ?_
              refine tr_ret ?_
              refine tx_then_ret ?_
              refine tx_ret (res1 Try.results7 (rok_t rfl)) (fun w' hS => ?_)
              exact ⟨ret_bool (by first | rfl | (simp; done) | (simp [*]; done)), hS.pick [] _ rfl (by decide)⟩
          · try (exfalso; omega)
            all_goals
              refine tl_want rfl rfl rfl (oj_val (y_move (fe_t rfl)) ?_)
              refine tl_want rfl rfl rfl (oj_val (y_move (fe_t rfl)) ?_)
              refine tl_want rfl rfl rfl (oj_val (y_neq (fe_t rfl) (fe_t rfl)) ?_)
              refine tl_step rfl (oj_val (y_pickf (fe_t rfl) (fe_t rfl)) ?_)
              refine tl_nil ?_
              refine tx_then ?_
              refine tr_condp (fe_t rfl) (fun hq7 => ?_) (fun hq8 => ?_)
              · try (exfalso; omega)
                all_goals
                  refine tr_seq ?_
                  refine tr_region ?_
                  refine tl_step rfl (oj_val (y_assign fe_c) ?_)
                  refine tl_nil ?_
                  refine tx_then ?_
                  refine tr_ret ?_
                  refine tx_then_ret ?_
                  refine tx_ret (res1 Try.results7 (rok_t rfl)) (fun w' hS => ?_)
                  exact ⟨ret_bool (by first | rfl | (simp; done) | (simp [*]; done)), hS.pick [] _ rfl (by decide)⟩
              · try (exfalso; omega)
                all_goals
                  refine tr_skip ?_
                  refine tx_then ?_
                  refine tr_seq ?_
                  refine tr_seq ?_
                  refine tr_region ?_
                  refine tl_step rfl (oj_val (y_move (fe_t rfl)) ?_)
                  refine tl_step rfl (oj_val (y_neq (fe_t rfl) fe_c) ?_)
                  refine tl_nil ?_
                  refine tx_then ?_
                  refine tr_condp (fe_t rfl) (fun hq9 => ?_) (fun hq10 => ?_)
                  · try (exfalso; omega)
                    all_goals
                      refine tr_seq ?_
                      refine tr_region ?_
                      refine tl_step rfl (oj_val (y_move (fe_t rfl)) ?_)
                      refine tl_step rfl (oj_val (y_len Try.underlying27 (fe_t rfl)) ?_)
                      refine tl_step rfl (oj_val (y_move (fe_t rfl)) ?_)
                      refine tl_step rfl (oj_val (y_len Try.underlying27 (fe_t rfl)) ?_)
                      refine tl_step rfl (oj_val (y_add (fe_t rfl) (fe_t rfl) (by omega)) ?_)
                      refine tl_step rfl (oj_val (y_move (fe_t rfl)) ?_)
                      refine tl_step rfl (oj_val (y_len Try.underlying27 (fe_t rfl)) ?_)
                      refine tl_step rfl (oj_val (y_add (fe_t rfl) (fe_t rfl) (by omega)) ?_)
                      refine tl_step rfl (oj_val (y_eq (fe_t rfl) fe_c) ?_)
                      refine tl_step rfl (oj_val (y_assign (fe_t rfl)) ?_)
                      refine tl_nil ?_
                      refine tx_then ?_
                      refine tr_ret ?_
                      refine tx_then_ret ?_
                      refine tx_ret (res1 Try.results7 (rok_t rfl)) (fun w' hS => ?_)
                      exact ⟨ret_bool (by first | rfl | (simp; done) | (simp [*]; done)), hS.pick [] _ rfl (by decide)⟩
                  · exact absurd (by simpa using hq10) hne

set_option maxRecDepth 100000 in
set_option maxHeartbeats 8000000 in
theorem law_ok (A B : Option Addr) (n m c d : Nat) (bs ws : List Int) (w : World) (hb : Rd w A (bs.map (.int .i64))) (hw : Rd w B (ws.map (.int .i64))) (hbl : bs.length = n) (hwl : ws.length = m) (hn : n ≤ 140737488355328) (hm : m ≤ 140737488355328) (hz : wr bs ws = 0) :
    Calls Try.prog 7 #[.slice A n c, .slice B m d] w fun e w' => e = .returned (.bool true) ∧ St w w' [] := by
  refine calls_tr Try.func7 Try.ntmps7 rfl rfl (St.refl _) ?_
  refine tr_seq ?_
  refine tr_region ?_
  refine tl_step rfl (oj_val (y_assign fe_c) ?_)
  refine tl_nil ?_
  refine tx_then ?_
  refine tr_seq ?_
  have hrg := wr_rg hz
  rw [hbl] at hrg
  have hn16 := hrg.n16
  have hwl2 := hrg.wl
  refine tr_region ?_
  refine tl_step rfl (oj_val (y_move (fe_t rfl)) ?_)
  refine tl_step rfl (oj_val (y_move (fe_t rfl)) ?_)
  refine tl_step rfl (oj_call Try.call32 fe_f (fel_cons (fe_t rfl) (fel_cons (fe_t rfl) fel_nil)) (fun w' hS => end_ok A B n m c d bs ws w' (Rd.below hb hS.below) (Rd.below hw hS.below) hbl hwl hn hm hz) (fun r1 hr1 => ?_))
  refine tl_step rfl (oj_val (y_move (fe_t rfl)) ?_)
  refine tl_step rfl (oj_val (y_extract (fe_t rfl) rfl) ?_)
  refine tl_step rfl (oj_val (y_extract (fe_t rfl) rfl) ?_)
  refine tl_step rfl (oj_val (y_assign (fe_t rfl)) ?_)
  refine tl_step rfl (oj_val (y_assign (fe_t rfl)) ?_)
  refine tl_nil ?_
  refine tx_then ?_
  refine tr_seq ?_
  refine tr_region ?_
  refine tl_step rfl (oj_val (y_move (fe_t rfl)) ?_)
  refine tl_step rfl (oj_val (y_move (fe_t rfl)) ?_)
  refine tl_step rfl (oj_call Try.call33 fe_f (fel_cons (fe_t rfl) (fel_cons (fe_t rfl) fel_nil)) (fun w' hS => order_ok A B n m c d bs ws w' (Rd.below hb hS.below) (Rd.below hw hS.below) hbl hwl hn hm hz) (fun r2 hr2 => ?_))
  refine tl_step rfl (oj_val (y_move (fe_t rfl)) ?_)
  refine tl_step rfl (oj_val (y_extract (fe_t rfl) rfl) ?_)
  refine tl_step rfl (oj_val (y_extract (fe_t rfl) rfl) ?_)
  refine tl_step rfl (oj_val (y_assign (fe_t rfl)) ?_)
  refine tl_step rfl (oj_val (y_assign (fe_t rfl)) ?_)
  refine tl_nil ?_
  refine tx_then ?_
  refine tr_seq ?_
  refine tr_region ?_
  refine tl_step rfl (oj_val (y_move (fe_t rfl)) ?_)
  refine tl_step rfl (oj_val (y_move (fe_t rfl)) ?_)
  refine tl_step rfl (oj_call Try.call34 fe_f (fel_cons (fe_t rfl) (fel_cons (fe_t rfl) fel_nil)) (fun w' hS => whole_ok A B n m c d bs ws w' (Rd.below hb hS.below) (Rd.below hw hS.below) hbl hwl hn hm hz) (fun r3 hr3 => ?_))
  refine tl_step rfl (oj_val (y_move (fe_t rfl)) ?_)
  refine tl_step rfl (oj_val (y_extract (fe_t rfl) rfl) ?_)
  refine tl_step rfl (oj_val (y_extract (fe_t rfl) rfl) ?_)
  refine tl_step rfl (oj_val (y_assign (fe_t rfl)) ?_)
  refine tl_step rfl (oj_val (y_assign (fe_t rfl)) ?_)
  refine tl_nil ?_
  refine tx_then ?_
  refine tr_seq ?_
  refine tr_region ?_
  refine tl_step rfl (oj_val (y_move (fe_t rfl)) ?_)
  refine tl_step rfl (oj_val (y_move (fe_t rfl)) ?_)
  refine tl_step rfl (oj_callv Try.call35 fe_f (fel_cons (fe_t rfl) (fel_cons (fe_t rfl) fel_nil)) (fun w' hS => mwrongE A B n m c d bs ws w' (Rd.below hb hS.below) (Rd.below hw hS.below) hbl hwl hn hm) ?_)
  refine tl_step rfl (oj_val (y_assign (fe_t rfl)) ?_)
  refine tl_nil ?_
  refine tx_then ?_
  refine tr_seq ?_
  refine tr_seq ?_
  refine tr_region ?_
  refine tl_step rfl (oj_val (y_move (fe_t rfl)) ?_)
  refine tl_step rfl (oj_val (y_move (fe_t rfl)) ?_)
  refine tl_step rfl (oj_callv Try.call36 fe_f (fel_cons (fe_t rfl) (fel_cons (fe_t rfl) fel_nil)) (fun w' hS => wrongE A B n m c d bs ws w' (Rd.below hb hS.below) (Rd.below hw hS.below) hbl hwl hn hm) ?_)
  refine tl_step rfl (oj_val (y_move (fe_t rfl)) ?_)
  refine tl_step rfl (oj_val (y_neq (fe_t rfl) (fe_t rfl)) ?_)
  refine tl_step rfl (oj_val (y_move (fe_t rfl)) ?_)
  refine tl_splitp (d := 46) rfl (fun hq1 => ?_) (fun hq2 => ?_)
  · try (exfalso; omega)
    all_goals
      refine tl_skip rfl rfl rfl rfl ?_
      refine tl_skip rfl rfl rfl rfl ?_
      refine tl_skip rfl rfl rfl rfl ?_
      refine tl_step rfl (oj_val (y_pickt (fe_t rfl) fe_c) ?_)
      refine tl_step rfl (oj_val (y_move (fe_t rfl)) ?_)
      refine tl_skip rfl rfl rfl rfl ?_
      refine tl_skip rfl rfl rfl rfl ?_
      refine tl_skip rfl rfl rfl rfl ?_
      refine tl_step rfl (oj_val (y_pickt (fe_t rfl) fe_c) ?_)
      refine tl_step rfl (oj_val (y_move (fe_t rfl)) ?_)
      refine tl_skip rfl rfl rfl rfl ?_
      refine tl_skip rfl rfl rfl rfl ?_
      refine tl_skip rfl rfl rfl rfl ?_
      refine tl_step rfl (oj_val (y_pickt (fe_t rfl) fe_c) ?_)
      refine tl_nil ?_
      refine tx_then ?_
      refine tr_condt (fe_t rfl) ?_
      refine tr_seq ?_
      refine tr_region ?_
      refine tl_step rfl (oj_val (y_assign fe_c) ?_)
      refine tl_nil ?_
      refine tx_then ?_
      refine tr_ret ?_
      refine tx_then_ret ?_
      refine tx_ret (res1 Try.results7 (rok_t rfl)) (fun w' hS => ?_)
      exact ⟨ret_bool (by first | rfl | (simp; done) | (simp [*]; done)), hS.pick [] _ rfl (by decide)⟩
  · try (exfalso; omega)
    all_goals
      refine tl_want rfl rfl rfl (oj_val (y_move (fe_t rfl)) ?_)
      refine tl_want rfl rfl rfl (oj_val (y_move (fe_t rfl)) ?_)
      refine tl_want rfl rfl rfl (oj_val (y_neq (fe_t rfl) (fe_t rfl)) ?_)
      refine tl_step rfl (oj_val (y_pickf (fe_t rfl) (fe_t rfl)) ?_)
      refine tl_step rfl (oj_val (y_move (fe_t rfl)) ?_)
      refine tl_splitp (d := 51) rfl (fun hq3 => ?_) (fun hq4 => ?_)
      · try (exfalso; omega)
        all_goals
          refine tl_skip rfl rfl rfl rfl ?_
          refine tl_skip rfl rfl rfl rfl ?_
          refine tl_skip rfl rfl rfl rfl ?_
          refine tl_step rfl (oj_val (y_pickt (fe_t rfl) fe_c) ?_)
          refine tl_step rfl (oj_val (y_move (fe_t rfl)) ?_)
          refine tl_skip rfl rfl rfl rfl ?_
          refine tl_skip rfl rfl rfl rfl ?_
          refine tl_skip rfl rfl rfl rfl ?_
          refine tl_step rfl (oj_val (y_pickt (fe_t rfl) fe_c) ?_)
          refine tl_nil ?_
          refine tx_then ?_
          refine tr_condt (fe_t rfl) ?_
          refine tr_seq ?_
          refine tr_region ?_
          refine tl_step rfl (oj_val (y_assign fe_c) ?_)
          refine tl_nil ?_
          refine tx_then ?_
          refine tr_ret ?_
          refine tx_then_ret ?_
          refine tx_ret (res1 Try.results7 (rok_t rfl)) (fun w' hS => ?_)
          exact ⟨ret_bool (by first | rfl | (simp; done) | (simp [*]; done)), hS.pick [] _ rfl (by decide)⟩
      · try (exfalso; omega)
        all_goals
          refine tl_want rfl rfl rfl (oj_val (y_move (fe_t rfl)) ?_)
          refine tl_want rfl rfl rfl (oj_val (y_move (fe_t rfl)) ?_)
          refine tl_want rfl rfl rfl (oj_val (y_neq (fe_t rfl) (fe_t rfl)) ?_)
          refine tl_step rfl (oj_val (y_pickf (fe_t rfl) (fe_t rfl)) ?_)
          refine tl_step rfl (oj_val (y_move (fe_t rfl)) ?_)
          refine tl_splitp (d := 56) rfl (fun hq5 => ?_) (fun hq6 => ?_)
          · try (exfalso; omega)
            all_goals
              refine tl_skip rfl rfl rfl rfl ?_
              refine tl_skip rfl rfl rfl rfl ?_
              refine tl_skip rfl rfl rfl rfl ?_
              refine tl_step rfl (oj_val (y_pickt (fe_t rfl) fe_c) ?_)
              refine tl_nil ?_
              refine tx_then ?_
              refine tr_condt (fe_t rfl) ?_
              refine tr_seq ?_
              refine tr_region ?_
              refine tl_step rfl (oj_val (y_assign fe_c) ?_)
              refine tl_nil ?_
              refine tx_then ?_
              refine tr_ret ?_
              refine tx_then_ret ?_
              refine tx_ret (res1 Try.results7 (rok_t rfl)) (fun w' hS => ?_)
              exact ⟨ret_bool (by first | rfl | (simp; done) | (simp [*]; done)), hS.pick [] _ rfl (by decide)⟩
          · try (exfalso; omega)
            all_goals
              refine tl_want rfl rfl rfl (oj_val (y_move (fe_t rfl)) ?_)
              refine tl_want rfl rfl rfl (oj_val (y_move (fe_t rfl)) ?_)
              refine tl_want rfl rfl rfl (oj_val (y_neq (fe_t rfl) (fe_t rfl)) ?_)
              refine tl_step rfl (oj_val (y_pickf (fe_t rfl) (fe_t rfl)) ?_)
              refine tl_nil ?_
              refine tx_then ?_
              refine tr_condp (fe_t rfl) (fun hq7 => ?_) (fun hq8 => ?_)
              · try (exfalso; omega)
                all_goals
                  refine tr_seq ?_
                  refine tr_region ?_
                  refine tl_step rfl (oj_val (y_assign fe_c) ?_)
                  refine tl_nil ?_
                  refine tx_then ?_
                  refine tr_ret ?_
                  refine tx_then_ret ?_
                  refine tx_ret (res1 Try.results7 (rok_t rfl)) (fun w' hS => ?_)
                  exact ⟨ret_bool (by first | rfl | (simp; done) | (simp [*]; done)), hS.pick [] _ rfl (by decide)⟩
              · try (exfalso; omega)
                all_goals
                  refine tr_skip ?_
                  refine tx_then ?_
                  refine tr_seq ?_
                  refine tr_seq ?_
                  refine tr_region ?_
                  refine tl_step rfl (oj_val (y_move (fe_t rfl)) ?_)
                  refine tl_step rfl (oj_val (y_neq (fe_t rfl) fe_c) ?_)
                  refine tl_nil ?_
                  refine tx_then ?_
                  refine tr_condp (fe_t rfl) (fun hq9 => ?_) (fun hq10 => ?_)
                  · exfalso; omega
                  · try (exfalso; omega)
                    all_goals
                      refine tr_skip ?_
                      refine tx_then ?_
                      refine tr_seq ?_
                      refine tr_region ?_
                      refine tl_step rfl (oj_val (y_move (fe_t rfl)) ?_)
                      refine tl_step rfl (oj_val (y_len Try.underlying27 (fe_t rfl)) ?_)
                      refine tl_step rfl (oj_val (y_assign (fe_t rfl)) ?_)
                      refine tl_nil ?_
                      refine tx_then ?_
                      refine tr_seq ?_
                      refine tr_seq ?_
                      refine tr_region ?_
                      refine tl_step rfl (oj_val (y_move (fe_t rfl)) ?_)
                      refine tl_step rfl (oj_val (y_len Try.underlying27 (fe_t rfl)) ?_)
                      refine tl_step rfl (oj_val (y_move (fe_t rfl)) ?_)
                      refine tl_step rfl (oj_val (y_neq (fe_t rfl) (fe_t rfl)) ?_)
                      refine tl_step rfl (oj_val (y_move (fe_t rfl)) ?_)
                      refine tl_splitp (d := 78) rfl (fun hq11 => ?_) (fun hq12 => ?_)
                      · try (exfalso; omega)
                        all_goals
                          refine tl_skip rfl rfl rfl rfl ?_
                          refine tl_skip rfl rfl rfl rfl ?_
                          refine tl_skip rfl rfl rfl rfl ?_
                          refine tl_skip rfl rfl rfl rfl ?_
                          refine tl_step rfl (oj_val (y_pickt (fe_t rfl) fe_c) ?_)
                          refine tl_step rfl (oj_val (y_move (fe_t rfl)) ?_)
                          refine tl_skip rfl rfl rfl rfl ?_
                          refine tl_skip rfl rfl rfl rfl ?_
                          refine tl_skip rfl rfl rfl rfl ?_
                          refine tl_skip rfl rfl rfl rfl ?_
                          refine tl_step rfl (oj_val (y_pickt (fe_t rfl) fe_c) ?_)
                          refine tl_nil ?_
                          refine tx_then ?_
                          refine tr_condt (fe_t rfl) ?_
                          refine tr_seq ?_
                          refine tr_region ?_
                          refine tl_step rfl (oj_val (y_assign fe_c) ?_)
                          refine tl_nil ?_
                          refine tx_then ?_
                          refine tr_ret ?_
                          refine tx_then_ret ?_
                          refine tx_ret (res1 Try.results7 (rok_t rfl)) (fun w' hS => ?_)
                          exact ⟨ret_bool (by first | rfl | (simp; done) | (simp [*]; done)), hS.pick [] _ rfl (by decide)⟩
                      · try (exfalso; omega)
                        all_goals
                          refine tl_want rfl rfl rfl (oj_val (y_move (fe_t rfl)) ?_)
                          refine tl_want rfl rfl rfl (oj_val (y_len Try.underlying27 (fe_t rfl)) ?_)
                          refine tl_want rfl rfl rfl (oj_val (y_move (fe_t rfl)) ?_)
                          refine tl_want rfl rfl rfl (oj_val (y_neq (fe_t rfl) (fe_t rfl)) ?_)
                          refine tl_step rfl (oj_val (y_pickf (fe_t rfl) (fe_t rfl)) ?_)
                          refine tl_step rfl (oj_val (y_move (fe_t rfl)) ?_)
                          refine tl_splitp (d := 84) rfl (fun hq13 => ?_) (fun hq14 => ?_)
                          · try (exfalso; omega)
                            all_goals
                              refine tl_skip rfl rfl rfl rfl ?_
                              refine tl_skip rfl rfl rfl rfl ?_
                              refine tl_skip rfl rfl rfl rfl ?_
                              refine tl_skip rfl rfl rfl rfl ?_
                              refine tl_step rfl (oj_val (y_pickt (fe_t rfl) fe_c) ?_)
                              refine tl_nil ?_
                              refine tx_then ?_
                              refine tr_condt (fe_t rfl) ?_
                              refine tr_seq ?_
                              refine tr_region ?_
                              refine tl_step rfl (oj_val (y_assign fe_c) ?_)
                              refine tl_nil ?_
                              refine tx_then ?_
                              refine tr_ret ?_
                              refine tx_then_ret ?_
                              refine tx_ret (res1 Try.results7 (rok_t rfl)) (fun w' hS => ?_)
                              exact ⟨ret_bool (by first | rfl | (simp; done) | (simp [*]; done)), hS.pick [] _ rfl (by decide)⟩
                          · try (exfalso; omega)
                            all_goals
                              refine tl_want rfl rfl rfl (oj_val (y_move (fe_t rfl)) ?_)
                              refine tl_want rfl rfl rfl (oj_val (y_len Try.underlying27 (fe_t rfl)) ?_)
                              refine tl_want rfl rfl rfl (oj_val (y_move (fe_t rfl)) ?_)
                              refine tl_want rfl rfl rfl (oj_val (y_neq (fe_t rfl) (fe_t rfl)) ?_)
                              refine tl_step rfl (oj_val (y_pickf (fe_t rfl) (fe_t rfl)) ?_)
                              refine tl_nil ?_
                              refine tx_then ?_
                              refine tr_condp (fe_t rfl) (fun hq15 => ?_) (fun hq16 => ?_)
                              · try (exfalso; omega)
                                all_goals
                                  refine tr_seq ?_
                                  refine tr_region ?_
                                  refine tl_step rfl (oj_val (y_assign fe_c) ?_)
                                  refine tl_nil ?_
                                  refine tx_then ?_
                                  refine tr_ret ?_
                                  refine tx_then_ret ?_
                                  refine tx_ret (res1 Try.results7 (rok_t rfl)) (fun w' hS => ?_)
                                  exact ⟨ret_bool (by first | rfl | (simp; done) | (simp [*]; done)), hS.pick [] _ rfl (by decide)⟩
                              · try (exfalso; omega)
                                all_goals
                                  refine tr_skip ?_
                                  refine tx_then ?_
                                  refine tr_seq ?_
                                  refine tr_region ?_
                                  refine tl_step rfl (oj_val (y_move (fe_t rfl)) ?_)
                                  refine tl_step rfl (oj_val (y_move (fe_t rfl)) ?_)
                                  refine tl_step rfl (oj_call Try.call37 fe_f (fel_cons (fe_t rfl) (fel_cons (fe_t rfl) fel_nil)) (fun w' hS => mendE A B n m c d bs ws w' (Rd.below hb hS.below) (Rd.below hw hS.below) hbl hwl hn hm hz) (fun r4 hr4 => ?_))
                                  refine tl_step rfl (oj_val (y_assign (fe_t rfl)) ?_)
                                  refine tl_nil ?_
                                  refine tx_then ?_
                                  refine tr_seq ?_
                                  refine tr_seq ?_
                                  refine tr_region ?_
                                  refine tl_step rfl (oj_val (y_move (fe_t rfl)) ?_)
                                  refine tl_step rfl (oj_val (y_len Try.underlying70 (fe_t rfl)) ?_)
                                  refine tl_step rfl (oj_val (y_move fe_c) ?_)
                                  refine tl_nil ?_
                                  refine tx_then ?_
                                  refine tr_block ?_
                                  refine tr_loop4 [4, 14, 95, 96, 97, 98, 99, 100, 101, 102, 103, 104, 105, 106, 107, 108, 109, 110, 111, 112, 113] (fun (k : Nat) (Hx : List Nat) (Dx : List Nat) (es1 : List Ent) => [(95, .int .i64 (k : Int))]) 0 (fun (k : Nat) (Hx : List Nat) (Dx : List Nat) (es1 : List Ent) => [(1, bag Hx Dx es1)]) (fun (k : Nat) (Hx : List Nat) (Dx : List Nat) (es1 : List Ent) => k ≤ n ∧ (∀ i, i < n → ∃ p, gO r4.2 i = some p ∧ Q es1 p (mkRat (eN bs ws n i) (gI ws i).toNat))) (fun (k : Nat) (Hx : List Nat) (Dx : List Nat) (es1 : List Ent) => n - k) (0) (_) (_) (_) (cov_cons (by first | rfl | exact v_int (by omega) | exact v_bool (by simp [*])) (cov_nil)) (fun w h => h) ?_ ?_
                                  · try dsimp only
                                    exact ⟨by omega, hr4.2⟩
                                  intro k Hx Dx es1 hp
                                  obtain ⟨hk, hB⟩ := hp
                                  refine tr_seq ?_
                                  refine tr_region ?_
                                  refine tl_step rfl (oj_val (y_lss (fe_t rfl) (fe_t rfl)) ?_)
                                  refine tl_nil ?_
                                  refine tx_then ?_
                                  refine tr_seq ?_
                                  refine tr_condp (fe_t rfl) (fun hq17 => ?_) (fun hq18 => ?_)
                                  · try (exfalso; omega)
                                    all_goals
                                      refine tr_skip ?_
                                      refine tx_then ?_
                                      refine tr_seq ?_
                                      refine tr_block ?_
                                      refine tr_seq ?_
                                      refine tr_region ?_
                                      refine tl_step rfl (oj_val (y_move (fe_t rfl)) ?_)
                                      refine tl_step rfl (oj_val (y_assign (fe_t rfl)) ?_)
                                      refine tl_nil ?_
                                      refine tx_then ?_
                                      refine tr_seq ?_
                                      obtain ⟨pk, hpk, hqk⟩ := hB k (by omega)
                                      have heb := eN_bd (k := k) hrg (Nat.le_refl n) (by omega)
                                      have hwk := (hrg.ok k (by omega)).2
                                      refine tr_draw (sel _ [0, 2, 3, 4]) (fun w h => h.sel _ rfl (by decide)) rfl ?_
                                      refine ta_float (i := 0) rfl (by kernel_rfl) (wants_none rfl) (yq_of (y_move (fe_t rfl))) ?_
                                      refine ta_float (i := 1) rfl (by kernel_rfl) (wants_none rfl) (yq_of (y_move (fe_t rfl))) ?_
                                      refine ta_float (i := 2) rfl (by kernel_rfl) (wants_none rfl) (yq_of (y_index Try.underlying27 Try.sizeOf3 (fe_t rfl) (fe_t rfl) (rdl_vec 3 rfl) (by rw [hr1.2]; simp [cI, eL]; omega) (by decide) (by omega) (Nat.mul_one _))) ?_
                                      refine ta_float (i := 3) rfl (by kernel_rfl) (wants_none rfl) (yq_of (y_ld (v := (.int .i64 (eN bs ws n k))) Try.isAgg3 (fe_t rfl) (rdl_vec 3 rfl) (by rw [hr1.2, ← gI_eL (i := n) (show k < n by omega)]; exact getG (by rw [eL_len]; omega)))) ?_
                                      refine ta_float (i := 4) rfl (by kernel_rfl) (wants_none rfl) (yq_of (y_move (fe_t rfl))) ?_
                                      refine ta_float (i := 5) rfl (by kernel_rfl) (wants_none rfl) (yq_of (y_move (fe_t rfl))) ?_
                                      refine ta_float (i := 6) rfl (by kernel_rfl) (wants_none rfl) (yq_of (y_index Try.underlying27 Try.sizeOf3 (fe_t rfl) (fe_t rfl) (rdl_out hw) (by simp; omega) (by decide) (by omega) (Nat.mul_one _))) ?_
                                      refine ta_float (i := 7) rfl (by kernel_rfl) (wants_none rfl) (yq_of (y_ld Try.isAgg3 (fe_t rfl) (rdl_out hw) (getG (zs := ws) (by omega)))) ?_
                                      refine ta_float (i := 9) rfl (by kernel_rfl) (wants_none rfl) (yq_of (y_move (fe_t rfl))) ?_
                                      refine ta_float (i := 10) rfl (by kernel_rfl) (wants_none rfl) (yq_of (y_move (fe_t rfl))) ?_
                                      refine ta_float (i := 11) rfl (by kernel_rfl) (wants_none rfl) (yq_of (y_index Try.underlying70 Try.sizeOf72 (fe_t rfl) (fe_t rfl) (rdl_vec 0 rfl) (by rw [List.length_map]; have := hr4.1; omega) (by decide) (by omega) (Nat.mul_one _))) ?_
                                      refine ta_float (i := 12) rfl (by kernel_rfl) (wants_none rfl) (yq_of (y_ld (v := P pk) Try.isAgg72 (fe_t rfl) (rdl_vec 0 rfl) (PO_at hpk))) ?_
                                      refine ta_one (i := 8) rfl (by kernel_rfl) (wants_none rfl) (oj_call2 Try.call38 fe_f (fel_cons (fe_t rfl) (fel_cons (fe_t rfl) fel_nil)) (fun w' hS => newQ (hS.pick [1, 0, 2, 3, 4] [_, _, _, _, _] rfl (by decide)) (eN bs ws n k) (gI ws k) (by omega) (by omega) (by omega) (by omega)) (fun r5 h5 => ⟨fun w h => h.pick [1, 2, 3, 4] _ rfl (by decide), ?_⟩))
                                      refine ta_one (i := 13) rfl (by kernel_rfl) (wants_none rfl) (oj_call2 Try.call39 fe_f (fel_cons (fe_t rfl) (fel_cons (fe_t rfl) fel_nil)) (fun w' hS => cmpQ (hS.pick [0, 1, 2, 3, 4] [_, _, _, _, _] rfl (by decide)) h5.1 (h5.2.1 _ _ hqk) (⟨by omega, by omega, by omega, by omega⟩ : Bd (eN bs ws n k) (gI ws k) 16777216000 1000) (⟨by omega, by omega, by omega, by omega⟩ : Bd (eN bs ws n k) (gI ws k) 16777216000 1000) (by decide) (by decide) (by decide)) (fun _ _ => ⟨fun w h => h.pick [1, 2, 3, 4] _ rfl (by decide), ?_⟩))
                                      refine ta_float (i := 14) rfl (by kernel_rfl) (wants_none rfl) (yq_of (y_neq (fe_t rfl) fe_c)) ?_
                                      refine ta_done (by kernel_rfl) ?_
                                      refine tx_then ?_
                                      refine tr_condp (fe_t rfl) (fun hq19 => ?_) (fun hq20 => ?_)
                                      · exact absurd cmpv_self hq19
                                      · try (exfalso; omega)
                                        all_goals
                                          refine tr_skip ?_
                                          refine tx_in ?_
                                          refine tx_then ?_
                                          refine tr_region ?_
                                          refine tl_step rfl (oj_val (y_inc (fe_t rfl) fe_c (by omega)) ?_)
                                          refine tl_step rfl (oj_val (y_move (fe_t rfl)) ?_)
                                          refine tl_nil ?_
                                          apply tx_back4 (k + 1) (_) (_) (r5.es)
                                          · exact (cov_cons (by first | rfl | exact v_int (by omega) | exact v_bool (by simp [*])) (cov_nil))
                                          · repeat (first | exact over_nil | refine over_put rfl ?_ | refine over_drop rfl ?_)
                                          · exact fun w h => h.pick [1, 0, 2, 3, 4] _ rfl (by decide)
                                          · exact ⟨⟨by omega, fun i hi => by
                                                obtain ⟨p, h8, h9⟩ := hB i hi
                                                exact ⟨p, h8, h5.2.1 _ _ h9⟩⟩, by omega⟩
                                  · try (exfalso; omega)
                                    all_goals
                                      refine tr_exit ?_
                                      refine tx_then_exit ?_
                                      refine tx_then_exit ?_
                                      refine tx_in_exit ?_
                                      refine tx_then ?_
                                      refine tr_seq ?_
                                      refine tr_region ?_
                                      refine tl_step rfl (oj_val (y_assign fe_c) ?_)
                                      refine tl_nil ?_
                                      refine tx_then ?_
                                      refine tr_seq ?_
                                      refine tr_region ?_
                                      refine tl_step rfl (oj_val (y_move (fe_t rfl)) ?_)
                                      refine tl_step rfl (oj_make (z := (.bool false)) (bytes := 1) Try.underlying28 (by kernel_rfl) (fe_t rfl) (fe_t rfl) rfl ⟨by omega, by decide⟩ (fun gh => ?_))
                                      refine tl_step rfl (oj_val (y_assign (fe_t rfl)) ?_)
                                      refine tl_nil ?_
                                      refine tx_then ?_
                                      refine tr_seq ?_
                                      refine tr_seq ?_
                                      refine tr_as (r' := vec 4 1 (.slice (some ⟨gh, 0, none⟩) n n) n ((List.replicate n false).map Value.bool)) 0 rfl (congrArg (vec _ _ _ _) (by simp)) ?_
                                      refine tr_region ?_
                                      refine tl_step rfl (oj_val (y_move (fe_t rfl)) ?_)
                                      refine tl_step rfl (oj_val (y_len Try.underlying27 (fe_t rfl)) ?_)
                                      refine tl_step rfl (oj_val (y_move fe_c) ?_)
                                      refine tl_nil ?_
                                      refine tx_then ?_
                                      refine tr_block ?_
                                      have hww : ∀ i, i < n → gI r3.2 (gN r2.2 i) = (sm (fun y => gI bs (gN r2.2 y)) (i + 1)) := fun i hi => by have h9 := hr3.2.2 i hi; rw [← hr2.uniq hr3.1 (fun a b h => Lt.asym a b h)] at h9; exact h9
                                      refine tr_loop4 [4, 15, 17, 18, 19, 118, 119, 120, 121, 122, 123, 124, 125, 126, 127, 128, 129, 130, 131, 132, 133, 134, 135, 136, 137, 138, 139, 140, 141, 142, 143, 144, 145, 146, 147, 148, 149, 150, 151, 152, 153, 154, 155, 156, 157, 158, 159, 160, 161, 162, 163, 164, 165, 166, 167, 168, 169, 170, 171, 172, 173, 174, 175, 176, 177, 178, 179, 180, 181] (fun (i : Nat) (hs : List Bool) (Hx : List Nat) (Dx : List Nat) => [(118, .int .i64 (i : Int)), (15, .int .i64 (sm (fun y => gI bs (gN r2.2 y)) i))]) 0 (fun (i : Nat) (hs : List Bool) (Hx : List Nat) (Dx : List Nat) => [(0, vec 4 1 (.slice (some ⟨gh, 0, none⟩) n n) n (hs.map Value.bool)), (2, bag Hx Dx es1)]) (fun (i : Nat) (hs : List Bool) (Hx : List Nat) (Dx : List Nat) => i ≤ n ∧ hs.length = n ∧ ∀ y, i ≤ y → y < n → gB hs (gN r2.2 y) = false) (fun (i : Nat) (hs : List Bool) (Hx : List Nat) (Dx : List Nat) => n - i) (0) (List.replicate n false) (_) (_) (cov_cons (by first | rfl | exact v_int (by omega) | exact v_bool (by simp [*])) (cov_cons (by first | rfl | exact v_int (by omega) | exact v_bool (by simp [*])) (cov_nil))) (fun w h => h) ?_ ?_
                                      · try dsimp only
                                        exact ⟨by omega, by simp, fun y _ hy => gB_rep (hr2.rng y hy)⟩
                                      intro i hs Hx Dx hp
                                      obtain ⟨hi, hhl, hhv⟩ := hp
                                      refine tr_seq ?_
                                      refine tr_region ?_
                                      refine tl_step rfl (oj_val (y_lss (fe_t rfl) (fe_t rfl)) ?_)
                                      refine tl_nil ?_
                                      refine tx_then ?_
                                      refine tr_seq ?_
                                      refine tr_condp (fe_t rfl) (fun hq21 => ?_) (fun hq22 => ?_)
                                      · try (exfalso; omega)
                                        all_goals
                                          refine tr_skip ?_
                                          refine tx_then ?_
                                          refine tr_seq ?_
                                          refine tr_block ?_
                                          refine tr_seq ?_
                                          refine tr_region ?_
                                          refine tl_step rfl (oj_val (y_move (fe_t rfl)) ?_)
                                          refine tl_step rfl (oj_val (y_index Try.underlying27 Try.sizeOf3 (fe_t rfl) (fe_t rfl) (rdl_vec 4 rfl) (by rw [cN_len]; have := hr2.len; omega) (by decide) (by omega) (Nat.mul_one _)) ?_)
                                          refine tl_step rfl (oj_val (y_ld (v := (.int .i64 ((gN r2.2 (i) : Int)))) Try.isAgg3 (fe_t rfl) (rdl_vec 4 rfl) (getN (by have := hr2.len; omega))) ?_)
                                          refine tl_step rfl (oj_val (y_assign (fe_t rfl)) ?_)
                                          refine tl_step rfl (oj_val (y_assign (fe_t rfl)) ?_)
                                          refine tl_nil ?_
                                          refine tx_then ?_
                                          refine tr_seq ?_
                                          refine tr_seq ?_
                                          have hgi := hr2.rng i (by omega)
                                          refine tr_region ?_
                                          refine tl_step rfl (oj_val (y_move (fe_t rfl)) ?_)
                                          refine tl_step rfl (oj_val (y_lss (fe_t rfl) fe_c) ?_)
                                          refine tl_step rfl (oj_val (y_move (fe_t rfl)) ?_)
                                          refine tl_splitp (d := 125) rfl (fun hq23 => ?_) (fun hq24 => ?_)
                                          · try (exfalso; omega)
                                            all_goals
                                              refine tl_skip rfl rfl rfl rfl ?_
                                              refine tl_skip rfl rfl rfl rfl ?_
                                              refine tl_skip rfl rfl rfl rfl ?_
                                              refine tl_step rfl (oj_val (y_pickt (fe_t rfl) fe_c) ?_)
                                              refine tl_step rfl (oj_val (y_move (fe_t rfl)) ?_)
                                              refine tl_skip rfl rfl rfl rfl ?_
                                              refine tl_skip rfl rfl rfl rfl ?_
                                              refine tl_skip rfl rfl rfl rfl ?_
                                              refine tl_skip rfl rfl rfl rfl ?_
                                              refine tl_step rfl (oj_val (y_pickt (fe_t rfl) fe_c) ?_)
                                              refine tl_nil ?_
                                              refine tx_then ?_
                                              refine tr_condt (fe_t rfl) ?_
                                              refine tr_seq ?_
                                              refine tr_region ?_
                                              refine tl_step rfl (oj_val (y_assign fe_c) ?_)
                                              refine tl_nil ?_
                                              refine tx_then ?_
                                              refine tr_ret ?_
                                              refine tx_then_ret ?_
                                              refine tx_in_ret ?_
                                              refine tx_then_ret ?_
                                              refine tx_then_ret ?_
                                              refine tx_in_ret ?_
                                              refine tx_then_ret ?_
                                              refine tx_ret (res1 Try.results7 (rok_t rfl)) (fun w' hS => ?_)
                                              exact ⟨ret_bool (by first | rfl | (simp; done) | (simp [*]; done)), hS.pick [] _ rfl (by decide)⟩
                                          · try (exfalso; omega)
                                            all_goals
                                              refine tl_want rfl rfl rfl (oj_val (y_move (fe_t rfl)) ?_)
                                              refine tl_want rfl rfl rfl (oj_val (y_move (fe_t rfl)) ?_)
                                              refine tl_want rfl rfl rfl (oj_val (y_geq (fe_t rfl) (fe_t rfl)) ?_)
                                              refine tl_step rfl (oj_val (y_pickf (fe_t rfl) (fe_t rfl)) ?_)
                                              refine tl_step rfl (oj_val (y_move (fe_t rfl)) ?_)
                                              refine tl_splitp (d := 130) rfl (fun hq25 => ?_) (fun hq26 => ?_)
                                              · try (exfalso; omega)
                                                all_goals
                                                  refine tl_skip rfl rfl rfl rfl ?_
                                                  refine tl_skip rfl rfl rfl rfl ?_
                                                  refine tl_skip rfl rfl rfl rfl ?_
                                                  refine tl_skip rfl rfl rfl rfl ?_
                                                  refine tl_step rfl (oj_val (y_pickt (fe_t rfl) fe_c) ?_)
                                                  refine tl_nil ?_
                                                  refine tx_then ?_
                                                  refine tr_condt (fe_t rfl) ?_
                                                  refine tr_seq ?_
                                                  refine tr_region ?_
                                                  refine tl_step rfl (oj_val (y_assign fe_c) ?_)
                                                  refine tl_nil ?_
                                                  refine tx_then ?_
                                                  refine tr_ret ?_
                                                  refine tx_then_ret ?_
                                                  refine tx_in_ret ?_
                                                  refine tx_then_ret ?_
                                                  refine tx_then_ret ?_
                                                  refine tx_in_ret ?_
                                                  refine tx_then_ret ?_
                                                  refine tx_ret (res1 Try.results7 (rok_t rfl)) (fun w' hS => ?_)
                                                  exact ⟨ret_bool (by first | rfl | (simp; done) | (simp [*]; done)), hS.pick [] _ rfl (by decide)⟩
                                              · try (exfalso; omega)
                                                all_goals
                                                  refine tl_want rfl rfl rfl (oj_val (y_move (fe_t rfl)) ?_)
                                                  refine tl_want rfl rfl rfl (oj_val (y_move (fe_t rfl)) ?_)
                                                  refine tl_want rfl rfl rfl (oj_val (y_index Try.underlying28 Try.sizeOf4 (fe_t rfl) (fe_t rfl) (rdl_vec 0 rfl) (by first | (simp; done) | (rw [List.length_map]; omega)) (by decide) (by omega) (Nat.mul_one _)) ?_)
                                                  refine tl_want rfl rfl rfl (oj_val (y_ld (v := .bool false) Try.isAgg4 (fe_t rfl) (rdl_vec 0 rfl) (getB (by omega) (hhv i (Nat.le_refl _) (by omega)))) ?_)
                                                  refine tl_step rfl (oj_val (y_pickf (fe_t rfl) (fe_t rfl)) ?_)
                                                  refine tl_nil ?_
                                                  refine tx_then ?_
                                                  refine tr_condf (fe_t rfl) ?_
                                                  refine tr_skip ?_
                                                  refine tx_then ?_
                                                  refine tr_seq ?_
                                                  refine tr_region ?_
                                                  refine tl_step rfl (oj_val (y_move (fe_t rfl)) ?_)
                                                  refine tl_step rfl (oj_val (y_move (fe_t rfl)) ?_)
                                                  refine tl_step rfl (oj_val (y_index Try.underlying28 Try.sizeOf4 (fe_t rfl) (fe_t rfl) (rdl_vec 0 rfl) (by first | (simp; done) | (rw [List.length_map]; omega)) (by decide) (by omega) (Nat.mul_one _)) ?_)
                                                  refine tl_step rfl (oj_storeE1 (i := 0) Try.sizeOf4 (fe_t rfl) fe_c rfl rfl rfl (by omega) (?_))
                                                  refine tl_nil ?_
                                                  refine tx_then ?_
                                                  refine tr_seq ?_
                                                  refine tr_seq ?_
                                                  refine tr_as (r' := vec 4 1 (.slice (some ⟨gh, 0, none⟩) n n) n ((hs.set (gN r2.2 i) true).map Value.bool)) 0 rfl (congrArg (vec _ _ _ _) (by rw [List.map_set])) ?_
                                                  refine tr_region ?_
                                                  refine tl_step rfl (oj_val (y_move (fe_t rfl)) ?_)
                                                  refine tl_step rfl (oj_val (y_gtr (fe_t rfl) fe_c) ?_)
                                                  refine tl_nil ?_
                                                  refine tx_then ?_
                                                  refine tr_condp (fe_t rfl) (fun hq27 => ?_) (fun hq28 => ?_)
                                                  · try (exfalso; omega)
                                                    all_goals
                                                      refine tr_seq ?_
                                                      have hgp := hr2.rng (i - 1) (by omega)
                                                      obtain ⟨pa, hpa, hqa⟩ := hB (gN r2.2 (i - 1)) hgp
                                                      obtain ⟨pk, hpk, hqk⟩ := hB (gN r2.2 i) hgi
                                                      have heb := eN_bd (k := gN r2.2 i) hrg (Nat.le_refl n) hgi
                                                      have hwk := (hrg.ok (gN r2.2 i) hgi).2
                                                      have hea := eN_bd (k := gN r2.2 (i - 1)) hrg (Nat.le_refl n) hgp
                                                      have hwa := (hrg.ok (gN r2.2 (i - 1)) hgp).2
                                                      have hcv := lt_cmp hgp hgi (hr2.ord (i - 1) i (by omega) (by omega))
                                                      refine tr_draw (sel _ [0, 1, 3, 4, 5]) (fun w h => h.sel _ rfl (by decide)) rfl ?_
                                                      refine ta_float (i := 0) rfl (by kernel_rfl) (wants_none rfl) (yq_of (y_move (fe_t rfl))) ?_
                                                      refine ta_float (i := 1) rfl (by kernel_rfl) (wants_none rfl) (yq_of (y_move (fe_t rfl))) ?_
                                                      refine ta_float (i := 2) rfl (by kernel_rfl) (wants_none rfl) (yq_of (y_move (fe_t rfl))) ?_
                                                      refine ta_float (i := 3) rfl (by kernel_rfl) (wants_none rfl) (yq_of (y_dec (fe_t rfl) fe_c (by omega))) ?_
                                                      refine ta_float (i := 4) rfl (by kernel_rfl) (wants_none rfl) (yq_of (y_index Try.underlying27 Try.sizeOf3 (fe_t rfl) (fe_t rfl) (rdl_vec 3 rfl) (by rw [cN_len]; have := hr2.len; omega) (by decide) (by omega) (Nat.mul_one _))) ?_
                                                      refine ta_float (i := 5) rfl (by kernel_rfl) (wants_none rfl) (yq_of (y_ld (v := (.int .i64 ((gN r2.2 (i - 1) : Int)))) Try.isAgg3 (fe_t rfl) (rdl_vec 3 rfl) (getN (by have := hr2.len; omega)))) ?_
                                                      refine ta_float (i := 6) rfl (by kernel_rfl) (wants_none rfl) (yq_of (y_index Try.underlying70 Try.sizeOf72 (fe_t rfl) (fe_t rfl) (rdl_vec 1 rfl) (by rw [List.length_map]; have := hr4.1; omega) (by decide) (by omega) (Nat.mul_one _))) ?_
                                                      refine ta_float (i := 7) rfl (by kernel_rfl) (wants_none rfl) (yq_of (y_ld (v := P pa) Try.isAgg72 (fe_t rfl) (rdl_vec 1 rfl) (PO_at hpa))) ?_
                                                      refine ta_float (i := 8) rfl (by kernel_rfl) (wants_none rfl) (yq_of (y_move (fe_t rfl))) ?_
                                                      refine ta_float (i := 9) rfl (by kernel_rfl) (wants_none rfl) (yq_of (y_move (fe_t rfl))) ?_
                                                      refine ta_float (i := 10) rfl (by kernel_rfl) (wants_none rfl) (yq_of (y_index Try.underlying70 Try.sizeOf72 (fe_t rfl) (fe_t rfl) (rdl_vec 1 rfl) (by rw [List.length_map]; have := hr4.1; omega) (by decide) (by omega) (Nat.mul_one _))) ?_
                                                      refine ta_float (i := 11) rfl (by kernel_rfl) (wants_none rfl) (yq_of (y_ld (v := P pk) Try.isAgg72 (fe_t rfl) (rdl_vec 1 rfl) (PO_at hpk))) ?_
                                                      refine ta_one (i := 12) rfl (by kernel_rfl) (wants_none rfl) (oj_call2 Try.call39 fe_f (fel_cons (fe_t rfl) (fel_cons (fe_t rfl) fel_nil)) (fun w' hS => cmpQ (hS.pick [2, 0, 1, 3, 4, 5] [_, _, _, _, _, _] rfl (by decide)) hqa hqk (⟨by omega, by omega, by omega, by omega⟩ : Bd (eN bs ws n (gN r2.2 (i - 1))) (gI ws (gN r2.2 (i - 1))) 16777216000 1000) (⟨by omega, by omega, by omega, by omega⟩ : Bd (eN bs ws n (gN r2.2 i)) (gI ws (gN r2.2 i)) 16777216000 1000) (by decide) (by decide) (by decide)) (fun _ _ => ⟨fun w h => h.pick [1, 2, 3, 4, 5] _ rfl (by decide), ?_⟩))
                                                      refine ta_float (i := 13) rfl (by kernel_rfl) (wants_none rfl) (yq_of (y_assign (fe_t rfl))) ?_
                                                      refine ta_done (by kernel_rfl) ?_
                                                      refine tx_then ?_
                                                      refine tr_seq ?_
                                                      refine tr_region ?_
                                                      refine tl_step rfl (oj_val (y_move (fe_t rfl)) ?_)
                                                      refine tl_step rfl (oj_val (y_gtr (fe_t rfl) fe_c) ?_)
                                                      refine tl_step rfl (oj_val (y_move (fe_t rfl)) ?_)
                                                      refine tl_splitp (d := 156) rfl (fun hq29 => ?_) (fun hq30 => ?_)
                                                      · try (exfalso; omega)
                                                        all_goals
                                                          refine tl_skip rfl rfl rfl rfl ?_
                                                          refine tl_skip rfl rfl rfl rfl ?_
                                                          refine tl_skip rfl rfl rfl rfl ?_
                                                          refine tl_skip rfl rfl rfl rfl ?_
                                                          refine tl_skip rfl rfl rfl rfl ?_
                                                          refine tl_skip rfl rfl rfl rfl ?_
                                                          refine tl_skip rfl rfl rfl rfl ?_
                                                          refine tl_skip rfl rfl rfl rfl ?_
                                                          refine tl_skip rfl rfl rfl rfl ?_
                                                          refine tl_skip rfl rfl rfl rfl ?_
                                                          refine tl_skip rfl rfl rfl rfl ?_
                                                          refine tl_step rfl (oj_val (y_pickt (fe_t rfl) fe_c) ?_)
                                                          refine tl_nil ?_
                                                          refine tx_then ?_
                                                          refine tr_condt (fe_t rfl) ?_
                                                          refine tr_seq ?_
                                                          refine tr_region ?_
                                                          refine tl_step rfl (oj_val (y_assign fe_c) ?_)
                                                          refine tl_nil ?_
                                                          refine tx_then ?_
                                                          refine tr_ret ?_
                                                          refine tx_then_ret ?_
                                                          refine tx_in_ret ?_
                                                          refine tx_then_ret ?_
                                                          refine tx_then_ret ?_
                                                          refine tx_in_ret ?_
                                                          refine tx_then_ret ?_
                                                          refine tx_ret (res1 Try.results7 (rok_t rfl)) (fun w' hS => ?_)
                                                          exact ⟨ret_bool (by first | rfl | (simp; done) | (simp [*]; done)), hS.pick [] _ rfl (by decide)⟩
                                                      · try (exfalso; omega)
                                                        all_goals
                                                          refine tl_want rfl rfl rfl (oj_val (y_move (fe_t rfl)) ?_)
                                                          refine tl_want rfl rfl rfl (oj_val (y_eq (fe_t rfl) fe_c) ?_)
                                                          refine tl_want rfl rfl rfl (oj_val (y_move (fe_t rfl)) ?_)
                                                          refine tl_splitp (d := 159) rfl (fun hq31 => ?_) (fun hq32 => ?_)
                                                          · try (exfalso; omega)
                                                            all_goals
                                                              refine tl_want rfl rfl rfl (oj_val (y_move (fe_t rfl)) ?_)
                                                              refine tl_want rfl rfl rfl (oj_val (y_move (fe_t rfl)) ?_)
                                                              refine tl_want rfl rfl rfl (oj_val (y_dec (fe_t rfl) fe_c (by omega)) ?_)
                                                              refine tl_want rfl rfl rfl (oj_val (y_index Try.underlying27 Try.sizeOf3 (fe_t rfl) (fe_t rfl) (rdl_vec 4 rfl) (by rw [cN_len]; have := hr2.len; omega) (by decide) (by omega) (Nat.mul_one _)) ?_)
                                                              refine tl_want rfl rfl rfl (oj_val (y_ld (v := (.int .i64 ((gN r2.2 (i - 1) : Int)))) Try.isAgg3 (fe_t rfl) (rdl_vec 4 rfl) (getN (by have := hr2.len; omega))) ?_)
                                                              refine tl_want rfl rfl rfl (oj_val (y_move (fe_t rfl)) ?_)
                                                              refine tl_want rfl rfl rfl (oj_val (y_gtr (fe_t rfl) (fe_t rfl)) ?_)
                                                              refine tl_want rfl rfl rfl (oj_val (y_pickt (fe_t rfl) (fe_t rfl)) ?_)
                                                              refine tl_step rfl (oj_val (y_pickf (fe_t rfl) (fe_t rfl)) ?_)
                                                              refine tl_nil ?_
                                                              refine tx_then ?_
                                                              refine tr_condp (fe_t rfl) (fun hq33 => ?_) (fun hq34 => ?_)
                                                              · try (exfalso; omega)
                                                                all_goals
                                                                  refine tr_seq ?_
                                                                  refine tr_region ?_
                                                                  refine tl_step rfl (oj_val (y_assign fe_c) ?_)
                                                                  refine tl_nil ?_
                                                                  refine tx_then ?_
                                                                  refine tr_ret ?_
                                                                  refine tx_then_ret ?_
                                                                  refine tx_in_ret ?_
                                                                  refine tx_then_ret ?_
                                                                  refine tx_then_ret ?_
                                                                  refine tx_in_ret ?_
                                                                  refine tx_then_ret ?_
                                                                  refine tx_ret (res1 Try.results7 (rok_t rfl)) (fun w' hS => ?_)
                                                                  exact ⟨ret_bool (by first | rfl | (simp; done) | (simp [*]; done)), hS.pick [] _ rfl (by decide)⟩
                                                              · try (exfalso; omega)
                                                                all_goals
                                                                  refine tr_skip ?_
                                                                  refine tx_then ?_
                                                                  refine tr_seq ?_
                                                                  have hbk := (hrg.ok _ hgi).1
                                                                  have hsb := sm_bd (f := fun y => gI bs (gN r2.2 y)) (B := 1048576) (n := i) (fun y hy => (hrg.ok _ (hr2.rng y (by omega))).1)
                                                                  refine tr_region ?_
                                                                  refine tl_step rfl (oj_val (y_move (fe_t rfl)) ?_)
                                                                  refine tl_step rfl (oj_val (y_move (fe_t rfl)) ?_)
                                                                  refine tl_step rfl (oj_val (y_move (fe_t rfl)) ?_)
                                                                  refine tl_step rfl (oj_val (y_index Try.underlying27 Try.sizeOf3 (fe_t rfl) (fe_t rfl) (rdl_out hb) (by simp; omega) (by decide) (by omega) (Nat.mul_one _)) ?_)
                                                                  refine tl_step rfl (oj_val (y_ld Try.isAgg3 (fe_t rfl) (rdl_out hb) (getG (zs := bs) (by omega))) ?_)
                                                                  refine tl_step rfl (oj_val (y_add (fe_t rfl) (fe_t rfl) (by omega)) ?_)
                                                                  refine tl_step rfl (oj_val (y_assign (fe_t rfl)) ?_)
                                                                  refine tl_nil ?_
                                                                  refine tx_then ?_
                                                                  refine tr_seq ?_
                                                                  refine tr_region ?_
                                                                  refine tl_step rfl (oj_val (y_move (fe_t rfl)) ?_)
                                                                  refine tl_step rfl (oj_val (y_move (fe_t rfl)) ?_)
                                                                  refine tl_step rfl (oj_val (y_index Try.underlying27 Try.sizeOf3 (fe_t rfl) (fe_t rfl) (rdl_vec 3 rfl) (by simp [cI]; have := hr3.2.1; omega) (by decide) (by omega) (Nat.mul_one _)) ?_)
                                                                  refine tl_step rfl (oj_val (y_ld (v := (.int .i64 ((sm (fun y => gI bs (gN r2.2 y)) (i + 1))))) Try.isAgg3 (fe_t rfl) (rdl_vec 3 rfl) (by rw [← hww i (by omega)]; exact getG (zs := r3.2) (by have := hr3.2.1; omega))) ?_)
                                                                  refine tl_step rfl (oj_val (y_move (fe_t rfl)) ?_)
                                                                  refine tl_step rfl (oj_val (y_neq (fe_t rfl) (fe_t rfl)) ?_)
                                                                  refine tl_nil ?_
                                                                  refine tx_then ?_
                                                                  refine tr_condp (fe_t rfl) (fun hq35 => ?_) (fun hq36 => ?_)
                                                                  · exact absurd rfl hq35
                                                                  · try (exfalso; omega)
                                                                    all_goals
                                                                      refine tr_skip ?_
                                                                      refine tx_in ?_
                                                                      refine tx_then ?_
                                                                      refine tr_region ?_
                                                                      refine tl_step rfl (oj_val (y_inc (fe_t rfl) fe_c (by omega)) ?_)
                                                                      refine tl_step rfl (oj_val (y_move (fe_t rfl)) ?_)
                                                                      refine tl_nil ?_
                                                                      apply tx_back4 (i + 1) (hs.set (gN r2.2 i) true) (_) (_)
                                                                      · exact (cov_cons (by first | rfl | exact v_int (by omega) | exact v_bool (by simp [*])) (cov_cons (by first | rfl | exact v_int (by omega) | exact v_bool (by simp [*])) (cov_nil)))
                                                                      · repeat (first | exact over_nil | refine over_put rfl ?_ | refine over_drop rfl ?_)
                                                                      · exact fun w h => h.pick [1, 2, 0, 3, 4, 5] _ rfl (by decide)
                                                                      · exact ⟨⟨by omega, by simp [hhl], fun y h1 h2 => by
                                                                            rw [gB_set (by omega), if_neg (fun h9 => by have := hr2.inj y i (by omega) (by omega) h9; omega)]
                                                                            exact hhv y (by omega) h2⟩, by omega⟩
                                                          · try (exfalso; omega)
                                                            all_goals
                                                              refine tl_skip rfl rfl rfl rfl ?_
                                                              refine tl_skip rfl rfl rfl rfl ?_
                                                              refine tl_skip rfl rfl rfl rfl ?_
                                                              refine tl_skip rfl rfl rfl rfl ?_
                                                              refine tl_skip rfl rfl rfl rfl ?_
                                                              refine tl_skip rfl rfl rfl rfl ?_
                                                              refine tl_skip rfl rfl rfl rfl ?_
                                                              refine tl_want rfl rfl rfl (oj_val (y_pickf (fe_t rfl) fe_c) ?_)
                                                              refine tl_step rfl (oj_val (y_pickf (fe_t rfl) (fe_t rfl)) ?_)
                                                              refine tl_nil ?_
                                                              refine tx_then ?_
                                                              refine tr_condf (fe_t rfl) ?_
                                                              refine tr_skip ?_
                                                              refine tx_then ?_
                                                              refine tr_seq ?_
                                                              have hbk := (hrg.ok _ hgi).1
                                                              have hsb := sm_bd (f := fun y => gI bs (gN r2.2 y)) (B := 1048576) (n := i) (fun y hy => (hrg.ok _ (hr2.rng y (by omega))).1)
                                                              refine tr_region ?_
                                                              refine tl_step rfl (oj_val (y_move (fe_t rfl)) ?_)
                                                              refine tl_step rfl (oj_val (y_move (fe_t rfl)) ?_)
                                                              refine tl_step rfl (oj_val (y_move (fe_t rfl)) ?_)
                                                              refine tl_step rfl (oj_val (y_index Try.underlying27 Try.sizeOf3 (fe_t rfl) (fe_t rfl) (rdl_out hb) (by simp; omega) (by decide) (by omega) (Nat.mul_one _)) ?_)
                                                              refine tl_step rfl (oj_val (y_ld Try.isAgg3 (fe_t rfl) (rdl_out hb) (getG (zs := bs) (by omega))) ?_)
                                                              refine tl_step rfl (oj_val (y_add (fe_t rfl) (fe_t rfl) (by omega)) ?_)
                                                              refine tl_step rfl (oj_val (y_assign (fe_t rfl)) ?_)
                                                              refine tl_nil ?_
                                                              refine tx_then ?_
                                                              refine tr_seq ?_
                                                              refine tr_region ?_
                                                              refine tl_step rfl (oj_val (y_move (fe_t rfl)) ?_)
                                                              refine tl_step rfl (oj_val (y_move (fe_t rfl)) ?_)
                                                              refine tl_step rfl (oj_val (y_index Try.underlying27 Try.sizeOf3 (fe_t rfl) (fe_t rfl) (rdl_vec 3 rfl) (by simp [cI]; have := hr3.2.1; omega) (by decide) (by omega) (Nat.mul_one _)) ?_)
                                                              refine tl_step rfl (oj_val (y_ld (v := (.int .i64 ((sm (fun y => gI bs (gN r2.2 y)) (i + 1))))) Try.isAgg3 (fe_t rfl) (rdl_vec 3 rfl) (by rw [← hww i (by omega)]; exact getG (zs := r3.2) (by have := hr3.2.1; omega))) ?_)
                                                              refine tl_step rfl (oj_val (y_move (fe_t rfl)) ?_)
                                                              refine tl_step rfl (oj_val (y_neq (fe_t rfl) (fe_t rfl)) ?_)
                                                              refine tl_nil ?_
                                                              refine tx_then ?_
                                                              refine tr_condp (fe_t rfl) (fun hq37 => ?_) (fun hq38 => ?_)
                                                              · exact absurd rfl hq37
                                                              · try (exfalso; omega)
                                                                all_goals
                                                                  refine tr_skip ?_
                                                                  refine tx_in ?_
                                                                  refine tx_then ?_
                                                                  refine tr_region ?_
                                                                  refine tl_step rfl (oj_val (y_inc (fe_t rfl) fe_c (by omega)) ?_)
                                                                  refine tl_step rfl (oj_val (y_move (fe_t rfl)) ?_)
                                                                  refine tl_nil ?_
                                                                  apply tx_back4 (i + 1) (hs.set (gN r2.2 i) true) (_) (_)
                                                                  · exact (cov_cons (by first | rfl | exact v_int (by omega) | exact v_bool (by simp [*])) (cov_cons (by first | rfl | exact v_int (by omega) | exact v_bool (by simp [*])) (cov_nil)))
                                                                  · repeat (first | exact over_nil | refine over_put rfl ?_ | refine over_drop rfl ?_)
                                                                  · exact fun w h => h.pick [1, 2, 0, 3, 4, 5] _ rfl (by decide)
                                                                  · exact ⟨⟨by omega, by simp [hhl], fun y h1 h2 => by
                                                                        rw [gB_set (by omega), if_neg (fun h9 => by have := hr2.inj y i (by omega) (by omega) h9; omega)]
                                                                        exact hhv y (by omega) h2⟩, by omega⟩
                                                  · try (exfalso; omega)
                                                    all_goals
                                                      refine tr_skip ?_
                                                      refine tx_then ?_
                                                      refine tr_seq ?_
                                                      have hbk := (hrg.ok _ hgi).1
                                                      have hsb := sm_bd (f := fun y => gI bs (gN r2.2 y)) (B := 1048576) (n := i) (fun y hy => (hrg.ok _ (hr2.rng y (by omega))).1)
                                                      refine tr_region ?_
                                                      refine tl_step rfl (oj_val (y_move (fe_t rfl)) ?_)
                                                      refine tl_step rfl (oj_val (y_move (fe_t rfl)) ?_)
                                                      refine tl_step rfl (oj_val (y_move (fe_t rfl)) ?_)
                                                      refine tl_step rfl (oj_val (y_index Try.underlying27 Try.sizeOf3 (fe_t rfl) (fe_t rfl) (rdl_out hb) (by simp; omega) (by decide) (by omega) (Nat.mul_one _)) ?_)
                                                      refine tl_step rfl (oj_val (y_ld Try.isAgg3 (fe_t rfl) (rdl_out hb) (getG (zs := bs) (by omega))) ?_)
                                                      refine tl_step rfl (oj_val (y_add (fe_t rfl) (fe_t rfl) (by omega)) ?_)
                                                      refine tl_step rfl (oj_val (y_assign (fe_t rfl)) ?_)
                                                      refine tl_nil ?_
                                                      refine tx_then ?_
                                                      refine tr_seq ?_
                                                      refine tr_region ?_
                                                      refine tl_step rfl (oj_val (y_move (fe_t rfl)) ?_)
                                                      refine tl_step rfl (oj_val (y_move (fe_t rfl)) ?_)
                                                      refine tl_step rfl (oj_val (y_index Try.underlying27 Try.sizeOf3 (fe_t rfl) (fe_t rfl) (rdl_vec 3 rfl) (by simp [cI]; have := hr3.2.1; omega) (by decide) (by omega) (Nat.mul_one _)) ?_)
                                                      refine tl_step rfl (oj_val (y_ld (v := (.int .i64 ((sm (fun y => gI bs (gN r2.2 y)) (i + 1))))) Try.isAgg3 (fe_t rfl) (rdl_vec 3 rfl) (by rw [← hww i (by omega)]; exact getG (zs := r3.2) (by have := hr3.2.1; omega))) ?_)
                                                      refine tl_step rfl (oj_val (y_move (fe_t rfl)) ?_)
                                                      refine tl_step rfl (oj_val (y_neq (fe_t rfl) (fe_t rfl)) ?_)
                                                      refine tl_nil ?_
                                                      refine tx_then ?_
                                                      refine tr_condp (fe_t rfl) (fun hq39 => ?_) (fun hq40 => ?_)
                                                      · exact absurd rfl hq39
                                                      · try (exfalso; omega)
                                                        all_goals
                                                          refine tr_skip ?_
                                                          refine tx_in ?_
                                                          refine tx_then ?_
                                                          refine tr_region ?_
                                                          refine tl_step rfl (oj_val (y_inc (fe_t rfl) fe_c (by omega)) ?_)
                                                          refine tl_step rfl (oj_val (y_move (fe_t rfl)) ?_)
                                                          refine tl_nil ?_
                                                          apply tx_back4 (i + 1) (hs.set (gN r2.2 i) true) (_) (_)
                                                          · exact (cov_cons (by first | rfl | exact v_int (by omega) | exact v_bool (by simp [*])) (cov_cons (by first | rfl | exact v_int (by omega) | exact v_bool (by simp [*])) (cov_nil)))
                                                          · repeat (first | exact over_nil | refine over_put rfl ?_ | refine over_drop rfl ?_)
                                                          · exact fun w h => h.pick [0, 1, 2, 3, 4, 5] _ rfl (by decide)
                                                          · exact ⟨⟨by omega, by simp [hhl], fun y h1 h2 => by
                                                                rw [gB_set (by omega), if_neg (fun h9 => by have := hr2.inj y i (by omega) (by omega) h9; omega)]
                                                                exact hhv y (by omega) h2⟩, by omega⟩
                                      · try (exfalso; omega)
                                        all_goals
                                          refine tr_exit ?_
                                          refine tx_then_exit ?_
                                          refine tx_then_exit ?_
                                          refine tx_in_exit ?_
                                          refine tx_then ?_
                                          refine tr_seq ?_
                                          refine tr_region ?_
                                          refine tl_step rfl (oj_val (y_assign fe_c) ?_)
                                          refine tl_nil ?_
                                          refine tx_then ?_
                                          refine tr_ret ?_
                                          refine tx_ret (res1 Try.results7 (rok_t rfl)) (fun w' hS => ?_)
                                          exact ⟨ret_bool (by first | rfl | (simp; done) | (simp [*]; done)), hS.pick [] _ rfl (by decide)⟩

end Go.Proofs.Ytpknjfeiiaopgaa.Gps
