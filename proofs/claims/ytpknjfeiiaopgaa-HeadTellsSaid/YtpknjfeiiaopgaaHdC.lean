/- Walks: slices.Grow, Concat of bytes. -/
import Derived.Test.YtpknjfeiiaopgaaHdV
import Derived.Test.YtpknjfeiiaopgaaEY
namespace Go.Proofs.Ytpknjfeiiaopgaa.Head
open Go.RowKit Go.Proofs.Ytpknjfeiiaopgaa.E

set_option maxRecDepth 100000 in
set_option maxHeartbeats 2000000 in
theorem growE (n : Nat) (hn : n ≤ 1000000) (w : World) :
    Calls Try.prog 94 #[.slice none 0 0, (.int .i64 ((n : Int)))] w fun e w' => ∃ r : Vs, (r.n = 0 ∧ r.xs = []) ∧ e = .returned (.slice r.A r.n r.c) ∧ St w w' [vec 5 1 (.slice r.A r.n r.c) r.n r.xs] := by
  refine calls_tr Try.func94 Try.ntmps94 rfl rfl (St.refl _) ?_
  refine tr_seq ?_
  refine tr_region ?_
  refine tl_step rfl (oj_val (y_assign fe_c) ?_)
  refine tl_nil ?_
  refine tx_then ?_
  refine tr_seq ?_
  refine tr_seq ?_
  refine tr_region ?_
  refine tl_step rfl (oj_val (y_move (fe_t rfl)) ?_)
  refine tl_step rfl (oj_val (y_lss (fe_t rfl) fe_c) ?_)
  refine tl_nil ?_
  refine tx_then ?_
  refine tr_condp (fe_t rfl) (fun hq1 => ?_) (fun hq2 => ?_)
  · exfalso; omega
  · try (exfalso; omega)
    all_goals
      refine tr_skip ?_
      refine tx_then ?_
      refine tr_seq ?_
      refine tr_seq ?_
      refine tr_region ?_
      refine tl_step rfl (oj_val (y_move (fe_t rfl)) ?_)
      refine tl_step rfl (oj_val (y_move (fe_t rfl)) ?_)
      refine tl_step rfl (oj_val (y_cap Try.underlying39 (fe_t rfl)) ?_)
      refine tl_step rfl (oj_val (y_move (fe_t rfl)) ?_)
      refine tl_step rfl (oj_val (y_len Try.underlying39 (fe_t rfl)) ?_)
      refine tl_step rfl (oj_val (y_sub (fe_t rfl) (fe_t rfl) (by omega)) ?_)
      refine tl_step rfl (oj_val (y_sub (fe_t rfl) (fe_t rfl) (by omega)) ?_)
      refine tl_step rfl (oj_val (y_assign (fe_t rfl)) ?_)
      refine tl_nil ?_
      refine tx_then ?_
      refine tr_seq ?_
      refine tr_region ?_
      refine tl_step rfl (oj_val (y_move (fe_t rfl)) ?_)
      refine tl_step rfl (oj_val (y_gtr (fe_t rfl) fe_c) ?_)
      refine tl_nil ?_
      refine tx_then ?_
      refine tr_condp (fe_t rfl) (fun hq3 => ?_) (fun hq4 => ?_)
      · try (exfalso; omega)
        all_goals
          refine tr_region ?_
          refine tl_step rfl (oj_val (y_move (fe_t rfl)) ?_)
          refine tl_step rfl (oj_val (y_move (fe_t rfl)) ?_)
          refine tl_step rfl (oj_val (y_cap Try.underlying39 (fe_t rfl)) ?_)
          refine tl_step rfl (oj_val (y_cutH (l := 0) Try.underlying39 Try.sizeOf5 (fe_t rfl) (fe_t rfl) (by omega)) ?_)
          refine tl_step rfl (oj_val (y_move (fe_t rfl)) ?_)
          refine tl_add (r := vec 5 1 (.slice none 0 0) 0 []) vec_nil rfl ?_
          refine tl_step rfl (oj_appzN (s := 1) (m := n) (z := .int .u8 0) (bytes := 1) Try.underlying39 Try.underlying3 (by kernel_rfl) (fe_t rfl) (fe_i (by omega) rfl) ⟨rfl, by decide⟩ ⟨by omega, by omega⟩ (by decide) (fun b9 c9 hc9 => ?_))
          refine tl_step rfl (oj_val (y_move (fe_t rfl)) ?_)
          refine tl_step rfl (oj_val (y_len Try.underlying39 (fe_t rfl)) ?_)
          refine tl_step rfl (oj_val (y_cutH (l := 0) Try.underlying39 Try.sizeOf5 (fe_t rfl) (fe_t rfl) (by omega)) ?_)
          refine tl_step rfl (oj_val (y_assign (fe_t rfl)) ?_)
          refine tl_nil ?_
          refine tx_then ?_
          refine tr_seq ?_
          refine tr_shrink (m := 0) 0 rfl (by omega) ?_
          refine tr_region ?_
          refine tl_step rfl (oj_val (y_move (fe_t rfl)) ?_)
          refine tl_step rfl (oj_val (y_assign (fe_t rfl)) ?_)
          refine tl_nil ?_
          refine tx_then ?_
          refine tr_ret ?_
          refine tx_ret (res1 Try.results94 (rok_t rfl)) (fun w' hS => ?_)
          exact ⟨⟨_, _, _, _⟩, ⟨rfl, by first | rfl | simp⟩, rfl, hS.pick [0] _ rfl (by decide)⟩
      · try (exfalso; omega)
        all_goals
          refine tr_skip ?_
          refine tx_then ?_
          refine tr_seq ?_
          refine tr_add (r := vec 5 1 (.slice none 0 0) 0 []) vec_nil rfl ?_
          refine tr_region ?_
          refine tl_step rfl (oj_val (y_move (fe_t rfl)) ?_)
          refine tl_step rfl (oj_val (y_assign (fe_t rfl)) ?_)
          refine tl_nil ?_
          refine tx_then ?_
          refine tr_ret ?_
          refine tx_ret (res1 Try.results94 (rok_t rfl)) (fun w' hS => ?_)
          exact ⟨⟨none, 0, 0, []⟩, ⟨rfl, rfl⟩, rfl, hS.pick [0] _ rfl (by decide)⟩

def catTo (a b : List Int) : Nat → List Int
  | 0 => []
  | 1 => a
  | _ => a ++ b
theorem cat_part {A B : Option Addr} {i : Nat} {a b : List Int} {w : World} (ha : Rd w A (cB a)) (hb : Rd w B (cB b)) (han : a.length = 4) (hbn : b.length = 4) (hi : i < 2) :
    ∃ X lx, [Value.slice A 4 4, Value.slice B 4 4][i]? = some (.slice X 4 4) ∧ Rd w X (cB lx) ∧ lx.length = 4 ∧ catTo a b (i + 1) = catTo a b i ++ lx := by
  rcases (show i = 0 ∨ i = 1 by omega) with rfl | rfl
  · exact ⟨A, a, rfl, ha, han, rfl⟩
  · exact ⟨B, b, rfl, hb, hbn, rfl⟩
theorem cat_len {a b : List Int} (han : a.length = 4) (hbn : b.length = 4) (i : Nat) (hi : i ≤ 2) : (catTo a b i).length = 4 * i := by
  rcases (show i = 0 ∨ i = 1 ∨ i = 2 by omega) with rfl | rfl | rfl
  · rfl
  · simpa [catTo] using han
  · simp [catTo]; omega

set_option maxRecDepth 100000 in
set_option maxHeartbeats 4000000 in
theorem concatE {P A B : Option Addr} {pc : Nat} {a b : List Int} (w : World) (hP : Rd w P [.slice A 4 4, .slice B 4 4]) (ha : Rd w A (cB a)) (hb : Rd w B (cB b)) (han : a.length = 4) (hbn : b.length = 4) :
    Calls Try.prog 52 #[.slice P 2 pc] w fun e w' => ∃ r : Vs, (r.n = 8 ∧ r.xs = cB (a ++ b)) ∧ e = .returned (.slice r.A r.n r.c) ∧ St w w' [vec 5 1 (.slice r.A r.n r.c) r.n r.xs] := by
  refine calls_tr Try.func52 Try.ntmps52 rfl rfl (St.refl _) ?_
  refine tr_seq ?_
  refine tr_region ?_
  refine tl_step rfl (oj_val (y_assign fe_c) ?_)
  refine tl_nil ?_
  refine tx_then ?_
  refine tr_seq ?_
  refine tr_region ?_
  refine tl_step rfl (oj_val (y_assign fe_c) ?_)
  refine tl_nil ?_
  refine tx_then ?_
  refine tr_seq ?_
  refine tr_seq ?_
  refine tr_region ?_
  refine tl_step rfl (oj_val (y_move (fe_t rfl)) ?_)
  refine tl_step rfl (oj_val (y_len Try.underlying107 (fe_t rfl)) ?_)
  refine tl_step rfl (oj_val (y_move fe_c) ?_)
  refine tl_nil ?_
  refine tx_then ?_
  refine tr_block ?_
  refine tr_loop1 [3, 5, 11, 12, 13, 14, 15, 16, 17, 18, 19, 20, 21, 22] (fun (i : Nat) => [(11, .int .i64 (i : Int)), (3, .int .i64 ((4 * i : Nat) : Int))]) 0 (fun (i : Nat) => []) (fun (i : Nat) => i ≤ 2) (fun (i : Nat) => 2 - i) (0) (cov_cons (by first | rfl | exact v_int (by omega) | exact v_bool (by simp [*])) (cov_cons (by first | rfl | exact v_int (by omega) | exact v_bool (by simp [*])) (cov_nil))) (fun w h => h) ?_ ?_
  · try dsimp only
    omega
  intro i hp
  have hi := hp
  refine tr_seq ?_
  refine tr_region ?_
  refine tl_step rfl (oj_val (y_lss (fe_t rfl) (fe_t rfl)) ?_)
  refine tl_nil ?_
  refine tx_then ?_
  refine tr_seq ?_
  refine tr_condp (fe_t rfl) (fun hq1 => ?_) (fun hq2 => ?_)
  · try (exfalso; omega)
    all_goals
      refine tr_skip ?_
      refine tx_then ?_
      refine tr_seq ?_
      refine tr_block ?_
      refine tr_seq ?_
      obtain ⟨X, lx, hgx, hrx, hlx, hce⟩ := cat_part ha hb han hbn (show i < 2 by omega)
      refine tr_region ?_
      refine tl_step rfl (oj_val (y_index Try.underlying107 Try.sizeOf39 (fe_t rfl) (fe_t rfl) (rdl_out hP) (rfl) (by decide) (by omega) (Nat.mul_one _)) ?_)
      refine tl_step rfl (oj_val (y_ld (v := .slice X 4 4) Try.isAgg39 (fe_t rfl) (rdl_out hP) hgx) ?_)
      refine tl_step rfl (oj_val (y_assign (fe_t rfl)) ?_)
      refine tl_nil ?_
      refine tx_then ?_
      refine tr_seq ?_
      refine tr_region ?_
      refine tl_step rfl (oj_val (y_move (fe_t rfl)) ?_)
      refine tl_step rfl (oj_val (y_move (fe_t rfl)) ?_)
      refine tl_step rfl (oj_val (y_len Try.underlying39 (fe_t rfl)) ?_)
      refine tl_step rfl (oj_val (y_add (fe_t rfl) (fe_t rfl) (by omega)) ?_)
      refine tl_step rfl (oj_val (y_assign (fe_t rfl)) ?_)
      refine tl_nil ?_
      refine tx_then ?_
      refine tr_seq ?_
      refine tr_region ?_
      refine tl_step rfl (oj_val (y_move (fe_t rfl)) ?_)
      refine tl_step rfl (oj_val (y_lss (fe_t rfl) fe_c) ?_)
      refine tl_nil ?_
      refine tx_then ?_
      refine tr_condp (fe_t rfl) (fun hq3 => ?_) (fun hq4 => ?_)
      · exfalso; omega
      · try (exfalso; omega)
        all_goals
          refine tr_skip ?_
          refine tx_in ?_
          refine tx_then ?_
          refine tr_region ?_
          refine tl_step rfl (oj_val (y_inc (fe_t rfl) fe_c (by omega)) ?_)
          refine tl_step rfl (oj_val (y_move (fe_t rfl)) ?_)
          refine tl_nil ?_
          apply tx_back1 (i + 1)
          · exact (cov_cons (by first | rfl | exact v_int (by omega) | exact v_bool (by simp [*])) (cov_cons (by first | rfl | exact v_int (by omega) | exact v_bool (by simp [*])) (cov_nil)))
          · repeat (first | exact over_nil | refine over_put rfl ?_ | refine over_drop rfl ?_)
          · exact fun w h => h.pick [] _ rfl (by decide)
          · exact ⟨by omega, by omega⟩
  · try (exfalso; omega)
    all_goals
      refine tr_exit ?_
      refine tx_then_exit ?_
      refine tx_then_exit ?_
      refine tx_in_exit ?_
      refine tx_then ?_
      refine tr_seq ?_
      obtain rfl : i = 2 := by omega
      refine tr_region ?_
      refine tl_step rfl (oj_val (y_move (fe_t rfl)) ?_)
      refine tl_step rfl (oj_call Try.call94 fe_f (fel_cons fe_c (fel_cons (fe_i (by omega) rfl) fel_nil)) (fun w' hS => growE 8 (by omega) w') (fun r0 h0 => ?_))
      refine tl_step rfl (oj_val (y_assign (fe_t rfl)) ?_)
      refine tl_nil ?_
      refine tx_then ?_
      refine tr_seq ?_
      refine tr_seq ?_
      refine tr_region ?_
      refine tl_step rfl (oj_val (y_move (fe_t rfl)) ?_)
      refine tl_step rfl (oj_val (y_len Try.underlying107 (fe_t rfl)) ?_)
      refine tl_step rfl (oj_val (y_move fe_c) ?_)
      refine tl_nil ?_
      refine tx_then ?_
      refine tr_block ?_
      refine tr_loop2 [6, 8, 27, 28, 29, 30, 31, 32, 33, 34] (fun (i : Nat) (z : Vs) => [(27, .int .i64 (i : Int)), (6, .slice z.A z.n z.c)]) 0 (fun (i : Nat) (z : Vs) => [(0, vec 5 1 (.slice z.A z.n z.c) z.n z.xs)]) (fun (i : Nat) (z : Vs) => i ≤ 2 ∧ z.n = 4 * i ∧ z.xs = cB (catTo a b i)) (fun (i : Nat) (z : Vs) => 2 - i) (0) (r0) (cov_cons (by first | rfl | exact v_int (by omega) | exact v_bool (by simp [*])) (cov_cons (by first | rfl | exact v_int (by omega) | exact v_bool (by simp [*])) (cov_nil))) (fun w h => h) ?_ ?_
      · try dsimp only
        exact ⟨by omega, h0.1, h0.2⟩
      intro i z hp
      obtain ⟨hi, hzn, hzx⟩ := hp
      refine tr_seq ?_
      refine tr_region ?_
      refine tl_step rfl (oj_val (y_lss (fe_t rfl) (fe_t rfl)) ?_)
      refine tl_nil ?_
      refine tx_then ?_
      refine tr_seq ?_
      refine tr_condp (fe_t rfl) (fun hq5 => ?_) (fun hq6 => ?_)
      · try (exfalso; omega)
        all_goals
          refine tr_skip ?_
          refine tx_then ?_
          refine tr_seq ?_
          refine tr_block ?_
          refine tr_seq ?_
          obtain ⟨X, lx, hgx, hrx, hlx, hce⟩ := cat_part ha hb han hbn (show i < 2 by omega)
          refine tr_region ?_
          refine tl_step rfl (oj_val (y_index Try.underlying107 Try.sizeOf39 (fe_t rfl) (fe_t rfl) (rdl_out hP) (rfl) (by decide) (by omega) (Nat.mul_one _)) ?_)
          refine tl_step rfl (oj_val (y_ld (v := .slice X 4 4) Try.isAgg39 (fe_t rfl) (rdl_out hP) hgx) ?_)
          refine tl_step rfl (oj_val (y_assign (fe_t rfl)) ?_)
          refine tl_nil ?_
          refine tx_then ?_
          refine tr_region ?_
          refine tl_step rfl (oj_val (y_move (fe_t rfl)) ?_)
          refine tl_step rfl (oj_val (y_move (fe_t rfl)) ?_)
          refine tl_step rfl (oj_appg (i := 0) (s := 1) (z := (.int .u8 0)) (bytes := 1) Try.underlying39 (by kernel_rfl) (fe_t rfl) (fe_t rfl) rfl (rdl_out hrx) (by rw [cB_len, hlx]) (by decide) oneB ⟨by omega, by decide⟩ (fun Aa1 ca1 hca1 => ?_))
          refine tl_step rfl (oj_val (y_assign (fe_t rfl)) ?_)
          refine tl_nil ?_
          refine tx_in ?_
          refine tx_then ?_
          refine tr_region ?_
          refine tl_step rfl (oj_val (y_inc (fe_t rfl) fe_c (by omega)) ?_)
          refine tl_step rfl (oj_val (y_move (fe_t rfl)) ?_)
          refine tl_nil ?_
          apply tx_back2 (i + 1) ((⟨_, _, _, _⟩ : Vs))
          · exact (cov_cons (by first | rfl | exact v_int (by omega) | exact v_bool (by simp [*])) (cov_cons (by first | rfl | exact v_int (by omega) | exact v_bool (by simp [*])) (cov_nil)))
          · repeat (first | exact over_nil | refine over_put rfl ?_ | refine over_drop rfl ?_)
          · exact fun w h => h.pick [0] _ rfl (by decide)
          · exact ⟨⟨by omega, by dsimp only; omega, by dsimp only; rw [hce, cB_app, hzx]⟩, by omega⟩
      · try (exfalso; omega)
        all_goals
          refine tr_exit ?_
          refine tx_then_exit ?_
          refine tx_then_exit ?_
          refine tx_in_exit ?_
          refine tx_then ?_
          refine tr_seq ?_
          obtain rfl : i = 2 := by omega
          refine tr_region ?_
          refine tl_step rfl (oj_val (y_move (fe_t rfl)) ?_)
          refine tl_step rfl (oj_val (y_assign (fe_t rfl)) ?_)
          refine tl_nil ?_
          refine tx_then ?_
          refine tr_ret ?_
          refine tx_ret (res1 Try.results52 (rok_t rfl)) (fun w' hS => ?_)
          exact ⟨z, ⟨hzn, hzx⟩, rfl, hS.pick [0] _ rfl (by decide)⟩

end Go.Proofs.Ytpknjfeiiaopgaa.Head
