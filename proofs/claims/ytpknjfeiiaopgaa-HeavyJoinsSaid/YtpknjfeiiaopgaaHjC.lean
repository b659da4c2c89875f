/- slices.Grow, Concat of counts. -/
import Derived.Test.YtpknjfeiiaopgaaHjM
import Derived.Test.YtpknjfeiiaopgaaEY
import Derived.Test.YtpknjfeiiaopgaaHvW
namespace Go.Proofs.Ytpknjfeiiaopgaa.Heavy
open Go.RowKit Go.Proofs.Ytpknjfeiiaopgaa.E

set_option maxRecDepth 100000 in
set_option maxHeartbeats 2000000 in
theorem growE (n : Nat) (hn : n ≤ 1000000) (w : World) :
    Calls Try.prog 120 #[.slice none 0 0, (.int .i64 ((n : Int)))] w fun e w' => ∃ r : Vs, (r.n = 0 ∧ r.xs = []) ∧ e = .returned (.slice r.A r.n r.c) ∧ St w w' [vec 92 2 (.slice r.A r.n r.c) r.n r.xs] := by
  refine calls_tr Try.func120 Try.ntmps120 rfl rfl (St.refl _) ?_
  refine tr_seq ?_
  refine tr_region ?_
  refine tl_step rfl (oj_val (y_assign fe_c) ?_)
  refine tl_nil ?_
  refine tx_then ?_
  refine tr_seq ?_
  refine tr_seq ?_
  refine tr_region ?_
  refine tl_step rfl (oj_val (y_move (fe_t rfl)) ?_)
  refine tl_step rfl (oj_val (y_lss (fe_t rfl) fe_c) ?_)
  refine tl_nil ?_
  refine tx_then ?_
  refine tr_condp (fe_t rfl) (fun hq1 => ?_) (fun hq2 => ?_)
  · exfalso; omega
  · try (exfalso; omega)
    all_goals
      refine tr_skip ?_
      refine tx_then ?_
      refine tr_seq ?_
      refine tr_seq ?_
      refine tr_region ?_
      refine tl_step rfl (oj_val (y_move (fe_t rfl)) ?_)
      refine tl_step rfl (oj_val (y_move (fe_t rfl)) ?_)
      refine tl_step rfl (oj_val (y_cap Try.underlying87 (fe_t rfl)) ?_)
      refine tl_step rfl (oj_val (y_move (fe_t rfl)) ?_)
      refine tl_step rfl (oj_val (y_len Try.underlying87 (fe_t rfl)) ?_)
      refine tl_step rfl (oj_val (y_sub (fe_t rfl) (fe_t rfl) (by omega)) ?_)
      refine tl_step rfl (oj_val (y_sub (fe_t rfl) (fe_t rfl) (by omega)) ?_)
      refine tl_step rfl (oj_val (y_assign (fe_t rfl)) ?_)
      refine tl_nil ?_
      refine tx_then ?_
      refine tr_seq ?_
      refine tr_region ?_
      refine tl_step rfl (oj_val (y_move (fe_t rfl)) ?_)
      refine tl_step rfl (oj_val (y_gtr (fe_t rfl) fe_c) ?_)
      refine tl_nil ?_
      refine tx_then ?_
      refine tr_condp (fe_t rfl) (fun hq3 => ?_) (fun hq4 => ?_)
      · try (exfalso; omega)
        all_goals
          refine tr_region ?_
          refine tl_step rfl (oj_val (y_move (fe_t rfl)) ?_)
          refine tl_step rfl (oj_val (y_move (fe_t rfl)) ?_)
          refine tl_step rfl (oj_val (y_cap Try.underlying87 (fe_t rfl)) ?_)
          refine tl_step rfl (oj_val (y_cutH (l := 0) Try.underlying87 Try.sizeOf92 (fe_t rfl) (fe_t rfl) (by omega)) ?_)
          refine tl_step rfl (oj_val (y_move (fe_t rfl)) ?_)
          refine tl_add (r := vec 92 2 (.slice none 0 0) 0 []) vec_nil rfl ?_
          refine tl_step rfl (oj_appzN (s := 2) (m := n) (z := .agg #[(.int .i64 0), (.int .i64 0)]) (bytes := 16) Try.underlying87 Try.underlying3 (by kernel_rfl) (fe_t rfl) (fe_i (by omega) rfl) ⟨rfl, by decide⟩ ⟨by omega, by omega⟩ (by decide) (fun b9 c9 hc9 => ?_))
          refine tl_step rfl (oj_val (y_move (fe_t rfl)) ?_)
          refine tl_step rfl (oj_val (y_len Try.underlying87 (fe_t rfl)) ?_)
          refine tl_step rfl (oj_val (y_cutH (l := 0) Try.underlying87 Try.sizeOf92 (fe_t rfl) (fe_t rfl) (by omega)) ?_)
          refine tl_step rfl (oj_val (y_assign (fe_t rfl)) ?_)
          refine tl_nil ?_
          refine tx_then ?_
          refine tr_seq ?_
          refine tr_shrink (m := 0) 0 rfl (by omega) ?_
          refine tr_region ?_
          refine tl_step rfl (oj_val (y_move (fe_t rfl)) ?_)
          refine tl_step rfl (oj_val (y_assign (fe_t rfl)) ?_)
          refine tl_nil ?_
          refine tx_then ?_
          refine tr_ret ?_
          refine tx_ret (res1 Try.results120 (rok_t rfl)) (fun w' hS => ?_)
          exact ⟨⟨_, _, _, _⟩, ⟨rfl, by first | rfl | simp⟩, rfl, hS.pick [0] _ rfl (by decide)⟩
      · try (exfalso; omega)
        all_goals
          refine tr_skip ?_
          refine tx_then ?_
          refine tr_seq ?_
          refine tr_add (r := vec 92 2 (.slice none 0 0) 0 []) vec_nil rfl ?_
          refine tr_region ?_
          refine tl_step rfl (oj_val (y_move (fe_t rfl)) ?_)
          refine tl_step rfl (oj_val (y_assign (fe_t rfl)) ?_)
          refine tl_nil ?_
          refine tx_then ?_
          refine tr_ret ?_
          refine tx_ret (res1 Try.results120 (rok_t rfl)) (fun w' hS => ?_)
          exact ⟨⟨none, 0, 0, []⟩, ⟨rfl, rfl⟩, rfl, hS.pick [0] _ rfl (by decide)⟩

def catTo (a b : List (Int × Int)) : Nat → List (Int × Int)
  | 0 => []
  | 1 => a
  | _ => a ++ b
theorem cat_part {A B : Option Addr} {n c m d i : Nat} {a b : List (Int × Int)} {w : World} (ha : Rd w A (a.flatMap c2)) (hb : Rd w B (b.flatMap c2)) (han : a.length = n) (hbn : b.length = m) (h4 : n ≤ 400 ∧ m ≤ 400) (hi : i < 2) :
    ∃ X nx cx lx, [Value.slice A n c, Value.slice B m d][i]? = some (.slice X nx cx) ∧ Rd w X (lx.flatMap c2) ∧ lx.length = nx ∧ nx ≤ 400 ∧ catTo a b (i + 1) = catTo a b i ++ lx := by
  rcases (show i = 0 ∨ i = 1 by omega) with rfl | rfl
  · exact ⟨A, n, c, a, rfl, ha, han, h4.1, rfl⟩
  · exact ⟨B, m, d, b, rfl, hb, hbn, h4.2, rfl⟩
theorem cat_len {a b : List (Int × Int)} {n m : Nat} (han : a.length = n) (hbn : b.length = m) (i : Nat) : (catTo a b i).length ≤ n + m := by
  match i with
  | 0 => simp [catTo]
  | 1 => simp [catTo]; omega
  | i + 2 => simp [catTo]; omega
set_option maxRecDepth 100000 in
set_option maxHeartbeats 4000000 in
theorem concatE {P A B : Option Addr} {pc n c m d : Nat} {a b : List (Int × Int)} (w : World) (hP : Rd w P [.slice A n c, .slice B m d]) (ha : Rd w A (a.flatMap c2)) (hb : Rd w B (b.flatMap c2)) (han : a.length = n) (hbn : b.length = m) (h4 : n ≤ 400 ∧ m ≤ 400) :
    Calls Try.prog 86 #[.slice P 2 pc] w fun e w' => ∃ r : Vs, (r.n = n + m ∧ r.xs = (a ++ b).flatMap c2) ∧ e = .returned (.slice r.A r.n r.c) ∧ St w w' [vec 92 2 (.slice r.A r.n r.c) r.n r.xs] := by
  refine calls_tr Try.func86 Try.ntmps86 rfl rfl (St.refl _) ?_
  refine tr_seq ?_
  refine tr_region ?_
  refine tl_step rfl (oj_val (y_assign fe_c) ?_)
  refine tl_nil ?_
  refine tx_then ?_
  refine tr_seq ?_
  refine tr_region ?_
  refine tl_step rfl (oj_val (y_assign fe_c) ?_)
  refine tl_nil ?_
  refine tx_then ?_
  refine tr_seq ?_
  refine tr_seq ?_
  refine tr_region ?_
  refine tl_step rfl (oj_val (y_move (fe_t rfl)) ?_)
  refine tl_step rfl (oj_val (y_len Try.underlying184 (fe_t rfl)) ?_)
  refine tl_step rfl (oj_val (y_move fe_c) ?_)
  refine tl_nil ?_
  refine tx_then ?_
  refine tr_block ?_
  refine tr_loop2 [3, 5, 11, 12, 13, 14, 15, 16, 17, 18, 19, 20, 21, 22] (fun (i : Nat) (q : Int) => [(11, .int .i64 (i : Int)), (3, .int .i64 q)]) 0 (fun (i : Nat) (q : Int) => []) (fun (i : Nat) (q : Int) => i ≤ 2 ∧ q = ((catTo a b i).length : Int)) (fun (i : Nat) (q : Int) => 2 - i) (0) (0) (cov_cons (by first | rfl | exact v_int (by omega) | exact v_bool (by simp [*])) (cov_cons (by first | rfl | exact v_int (by omega) | exact v_bool (by simp [*])) (cov_nil))) (fun w h => h) ?_ ?_
  · try dsimp only
    exact ⟨by omega, rfl⟩
  intro i q hp
  obtain ⟨hi, hq0⟩ := hp
  have hcl := cat_len han hbn i
  refine tr_seq ?_
  refine tr_region ?_
  refine tl_step rfl (oj_val (y_lss (fe_t rfl) (fe_t rfl)) ?_)
  refine tl_nil ?_
  refine tx_then ?_
  refine tr_seq ?_
  refine tr_condp (fe_t rfl) (fun hq1 => ?_) (fun hq2 => ?_)
  · try (exfalso; omega)
    all_goals
      refine tr_skip ?_
      refine tx_then ?_
      refine tr_seq ?_
      refine tr_block ?_
      refine tr_seq ?_
      obtain ⟨X, nx, cx, lx, hgx, hrx, hlx, hx4, hce⟩ := cat_part (c := c) (d := d) ha hb han hbn h4 (show i < 2 by omega)
      have hcl2 : (catTo a b (i + 1)).length = (catTo a b i).length + nx := by rw [hce, List.length_append, hlx]
      refine tr_region ?_
      refine tl_step rfl (oj_val (y_index Try.underlying184 Try.sizeOf87 (fe_t rfl) (fe_t rfl) (rdl_out hP) (rfl) (by decide) (by omega) (Nat.mul_one _)) ?_)
      refine tl_step rfl (oj_val (y_ld (v := .slice X nx cx) Try.isAgg87 (fe_t rfl) (rdl_out hP) hgx) ?_)
      refine tl_step rfl (oj_val (y_assign (fe_t rfl)) ?_)
      refine tl_nil ?_
      refine tx_then ?_
      refine tr_seq ?_
      refine tr_region ?_
      refine tl_step rfl (oj_val (y_move (fe_t rfl)) ?_)
      refine tl_step rfl (oj_val (y_move (fe_t rfl)) ?_)
      refine tl_step rfl (oj_val (y_len Try.underlying87 (fe_t rfl)) ?_)
      refine tl_step rfl (oj_val (y_add (fe_t rfl) (fe_t rfl) (by omega)) ?_)
      refine tl_step rfl (oj_val (y_assign (fe_t rfl)) ?_)
      refine tl_nil ?_
      refine tx_then ?_
      refine tr_seq ?_
      refine tr_region ?_
      refine tl_step rfl (oj_val (y_move (fe_t rfl)) ?_)
      refine tl_step rfl (oj_val (y_lss (fe_t rfl) fe_c) ?_)
      refine tl_nil ?_
      refine tx_then ?_
      refine tr_condp (fe_t rfl) (fun hq3 => ?_) (fun hq4 => ?_)
      · exfalso; omega
      · try (exfalso; omega)
        all_goals
          refine tr_skip ?_
          refine tx_in ?_
          refine tx_then ?_
          refine tr_region ?_
          refine tl_step rfl (oj_val (y_inc (fe_t rfl) fe_c (by omega)) ?_)
          refine tl_step rfl (oj_val (y_move (fe_t rfl)) ?_)
          refine tl_nil ?_
          apply tx_back2 (i + 1) (_)
          · exact (cov_cons (by first | rfl | exact v_int (by omega) | exact v_bool (by simp [*])) (cov_cons (by first | rfl | exact v_int (by omega) | exact v_bool (by simp [*])) (cov_nil)))
          · repeat (first | exact over_nil | refine over_put rfl ?_ | refine over_drop rfl ?_)
          · exact fun w h => h.pick [] _ rfl (by decide)
          · exact ⟨⟨by omega, by omega⟩, by omega⟩
  · try (exfalso; omega)
    all_goals
      refine tr_exit ?_
      refine tx_then_exit ?_
      refine tx_then_exit ?_
      refine tx_in_exit ?_
      refine tx_then ?_
      refine tr_seq ?_
      obtain rfl : i = 2 := by omega
      have hq1 : q = ((n + m : Nat) : Int) := by rw [hq0]; show ((a ++ b).length : Int) = _; rw [List.length_append]; omega
      refine tr_region ?_
      refine tl_step rfl (oj_val (y_move (fe_t rfl)) ?_)
      refine tl_step rfl (oj_call Try.call120 fe_f (fel_cons fe_c (fel_cons (fe_i (by omega) rfl) fel_nil)) (fun w' hS => growE (n + m) (by omega) w') (fun r0 h0 => ?_))
      refine tl_step rfl (oj_val (y_assign (fe_t rfl)) ?_)
      refine tl_nil ?_
      refine tx_then ?_
      refine tr_seq ?_
      refine tr_seq ?_
      refine tr_region ?_
      refine tl_step rfl (oj_val (y_move (fe_t rfl)) ?_)
      refine tl_step rfl (oj_val (y_len Try.underlying184 (fe_t rfl)) ?_)
      refine tl_step rfl (oj_val (y_move fe_c) ?_)
      refine tl_nil ?_
      refine tx_then ?_
      refine tr_block ?_
      refine tr_loop2 [6, 8, 27, 28, 29, 30, 31, 32, 33, 34] (fun (i : Nat) (z : Vs) => [(27, .int .i64 (i : Int)), (6, .slice z.A z.n z.c)]) 0 (fun (i : Nat) (z : Vs) => [(0, vec 92 2 (.slice z.A z.n z.c) z.n z.xs)]) (fun (i : Nat) (z : Vs) => i ≤ 2 ∧ z.n = (catTo a b i).length ∧ z.xs = (catTo a b i).flatMap c2) (fun (i : Nat) (z : Vs) => 2 - i) (0) (r0) (cov_cons (by first | rfl | exact v_int (by omega) | exact v_bool (by simp [*])) (cov_cons (by first | rfl | exact v_int (by omega) | exact v_bool (by simp [*])) (cov_nil))) (fun w h => h) ?_ ?_
      · try dsimp only
        exact ⟨by omega, h0.1, h0.2⟩
      intro i z hp
      obtain ⟨hi, hzn, hzx⟩ := hp
      have hcl := cat_len han hbn i
      refine tr_seq ?_
      refine tr_region ?_
      refine tl_step rfl (oj_val (y_lss (fe_t rfl) (fe_t rfl)) ?_)
      refine tl_nil ?_
      refine tx_then ?_
      refine tr_seq ?_
      refine tr_condp (fe_t rfl) (fun hq5 => ?_) (fun hq6 => ?_)
      · try (exfalso; omega)
        all_goals
          refine tr_skip ?_
          refine tx_then ?_
          refine tr_seq ?_
          refine tr_block ?_
          refine tr_seq ?_
          obtain ⟨X, nx, cx, lx, hgx, hrx, hlx, hx4, hce⟩ := cat_part (c := c) (d := d) ha hb han hbn h4 (show i < 2 by omega)
          have hcl2 : (catTo a b (i + 1)).length = (catTo a b i).length + nx := by rw [hce, List.length_append, hlx]
          refine tr_region ?_
          refine tl_step rfl (oj_val (y_index Try.underlying184 Try.sizeOf87 (fe_t rfl) (fe_t rfl) (rdl_out hP) (rfl) (by decide) (by omega) (Nat.mul_one _)) ?_)
          refine tl_step rfl (oj_val (y_ld (v := .slice X nx cx) Try.isAgg87 (fe_t rfl) (rdl_out hP) hgx) ?_)
          refine tl_step rfl (oj_val (y_assign (fe_t rfl)) ?_)
          refine tl_nil ?_
          refine tx_then ?_
          refine tr_region ?_
          refine tl_step rfl (oj_val (y_move (fe_t rfl)) ?_)
          refine tl_step rfl (oj_val (y_move (fe_t rfl)) ?_)
          refine tl_step rfl (oj_appg (i := 0) (s := 2) (z := (.agg #[.int .i64 0, .int .i64 0])) (bytes := 16) Try.underlying87 (by kernel_rfl) (fe_t rfl) (fe_t rfl) rfl (rdl_out hrx) (lenK hlx) (by decide) (by first | exact oneI | exact oneF (fun _ => rfl) | exact fun u hu => List.all_eq_true.1 (show List.all _ (fun x => x.oneCell') = true from rfl) u hu | (intro u hu; revert u hu; simp [Value.oneCell'])) ⟨by omega, by decide⟩ (fun Aa1 ca1 hca1 => ?_))
          refine tl_step rfl (oj_val (y_assign (fe_t rfl)) ?_)
          refine tl_nil ?_
          refine tx_in ?_
          refine tx_then ?_
          refine tr_region ?_
          refine tl_step rfl (oj_val (y_inc (fe_t rfl) fe_c (by omega)) ?_)
          refine tl_step rfl (oj_val (y_move (fe_t rfl)) ?_)
          refine tl_nil ?_
          apply tx_back2 (i + 1) ((⟨_, _, _, _⟩ : Vs))
          · exact (cov_cons (by first | rfl | exact v_int (by omega) | exact v_bool (by simp [*])) (cov_cons (by first | rfl | exact v_int (by omega) | exact v_bool (by simp [*])) (cov_nil)))
          · repeat (first | exact over_nil | refine over_put rfl ?_ | refine over_drop rfl ?_)
          · exact fun w h => h.pick [0] _ rfl (by decide)
          · exact ⟨⟨by omega, by dsimp only; omega, by dsimp only; rw [hce, List.flatMap_append, hzx]⟩, by omega⟩
      · try (exfalso; omega)
        all_goals
          refine tr_exit ?_
          refine tx_then_exit ?_
          refine tx_then_exit ?_
          refine tx_in_exit ?_
          refine tx_then ?_
          refine tr_seq ?_
          obtain rfl : i = 2 := by omega
          refine tr_region ?_
          refine tl_step rfl (oj_val (y_move (fe_t rfl)) ?_)
          refine tl_step rfl (oj_val (y_assign (fe_t rfl)) ?_)
          refine tl_nil ?_
          refine tx_then ?_
          refine tr_ret ?_
          refine tx_ret (res1 Try.results86 (rok_t rfl)) (fun w' hS => ?_)
          exact ⟨z, ⟨by rw [hzn]; show (a ++ b).length = _; rw [List.length_append]; omega, hzx⟩, rfl, hS.pick [0] _ rfl (by decide)⟩

end Go.Proofs.Ytpknjfeiiaopgaa.Heavy
