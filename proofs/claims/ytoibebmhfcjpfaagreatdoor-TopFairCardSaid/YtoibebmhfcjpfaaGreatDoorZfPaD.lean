/- Walks: pace.Wrong and the reference. -/
import Derived.Test.YtoibebmhfcjpfaaGreatDoorZfPaR
import Derived.Test.YtoibebmhfcjpfaaGreatDoorZfFlO
import Derived.Test.YtoibebmhfcjpfaaGreatDoorZfEU
import Derived.Test.YtoibebmhfcjpfaaGreatDoorZfEF
import Derived.Test.YtoibebmhfcjpfaaGreatDoorZfBucketG
namespace Go.Proofs.YtoibebmhfcjpfaaGreatDoor.Pace
open Go.RowKit Go.Proofs.YtoibebmhfcjpfaaGreatDoor.E Go.Proofs.YtoibebmhfcjpfaaGreatDoor.Ring Go.Proofs.YtoibebmhfcjpfaaGreatDoor.Bucket

set_option maxRecDepth 100000 in
theorem wrong_N (num den burst : Int) (w : World) (hg : rng num den burst = false) :
    Calls Tryz.prog 28 #[(.int .i64 num), (.int .i64 den), (.int .i64 burst)] w fun e w' => e = .returned (.int .i64 2) ∧ St w w' [] := by
  refine calls_tr Tryz.func28 Tryz.ntmps28 rfl rfl (St.refl _) ?_
  refine tr_seq ?_
  refine tr_region ?_
  refine tl_step rfl (oj_val (y_assign fe_c) ?_)
  refine tl_nil ?_
  refine tx_then ?_
  refine tr_seq ?_
  refine tr_seq ?_
  refine tr_region ?_
  refine tl_step rfl (oj_val (y_move (fe_t rfl)) ?_)
  refine tl_step rfl (oj_val (y_move (fe_t rfl)) ?_)
  refine tl_step rfl (oj_val (y_move (fe_t rfl)) ?_)
  refine tl_step rfl (oj_callv Tryz.call29 fe_f (fel_cons (fe_t rfl) (fel_cons (fe_t rfl) (fel_cons (fe_t rfl) fel_nil))) (fun w' hS => fullN num den burst w' hg) ?_)
  refine tl_step rfl (oj_val (y_move (fe_t rfl)) ?_)
  refine tl_step rfl (oj_val (y_extract (fe_t rfl) rfl) ?_)
  refine tl_step rfl (oj_val (y_extract (fe_t rfl) rfl) ?_)
  refine tl_step rfl (oj_alloc Tryz.zeroValue59 (fun b1 => ?_))
  refine tl_step rfl (oj_storeW 0 Tryz.sizeOf59 (fe_t rfl) (fe_t rfl) rfl rfl rfl rfl rfl (?_))
  refine tl_step rfl (oj_val (y_assign (fe_t rfl)) ?_)
  refine tl_nil ?_
  refine tx_then ?_
  refine tr_seq ?_
  refine tr_region ?_
  refine tl_step rfl (oj_val (y_move (fe_t rfl)) ?_)
  refine tl_step rfl (oj_val (y_neq (fe_t rfl) fe_c) ?_)
  refine tl_nil ?_
  refine tx_then ?_
  refine tr_condp (fe_t rfl) (fun hq1 => ?_) (fun hq2 => ?_)
  · try (exfalso; omega)
    all_goals
      refine tr_seq ?_
      refine tr_region ?_
      refine tl_step rfl (oj_val (y_move (fe_t rfl)) ?_)
      refine tl_step rfl (oj_val (y_assign (fe_t rfl)) ?_)
      refine tl_nil ?_
      refine tx_then ?_
      refine tr_ret ?_
      refine tx_then_ret ?_
      refine tx_ret (res1 Tryz.results28 (rok_t rfl)) (fun w' hS => ?_)
      exact ⟨rfl, hS.pick [] _ rfl (by decide)⟩
  · try (exfalso; omega)
    all_goals
      refine tr_skip ?_
      refine tx_then ?_
      refine tr_seq ?_
      refine tr_seq ?_
      refine tr_region ?_
      refine tl_step rfl (oj_val (y_move (fe_t rfl)) ?_)
      refine tl_step rfl (oj_val (y_lss (fe_t rfl) fe_c) ?_)
      refine tl_nil ?_
      refine tx_then ?_
      refine tr_condp (fe_t rfl) (fun hq3 => ?_) (fun hq4 => ?_)
      · try (exfalso; omega)
        all_goals
          refine tr_seq ?_
          refine tr_region ?_
          refine tl_step rfl (oj_val (y_assign fe_c) ?_)
          refine tl_nil ?_
          refine tx_then ?_
          refine tr_ret ?_
          refine tx_then_ret ?_
          refine tx_ret (res1 Tryz.results28 (rok_t rfl)) (fun w' hS => ?_)
          exact ⟨rfl, hS.pick [] _ rfl (by decide)⟩
      · try (exfalso; omega)
        all_goals
          refine tr_skip ?_
          refine tx_then ?_
          refine tr_seq ?_
          refine tr_region ?_
          refine tl_step rfl (oj_val (y_assign fe_c) ?_)
          refine tl_nil ?_
          refine tx_then ?_
          refine tr_ret ?_
          refine tx_ret (res1 Tryz.results28 (rok_t rfl)) (fun w' hS => ?_)
          exact ⟨rfl, hS.pick [] _ rfl (by decide)⟩

set_option maxRecDepth 100000 in
theorem wrong_L (num den burst : Int) (w : World) (hg : rng num den burst = true) (hb : burst < 1500) :
    Calls Tryz.prog 28 #[(.int .i64 num), (.int .i64 den), (.int .i64 burst)] w fun e w' => e = .returned (.int .i64 2) ∧ St w w' [] := by
  refine calls_tr Tryz.func28 Tryz.ntmps28 rfl rfl (St.refl _) ?_
  refine tr_seq ?_
  refine tr_region ?_
  refine tl_step rfl (oj_val (y_assign fe_c) ?_)
  refine tl_nil ?_
  refine tx_then ?_
  refine tr_seq ?_
  refine tr_seq ?_
  refine tr_region ?_
  refine tl_step rfl (oj_val (y_move (fe_t rfl)) ?_)
  refine tl_step rfl (oj_val (y_move (fe_t rfl)) ?_)
  refine tl_step rfl (oj_val (y_move (fe_t rfl)) ?_)
  refine tl_step rfl (oj_callv Tryz.call29 fe_f (fel_cons (fe_t rfl) (fel_cons (fe_t rfl) (fel_cons (fe_t rfl) fel_nil))) (fun w' hS => fullE num den burst w' hg) ?_)
  refine tl_step rfl (oj_val (y_move (fe_t rfl)) ?_)
  refine tl_step rfl (oj_val (y_extract (fe_t rfl) rfl) ?_)
  refine tl_step rfl (oj_val (y_extract (fe_t rfl) rfl) ?_)
  refine tl_step rfl (oj_alloc Tryz.zeroValue59 (fun b1 => ?_))
  refine tl_step rfl (oj_storeW 0 Tryz.sizeOf59 (fe_t rfl) (fe_t rfl) rfl rfl rfl rfl rfl (?_))
  refine tl_step rfl (oj_val (y_assign (fe_t rfl)) ?_)
  refine tl_nil ?_
  refine tx_then ?_
  refine tr_seq ?_
  refine tr_region ?_
  refine tl_step rfl (oj_val (y_move (fe_t rfl)) ?_)
  refine tl_step rfl (oj_val (y_neq (fe_t rfl) fe_c) ?_)
  refine tl_nil ?_
  refine tx_then ?_
  refine tr_condp (fe_t rfl) (fun hq1 => ?_) (fun hq2 => ?_)
  · try (exfalso; omega)
    all_goals
      refine tr_seq ?_
      refine tr_region ?_
      refine tl_step rfl (oj_val (y_move (fe_t rfl)) ?_)
      refine tl_step rfl (oj_val (y_assign (fe_t rfl)) ?_)
      refine tl_nil ?_
      refine tx_then ?_
      refine tr_ret ?_
      refine tx_then_ret ?_
      refine tx_ret (res1 Tryz.results28 (rok_t rfl)) (fun w' hS => ?_)
      exact ⟨rfl, hS.pick [] _ rfl (by decide)⟩
  · try (exfalso; omega)
    all_goals
      refine tr_skip ?_
      refine tx_then ?_
      refine tr_seq ?_
      refine tr_seq ?_
      refine tr_region ?_
      refine tl_step rfl (oj_val (y_move (fe_t rfl)) ?_)
      refine tl_step rfl (oj_val (y_lss (fe_t rfl) fe_c) ?_)
      refine tl_nil ?_
      refine tx_then ?_
      refine tr_condp (fe_t rfl) (fun hq3 => ?_) (fun hq4 => ?_)
      · try (exfalso; omega)
        all_goals
          refine tr_seq ?_
          refine tr_region ?_
          refine tl_step rfl (oj_val (y_assign fe_c) ?_)
          refine tl_nil ?_
          refine tx_then ?_
          refine tr_ret ?_
          refine tx_then_ret ?_
          refine tx_ret (res1 Tryz.results28 (rok_t rfl)) (fun w' hS => ?_)
          exact ⟨rfl, hS.pick [] _ rfl (by decide)⟩
      · try (exfalso; omega)
        all_goals
          refine tr_skip ?_
          refine tx_then ?_
          refine tr_seq ?_
          refine tr_region ?_
          refine tl_step rfl (oj_val (y_assign fe_c) ?_)
          refine tl_nil ?_
          refine tx_then ?_
          refine tr_ret ?_
          refine tx_ret (res1 Tryz.results28 (rok_t rfl)) (fun w' hS => ?_)
          exact ⟨rfl, hS.pick [] _ rfl (by decide)⟩

set_option maxRecDepth 100000 in
theorem wrong_K (num den burst : Int) (w : World) (hg : rng num den burst = true) (hb : 1500 ≤ burst) :
    Calls Tryz.prog 28 #[(.int .i64 num), (.int .i64 den), (.int .i64 burst)] w fun e w' => e = .returned (.int .i64 0) ∧ St w w' [] := by
  refine calls_tr Tryz.func28 Tryz.ntmps28 rfl rfl (St.refl _) ?_
  refine tr_seq ?_
  refine tr_region ?_
  refine tl_step rfl (oj_val (y_assign fe_c) ?_)
  refine tl_nil ?_
  refine tx_then ?_
  refine tr_seq ?_
  refine tr_seq ?_
  refine tr_region ?_
  refine tl_step rfl (oj_val (y_move (fe_t rfl)) ?_)
  refine tl_step rfl (oj_val (y_move (fe_t rfl)) ?_)
  refine tl_step rfl (oj_val (y_move (fe_t rfl)) ?_)
  refine tl_step rfl (oj_callv Tryz.call29 fe_f (fel_cons (fe_t rfl) (fel_cons (fe_t rfl) (fel_cons (fe_t rfl) fel_nil))) (fun w' hS => fullE num den burst w' hg) ?_)
  refine tl_step rfl (oj_val (y_move (fe_t rfl)) ?_)
  refine tl_step rfl (oj_val (y_extract (fe_t rfl) rfl) ?_)
  refine tl_step rfl (oj_val (y_extract (fe_t rfl) rfl) ?_)
  refine tl_step rfl (oj_alloc Tryz.zeroValue59 (fun b1 => ?_))
  refine tl_step rfl (oj_storeW 0 Tryz.sizeOf59 (fe_t rfl) (fe_t rfl) rfl rfl rfl rfl rfl (?_))
  refine tl_step rfl (oj_val (y_assign (fe_t rfl)) ?_)
  refine tl_nil ?_
  refine tx_then ?_
  refine tr_seq ?_
  refine tr_region ?_
  refine tl_step rfl (oj_val (y_move (fe_t rfl)) ?_)
  refine tl_step rfl (oj_val (y_neq (fe_t rfl) fe_c) ?_)
  refine tl_nil ?_
  refine tx_then ?_
  refine tr_condp (fe_t rfl) (fun hq1 => ?_) (fun hq2 => ?_)
  · try (exfalso; omega)
    all_goals
      refine tr_seq ?_
      refine tr_region ?_
      refine tl_step rfl (oj_val (y_move (fe_t rfl)) ?_)
      refine tl_step rfl (oj_val (y_assign (fe_t rfl)) ?_)
      refine tl_nil ?_
      refine tx_then ?_
      refine tr_ret ?_
      refine tx_then_ret ?_
      refine tx_ret (res1 Tryz.results28 (rok_t rfl)) (fun w' hS => ?_)
      exact ⟨rfl, hS.pick [] _ rfl (by decide)⟩
  · try (exfalso; omega)
    all_goals
      refine tr_skip ?_
      refine tx_then ?_
      refine tr_seq ?_
      refine tr_seq ?_
      refine tr_region ?_
      refine tl_step rfl (oj_val (y_move (fe_t rfl)) ?_)
      refine tl_step rfl (oj_val (y_lss (fe_t rfl) fe_c) ?_)
      refine tl_nil ?_
      refine tx_then ?_
      refine tr_condp (fe_t rfl) (fun hq3 => ?_) (fun hq4 => ?_)
      · try (exfalso; omega)
        all_goals
          refine tr_seq ?_
          refine tr_region ?_
          refine tl_step rfl (oj_val (y_assign fe_c) ?_)
          refine tl_nil ?_
          refine tx_then ?_
          refine tr_ret ?_
          refine tx_then_ret ?_
          refine tx_ret (res1 Tryz.results28 (rok_t rfl)) (fun w' hS => ?_)
          exact ⟨rfl, hS.pick [] _ rfl (by decide)⟩
      · try (exfalso; omega)
        all_goals
          refine tr_skip ?_
          refine tx_then ?_
          refine tr_seq ?_
          refine tr_region ?_
          refine tl_step rfl (oj_val (y_assign fe_c) ?_)
          refine tl_nil ?_
          refine tx_then ?_
          refine tr_ret ?_
          refine tx_ret (res1 Tryz.results28 (rok_t rfl)) (fun w' hS => ?_)
          exact ⟨rfl, hS.pick [] _ rfl (by decide)⟩

theorem wrong_any (num den burst : Int) (w : World) : Calls Tryz.prog 28 #[(.int .i64 num), (.int .i64 den), (.int .i64 burst)] w fun e w' => e = .returned (.int .i64 (if okb num den burst then 0 else 2)) ∧ St w w' [] := by
  unfold okb
  cases hg : rng num den burst
  · exact wrong_N num den burst w hg
  · by_cases hb : burst < 1500
    · rw [show (true && decide (1500 ≤ burst)) = false by simp; omega]
      exact wrong_L num den burst w hg hb
    · rw [show (true && decide (1500 ≤ burst)) = true by simp; omega]
      exact wrong_K num den burst w hg (by omega)

end Go.Proofs.YtoibebmhfcjpfaaGreatDoor.Pace

namespace Go.Proofs.YtoibebmhfcjpfaaGreatDoor.Pace
open Go.RowKit Go.Proofs.YtoibebmhfcjpfaaGreatDoor.E Go.Proofs.YtoibebmhfcjpfaaGreatDoor.Ring Go.Proofs.YtoibebmhfcjpfaaGreatDoor.Bucket

set_option maxRecDepth 100000 in
set_option maxHeartbeats 4000000 in
theorem pollE {w0 w : World} {T : List Res} {A : Option Addr} {c m : Nat} {s : Pc} (hS : St w0 w (rdr A (cI s.zs) :: T)) (hc : s.zs.length ≤ c) (hg : Gd m s) (hm : m ≤ 1048576) {v : Int} (h0 : 0 ≤ v) (h1 : v ≤ 1073741824) :
    Calls Tryz.prog 43 #[.agg #[.slice A s.zs.length c, (.int .i64 100), (.int .i64 60000), (.int .i64 s.drops), (.int .i64 s.b.num), (.int .i64 s.b.den), (.int .i64 s.b.burst), (.int .i64 s.b.level), (.int .i64 s.b.at0), (.int .i64 s.sent)], (.int .i64 v)] w fun e w' => ∃ q : Pc × Vs × Vs, (q.1 = pop s (cnt s.b.den s.zs v s.b.level) ∧ q.1.zs.length ≤ q.2.1.c ∧ q.2.2.n = (s.zs.take (cnt s.b.den s.zs v s.b.level)).length ∧ q.2.2.xs = cI (s.zs.take (cnt s.b.den s.zs v s.b.level))) ∧ e = .returned (.tuple #[.agg #[.slice q.2.1.A q.1.zs.length q.2.1.c, (.int .i64 100), (.int .i64 60000), (.int .i64 q.1.drops), (.int .i64 q.1.b.num), (.int .i64 q.1.b.den), (.int .i64 q.1.b.burst), (.int .i64 q.1.b.level), (.int .i64 q.1.b.at0), (.int .i64 q.1.sent)], .slice q.2.2.A q.2.2.n q.2.2.c]) ∧ St w0 w' (rdr q.2.1.A (cI q.1.zs) :: vec 3 1 (.slice q.2.2.A q.2.2.n q.2.2.c) q.2.2.n q.2.2.xs :: T) := by
  have hgp := hg.parts
  have hgd := hg.d0
  have hge := hg.d1
  have hgs := hg.s0
  have hgt := hg.s1
  have hgb := bparts hg.b
  refine calls_tr Tryz.func43 Tryz.ntmps43 rfl rfl hS ?_
  refine tr_seq ?_
  refine tr_region ?_
  refine tl_step rfl (oj_box (fe_t rfl) (fun pb => ?_))
  refine tl_step rfl (oj_alloc Tryz.zeroValue61 (fun rb => ?_))
  refine tl_step rfl (oj_val (y_assign fe_c) ?_)
  refine tl_nil ?_
  refine tx_then ?_
  refine tr_seq ?_
  refine tr_region ?_
  refine tl_step rfl (oj_val (y_assign fe_c) ?_)
  refine tl_nil ?_
  refine tx_then ?_
  refine tr_seq ?_
  refine tr_block ?_
  refine tr_add (r := vec 3 1 (.slice none 0 0) 0 []) vec_nil rfl ?_
  refine tr_loop5 [1, 6, 7, 8, 9, 10, 11, 12, 13, 14, 15, 16, 17, 18, 19, 20, 21, 22, 23, 24, 25, 26, 27, 28, 29, 30, 31, 32, 33, 34, 35, 36, 37, 38, 39, 40, 41, 42, 43, 44, 45, 46, 47, 48, 49, 50, 51, 52, 53, 54, 55, 56, 57, 58, 59, 60, 61, 62, 63, 64, 65, 66, 67, 68, 69] (fun (j : Nat) (ro : Int) (u : Pc) (h : Vs) (q : Vs) => [(1, .int .i64 ro), (6, .slice q.A q.n q.c)]) 0 (fun (j : Nat) (ro : Int) (u : Pc) (h : Vs) (q : Vs) => [(2, blk pb [.slice h.A u.zs.length h.c, (.int .i64 100), (.int .i64 60000), (.int .i64 u.drops), (.int .i64 u.b.num), (.int .i64 u.b.den), (.int .i64 u.b.burst), (.int .i64 u.b.level), (.int .i64 u.b.at0), (.int .i64 u.sent)]), (0, vec 3 1 (.slice q.A q.n q.c) q.n q.xs), (3, rdr h.A (cI u.zs))]) (fun (j : Nat) (ro : Int) (u : Pc) (h : Vs) (q : Vs) => Way m s v ro j u ∧ u.zs.length ≤ h.c ∧ q.n = j ∧ q.xs = cI (s.zs.take j)) (fun (j : Nat) (ro : Int) (u : Pc) (h : Vs) (q : Vs) => s.zs.length - j) (0) (v) (s) ((⟨A, 0, c, []⟩ : Vs)) (⟨none, 0, 0, []⟩ : Vs) (cov_cons (by first | rfl | exact v_int (by omega) | exact v_bool (by simp [*])) (cov_cons (by first | rfl | exact v_int (by omega) | exact v_bool (by simp [*])) (cov_nil))) (fun w h => h) ?_ ?_
  · try dsimp only
    exact ⟨Way.zero hg v, hc, rfl, by simp [cI]⟩
  intro j ro u h q hp
  obtain ⟨hway, hhc, hqn, hqx⟩ := hp
  obtain ⟨hub, huq, hud, hul, hjl, hul2, hus, ht0, ht1, hro, hden⟩ := hway.facts hg
  have hubp := bparts hub
  refine tr_seq ?_
  refine tr_seq ?_
  refine tr_region ?_
  refine tl_step rfl (oj_val (y_fieldAddr (td := 57) Tryz.underlying61 rfl rfl Tryz.sizeOf57 (o' := 0) rfl (fe_t rfl)) ?_)
  refine tl_step rfl (oj_val (y_fieldAddr (td := 22) Tryz.underlying57 rfl rfl Tryz.sizeOf22 (o' := 0) rfl (fe_t rfl)) ?_)
  refine tl_step rfl (oj_val (y_ldb 2 Tryz.isAgg22 (fe_t rfl) rfl rfl) ?_)
  refine tl_step rfl (oj_val (y_len Tryz.underlying22 (fe_t rfl)) ?_)
  refine tl_step rfl (oj_val (y_gtr (fe_t rfl) fe_c) ?_)
  refine tl_nil ?_
  refine tx_then ?_
  refine tr_condp (fe_t rfl) (fun hq1 => ?_) (fun hq2 => ?_)
  · try (exfalso; omega)
    all_goals
      obtain ⟨hj, hz0, hz1, hz2⟩ := pop_head hg hway.u (by omega)
      refine tr_skip ?_
      refine tx_then ?_
      refine tr_block ?_
      refine tr_seq ?_
      refine tr_region ?_
      refine tl_step rfl (oj_val (y_fieldAddr (td := 57) Tryz.underlying61 rfl rfl Tryz.sizeOf57 (o' := 0) rfl (fe_t rfl)) ?_)
      refine tl_step rfl (oj_val (y_fieldAddr (td := 22) Tryz.underlying57 rfl rfl Tryz.sizeOf22 (o' := 0) rfl (fe_t rfl)) ?_)
      refine tl_step rfl (oj_val (y_ldb 2 Tryz.isAgg22 (fe_t rfl) rfl rfl) ?_)
      refine tl_step rfl (oj_val (y_indexI (m := 0) Tryz.underlying22 Tryz.sizeOf3 (fe_t rfl) fe_c (rdl_rdr 3 rfl) (by simp [cI]) (by decide) (by decide) (by omega) rfl) ?_)
      refine tl_step rfl (oj_val (y_ld Tryz.isAgg3 (fe_t rfl) (rdl_rdr 3 rfl) (hd0 (by omega))) ?_)
      refine tl_step rfl (oj_val (y_assign (fe_t rfl)) ?_)
      refine tl_nil ?_
      refine tx_then ?_
      refine tr_seq ?_
      refine tr_seq ?_
      refine tr_region ?_
      refine tl_step rfl (oj_val (y_move (fe_t rfl)) ?_)
      refine tl_step rfl (oj_val (y_move (fe_t rfl)) ?_)
      refine tl_step rfl (oj_val (y_gtr (fe_t rfl) (fe_t rfl)) ?_)
      refine tl_nil ?_
      refine tx_then ?_
      refine tr_condp (fe_t rfl) (fun hq3 => ?_) (fun hq4 => ?_)
      · try (exfalso; omega)
        all_goals
          refine tr_exit ?_
          refine tx_then_exit ?_
          refine tx_in_pass rfl ?_
          refine tx_then_exit ?_
          refine tx_in_exit ?_
          refine tx_then ?_
          refine tr_seq ?_
          refine tr_region ?_
          refine tl_step rfl (oj_val (y_ldbA 2 Tryz.isAgg61 Tryz.sizeOf61 (fe_t rfl) rfl rfl rfl) ?_)
          refine tl_step rfl (oj_val (y_move (fe_t rfl)) ?_)
          refine tl_step rfl (oj_storeW 1 Tryz.sizeOf61 (fe_t rfl) (fe_t rfl) rfl rfl rfl rfl rfl (?_))
          refine tl_step rfl (oj_val (y_assign (fe_t rfl)) ?_)
          refine tl_nil ?_
          refine tx_then ?_
          refine tr_ret ?_
          refine tx_ret (res2 Tryz.results43 (rok_b 1 Tryz.isAgg61 Tryz.sizeOf61 rfl rfl rfl) (rok_t rfl)) (fun w' hS => ?_)
          have hJ : j = cnt s.b.den s.zs v s.b.level := hway.stop hg (fun hl => .inl (by omega))
          have hlt : (s.zs.take j).length = j := by rw [List.length_take]; omega
          have h1 := pickT (l := [_, _, _, _]) hS [3, 0] rfl (by decide)
          exact ⟨(u, h, q), ⟨hJ ▸ hway.u, hhc, by rw [← hJ, hlt]; exact hqn, by rw [← hJ]; exact hqx⟩, rfl, h1⟩
      · try (exfalso; omega)
        all_goals
          refine tr_skip ?_
          refine tx_then ?_
          refine tr_seq ?_
          obtain ⟨p, hp⟩ : ∃ p, decide (u.zs.headD 0 * u.b.den ≤ u.b.level) = p := ⟨_, rfl⟩
          refine tr_region ?_
          refine tl_step rfl (oj_val (y_fieldAddr (td := 59) Tryz.underlying61 rfl rfl Tryz.sizeOf59 (o' := 4) rfl (fe_t rfl)) ?_)
          refine tl_step rfl (oj_val (y_ldbA 2 Tryz.isAgg59 Tryz.sizeOf59 (fe_t rfl) rfl rfl rfl) ?_)
          refine tl_step rfl (oj_val (y_fieldAddr (td := 59) Tryz.underlying61 rfl rfl Tryz.sizeOf59 (o' := 4) rfl (fe_t rfl)) ?_)
          refine tl_step rfl (oj_val (y_fieldAddr (td := 3) Tryz.underlying59 rfl rfl Tryz.sizeOf3 (o' := 8) rfl (fe_t rfl)) ?_)
          refine tl_step rfl (oj_val (y_ldb 2 Tryz.isAgg3 (fe_t rfl) rfl rfl) ?_)
          refine tl_step rfl (oj_val (y_move (fe_t rfl)) ?_)
          refine tl_step rfl (oj_val ((fun {u0 u1} hx hb => y_build (is := [0, 1]) (vs := [u0, u1]) (cs := [u0, u1]) rfl hx hb) (fel_cons (fe_t rfl) (fel_cons (fe_t rfl) fel_nil)) (by kernel_rfl)) ?_)
          refine tl_step rfl (oj_callv Tryz.call61 fe_f (fel_cons (fe_t rfl) (fel_cons (fe_t rfl) fel_nil)) (fun w' hS => takeE u.b (u.zs.headD 0) w' hub (by omega) (by omega) p hp) ?_)
          refine tl_step rfl (oj_val (y_move (fe_t rfl)) ?_)
          refine tl_step rfl (oj_val (y_extract (fe_t rfl) rfl) ?_)
          refine tl_step rfl (oj_val (y_extract (fe_t rfl) rfl) ?_)
          refine tl_step rfl (oj_val (y_extract (fe_t rfl) rfl) ?_)
          refine tl_step rfl (oj_alloc Tryz.zeroValue59 (fun b1 => ?_))
          refine tl_step rfl (oj_storeW 0 Tryz.sizeOf59 (fe_t rfl) (fe_t rfl) rfl rfl rfl rfl rfl (?_))
          refine tl_step rfl (oj_val (y_assign (fe_t rfl)) ?_)
          refine tl_step rfl (oj_val (y_assign (fe_t rfl)) ?_)
          refine tl_nil ?_
          refine tx_then ?_
          refine tr_seq ?_
          refine tr_seq ?_
          refine tr_region ?_
          refine tl_step rfl (oj_val (y_move (fe_t rfl)) ?_)
          refine tl_step rfl (oj_val (y_neq (fe_t rfl) fe_c) ?_)
          refine tl_step rfl (oj_val (y_move (fe_t rfl)) ?_)
          refine tl_splitp (d := 40) rfl (fun hq5 => ?_) (fun hq6 => ?_)
          · try (exfalso; omega)
            all_goals
              refine tl_skip rfl rfl rfl rfl ?_
              refine tl_skip rfl rfl rfl rfl ?_
              refine tl_step rfl (oj_val (y_pickt (fe_t rfl) fe_c) ?_)
              refine tl_nil ?_
              refine tx_then ?_
              refine tr_condt (fe_t rfl) ?_
              refine tr_exit ?_
              refine tx_then_exit ?_
              refine tx_in_pass rfl ?_
              refine tx_then_exit ?_
              refine tx_in_exit ?_
              refine tx_then ?_
              refine tr_seq ?_
              refine tr_region ?_
              refine tl_step rfl (oj_val (y_ldbA 3 Tryz.isAgg61 Tryz.sizeOf61 (fe_t rfl) rfl rfl rfl) ?_)
              refine tl_step rfl (oj_val (y_move (fe_t rfl)) ?_)
              refine tl_step rfl (oj_storeW 2 Tryz.sizeOf61 (fe_t rfl) (fe_t rfl) rfl rfl rfl rfl rfl (?_))
              refine tl_step rfl (oj_val (y_assign (fe_t rfl)) ?_)
              refine tl_nil ?_
              refine tx_then ?_
              refine tr_ret ?_
              refine tx_ret (res2 Tryz.results43 (rok_b 2 Tryz.isAgg61 Tryz.sizeOf61 rfl rfl rfl) (rok_t rfl)) (fun w' hS => ?_)
              have hJ : j = cnt s.b.den s.zs v s.b.level := hway.stop hg (fun hl => .inr hpl)
              have hlt : (s.zs.take j).length = j := by rw [List.length_take]; omega
              have h1 := pickT (l := [_, _, _, _, _]) hS [4, 1] rfl (by decide)
              exact ⟨(u, h, q), ⟨hJ ▸ hway.u, hhc, by rw [← hJ, hlt]; exact hqn, by rw [← hJ]; exact hqx⟩, rfl, h1⟩
          · try (exfalso; omega)
            all_goals
              refine tl_want rfl rfl rfl (oj_val (y_move (fe_t rfl)) ?_)
              refine tl_want rfl rfl rfl (oj_val (y_not (fe_t rfl)) ?_)
              refine tl_step rfl (oj_val (y_pickf (fe_t rfl) (fe_t rfl)) ?_)
              refine tl_nil ?_
              refine tx_then ?_
              refine tr_cond (fe_t rfl) (fun hq7 => ?_) (fun hq8 => ?_)
              · try (exfalso; omega)
                all_goals
                  have hpf : p = false := by cases p <;> simp_all
                  subst hpf
                  have hpl : u.b.level < u.zs.headD 0 * u.b.den := by have := of_decide_eq_false hp; omega
                  refine tr_exit ?_
                  refine tx_then_exit ?_
                  refine tx_in_pass rfl ?_
                  refine tx_then_exit ?_
                  refine tx_in_exit ?_
                  refine tx_then ?_
                  refine tr_seq ?_
                  refine tr_region ?_
                  refine tl_step rfl (oj_val (y_ldbA 3 Tryz.isAgg61 Tryz.sizeOf61 (fe_t rfl) rfl rfl rfl) ?_)
                  refine tl_step rfl (oj_val (y_move (fe_t rfl)) ?_)
                  refine tl_step rfl (oj_storeW 2 Tryz.sizeOf61 (fe_t rfl) (fe_t rfl) rfl rfl rfl rfl rfl (?_))
                  refine tl_step rfl (oj_val (y_assign (fe_t rfl)) ?_)
                  refine tl_nil ?_
                  refine tx_then ?_
                  refine tr_ret ?_
                  refine tx_ret (res2 Tryz.results43 (rok_b 2 Tryz.isAgg61 Tryz.sizeOf61 rfl rfl rfl) (rok_t rfl)) (fun w' hS => ?_)
                  have hJ : j = cnt s.b.den s.zs v s.b.level := hway.stop hg (fun hl => .inr hpl)
                  have hlt : (s.zs.take j).length = j := by rw [List.length_take]; omega
                  have h1 := pickT (l := [_, _, _, _, _]) hS [4, 1] rfl (by decide)
                  exact ⟨(u, h, q), ⟨hJ ▸ hway.u, hhc, by rw [← hJ, hlt]; exact hqn, by rw [← hJ]; exact hqx⟩, rfl, h1⟩
              · try (exfalso; omega)
                all_goals
                  have hpt : p = true := by cases p <;> simp_all
                  subst hpt
                  have hpl := of_decide_eq_true hp
                  refine tr_skip ?_
                  refine tx_then ?_
                  refine tr_seq ?_
                  refine tr_region ?_
                  refine tl_step rfl (oj_val (y_fieldAddr (td := 57) Tryz.underlying61 rfl rfl Tryz.sizeOf57 (o' := 0) rfl (fe_t rfl)) ?_)
                  refine tl_step rfl (oj_val (y_ldbA 3 Tryz.isAgg57 Tryz.sizeOf57 (fe_t rfl) rfl rfl rfl) ?_)
                  refine tl_step rfl (oj_val ((fun {u0} hx hb => y_build (is := [0]) (vs := [u0]) (cs := [u0, .int .i64 0]) rfl hx hb) (fel_cons (fe_c (v := .int .i64 2)) fel_nil) (by kernel_rfl)) ?_)
                  refine tl_step rfl (oj_call Tryz.call41 fe_f (fel_cons (fe_t rfl) (fel_cons (fe_t rfl) fel_nil)) (fun w' hS => stepOut h.A u.zs.length h.c u.zs u.drops 0 w' (hS.holds 4 _ rfl) rfl huq (by omega) (by omega) (by omega)) (fun y hy => ?_))
                  refine tl_step rfl (oj_val (y_move (fe_t rfl)) ?_)
                  refine tl_step rfl (oj_val (y_extract (fe_t rfl) rfl) ?_)
                  refine tl_step rfl (oj_val (y_extract (fe_t rfl) rfl) ?_)
                  refine tl_step rfl (oj_val (y_extract (fe_t rfl) rfl) ?_)
                  refine tl_step rfl (oj_alloc Tryz.zeroValue57 (fun b2 => ?_))
                  refine tl_step rfl (oj_storeW 0 Tryz.sizeOf57 (fe_t rfl) (fe_t rfl) rfl rfl rfl rfl rfl (?_))
                  refine tl_step rfl (oj_val (y_assign (fe_t rfl)) ?_)
                  refine tl_step rfl (oj_val (y_assign (fe_t rfl)) ?_)
                  refine tl_nil ?_
                  refine tx_then ?_
                  refine tr_seq ?_
                  refine tr_seq ?_
                  refine tr_region ?_
                  refine tl_step rfl (oj_val (y_move (fe_t rfl)) ?_)
                  refine tl_step rfl (oj_val (y_neq (fe_t rfl) fe_c) ?_)
                  refine tl_nil ?_
                  refine tx_then ?_
                  refine tr_condp (fe_t rfl) (fun hq9 => ?_) (fun hq10 => ?_)
                  · try (exfalso; omega)
                    all_goals
                      refine tr_exit ?_
                      refine tx_then_exit ?_
                      refine tx_in_pass rfl ?_
                      refine tx_then_exit ?_
                      refine tx_in_exit ?_
                      refine tx_then ?_
                      refine tr_seq ?_
                      refine tr_region ?_
                      refine tl_step rfl (oj_val (y_ldbA 5 Tryz.isAgg61 Tryz.sizeOf61 (fe_t rfl) rfl rfl rfl) ?_)
                      refine tl_step rfl (oj_val (y_move (fe_t rfl)) ?_)
                      refine tl_step rfl (oj_storeW 4 Tryz.sizeOf61 (fe_t rfl) (fe_t rfl) rfl rfl rfl rfl rfl (?_))
                      refine tl_step rfl (oj_val (y_assign (fe_t rfl)) ?_)
                      refine tl_nil ?_
                      refine tx_then ?_
                      refine tr_ret ?_
                      refine tx_ret (res2 Tryz.results43 (rok_b 4 Tryz.isAgg61 Tryz.sizeOf61 rfl rfl rfl) (rok_t rfl)) (fun w' hS => ?_)
                      have hJ : j = cnt s.b.den s.zs v s.b.level := hway.stop hg (fun hl => by omega)
                      have hlt : (s.zs.take j).length = j := by rw [List.length_take]; omega
                      have h1 := pickT (l := [_, _, _, _, _, _, _]) hS [6, 3] rfl (by decide)
                      exact ⟨(u, h, q), ⟨hJ ▸ hway.u, hhc, by rw [← hJ, hlt]; exact hqn, by rw [← hJ]; exact hqx⟩, rfl, h1⟩
                  · try (exfalso; omega)
                    all_goals
                      refine tr_skip ?_
                      refine tx_then ?_
                      refine tr_seq ?_
                      refine tb_draw 3 (sel _ [0, 1, 2, 3, 4, 6]) (fun w h => h.sel _ rfl (by decide)) rfl ?_
                      refine tb_float (i := 0) rfl (by kernel_rfl) rfl (wants_none rfl) (yq_of (y_ldbA 0 Tryz.isAgg57 Tryz.sizeOf57 (fe_t rfl) rfl rfl rfl)) ?_
                      refine tb_float (i := 1) rfl (by kernel_rfl) rfl (wants_none rfl) (yq_of (y_ldbA 2 Tryz.isAgg59 Tryz.sizeOf59 (fe_t rfl) rfl rfl rfl)) ?_
                      refine tb_float (i := 2) rfl (by kernel_rfl) rfl (wants_none rfl) (yq_of (y_fieldAddr (td := 57) Tryz.underlying61 rfl rfl Tryz.sizeOf57 (o' := 0) rfl (fe_t rfl))) ?_
                      refine tb_one2 (i := 3) rfl (by kernel_rfl) (by kernel_rfl) (wants_none rfl) (oj_store 5 Tryz.sizeOf57 (fe_t rfl) (fe_t rfl) rfl rfl rfl rfl rfl rfl (⟨fun w h => h.pick [0, 1, 2, 3, 4, 6] _ rfl (by decide), ?_⟩))
                      refine tb_float (i := 4) rfl (by kernel_rfl) rfl (wants_none rfl) (yq_of (y_fieldAddr (td := 59) Tryz.underlying61 rfl rfl Tryz.sizeOf59 (o' := 4) rfl (fe_t rfl))) ?_
                      refine tb_one2 (i := 5) rfl (by kernel_rfl) (by kernel_rfl) (wants_none rfl) (oj_store 5 Tryz.sizeOf59 (fe_t rfl) (fe_t rfl) rfl rfl rfl rfl rfl rfl (⟨fun w h => h.pick [0, 1, 2, 3, 4, 6] _ rfl (by decide), ?_⟩))
                      refine tb_done (by kernel_rfl) ?_
                      refine tx_then ?_
                      refine tr_seq ?_
                      refine tr_region ?_
                      refine tl_step rfl (oj_val (y_move (fe_t rfl)) ?_)
                      refine tl_step rfl (oj_val (y_move (fe_t rfl)) ?_)
                      refine tl_step rfl (oj_val (y_sub (fe_t rfl) (fe_t rfl) (by omega)) ?_)
                      refine tl_step rfl (oj_val (y_assign (fe_t rfl)) ?_)
                      refine tl_nil ?_
                      refine tx_then ?_
                      refine tr_seq ?_
                      refine tr_region ?_
                      refine tl_step rfl (oj_val (y_fieldAddr (td := 3) Tryz.underlying61 rfl rfl Tryz.sizeOf3 (o' := 9) rfl (fe_t rfl)) ?_)
                      refine tl_step rfl (oj_val (y_ldb 5 Tryz.isAgg3 (fe_t rfl) rfl rfl) ?_)
                      refine tl_step rfl (oj_val (y_move (fe_t rfl)) ?_)
                      refine tl_step rfl (oj_val (y_add (fe_t rfl) (fe_t rfl) (by omega)) ?_)
                      refine tl_step rfl (oj_val (y_fieldAddr (td := 3) Tryz.underlying61 rfl rfl Tryz.sizeOf3 (o' := 9) rfl (fe_t rfl)) ?_)
                      refine tl_step rfl (oj_store1 5 Tryz.sizeOf3 (fe_t rfl) (fe_t rfl) rfl rfl rfl rfl (?_))
                      refine tl_nil ?_
                      refine tx_then ?_
                      refine tr_region ?_
                      refine tl_step rfl (oj_val (y_move (fe_t rfl)) ?_)
                      refine tl_step rfl (oj_val (y_move (fe_t rfl)) ?_)
                      refine tl_step rfl (oj_slice1 Tryz.underlying22 Tryz.sizeOf3 Tryz.zeroValue3 (fe_t rfl) (by decide) rfl (fun b3 => ?_))
                      refine tl_step rfl (oj_append (i := 4) (s := 1) (z := (.int .i64 0)) (bytes := 8) Tryz.underlying22 (by kernel_rfl) (fe_t rfl) (fe_t rfl) rfl (rdl_blk 0 rfl) rfl (by decide) (by first | exact oneI | exact oneF (fun _ => rfl) | exact fun u hu => List.all_eq_true.1 (show List.all _ (fun x => x.oneCell') = true from rfl) u hu | (intro u hu; revert u hu; simp [Value.oneCell'])) (by decide) ⟨by omega, by decide⟩ (fun Aa1 ca1 hca1 => ?_))
                      refine tl_step rfl (oj_val (y_assign (fe_t rfl)) ?_)
                      refine tl_nil ?_
                      refine tx_in ?_
                      apply tx_back5 (j + 1) (ro - u.zs.headD 0) ((⟨u.zs.tail, u.drops, lvl u.b (u.b.level - u.zs.headD 0 * u.b.den), u.sent + u.zs.headD 0⟩ : Pc)) ((⟨y.1, 0, y.2, []⟩ : Vs)) ((⟨_, _, _, _⟩ : Vs))
                      · exact (cov_cons (by first | rfl | exact v_int (by omega) | exact v_bool (by simp [*])) (cov_cons (by first | rfl | exact v_int (by omega) | exact v_bool (by simp [*])) (cov_nil)))
                      · repeat (first | exact over_nil | refine over_put rfl ?_ | refine over_drop rfl ?_)
                      · exact fun w h => pickT (l := [_, _, _, _, _, _, _, _]) h [4, 5, 6, 2] rfl (by decide)
                      · refine ⟨⟨hway.next hg (by omega) (by omega) hpl, by simpa using hy, by dsimp only; omega, ?_⟩, by omega⟩
                        dsimp only
                        rw [hqx, List.take_succ_eq_append_getElem hj, hz0]
                        simp [cI, zc]
  · try (exfalso; omega)
    all_goals
      refine tr_exit ?_
      refine tx_then_exit ?_
      refine tx_then_exit ?_
      refine tx_in_exit ?_
      refine tx_then ?_
      refine tr_seq ?_
      refine tr_region ?_
      refine tl_step rfl (oj_val (y_ldbA 2 Tryz.isAgg61 Tryz.sizeOf61 (fe_t rfl) rfl rfl rfl) ?_)
      refine tl_step rfl (oj_val (y_move (fe_t rfl)) ?_)
      refine tl_step rfl (oj_storeW 1 Tryz.sizeOf61 (fe_t rfl) (fe_t rfl) rfl rfl rfl rfl rfl (?_))
      refine tl_step rfl (oj_val (y_assign (fe_t rfl)) ?_)
      refine tl_nil ?_
      refine tx_then ?_
      refine tr_ret ?_
      refine tx_ret (res2 Tryz.results43 (rok_b 1 Tryz.isAgg61 Tryz.sizeOf61 rfl rfl rfl) (rok_t rfl)) (fun w' hS => ?_)
      have hJ : j = cnt s.b.den s.zs v s.b.level := hway.stop hg (fun hl => by omega)
      have hlt : (s.zs.take j).length = j := by rw [List.length_take]; omega
      have h1 := pickT (l := [_, _, _, _]) hS [3, 0] rfl (by decide)
      exact ⟨(u, h, q), ⟨hJ ▸ hway.u, hhc, by rw [← hJ, hlt]; exact hqn, by rw [← hJ]; exact hqx⟩, rfl, h1⟩

end Go.Proofs.YtoibebmhfcjpfaaGreatDoor.Pace

namespace Go.Proofs.YtoibebmhfcjpfaaGreatDoor.Pace
open Go.RowKit Go.Proofs.YtoibebmhfcjpfaaGreatDoor.E Go.Proofs.YtoibebmhfcjpfaaGreatDoor.Ring Go.Proofs.YtoibebmhfcjpfaaGreatDoor.Bucket

set_option maxRecDepth 100000 in
theorem fails {w0 w : World} {T : List Res} {b n c : Nat} {A : Option Addr} {i1 i2 i3 i4 i5 i6 i7 i8 i9 : Int} {e : Int} (hS : St w0 w (blk b [.slice A n c, (.int .i64 i1), (.int .i64 i2), (.int .i64 i3), (.int .i64 i4), (.int .i64 i5), (.int .i64 i6), (.int .i64 i7), (.int .i64 i8), (.int .i64 i9)] :: T)) :
    Calls Tryz.prog 40 #[(.int .i64 e), .pointer (some ⟨b, 0, none⟩)] w fun e' w' => ∃ _q : Unit, True ∧ e' = .returned (.tuple #[.agg #[.slice A n c, (.int .i64 i1), (.int .i64 i2), (.int .i64 i3), (.int .i64 i4), (.int .i64 i5), (.int .i64 i6), (.int .i64 i7), (.int .i64 i8), (.int .i64 i9)], .agg #[(.int .i64 e), .slice none 0 0]]) ∧ St w0 w' (blk b [.slice A n c, (.int .i64 i1), (.int .i64 i2), (.int .i64 i3), (.int .i64 i4), (.int .i64 i5), (.int .i64 i6), (.int .i64 i7), (.int .i64 i8), (.int .i64 i9)] :: T) := by
  refine calls_tr Tryz.func40 Tryz.ntmps40 rfl rfl hS ?_
  refine tr_seq ?_
  refine tr_region ?_
  refine tl_step rfl (oj_alloc Tryz.zeroValue61 (fun ra => ?_))
  refine tl_step rfl (oj_alloc Tryz.zeroValue65 (fun rb => ?_))
  refine tl_nil ?_
  refine tx_then ?_
  refine tr_seq ?_
  refine tr_region ?_
  refine tl_step rfl (oj_val (y_ldbA 2 Tryz.isAgg61 Tryz.sizeOf61 (fe_t rfl) rfl rfl rfl) ?_)
  refine tl_step rfl (oj_val (y_move (fe_t rfl)) ?_)
  refine tl_step rfl (oj_val ((fun {u0} hx hb => y_build (is := [0]) (vs := [u0]) (cs := [u0, .slice none 0 0]) rfl hx hb) (fel_cons (fe_t rfl) fel_nil) (by kernel_rfl)) ?_)
  refine tl_step rfl (oj_storeW 1 Tryz.sizeOf61 (fe_t rfl) (fe_t rfl) rfl rfl rfl rfl rfl (?_))
  refine tl_step rfl (oj_storeW 0 Tryz.sizeOf65 (fe_t rfl) (fe_t rfl) rfl rfl rfl rfl rfl (?_))
  refine tl_nil ?_
  refine tx_then ?_
  refine tr_ret ?_
  refine tx_ret (res2 Tryz.results40 (rok_b 1 Tryz.isAgg61 Tryz.sizeOf61 rfl rfl rfl) (rok_b 0 Tryz.isAgg65 Tryz.sizeOf65 rfl rfl rfl)) (fun w' hS => ?_)
  exact ⟨(), trivial, rfl, pickT (l := [_, _, _]) hS [2] rfl (by decide)⟩

set_option maxRecDepth 100000 in
set_option maxHeartbeats 4000000 in
theorem do_K {w0 w : World} {T : List Res} {A : Option Addr} {c m : Nat} {s : Pc} (hS : St w0 w (rdr A (cI s.zs) :: T)) (hc : s.zs.length ≤ c) (hg : Gd m s) (hm : m ≤ 1048576) {k v : Int} (hk : k ≠ 1 ∧ k ≠ 2 ∧ k ≠ 3) :
    Calls Tryz.prog 30 #[.agg #[.slice A s.zs.length c, (.int .i64 100), (.int .i64 60000), (.int .i64 s.drops), (.int .i64 s.b.num), (.int .i64 s.b.den), (.int .i64 s.b.burst), (.int .i64 s.b.level), (.int .i64 s.b.at0), (.int .i64 s.sent)], .agg #[(.int .i64 k), (.int .i64 v)]] w fun e w' => ∃ q : Pc × Vs × Vs, (q.1 = s ∧ q.1.zs.length ≤ q.2.1.c ∧ q.2.2.n = (([] : List Int)).length ∧ q.2.2.xs = cI (([] : List Int))) ∧ e = .returned (.tuple #[.agg #[.slice q.2.1.A q.1.zs.length q.2.1.c, (.int .i64 100), (.int .i64 60000), (.int .i64 q.1.drops), (.int .i64 q.1.b.num), (.int .i64 q.1.b.den), (.int .i64 q.1.b.burst), (.int .i64 q.1.b.level), (.int .i64 q.1.b.at0), (.int .i64 q.1.sent)], .agg #[(.int .i64 5), .slice q.2.2.A q.2.2.n q.2.2.c]]) ∧ St w0 w' (rdr q.2.1.A (cI q.1.zs) :: vec 3 1 (.slice q.2.2.A q.2.2.n q.2.2.c) q.2.2.n q.2.2.xs :: T) := by
  have hgp := hg.parts
  have hgd := hg.d0
  have hge := hg.d1
  have hgs := hg.s0
  have hgt := hg.s1
  have hgb := bparts hg.b
  refine calls_tr Tryz.func30 Tryz.ntmps30 rfl rfl hS ?_
  refine tr_seq ?_
  refine tr_add (r := vec 3 1 (.slice none 0 0) 0 []) vec_nil rfl ?_
  refine tr_region ?_
  refine tl_step rfl (oj_box (fe_t rfl) (fun pb => ?_))
  refine tl_step rfl (oj_box (fe_t rfl) (fun ob => ?_))
  refine tl_step rfl (oj_alloc Tryz.zeroValue61 (fun ra => ?_))
  refine tl_step rfl (oj_alloc Tryz.zeroValue65 (fun rb => ?_))
  refine tl_nil ?_
  refine tx_then ?_
  refine tr_seq ?_
  refine tr_region ?_
  refine tl_step rfl (oj_val (y_makeFunc (fel_cons (fe_t rfl) fel_nil)) ?_)
  refine tl_step rfl (oj_val (y_assign (fe_t rfl)) ?_)
  refine tl_nil ?_
  refine tx_then ?_
  refine tr_seq ?_
  refine tr_seq ?_
  refine tr_region ?_
  refine tl_step rfl (oj_val (y_fieldAddr (td := 3) Tryz.underlying68 rfl rfl Tryz.sizeOf3 (o' := 0) rfl (fe_t rfl)) ?_)
  refine tl_step rfl (oj_val (y_ldb 2 Tryz.isAgg3 (fe_t rfl) rfl rfl) ?_)
  refine tl_nil ?_
  refine tx_then ?_
  refine tr_block ?_
  refine tr_seq ?_
  refine tr_region ?_
  refine tl_step rfl (oj_val (y_eq (fe_t rfl) fe_c) ?_)
  refine tl_step rfl (oj_val (y_assign (fe_t rfl)) ?_)
  refine tl_nil ?_
  refine tx_then ?_
  refine tr_condp (fe_t rfl) (fun hq1 => ?_) (fun hq2 => ?_)
  · exfalso; omega
  · try (exfalso; omega)
    all_goals
      refine tr_seq ?_
      refine tr_region ?_
      refine tl_step rfl (oj_val (y_eq (fe_t rfl) fe_c) ?_)
      refine tl_step rfl (oj_val (y_assign (fe_t rfl)) ?_)
      refine tl_nil ?_
      refine tx_then ?_
      refine tr_condp (fe_t rfl) (fun hq3 => ?_) (fun hq4 => ?_)
      · exfalso; omega
      · try (exfalso; omega)
        all_goals
          refine tr_seq ?_
          refine tr_region ?_
          refine tl_step rfl (oj_val (y_eq (fe_t rfl) fe_c) ?_)
          refine tl_step rfl (oj_val (y_assign (fe_t rfl)) ?_)
          refine tl_nil ?_
          refine tx_then ?_
          refine tr_condp (fe_t rfl) (fun hq5 => ?_) (fun hq6 => ?_)
          · exfalso; omega
          · try (exfalso; omega)
            all_goals
              refine tr_seq ?_
              refine tr_region ?_
              refine tl_step rfl (oj_val (y_move (fe_t rfl)) ?_)
              refine tl_step rfl (oj_callF Tryz.call40 (fe_t rfl) (fel_cons fe_c fel_nil) (fun w' hS => fails (pickT (l := [_, _, _, _, _, _]) hS [3, 0, 1, 2, 4, 5] rfl (by decide))) (fun _ _ => ?_))
              refine tl_step rfl (oj_val (y_extract (fe_t rfl) rfl) ?_)
              refine tl_step rfl (oj_val (y_extract (fe_t rfl) rfl) ?_)
              refine tl_step rfl (oj_storeW 2 Tryz.sizeOf61 (fe_t rfl) (fe_t rfl) rfl rfl rfl rfl rfl (?_))
              refine tl_step rfl (oj_storeW 1 Tryz.sizeOf65 (fe_t rfl) (fe_t rfl) rfl rfl rfl rfl rfl (?_))
              refine tl_nil ?_
              refine tx_then ?_
              refine tr_ret ?_
              refine tx_in_ret ?_
              refine tx_then_ret ?_
              refine tx_ret (res2 Tryz.results30 (rok_b 2 Tryz.isAgg61 Tryz.sizeOf61 rfl rfl rfl) (rok_b 1 Tryz.isAgg65 Tryz.sizeOf65 rfl rfl rfl)) (fun w' hS => ?_)
              have h1 := pickT (l := [_, _, _, _, _, _]) hS [5, 4] rfl (by decide)
              exact ⟨(s, ⟨A, 0, c, []⟩, ⟨none, 0, 0, []⟩), ⟨rfl, hc, rfl, rfl⟩, rfl, h1⟩

set_option maxRecDepth 100000 in
set_option maxHeartbeats 4000000 in
theorem do_1r {w0 w : World} {T : List Res} {A : Option Addr} {c m : Nat} {s : Pc} (hS : St w0 w (rdr A (cI s.zs) :: T)) (hc : s.zs.length ≤ c) (hg : Gd m s) (hm : m ≤ 1048576) {k v : Int} (hv : v < 1 ∨ 1500 < v) :
    Calls Tryz.prog 30 #[.agg #[.slice A s.zs.length c, (.int .i64 100), (.int .i64 60000), (.int .i64 s.drops), (.int .i64 s.b.num), (.int .i64 s.b.den), (.int .i64 s.b.burst), (.int .i64 s.b.level), (.int .i64 s.b.at0), (.int .i64 s.sent)], .agg #[(.int .i64 1), (.int .i64 v)]] w fun e w' => ∃ q : Pc × Vs × Vs, (q.1 = s ∧ q.1.zs.length ≤ q.2.1.c ∧ q.2.2.n = (([] : List Int)).length ∧ q.2.2.xs = cI (([] : List Int))) ∧ e = .returned (.tuple #[.agg #[.slice q.2.1.A q.1.zs.length q.2.1.c, (.int .i64 100), (.int .i64 60000), (.int .i64 q.1.drops), (.int .i64 q.1.b.num), (.int .i64 q.1.b.den), (.int .i64 q.1.b.burst), (.int .i64 q.1.b.level), (.int .i64 q.1.b.at0), (.int .i64 q.1.sent)], .agg #[(.int .i64 2), .slice q.2.2.A q.2.2.n q.2.2.c]]) ∧ St w0 w' (rdr q.2.1.A (cI q.1.zs) :: vec 3 1 (.slice q.2.2.A q.2.2.n q.2.2.c) q.2.2.n q.2.2.xs :: T) := by
  have hgp := hg.parts
  have hgd := hg.d0
  have hge := hg.d1
  have hgs := hg.s0
  have hgt := hg.s1
  have hgb := bparts hg.b
  refine calls_tr Tryz.func30 Tryz.ntmps30 rfl rfl hS ?_
  refine tr_seq ?_
  refine tr_add (r := vec 3 1 (.slice none 0 0) 0 []) vec_nil rfl ?_
  refine tr_region ?_
  refine tl_step rfl (oj_box (fe_t rfl) (fun pb => ?_))
  refine tl_step rfl (oj_box (fe_t rfl) (fun ob => ?_))
  refine tl_step rfl (oj_alloc Tryz.zeroValue61 (fun ra => ?_))
  refine tl_step rfl (oj_alloc Tryz.zeroValue65 (fun rb => ?_))
  refine tl_nil ?_
  refine tx_then ?_
  refine tr_seq ?_
  refine tr_region ?_
  refine tl_step rfl (oj_val (y_makeFunc (fel_cons (fe_t rfl) fel_nil)) ?_)
  refine tl_step rfl (oj_val (y_assign (fe_t rfl)) ?_)
  refine tl_nil ?_
  refine tx_then ?_
  refine tr_seq ?_
  refine tr_seq ?_
  refine tr_region ?_
  refine tl_step rfl (oj_val (y_fieldAddr (td := 3) Tryz.underlying68 rfl rfl Tryz.sizeOf3 (o' := 0) rfl (fe_t rfl)) ?_)
  refine tl_step rfl (oj_val (y_ldb 2 Tryz.isAgg3 (fe_t rfl) rfl rfl) ?_)
  refine tl_nil ?_
  refine tx_then ?_
  refine tr_block ?_
  refine tr_seq ?_
  refine tr_region ?_
  refine tl_step rfl (oj_val (y_eq (fe_t rfl) fe_c) ?_)
  refine tl_step rfl (oj_val (y_assign (fe_t rfl)) ?_)
  refine tl_nil ?_
  refine tx_then ?_
  refine tr_condp (fe_t rfl) (fun hq1 => ?_) (fun hq2 => ?_)
  · try (exfalso; omega)
    all_goals
      refine tr_seq ?_
      refine tr_region ?_
      refine tl_step rfl (oj_val (y_fieldAddr (td := 57) Tryz.underlying61 rfl rfl Tryz.sizeOf57 (o' := 0) rfl (fe_t rfl)) ?_)
      refine tl_step rfl (oj_val (y_ldbA 3 Tryz.isAgg57 Tryz.sizeOf57 (fe_t rfl) rfl rfl rfl) ?_)
      refine tl_step rfl (oj_val (y_fieldAddr (td := 3) Tryz.underlying68 rfl rfl Tryz.sizeOf3 (o' := 1) rfl (fe_t rfl)) ?_)
      refine tl_step rfl (oj_val (y_ldb 2 Tryz.isAgg3 (fe_t rfl) rfl rfl) ?_)
      refine tl_step rfl (oj_val ((fun {u0 u1} hx hb => y_build (is := [0, 1]) (vs := [u0, u1]) (cs := [u0, u1]) rfl hx hb) (fel_cons (fe_c (v := .int .i64 1)) (fel_cons (fe_t rfl) fel_nil)) (by kernel_rfl)) ?_)
      refine tl_step rfl (oj_callv Tryz.call41 fe_f (fel_cons (fe_t rfl) (fel_cons (fe_t rfl) fel_nil)) (fun w' hS => stepRange A s.zs.length c s.zs s.drops v w' (hS.holds 5 _ rfl) rfl hg.q (by omega) (by omega) hv) ?_)
      refine tl_step rfl (oj_val (y_move (fe_t rfl)) ?_)
      refine tl_step rfl (oj_val (y_extract (fe_t rfl) rfl) ?_)
      refine tl_step rfl (oj_val (y_extract (fe_t rfl) rfl) ?_)
      refine tl_step rfl (oj_val (y_extract (fe_t rfl) rfl) ?_)
      refine tl_step rfl (oj_alloc Tryz.zeroValue57 (fun b1 => ?_))
      refine tl_step rfl (oj_storeW 0 Tryz.sizeOf57 (fe_t rfl) (fe_t rfl) rfl rfl rfl rfl rfl (?_))
      refine tl_step rfl (oj_val (y_assign (fe_t rfl)) ?_)
      refine tl_step rfl (oj_val (y_assign (fe_t rfl)) ?_)
      refine tl_nil ?_
      refine tx_then ?_
      refine tr_seq ?_
      refine tr_seq ?_
      refine tr_region ?_
      refine tl_step rfl (oj_val (y_move (fe_t rfl)) ?_)
      refine tl_step rfl (oj_val (y_neq (fe_t rfl) fe_c) ?_)
      refine tl_nil ?_
      refine tx_then ?_
      refine tr_condp (fe_t rfl) (fun hq3 => ?_) (fun hq4 => ?_)
      · try (exfalso; omega)
        all_goals
          refine tr_seq ?_
          refine tr_region ?_
          refine tl_step rfl (oj_val (y_move (fe_t rfl)) ?_)
          refine tl_step rfl (oj_val (y_move (fe_t rfl)) ?_)
          refine tl_step rfl (oj_callF Tryz.call40 (fe_t rfl) (fel_cons (fe_t rfl) fel_nil) (fun w' hS => fails (pickT (l := [_, _, _, _, _, _, _]) hS [4, 0, 1, 2, 3, 5, 6] rfl (by decide))) (fun _ _ => ?_))
          refine tl_step rfl (oj_val (y_extract (fe_t rfl) rfl) ?_)
          refine tl_step rfl (oj_val (y_extract (fe_t rfl) rfl) ?_)
          refine tl_step rfl (oj_storeW 3 Tryz.sizeOf61 (fe_t rfl) (fe_t rfl) rfl rfl rfl rfl rfl (?_))
          refine tl_step rfl (oj_storeW 2 Tryz.sizeOf65 (fe_t rfl) (fe_t rfl) rfl rfl rfl rfl rfl (?_))
          refine tl_nil ?_
          refine tx_then ?_
          refine tr_ret ?_
          refine tx_then_ret ?_
          refine tx_in_ret ?_
          refine tx_then_ret ?_
          refine tx_ret (res2 Tryz.results30 (rok_b 3 Tryz.isAgg61 Tryz.sizeOf61 rfl rfl rfl) (rok_b 2 Tryz.isAgg65 Tryz.sizeOf65 rfl rfl rfl)) (fun w' hS => ?_)
          have h1 := pickT (l := [_, _, _, _, _, _, _]) hS [6, 5] rfl (by decide)
          exact ⟨(s, ⟨A, 0, c, []⟩, ⟨none, 0, 0, []⟩), ⟨rfl, hc, rfl, rfl⟩, rfl, h1⟩
      · exfalso; omega
  · exfalso; omega

set_option maxRecDepth 100000 in
set_option maxHeartbeats 4000000 in
theorem do_1i {w0 w : World} {T : List Res} {A : Option Addr} {c m : Nat} {s : Pc} (hS : St w0 w (rdr A (cI s.zs) :: T)) (hc : s.zs.length ≤ c) (hg : Gd m s) (hm : m ≤ 1048576) {k v : Int} (v0 : 1 ≤ v) (v1 : v ≤ 1500) (hl : (s.zs.length : Int) < 100 ∧ tot s.zs + v ≤ 60000) :
    Calls Tryz.prog 30 #[.agg #[.slice A s.zs.length c, (.int .i64 100), (.int .i64 60000), (.int .i64 s.drops), (.int .i64 s.b.num), (.int .i64 s.b.den), (.int .i64 s.b.burst), (.int .i64 s.b.level), (.int .i64 s.b.at0), (.int .i64 s.sent)], .agg #[(.int .i64 1), (.int .i64 v)]] w fun e w' => ∃ q : Pc × Vs × Vs, (q.1 = (⟨s.zs ++ [v], s.drops, s.b, s.sent⟩ : Pc) ∧ q.1.zs.length ≤ q.2.1.c ∧ q.2.2.n = (([] : List Int)).length ∧ q.2.2.xs = cI (([] : List Int))) ∧ e = .returned (.tuple #[.agg #[.slice q.2.1.A q.1.zs.length q.2.1.c, (.int .i64 100), (.int .i64 60000), (.int .i64 q.1.drops), (.int .i64 q.1.b.num), (.int .i64 q.1.b.den), (.int .i64 q.1.b.burst), (.int .i64 q.1.b.level), (.int .i64 q.1.b.at0), (.int .i64 q.1.sent)], .agg #[(.int .i64 0), .slice q.2.2.A q.2.2.n q.2.2.c]]) ∧ St w0 w' (rdr q.2.1.A (cI q.1.zs) :: vec 3 1 (.slice q.2.2.A q.2.2.n q.2.2.c) q.2.2.n q.2.2.xs :: T) := by
  have hgp := hg.parts
  have hgd := hg.d0
  have hge := hg.d1
  have hgs := hg.s0
  have hgt := hg.s1
  have hgb := bparts hg.b
  refine calls_tr Tryz.func30 Tryz.ntmps30 rfl rfl hS ?_
  refine tr_seq ?_
  refine tr_add (r := vec 3 1 (.slice none 0 0) 0 []) vec_nil rfl ?_
  refine tr_region ?_
  refine tl_step rfl (oj_box (fe_t rfl) (fun pb => ?_))
  refine tl_step rfl (oj_box (fe_t rfl) (fun ob => ?_))
  refine tl_step rfl (oj_alloc Tryz.zeroValue61 (fun ra => ?_))
  refine tl_step rfl (oj_alloc Tryz.zeroValue65 (fun rb => ?_))
  refine tl_nil ?_
  refine tx_then ?_
  refine tr_seq ?_
  refine tr_region ?_
  refine tl_step rfl (oj_val (y_makeFunc (fel_cons (fe_t rfl) fel_nil)) ?_)
  refine tl_step rfl (oj_val (y_assign (fe_t rfl)) ?_)
  refine tl_nil ?_
  refine tx_then ?_
  refine tr_seq ?_
  refine tr_seq ?_
  refine tr_region ?_
  refine tl_step rfl (oj_val (y_fieldAddr (td := 3) Tryz.underlying68 rfl rfl Tryz.sizeOf3 (o' := 0) rfl (fe_t rfl)) ?_)
  refine tl_step rfl (oj_val (y_ldb 2 Tryz.isAgg3 (fe_t rfl) rfl rfl) ?_)
  refine tl_nil ?_
  refine tx_then ?_
  refine tr_block ?_
  refine tr_seq ?_
  refine tr_region ?_
  refine tl_step rfl (oj_val (y_eq (fe_t rfl) fe_c) ?_)
  refine tl_step rfl (oj_val (y_assign (fe_t rfl)) ?_)
  refine tl_nil ?_
  refine tx_then ?_
  refine tr_condp (fe_t rfl) (fun hq1 => ?_) (fun hq2 => ?_)
  · try (exfalso; omega)
    all_goals
      refine tr_seq ?_
      refine tr_region ?_
      refine tl_step rfl (oj_val (y_fieldAddr (td := 57) Tryz.underlying61 rfl rfl Tryz.sizeOf57 (o' := 0) rfl (fe_t rfl)) ?_)
      refine tl_step rfl (oj_val (y_ldbA 3 Tryz.isAgg57 Tryz.sizeOf57 (fe_t rfl) rfl rfl rfl) ?_)
      refine tl_step rfl (oj_val (y_fieldAddr (td := 3) Tryz.underlying68 rfl rfl Tryz.sizeOf3 (o' := 1) rfl (fe_t rfl)) ?_)
      refine tl_step rfl (oj_val (y_ldb 2 Tryz.isAgg3 (fe_t rfl) rfl rfl) ?_)
      refine tl_step rfl (oj_val ((fun {u0 u1} hx hb => y_build (is := [0, 1]) (vs := [u0, u1]) (cs := [u0, u1]) rfl hx hb) (fel_cons (fe_c (v := .int .i64 1)) (fel_cons (fe_t rfl) fel_nil)) (by kernel_rfl)) ?_)
      refine tl_step rfl (oj_call Tryz.call41 fe_f (fel_cons (fe_t rfl) (fel_cons (fe_t rfl) fel_nil)) (fun w' hS => stepIn A s.zs.length c s.zs s.drops v w' (hS.holds 5 _ rfl) rfl hg.q (by omega) (by omega) v0 v1 hl) (fun y hy => ?_))
      refine tl_step rfl (oj_val (y_move (fe_t rfl)) ?_)
      refine tl_step rfl (oj_val (y_extract (fe_t rfl) rfl) ?_)
      refine tl_step rfl (oj_val (y_extract (fe_t rfl) rfl) ?_)
      refine tl_step rfl (oj_val (y_extract (fe_t rfl) rfl) ?_)
      refine tl_step rfl (oj_alloc Tryz.zeroValue57 (fun b1 => ?_))
      refine tl_step rfl (oj_storeW 0 Tryz.sizeOf57 (fe_t rfl) (fe_t rfl) rfl rfl rfl rfl rfl (?_))
      refine tl_step rfl (oj_val (y_assign (fe_t rfl)) ?_)
      refine tl_step rfl (oj_val (y_assign (fe_t rfl)) ?_)
      refine tl_nil ?_
      refine tx_then ?_
      refine tr_seq ?_
      refine tr_seq ?_
      refine tr_region ?_
      refine tl_step rfl (oj_val (y_move (fe_t rfl)) ?_)
      refine tl_step rfl (oj_val (y_neq (fe_t rfl) fe_c) ?_)
      refine tl_nil ?_
      refine tx_then ?_
      refine tr_condp (fe_t rfl) (fun hq3 => ?_) (fun hq4 => ?_)
      · exfalso; omega
      · try (exfalso; omega)
        all_goals
          refine tr_skip ?_
          refine tx_then ?_
          refine tr_seq ?_
          refine tr_region ?_
          refine tl_step rfl (oj_val (y_ldbA 0 Tryz.isAgg57 Tryz.sizeOf57 (fe_t rfl) rfl rfl rfl) ?_)
          refine tl_step rfl (oj_val (y_fieldAddr (td := 57) Tryz.underlying61 rfl rfl Tryz.sizeOf57 (o' := 0) rfl (fe_t rfl)) ?_)
          refine tl_step rfl (oj_store 5 Tryz.sizeOf57 (fe_t rfl) (fe_t rfl) rfl rfl rfl rfl rfl rfl (?_))
          refine tl_nil ?_
          refine tx_then ?_
          refine tr_seq ?_
          refine tr_region ?_
          refine tl_step rfl (oj_val (y_move (fe_t rfl)) ?_)
          refine tl_step rfl (oj_val (y_eq (fe_t rfl) fe_c) ?_)
          refine tl_nil ?_
          refine tx_then ?_
          refine tr_condp (fe_t rfl) (fun hq5 => ?_) (fun hq6 => ?_)
          · exfalso; omega
          · try (exfalso; omega)
            all_goals
              refine tr_skip ?_
              refine tx_in ?_
              refine tx_then ?_
              refine tr_seq ?_
              refine tr_region ?_
              refine tl_step rfl (oj_val (y_ldbA 5 Tryz.isAgg61 Tryz.sizeOf61 (fe_t rfl) rfl rfl rfl) ?_)
              refine tl_step rfl (oj_val (y_build (is := []) (vs := []) (cs := [.int .i64 0, .slice none 0 0]) rfl fel_nil (by kernel_rfl)) ?_)
              refine tl_step rfl (oj_storeW 3 Tryz.sizeOf61 (fe_t rfl) (fe_t rfl) rfl rfl rfl rfl rfl (?_))
              refine tl_step rfl (oj_storeW 2 Tryz.sizeOf65 (fe_t rfl) (fe_t rfl) rfl rfl rfl rfl rfl (?_))
              refine tl_nil ?_
              refine tx_then ?_
              refine tr_ret ?_
              refine tx_ret (res2 Tryz.results30 (rok_b 3 Tryz.isAgg61 Tryz.sizeOf61 rfl rfl rfl) (rok_b 2 Tryz.isAgg65 Tryz.sizeOf65 rfl rfl rfl)) (fun w' hS => ?_)
              have h1 := pickT (l := [_, _, _, _, _, _, _, _]) hS [1, 6] rfl (by decide)
              exact ⟨((⟨s.zs ++ [v], s.drops, s.b, s.sent⟩ : Pc), ⟨y.1, 0, y.2, []⟩, ⟨none, 0, 0, []⟩), ⟨rfl, by simpa using hy, rfl, rfl⟩, rfl, h1⟩
  · exfalso; omega

set_option maxRecDepth 100000 in
set_option maxHeartbeats 4000000 in
theorem do_1d {w0 w : World} {T : List Res} {A : Option Addr} {c m : Nat} {s : Pc} (hS : St w0 w (rdr A (cI s.zs) :: T)) (hc : s.zs.length ≤ c) (hg : Gd m s) (hm : m ≤ 1048576) {k v : Int} (v0 : 1 ≤ v) (v1 : v ≤ 1500) (hl : ¬ ((s.zs.length : Int) < 100 ∧ tot s.zs + v ≤ 60000)) :
    Calls Tryz.prog 30 #[.agg #[.slice A s.zs.length c, (.int .i64 100), (.int .i64 60000), (.int .i64 s.drops), (.int .i64 s.b.num), (.int .i64 s.b.den), (.int .i64 s.b.burst), (.int .i64 s.b.level), (.int .i64 s.b.at0), (.int .i64 s.sent)], .agg #[(.int .i64 1), (.int .i64 v)]] w fun e w' => ∃ q : Pc × Vs × Vs, (q.1 = (⟨s.zs, s.drops + 1, s.b, s.sent⟩ : Pc) ∧ q.1.zs.length ≤ q.2.1.c ∧ q.2.2.n = (([] : List Int)).length ∧ q.2.2.xs = cI (([] : List Int))) ∧ e = .returned (.tuple #[.agg #[.slice q.2.1.A q.1.zs.length q.2.1.c, (.int .i64 100), (.int .i64 60000), (.int .i64 q.1.drops), (.int .i64 q.1.b.num), (.int .i64 q.1.b.den), (.int .i64 q.1.b.burst), (.int .i64 q.1.b.level), (.int .i64 q.1.b.at0), (.int .i64 q.1.sent)], .agg #[(.int .i64 4), .slice q.2.2.A q.2.2.n q.2.2.c]]) ∧ St w0 w' (rdr q.2.1.A (cI q.1.zs) :: vec 3 1 (.slice q.2.2.A q.2.2.n q.2.2.c) q.2.2.n q.2.2.xs :: T) := by
  have hgp := hg.parts
  have hgd := hg.d0
  have hge := hg.d1
  have hgs := hg.s0
  have hgt := hg.s1
  have hgb := bparts hg.b
  refine calls_tr Tryz.func30 Tryz.ntmps30 rfl rfl hS ?_
  refine tr_seq ?_
  refine tr_add (r := vec 3 1 (.slice none 0 0) 0 []) vec_nil rfl ?_
  refine tr_region ?_
  refine tl_step rfl (oj_box (fe_t rfl) (fun pb => ?_))
  refine tl_step rfl (oj_box (fe_t rfl) (fun ob => ?_))
  refine tl_step rfl (oj_alloc Tryz.zeroValue61 (fun ra => ?_))
  refine tl_step rfl (oj_alloc Tryz.zeroValue65 (fun rb => ?_))
  refine tl_nil ?_
  refine tx_then ?_
  refine tr_seq ?_
  refine tr_region ?_
  refine tl_step rfl (oj_val (y_makeFunc (fel_cons (fe_t rfl) fel_nil)) ?_)
  refine tl_step rfl (oj_val (y_assign (fe_t rfl)) ?_)
  refine tl_nil ?_
  refine tx_then ?_
  refine tr_seq ?_
  refine tr_seq ?_
  refine tr_region ?_
  refine tl_step rfl (oj_val (y_fieldAddr (td := 3) Tryz.underlying68 rfl rfl Tryz.sizeOf3 (o' := 0) rfl (fe_t rfl)) ?_)
  refine tl_step rfl (oj_val (y_ldb 2 Tryz.isAgg3 (fe_t rfl) rfl rfl) ?_)
  refine tl_nil ?_
  refine tx_then ?_
  refine tr_block ?_
  refine tr_seq ?_
  refine tr_region ?_
  refine tl_step rfl (oj_val (y_eq (fe_t rfl) fe_c) ?_)
  refine tl_step rfl (oj_val (y_assign (fe_t rfl)) ?_)
  refine tl_nil ?_
  refine tx_then ?_
  refine tr_condp (fe_t rfl) (fun hq1 => ?_) (fun hq2 => ?_)
  · try (exfalso; omega)
    all_goals
      refine tr_seq ?_
      refine tr_region ?_
      refine tl_step rfl (oj_val (y_fieldAddr (td := 57) Tryz.underlying61 rfl rfl Tryz.sizeOf57 (o' := 0) rfl (fe_t rfl)) ?_)
      refine tl_step rfl (oj_val (y_ldbA 3 Tryz.isAgg57 Tryz.sizeOf57 (fe_t rfl) rfl rfl rfl) ?_)
      refine tl_step rfl (oj_val (y_fieldAddr (td := 3) Tryz.underlying68 rfl rfl Tryz.sizeOf3 (o' := 1) rfl (fe_t rfl)) ?_)
      refine tl_step rfl (oj_val (y_ldb 2 Tryz.isAgg3 (fe_t rfl) rfl rfl) ?_)
      refine tl_step rfl (oj_val ((fun {u0 u1} hx hb => y_build (is := [0, 1]) (vs := [u0, u1]) (cs := [u0, u1]) rfl hx hb) (fel_cons (fe_c (v := .int .i64 1)) (fel_cons (fe_t rfl) fel_nil)) (by kernel_rfl)) ?_)
      refine tl_step rfl (oj_call Tryz.call41 fe_f (fel_cons (fe_t rfl) (fel_cons (fe_t rfl) fel_nil)) (fun w' hS => stepDrop A s.zs.length c s.zs s.drops v w' (hS.holds 5 _ rfl) rfl hg.q (by omega) (by omega) v0 v1 hl) (fun y hy => ?_))
      refine tl_step rfl (oj_val (y_move (fe_t rfl)) ?_)
      refine tl_step rfl (oj_val (y_extract (fe_t rfl) rfl) ?_)
      refine tl_step rfl (oj_val (y_extract (fe_t rfl) rfl) ?_)
      refine tl_step rfl (oj_val (y_extract (fe_t rfl) rfl) ?_)
      refine tl_step rfl (oj_alloc Tryz.zeroValue57 (fun b1 => ?_))
      refine tl_step rfl (oj_storeW 0 Tryz.sizeOf57 (fe_t rfl) (fe_t rfl) rfl rfl rfl rfl rfl (?_))
      refine tl_step rfl (oj_val (y_assign (fe_t rfl)) ?_)
      refine tl_step rfl (oj_val (y_assign (fe_t rfl)) ?_)
      refine tl_nil ?_
      refine tx_then ?_
      refine tr_seq ?_
      refine tr_seq ?_
      refine tr_region ?_
      refine tl_step rfl (oj_val (y_move (fe_t rfl)) ?_)
      refine tl_step rfl (oj_val (y_neq (fe_t rfl) fe_c) ?_)
      refine tl_nil ?_
      refine tx_then ?_
      refine tr_condp (fe_t rfl) (fun hq3 => ?_) (fun hq4 => ?_)
      · exfalso; omega
      · try (exfalso; omega)
        all_goals
          refine tr_skip ?_
          refine tx_then ?_
          refine tr_seq ?_
          refine tr_region ?_
          refine tl_step rfl (oj_val (y_ldbA 0 Tryz.isAgg57 Tryz.sizeOf57 (fe_t rfl) rfl rfl rfl) ?_)
          refine tl_step rfl (oj_val (y_fieldAddr (td := 57) Tryz.underlying61 rfl rfl Tryz.sizeOf57 (o' := 0) rfl (fe_t rfl)) ?_)
          refine tl_step rfl (oj_store 5 Tryz.sizeOf57 (fe_t rfl) (fe_t rfl) rfl rfl rfl rfl rfl rfl (?_))
          refine tl_nil ?_
          refine tx_then ?_
          refine tr_seq ?_
          refine tr_region ?_
          refine tl_step rfl (oj_val (y_move (fe_t rfl)) ?_)
          refine tl_step rfl (oj_val (y_eq (fe_t rfl) fe_c) ?_)
          refine tl_nil ?_
          refine tx_then ?_
          refine tr_condp (fe_t rfl) (fun hq5 => ?_) (fun hq6 => ?_)
          · try (exfalso; omega)
            all_goals
              refine tr_seq ?_
              refine tr_region ?_
              refine tl_step rfl (oj_val (y_move (fe_t rfl)) ?_)
              refine tl_step rfl (oj_callF Tryz.call40 (fe_t rfl) (fel_cons fe_c fel_nil) (fun w' hS => fails (pickT (l := [_, _, _, _, _, _, _, _]) hS [5, 0, 1, 2, 3, 4, 6, 7] rfl (by decide))) (fun _ _ => ?_))
              refine tl_step rfl (oj_val (y_extract (fe_t rfl) rfl) ?_)
              refine tl_step rfl (oj_val (y_extract (fe_t rfl) rfl) ?_)
              refine tl_step rfl (oj_storeW 4 Tryz.sizeOf61 (fe_t rfl) (fe_t rfl) rfl rfl rfl rfl rfl (?_))
              refine tl_step rfl (oj_storeW 3 Tryz.sizeOf65 (fe_t rfl) (fe_t rfl) rfl rfl rfl rfl rfl (?_))
              refine tl_nil ?_
              refine tx_then ?_
              refine tr_ret ?_
              refine tx_in_ret ?_
              refine tx_then_ret ?_
              refine tx_ret (res2 Tryz.results30 (rok_b 4 Tryz.isAgg61 Tryz.sizeOf61 rfl rfl rfl) (rok_b 3 Tryz.isAgg65 Tryz.sizeOf65 rfl rfl rfl)) (fun w' hS => ?_)
              have h1 := pickT (l := [_, _, _, _, _, _, _, _]) hS [2, 6] rfl (by decide)
              exact ⟨((⟨s.zs, s.drops + 1, s.b, s.sent⟩ : Pc), ⟨y.1, 0, y.2, []⟩, ⟨none, 0, 0, []⟩), ⟨rfl, by simpa using hy, rfl, rfl⟩, rfl, h1⟩
          · exfalso; omega
  · exfalso; omega

set_option maxRecDepth 100000 in
set_option maxHeartbeats 4000000 in
theorem do_2r {w0 w : World} {T : List Res} {A : Option Addr} {c m : Nat} {s : Pc} (hS : St w0 w (rdr A (cI s.zs) :: T)) (hc : s.zs.length ≤ c) (hg : Gd m s) (hm : m ≤ 1048576) {k v : Int} (hv : v < 0 ∨ 1099511627776 < v) :
    Calls Tryz.prog 30 #[.agg #[.slice A s.zs.length c, (.int .i64 100), (.int .i64 60000), (.int .i64 s.drops), (.int .i64 s.b.num), (.int .i64 s.b.den), (.int .i64 s.b.burst), (.int .i64 s.b.level), (.int .i64 s.b.at0), (.int .i64 s.sent)], .agg #[(.int .i64 2), (.int .i64 v)]] w fun e w' => ∃ q : Pc × Vs × Vs, (q.1 = s ∧ q.1.zs.length ≤ q.2.1.c ∧ q.2.2.n = (([] : List Int)).length ∧ q.2.2.xs = cI (([] : List Int))) ∧ e = .returned (.tuple #[.agg #[.slice q.2.1.A q.1.zs.length q.2.1.c, (.int .i64 100), (.int .i64 60000), (.int .i64 q.1.drops), (.int .i64 q.1.b.num), (.int .i64 q.1.b.den), (.int .i64 q.1.b.burst), (.int .i64 q.1.b.level), (.int .i64 q.1.b.at0), (.int .i64 q.1.sent)], .agg #[(.int .i64 2), .slice q.2.2.A q.2.2.n q.2.2.c]]) ∧ St w0 w' (rdr q.2.1.A (cI q.1.zs) :: vec 3 1 (.slice q.2.2.A q.2.2.n q.2.2.c) q.2.2.n q.2.2.xs :: T) := by
  have hgp := hg.parts
  have hgd := hg.d0
  have hge := hg.d1
  have hgs := hg.s0
  have hgt := hg.s1
  have hgb := bparts hg.b
  refine calls_tr Tryz.func30 Tryz.ntmps30 rfl rfl hS ?_
  refine tr_seq ?_
  refine tr_add (r := vec 3 1 (.slice none 0 0) 0 []) vec_nil rfl ?_
  refine tr_region ?_
  refine tl_step rfl (oj_box (fe_t rfl) (fun pb => ?_))
  refine tl_step rfl (oj_box (fe_t rfl) (fun ob => ?_))
  refine tl_step rfl (oj_alloc Tryz.zeroValue61 (fun ra => ?_))
  refine tl_step rfl (oj_alloc Tryz.zeroValue65 (fun rb => ?_))
  refine tl_nil ?_
  refine tx_then ?_
  refine tr_seq ?_
  refine tr_region ?_
  refine tl_step rfl (oj_val (y_makeFunc (fel_cons (fe_t rfl) fel_nil)) ?_)
  refine tl_step rfl (oj_val (y_assign (fe_t rfl)) ?_)
  refine tl_nil ?_
  refine tx_then ?_
  refine tr_seq ?_
  refine tr_seq ?_
  refine tr_region ?_
  refine tl_step rfl (oj_val (y_fieldAddr (td := 3) Tryz.underlying68 rfl rfl Tryz.sizeOf3 (o' := 0) rfl (fe_t rfl)) ?_)
  refine tl_step rfl (oj_val (y_ldb 2 Tryz.isAgg3 (fe_t rfl) rfl rfl) ?_)
  refine tl_nil ?_
  refine tx_then ?_
  refine tr_block ?_
  refine tr_seq ?_
  refine tr_region ?_
  refine tl_step rfl (oj_val (y_eq (fe_t rfl) fe_c) ?_)
  refine tl_step rfl (oj_val (y_assign (fe_t rfl)) ?_)
  refine tl_nil ?_
  refine tx_then ?_
  refine tr_condp (fe_t rfl) (fun hq1 => ?_) (fun hq2 => ?_)
  · exfalso; omega
  · try (exfalso; omega)
    all_goals
      refine tr_seq ?_
      refine tr_region ?_
      refine tl_step rfl (oj_val (y_eq (fe_t rfl) fe_c) ?_)
      refine tl_step rfl (oj_val (y_assign (fe_t rfl)) ?_)
      refine tl_nil ?_
      refine tx_then ?_
      refine tr_condp (fe_t rfl) (fun hq3 => ?_) (fun hq4 => ?_)
      · try (exfalso; omega)
        all_goals
          refine tr_seq ?_
          refine tr_seq ?_
          refine tr_region ?_
          refine tl_step rfl (oj_val (y_fieldAddr (td := 3) Tryz.underlying68 rfl rfl Tryz.sizeOf3 (o' := 1) rfl (fe_t rfl)) ?_)
          refine tl_step rfl (oj_val (y_ldb 2 Tryz.isAgg3 (fe_t rfl) rfl rfl) ?_)
          refine tl_step rfl (oj_val (y_lss (fe_t rfl) fe_c) ?_)
          refine tl_step rfl (oj_val (y_move (fe_t rfl)) ?_)
          refine tl_splitp (d := 53) rfl (fun hq5 => ?_) (fun hq6 => ?_)
          · try (exfalso; omega)
            all_goals
              refine tl_skip rfl rfl rfl rfl ?_
              refine tl_skip rfl rfl rfl rfl ?_
              refine tl_skip rfl rfl rfl rfl ?_
              refine tl_step rfl (oj_val (y_pickt (fe_t rfl) fe_c) ?_)
              refine tl_nil ?_
              refine tx_then ?_
              refine tr_condt (fe_t rfl) ?_
              refine tr_seq ?_
              refine tr_region ?_
              refine tl_step rfl (oj_val (y_move (fe_t rfl)) ?_)
              refine tl_step rfl (oj_callF Tryz.call40 (fe_t rfl) (fel_cons fe_c fel_nil) (fun w' hS => fails (pickT (l := [_, _, _, _, _, _]) hS [3, 0, 1, 2, 4, 5] rfl (by decide))) (fun _ _ => ?_))
              refine tl_step rfl (oj_val (y_extract (fe_t rfl) rfl) ?_)
              refine tl_step rfl (oj_val (y_extract (fe_t rfl) rfl) ?_)
              refine tl_step rfl (oj_storeW 2 Tryz.sizeOf61 (fe_t rfl) (fe_t rfl) rfl rfl rfl rfl rfl (?_))
              refine tl_step rfl (oj_storeW 1 Tryz.sizeOf65 (fe_t rfl) (fe_t rfl) rfl rfl rfl rfl rfl (?_))
              refine tl_nil ?_
              refine tx_then ?_
              refine tr_ret ?_
              refine tx_then_ret ?_
              refine tx_in_ret ?_
              refine tx_then_ret ?_
              refine tx_ret (res2 Tryz.results30 (rok_b 2 Tryz.isAgg61 Tryz.sizeOf61 rfl rfl rfl) (rok_b 1 Tryz.isAgg65 Tryz.sizeOf65 rfl rfl rfl)) (fun w' hS => ?_)
              have h1 := pickT (l := [_, _, _, _, _, _]) hS [5, 4] rfl (by decide)
              exact ⟨(s, ⟨A, 0, c, []⟩, ⟨none, 0, 0, []⟩), ⟨rfl, hc, rfl, rfl⟩, rfl, h1⟩
          · try (exfalso; omega)
            all_goals
              refine tl_want rfl rfl rfl (oj_val (y_fieldAddr (td := 3) Tryz.underlying68 rfl rfl Tryz.sizeOf3 (o' := 1) rfl (fe_t rfl)) ?_)
              refine tl_want rfl rfl rfl (oj_val (y_ldb 2 Tryz.isAgg3 (fe_t rfl) rfl rfl) ?_)
              refine tl_want rfl rfl rfl (oj_val (y_gtr (fe_t rfl) fe_c) ?_)
              refine tl_step rfl (oj_val (y_pickf (fe_t rfl) (fe_t rfl)) ?_)
              refine tl_nil ?_
              refine tx_then ?_
              refine tr_condp (fe_t rfl) (fun hq7 => ?_) (fun hq8 => ?_)
              · try (exfalso; omega)
                all_goals
                  refine tr_seq ?_
                  refine tr_region ?_
                  refine tl_step rfl (oj_val (y_move (fe_t rfl)) ?_)
                  refine tl_step rfl (oj_callF Tryz.call40 (fe_t rfl) (fel_cons fe_c fel_nil) (fun w' hS => fails (pickT (l := [_, _, _, _, _, _]) hS [3, 0, 1, 2, 4, 5] rfl (by decide))) (fun _ _ => ?_))
                  refine tl_step rfl (oj_val (y_extract (fe_t rfl) rfl) ?_)
                  refine tl_step rfl (oj_val (y_extract (fe_t rfl) rfl) ?_)
                  refine tl_step rfl (oj_storeW 2 Tryz.sizeOf61 (fe_t rfl) (fe_t rfl) rfl rfl rfl rfl rfl (?_))
                  refine tl_step rfl (oj_storeW 1 Tryz.sizeOf65 (fe_t rfl) (fe_t rfl) rfl rfl rfl rfl rfl (?_))
                  refine tl_nil ?_
                  refine tx_then ?_
                  refine tr_ret ?_
                  refine tx_then_ret ?_
                  refine tx_in_ret ?_
                  refine tx_then_ret ?_
                  refine tx_ret (res2 Tryz.results30 (rok_b 2 Tryz.isAgg61 Tryz.sizeOf61 rfl rfl rfl) (rok_b 1 Tryz.isAgg65 Tryz.sizeOf65 rfl rfl rfl)) (fun w' hS => ?_)
                  have h1 := pickT (l := [_, _, _, _, _, _]) hS [5, 4] rfl (by decide)
                  exact ⟨(s, ⟨A, 0, c, []⟩, ⟨none, 0, 0, []⟩), ⟨rfl, hc, rfl, rfl⟩, rfl, h1⟩
              · exfalso; omega
      · exfalso; omega

set_option maxRecDepth 100000 in
set_option maxHeartbeats 4000000 in
theorem do_2t {w0 w : World} {T : List Res} {A : Option Addr} {c m : Nat} {s : Pc} (hS : St w0 w (rdr A (cI s.zs) :: T)) (hc : s.zs.length ≤ c) (hg : Gd m s) (hm : m ≤ 1048576) {k v : Int} (v0 : 0 ≤ v) (v1 : v ≤ 1099511627776) :
    Calls Tryz.prog 30 #[.agg #[.slice A s.zs.length c, (.int .i64 100), (.int .i64 60000), (.int .i64 s.drops), (.int .i64 s.b.num), (.int .i64 s.b.den), (.int .i64 s.b.burst), (.int .i64 s.b.level), (.int .i64 s.b.at0), (.int .i64 s.sent)], .agg #[(.int .i64 2), (.int .i64 v)]] w fun e w' => ∃ q : Pc × Vs × Vs, (q.1 = (⟨s.zs, s.drops, tick s.b (min (s.b.at0 + v) 1099511627776), s.sent⟩ : Pc) ∧ q.1.zs.length ≤ q.2.1.c ∧ q.2.2.n = (([] : List Int)).length ∧ q.2.2.xs = cI (([] : List Int))) ∧ e = .returned (.tuple #[.agg #[.slice q.2.1.A q.1.zs.length q.2.1.c, (.int .i64 100), (.int .i64 60000), (.int .i64 q.1.drops), (.int .i64 q.1.b.num), (.int .i64 q.1.b.den), (.int .i64 q.1.b.burst), (.int .i64 q.1.b.level), (.int .i64 q.1.b.at0), (.int .i64 q.1.sent)], .agg #[(.int .i64 0), .slice q.2.2.A q.2.2.n q.2.2.c]]) ∧ St w0 w' (rdr q.2.1.A (cI q.1.zs) :: vec 3 1 (.slice q.2.2.A q.2.2.n q.2.2.c) q.2.2.n q.2.2.xs :: T) := by
  have hgp := hg.parts
  have hgd := hg.d0
  have hge := hg.d1
  have hgs := hg.s0
  have hgt := hg.s1
  have hgb := bparts hg.b
  refine calls_tr Tryz.func30 Tryz.ntmps30 rfl rfl hS ?_
  refine tr_seq ?_
  refine tr_add (r := vec 3 1 (.slice none 0 0) 0 []) vec_nil rfl ?_
  refine tr_region ?_
  refine tl_step rfl (oj_box (fe_t rfl) (fun pb => ?_))
  refine tl_step rfl (oj_box (fe_t rfl) (fun ob => ?_))
  refine tl_step rfl (oj_alloc Tryz.zeroValue61 (fun ra => ?_))
  refine tl_step rfl (oj_alloc Tryz.zeroValue65 (fun rb => ?_))
  refine tl_nil ?_
  refine tx_then ?_
  refine tr_seq ?_
  refine tr_region ?_
  refine tl_step rfl (oj_val (y_makeFunc (fel_cons (fe_t rfl) fel_nil)) ?_)
  refine tl_step rfl (oj_val (y_assign (fe_t rfl)) ?_)
  refine tl_nil ?_
  refine tx_then ?_
  refine tr_seq ?_
  refine tr_seq ?_
  refine tr_region ?_
  refine tl_step rfl (oj_val (y_fieldAddr (td := 3) Tryz.underlying68 rfl rfl Tryz.sizeOf3 (o' := 0) rfl (fe_t rfl)) ?_)
  refine tl_step rfl (oj_val (y_ldb 2 Tryz.isAgg3 (fe_t rfl) rfl rfl) ?_)
  refine tl_nil ?_
  refine tx_then ?_
  refine tr_block ?_
  refine tr_seq ?_
  refine tr_region ?_
  refine tl_step rfl (oj_val (y_eq (fe_t rfl) fe_c) ?_)
  refine tl_step rfl (oj_val (y_assign (fe_t rfl)) ?_)
  refine tl_nil ?_
  refine tx_then ?_
  refine tr_condp (fe_t rfl) (fun hq1 => ?_) (fun hq2 => ?_)
  · exfalso; omega
  · try (exfalso; omega)
    all_goals
      refine tr_seq ?_
      refine tr_region ?_
      refine tl_step rfl (oj_val (y_eq (fe_t rfl) fe_c) ?_)
      refine tl_step rfl (oj_val (y_assign (fe_t rfl)) ?_)
      refine tl_nil ?_
      refine tx_then ?_
      refine tr_condp (fe_t rfl) (fun hq3 => ?_) (fun hq4 => ?_)
      · try (exfalso; omega)
        all_goals
          refine tr_seq ?_
          refine tr_seq ?_
          refine tr_region ?_
          refine tl_step rfl (oj_val (y_fieldAddr (td := 3) Tryz.underlying68 rfl rfl Tryz.sizeOf3 (o' := 1) rfl (fe_t rfl)) ?_)
          refine tl_step rfl (oj_val (y_ldb 2 Tryz.isAgg3 (fe_t rfl) rfl rfl) ?_)
          refine tl_step rfl (oj_val (y_lss (fe_t rfl) fe_c) ?_)
          refine tl_step rfl (oj_val (y_move (fe_t rfl)) ?_)
          refine tl_splitp (d := 53) rfl (fun hq5 => ?_) (fun hq6 => ?_)
          · exfalso; omega
          · try (exfalso; omega)
            all_goals
              refine tl_want rfl rfl rfl (oj_val (y_fieldAddr (td := 3) Tryz.underlying68 rfl rfl Tryz.sizeOf3 (o' := 1) rfl (fe_t rfl)) ?_)
              refine tl_want rfl rfl rfl (oj_val (y_ldb 2 Tryz.isAgg3 (fe_t rfl) rfl rfl) ?_)
              refine tl_want rfl rfl rfl (oj_val (y_gtr (fe_t rfl) fe_c) ?_)
              refine tl_step rfl (oj_val (y_pickf (fe_t rfl) (fe_t rfl)) ?_)
              refine tl_nil ?_
              refine tx_then ?_
              refine tr_condp (fe_t rfl) (fun hq7 => ?_) (fun hq8 => ?_)
              · exfalso; omega
              · try (exfalso; omega)
                all_goals
                  refine tr_skip ?_
                  refine tx_then ?_
                  refine tr_seq ?_
                  refine tr_region ?_
                  refine tl_step rfl (oj_val (y_fieldAddr (td := 59) Tryz.underlying61 rfl rfl Tryz.sizeOf59 (o' := 4) rfl (fe_t rfl)) ?_)
                  refine tl_step rfl (oj_val (y_ldbA 3 Tryz.isAgg59 Tryz.sizeOf59 (fe_t rfl) rfl rfl rfl) ?_)
                  refine tl_step rfl (oj_val (y_fieldAddr (td := 59) Tryz.underlying61 rfl rfl Tryz.sizeOf59 (o' := 4) rfl (fe_t rfl)) ?_)
                  refine tl_step rfl (oj_val (y_fieldAddr (td := 3) Tryz.underlying59 rfl rfl Tryz.sizeOf3 (o' := 8) rfl (fe_t rfl)) ?_)
                  refine tl_step rfl (oj_val (y_ldb 3 Tryz.isAgg3 (fe_t rfl) rfl rfl) ?_)
                  refine tl_step rfl (oj_val (y_fieldAddr (td := 3) Tryz.underlying68 rfl rfl Tryz.sizeOf3 (o' := 1) rfl (fe_t rfl)) ?_)
                  refine tl_step rfl (oj_val (y_ldb 2 Tryz.isAgg3 (fe_t rfl) rfl rfl) ?_)
                  refine tl_step rfl (oj_val (y_add (fe_t rfl) (fe_t rfl) (by omega)) ?_)
                  refine tl_step rfl (oj_val (y_min (fe_t rfl) fe_c) ?_)
                  refine tl_step rfl (oj_callv Tryz.call42 fe_f (fel_cons (fe_t rfl) (fel_cons (fe_t rfl) fel_nil)) (fun w' hS => fillE s.b (min (s.b.at0 + v) 1099511627776) w' hg.b (by omega) (by omega)) ?_)
                  refine tl_step rfl (oj_val (y_move (fe_t rfl)) ?_)
                  refine tl_step rfl (oj_val (y_extract (fe_t rfl) rfl) ?_)
                  refine tl_step rfl (oj_val (y_extract (fe_t rfl) rfl) ?_)
                  refine tl_step rfl (oj_alloc Tryz.zeroValue59 (fun b1 => ?_))
                  refine tl_step rfl (oj_storeW 0 Tryz.sizeOf59 (fe_t rfl) (fe_t rfl) rfl rfl rfl rfl rfl (?_))
                  refine tl_step rfl (oj_val (y_assign (fe_t rfl)) ?_)
                  refine tl_nil ?_
                  refine tx_then ?_
                  refine tr_seq ?_
                  refine tr_seq ?_
                  refine tr_region ?_
                  refine tl_step rfl (oj_val (y_move (fe_t rfl)) ?_)
                  refine tl_step rfl (oj_val (y_neq (fe_t rfl) fe_c) ?_)
                  refine tl_nil ?_
                  refine tx_then ?_
                  refine tr_condp (fe_t rfl) (fun hq9 => ?_) (fun hq10 => ?_)
                  · exfalso; omega
                  · try (exfalso; omega)
                    all_goals
                      refine tr_skip ?_
                      refine tx_then ?_
                      refine tr_region ?_
                      refine tl_step rfl (oj_val (y_ldbA 0 Tryz.isAgg59 Tryz.sizeOf59 (fe_t rfl) rfl rfl rfl) ?_)
                      refine tl_step rfl (oj_val (y_fieldAddr (td := 59) Tryz.underlying61 rfl rfl Tryz.sizeOf59 (o' := 4) rfl (fe_t rfl)) ?_)
                      refine tl_step rfl (oj_store 4 Tryz.sizeOf59 (fe_t rfl) (fe_t rfl) rfl rfl rfl rfl rfl rfl (?_))
                      refine tl_nil ?_
                      refine tx_in ?_
                      refine tx_then ?_
                      refine tr_seq ?_
                      refine tr_region ?_
                      refine tl_step rfl (oj_val (y_ldbA 4 Tryz.isAgg61 Tryz.sizeOf61 (fe_t rfl) rfl rfl rfl) ?_)
                      refine tl_step rfl (oj_val (y_build (is := []) (vs := []) (cs := [.int .i64 0, .slice none 0 0]) rfl fel_nil (by kernel_rfl)) ?_)
                      refine tl_step rfl (oj_storeW 2 Tryz.sizeOf61 (fe_t rfl) (fe_t rfl) rfl rfl rfl rfl rfl (?_))
                      refine tl_step rfl (oj_storeW 1 Tryz.sizeOf65 (fe_t rfl) (fe_t rfl) rfl rfl rfl rfl rfl (?_))
                      refine tl_nil ?_
                      refine tx_then ?_
                      refine tr_ret ?_
                      refine tx_ret (res2 Tryz.results30 (rok_b 2 Tryz.isAgg61 Tryz.sizeOf61 rfl rfl rfl) (rok_b 1 Tryz.isAgg65 Tryz.sizeOf65 rfl rfl rfl)) (fun w' hS => ?_)
                      have h1 := pickT (l := [_, _, _, _, _, _, _]) hS [6, 5] rfl (by decide)
                      exact ⟨((⟨s.zs, s.drops, tick s.b (min (s.b.at0 + v) 1099511627776), s.sent⟩ : Pc), ⟨A, 0, c, []⟩, ⟨none, 0, 0, []⟩), ⟨rfl, hc, rfl, rfl⟩, rfl, h1⟩
      · exfalso; omega

set_option maxRecDepth 100000 in
set_option maxHeartbeats 4000000 in
theorem do_3r {w0 w : World} {T : List Res} {A : Option Addr} {c m : Nat} {s : Pc} (hS : St w0 w (rdr A (cI s.zs) :: T)) (hc : s.zs.length ≤ c) (hg : Gd m s) (hm : m ≤ 1048576) {k v : Int} (hv : v < 0 ∨ 1073741824 < v) :
    Calls Tryz.prog 30 #[.agg #[.slice A s.zs.length c, (.int .i64 100), (.int .i64 60000), (.int .i64 s.drops), (.int .i64 s.b.num), (.int .i64 s.b.den), (.int .i64 s.b.burst), (.int .i64 s.b.level), (.int .i64 s.b.at0), (.int .i64 s.sent)], .agg #[(.int .i64 3), (.int .i64 v)]] w fun e w' => ∃ q : Pc × Vs × Vs, (q.1 = s ∧ q.1.zs.length ≤ q.2.1.c ∧ q.2.2.n = (([] : List Int)).length ∧ q.2.2.xs = cI (([] : List Int))) ∧ e = .returned (.tuple #[.agg #[.slice q.2.1.A q.1.zs.length q.2.1.c, (.int .i64 100), (.int .i64 60000), (.int .i64 q.1.drops), (.int .i64 q.1.b.num), (.int .i64 q.1.b.den), (.int .i64 q.1.b.burst), (.int .i64 q.1.b.level), (.int .i64 q.1.b.at0), (.int .i64 q.1.sent)], .agg #[(.int .i64 2), .slice q.2.2.A q.2.2.n q.2.2.c]]) ∧ St w0 w' (rdr q.2.1.A (cI q.1.zs) :: vec 3 1 (.slice q.2.2.A q.2.2.n q.2.2.c) q.2.2.n q.2.2.xs :: T) := by
  have hgp := hg.parts
  have hgd := hg.d0
  have hge := hg.d1
  have hgs := hg.s0
  have hgt := hg.s1
  have hgb := bparts hg.b
  refine calls_tr Tryz.func30 Tryz.ntmps30 rfl rfl hS ?_
  refine tr_seq ?_
  refine tr_add (r := vec 3 1 (.slice none 0 0) 0 []) vec_nil rfl ?_
  refine tr_region ?_
  refine tl_step rfl (oj_box (fe_t rfl) (fun pb => ?_))
  refine tl_step rfl (oj_box (fe_t rfl) (fun ob => ?_))
  refine tl_step rfl (oj_alloc Tryz.zeroValue61 (fun ra => ?_))
  refine tl_step rfl (oj_alloc Tryz.zeroValue65 (fun rb => ?_))
  refine tl_nil ?_
  refine tx_then ?_
  refine tr_seq ?_
  refine tr_region ?_
  refine tl_step rfl (oj_val (y_makeFunc (fel_cons (fe_t rfl) fel_nil)) ?_)
  refine tl_step rfl (oj_val (y_assign (fe_t rfl)) ?_)
  refine tl_nil ?_
  refine tx_then ?_
  refine tr_seq ?_
  refine tr_seq ?_
  refine tr_region ?_
  refine tl_step rfl (oj_val (y_fieldAddr (td := 3) Tryz.underlying68 rfl rfl Tryz.sizeOf3 (o' := 0) rfl (fe_t rfl)) ?_)
  refine tl_step rfl (oj_val (y_ldb 2 Tryz.isAgg3 (fe_t rfl) rfl rfl) ?_)
  refine tl_nil ?_
  refine tx_then ?_
  refine tr_block ?_
  refine tr_seq ?_
  refine tr_region ?_
  refine tl_step rfl (oj_val (y_eq (fe_t rfl) fe_c) ?_)
  refine tl_step rfl (oj_val (y_assign (fe_t rfl)) ?_)
  refine tl_nil ?_
  refine tx_then ?_
  refine tr_condp (fe_t rfl) (fun hq1 => ?_) (fun hq2 => ?_)
  · exfalso; omega
  · try (exfalso; omega)
    all_goals
      refine tr_seq ?_
      refine tr_region ?_
      refine tl_step rfl (oj_val (y_eq (fe_t rfl) fe_c) ?_)
      refine tl_step rfl (oj_val (y_assign (fe_t rfl)) ?_)
      refine tl_nil ?_
      refine tx_then ?_
      refine tr_condp (fe_t rfl) (fun hq3 => ?_) (fun hq4 => ?_)
      · exfalso; omega
      · try (exfalso; omega)
        all_goals
          refine tr_seq ?_
          refine tr_region ?_
          refine tl_step rfl (oj_val (y_eq (fe_t rfl) fe_c) ?_)
          refine tl_step rfl (oj_val (y_assign (fe_t rfl)) ?_)
          refine tl_nil ?_
          refine tx_then ?_
          refine tr_condp (fe_t rfl) (fun hq5 => ?_) (fun hq6 => ?_)
          · try (exfalso; omega)
            all_goals
              refine tr_seq ?_
              refine tr_seq ?_
              refine tr_region ?_
              refine tl_step rfl (oj_val (y_fieldAddr (td := 3) Tryz.underlying68 rfl rfl Tryz.sizeOf3 (o' := 1) rfl (fe_t rfl)) ?_)
              refine tl_step rfl (oj_val (y_ldb 2 Tryz.isAgg3 (fe_t rfl) rfl rfl) ?_)
              refine tl_step rfl (oj_val (y_lss (fe_t rfl) fe_c) ?_)
              refine tl_step rfl (oj_val (y_move (fe_t rfl)) ?_)
              refine tl_splitp (d := 89) rfl (fun hq7 => ?_) (fun hq8 => ?_)
              · try (exfalso; omega)
                all_goals
                  refine tl_skip rfl rfl rfl rfl ?_
                  refine tl_skip rfl rfl rfl rfl ?_
                  refine tl_skip rfl rfl rfl rfl ?_
                  refine tl_step rfl (oj_val (y_pickt (fe_t rfl) fe_c) ?_)
                  refine tl_nil ?_
                  refine tx_then ?_
                  refine tr_condt (fe_t rfl) ?_
                  refine tr_seq ?_
                  refine tr_region ?_
                  refine tl_step rfl (oj_val (y_move (fe_t rfl)) ?_)
                  refine tl_step rfl (oj_callF Tryz.call40 (fe_t rfl) (fel_cons fe_c fel_nil) (fun w' hS => fails (pickT (l := [_, _, _, _, _, _]) hS [3, 0, 1, 2, 4, 5] rfl (by decide))) (fun _ _ => ?_))
                  refine tl_step rfl (oj_val (y_extract (fe_t rfl) rfl) ?_)
                  refine tl_step rfl (oj_val (y_extract (fe_t rfl) rfl) ?_)
                  refine tl_step rfl (oj_storeW 2 Tryz.sizeOf61 (fe_t rfl) (fe_t rfl) rfl rfl rfl rfl rfl (?_))
                  refine tl_step rfl (oj_storeW 1 Tryz.sizeOf65 (fe_t rfl) (fe_t rfl) rfl rfl rfl rfl rfl (?_))
                  refine tl_nil ?_
                  refine tx_then ?_
                  refine tr_ret ?_
                  refine tx_then_ret ?_
                  refine tx_in_ret ?_
                  refine tx_then_ret ?_
                  refine tx_ret (res2 Tryz.results30 (rok_b 2 Tryz.isAgg61 Tryz.sizeOf61 rfl rfl rfl) (rok_b 1 Tryz.isAgg65 Tryz.sizeOf65 rfl rfl rfl)) (fun w' hS => ?_)
                  have h1 := pickT (l := [_, _, _, _, _, _]) hS [5, 4] rfl (by decide)
                  exact ⟨(s, ⟨A, 0, c, []⟩, ⟨none, 0, 0, []⟩), ⟨rfl, hc, rfl, rfl⟩, rfl, h1⟩
              · try (exfalso; omega)
                all_goals
                  refine tl_want rfl rfl rfl (oj_val (y_fieldAddr (td := 3) Tryz.underlying68 rfl rfl Tryz.sizeOf3 (o' := 1) rfl (fe_t rfl)) ?_)
                  refine tl_want rfl rfl rfl (oj_val (y_ldb 2 Tryz.isAgg3 (fe_t rfl) rfl rfl) ?_)
                  refine tl_want rfl rfl rfl (oj_val (y_gtr (fe_t rfl) fe_c) ?_)
                  refine tl_step rfl (oj_val (y_pickf (fe_t rfl) (fe_t rfl)) ?_)
                  refine tl_nil ?_
                  refine tx_then ?_
                  refine tr_condp (fe_t rfl) (fun hq9 => ?_) (fun hq10 => ?_)
                  · try (exfalso; omega)
                    all_goals
                      refine tr_seq ?_
                      refine tr_region ?_
                      refine tl_step rfl (oj_val (y_move (fe_t rfl)) ?_)
                      refine tl_step rfl (oj_callF Tryz.call40 (fe_t rfl) (fel_cons fe_c fel_nil) (fun w' hS => fails (pickT (l := [_, _, _, _, _, _]) hS [3, 0, 1, 2, 4, 5] rfl (by decide))) (fun _ _ => ?_))
                      refine tl_step rfl (oj_val (y_extract (fe_t rfl) rfl) ?_)
                      refine tl_step rfl (oj_val (y_extract (fe_t rfl) rfl) ?_)
                      refine tl_step rfl (oj_storeW 2 Tryz.sizeOf61 (fe_t rfl) (fe_t rfl) rfl rfl rfl rfl rfl (?_))
                      refine tl_step rfl (oj_storeW 1 Tryz.sizeOf65 (fe_t rfl) (fe_t rfl) rfl rfl rfl rfl rfl (?_))
                      refine tl_nil ?_
                      refine tx_then ?_
                      refine tr_ret ?_
                      refine tx_then_ret ?_
                      refine tx_in_ret ?_
                      refine tx_then_ret ?_
                      refine tx_ret (res2 Tryz.results30 (rok_b 2 Tryz.isAgg61 Tryz.sizeOf61 rfl rfl rfl) (rok_b 1 Tryz.isAgg65 Tryz.sizeOf65 rfl rfl rfl)) (fun w' hS => ?_)
                      have h1 := pickT (l := [_, _, _, _, _, _]) hS [5, 4] rfl (by decide)
                      exact ⟨(s, ⟨A, 0, c, []⟩, ⟨none, 0, 0, []⟩), ⟨rfl, hc, rfl, rfl⟩, rfl, h1⟩
                  · exfalso; omega
          · exfalso; omega

set_option maxRecDepth 100000 in
set_option maxHeartbeats 4000000 in
theorem do_3p {w0 w : World} {T : List Res} {A : Option Addr} {c m : Nat} {s : Pc} (hS : St w0 w (rdr A (cI s.zs) :: T)) (hc : s.zs.length ≤ c) (hg : Gd m s) (hm : m ≤ 1048576) {k v : Int} (v0 : 0 ≤ v) (v1 : v ≤ 1073741824) :
    Calls Tryz.prog 30 #[.agg #[.slice A s.zs.length c, (.int .i64 100), (.int .i64 60000), (.int .i64 s.drops), (.int .i64 s.b.num), (.int .i64 s.b.den), (.int .i64 s.b.burst), (.int .i64 s.b.level), (.int .i64 s.b.at0), (.int .i64 s.sent)], .agg #[(.int .i64 3), (.int .i64 v)]] w fun e w' => ∃ q : Pc × Vs × Vs, (q.1 = pop s (cnt s.b.den s.zs v s.b.level) ∧ q.1.zs.length ≤ q.2.1.c ∧ q.2.2.n = (s.zs.take (cnt s.b.den s.zs v s.b.level)).length ∧ q.2.2.xs = cI (s.zs.take (cnt s.b.den s.zs v s.b.level))) ∧ e = .returned (.tuple #[.agg #[.slice q.2.1.A q.1.zs.length q.2.1.c, (.int .i64 100), (.int .i64 60000), (.int .i64 q.1.drops), (.int .i64 q.1.b.num), (.int .i64 q.1.b.den), (.int .i64 q.1.b.burst), (.int .i64 q.1.b.level), (.int .i64 q.1.b.at0), (.int .i64 q.1.sent)], .agg #[(.int .i64 0), .slice q.2.2.A q.2.2.n q.2.2.c]]) ∧ St w0 w' (rdr q.2.1.A (cI q.1.zs) :: vec 3 1 (.slice q.2.2.A q.2.2.n q.2.2.c) q.2.2.n q.2.2.xs :: T) := by
  have hgp := hg.parts
  have hgd := hg.d0
  have hge := hg.d1
  have hgs := hg.s0
  have hgt := hg.s1
  have hgb := bparts hg.b
  refine calls_tr Tryz.func30 Tryz.ntmps30 rfl rfl hS ?_
  refine tr_seq ?_
  refine tr_region ?_
  refine tl_step rfl (oj_box (fe_t rfl) (fun pb => ?_))
  refine tl_step rfl (oj_box (fe_t rfl) (fun ob => ?_))
  refine tl_step rfl (oj_alloc Tryz.zeroValue61 (fun ra => ?_))
  refine tl_step rfl (oj_alloc Tryz.zeroValue65 (fun rb => ?_))
  refine tl_nil ?_
  refine tx_then ?_
  refine tr_seq ?_
  refine tr_region ?_
  refine tl_step rfl (oj_val (y_makeFunc (fel_cons (fe_t rfl) fel_nil)) ?_)
  refine tl_step rfl (oj_val (y_assign (fe_t rfl)) ?_)
  refine tl_nil ?_
  refine tx_then ?_
  refine tr_seq ?_
  refine tr_seq ?_
  refine tr_region ?_
  refine tl_step rfl (oj_val (y_fieldAddr (td := 3) Tryz.underlying68 rfl rfl Tryz.sizeOf3 (o' := 0) rfl (fe_t rfl)) ?_)
  refine tl_step rfl (oj_val (y_ldb 2 Tryz.isAgg3 (fe_t rfl) rfl rfl) ?_)
  refine tl_nil ?_
  refine tx_then ?_
  refine tr_block ?_
  refine tr_seq ?_
  refine tr_region ?_
  refine tl_step rfl (oj_val (y_eq (fe_t rfl) fe_c) ?_)
  refine tl_step rfl (oj_val (y_assign (fe_t rfl)) ?_)
  refine tl_nil ?_
  refine tx_then ?_
  refine tr_condp (fe_t rfl) (fun hq1 => ?_) (fun hq2 => ?_)
  · exfalso; omega
  · try (exfalso; omega)
    all_goals
      refine tr_seq ?_
      refine tr_region ?_
      refine tl_step rfl (oj_val (y_eq (fe_t rfl) fe_c) ?_)
      refine tl_step rfl (oj_val (y_assign (fe_t rfl)) ?_)
      refine tl_nil ?_
      refine tx_then ?_
      refine tr_condp (fe_t rfl) (fun hq3 => ?_) (fun hq4 => ?_)
      · exfalso; omega
      · try (exfalso; omega)
        all_goals
          refine tr_seq ?_
          refine tr_region ?_
          refine tl_step rfl (oj_val (y_eq (fe_t rfl) fe_c) ?_)
          refine tl_step rfl (oj_val (y_assign (fe_t rfl)) ?_)
          refine tl_nil ?_
          refine tx_then ?_
          refine tr_condp (fe_t rfl) (fun hq5 => ?_) (fun hq6 => ?_)
          · try (exfalso; omega)
            all_goals
              refine tr_seq ?_
              refine tr_seq ?_
              refine tr_region ?_
              refine tl_step rfl (oj_val (y_fieldAddr (td := 3) Tryz.underlying68 rfl rfl Tryz.sizeOf3 (o' := 1) rfl (fe_t rfl)) ?_)
              refine tl_step rfl (oj_val (y_ldb 2 Tryz.isAgg3 (fe_t rfl) rfl rfl) ?_)
              refine tl_step rfl (oj_val (y_lss (fe_t rfl) fe_c) ?_)
              refine tl_step rfl (oj_val (y_move (fe_t rfl)) ?_)
              refine tl_splitp (d := 89) rfl (fun hq7 => ?_) (fun hq8 => ?_)
              · exfalso; omega
              · try (exfalso; omega)
                all_goals
                  refine tl_want rfl rfl rfl (oj_val (y_fieldAddr (td := 3) Tryz.underlying68 rfl rfl Tryz.sizeOf3 (o' := 1) rfl (fe_t rfl)) ?_)
                  refine tl_want rfl rfl rfl (oj_val (y_ldb 2 Tryz.isAgg3 (fe_t rfl) rfl rfl) ?_)
                  refine tl_want rfl rfl rfl (oj_val (y_gtr (fe_t rfl) fe_c) ?_)
                  refine tl_step rfl (oj_val (y_pickf (fe_t rfl) (fe_t rfl)) ?_)
                  refine tl_nil ?_
                  refine tx_then ?_
                  refine tr_condp (fe_t rfl) (fun hq9 => ?_) (fun hq10 => ?_)
                  · exfalso; omega
                  · try (exfalso; omega)
                    all_goals
                      refine tr_skip ?_
                      refine tx_then ?_
                      refine tr_seq ?_
                      refine tr_region ?_
                      refine tl_step rfl (oj_val (y_ldbA 3 Tryz.isAgg61 Tryz.sizeOf61 (fe_t rfl) rfl rfl rfl) ?_)
                      refine tl_step rfl (oj_val (y_fieldAddr (td := 3) Tryz.underlying68 rfl rfl Tryz.sizeOf3 (o' := 1) rfl (fe_t rfl)) ?_)
                      refine tl_step rfl (oj_val (y_ldb 2 Tryz.isAgg3 (fe_t rfl) rfl rfl) ?_)
                      refine tl_step rfl (oj_call2 Tryz.call43 fe_f (fel_cons (fe_t rfl) (fel_cons (fe_t rfl) fel_nil)) (fun w' hS => pollE (pickT (l := [_, _, _, _, _]) hS [4, 0, 1, 2, 3] rfl (by decide)) hc hg hm v0 v1) (fun y hy => ?_))
                      refine tl_step rfl (oj_val (y_move (fe_t rfl)) ?_)
                      refine tl_step rfl (oj_val (y_extract (fe_t rfl) rfl) ?_)
                      refine tl_step rfl (oj_val (y_extract (fe_t rfl) rfl) ?_)
                      refine tl_step rfl (oj_alloc Tryz.zeroValue61 (fun b1 => ?_))
                      refine tl_step rfl (oj_storeW 0 Tryz.sizeOf61 (fe_t rfl) (fe_t rfl) rfl rfl rfl rfl rfl (?_))
                      refine tl_step rfl (oj_val (y_assign (fe_t rfl)) ?_)
                      refine tl_nil ?_
                      refine tx_then ?_
                      refine tr_seq ?_
                      refine tr_region ?_
                      refine tl_step rfl (oj_val (y_ldbA 0 Tryz.isAgg61 Tryz.sizeOf61 (fe_t rfl) rfl rfl rfl) ?_)
                      refine tl_step rfl (oj_val (y_move (fe_t rfl)) ?_)
                      refine tl_step rfl (oj_val ((fun {u0} hx hb => y_build (is := [1]) (vs := [u0]) (cs := [.int .i64 0, u0]) rfl hx hb) (fel_cons (fe_t rfl) fel_nil) (by kernel_rfl)) ?_)
                      refine tl_step rfl (oj_storeW 4 Tryz.sizeOf61 (fe_t rfl) (fe_t rfl) rfl rfl rfl rfl rfl (?_))
                      refine tl_step rfl (oj_storeW 3 Tryz.sizeOf65 (fe_t rfl) (fe_t rfl) rfl rfl rfl rfl rfl (?_))
                      refine tl_nil ?_
                      refine tx_then ?_
                      refine tr_ret ?_
                      refine tx_in_ret ?_
                      refine tx_then_ret ?_
                      refine tx_ret (res2 Tryz.results30 (rok_b 4 Tryz.isAgg61 Tryz.sizeOf61 rfl rfl rfl) (rok_b 3 Tryz.isAgg65 Tryz.sizeOf65 rfl rfl rfl)) (fun w' hS => ?_)
                      have h1 := pickT (l := [_, _, _, _, _, _, _]) hS [1, 2] rfl (by decide)
                      exact ⟨y, hy, rfl, h1⟩
          · exfalso; omega

theorem doE {w0 w : World} {T : List Res} {A : Option Addr} {c m : Nat} {s : Pc} (hS : St w0 w (rdr A (cI s.zs) :: T)) (hc : s.zs.length ≤ c) (hg : Gd m s) (hm : m ≤ 1048576) (k v : Int) :
    Calls Tryz.prog 30 #[.agg #[.slice A s.zs.length c, (.int .i64 100), (.int .i64 60000), (.int .i64 s.drops), (.int .i64 s.b.num), (.int .i64 s.b.den), (.int .i64 s.b.burst), (.int .i64 s.b.level), (.int .i64 s.b.at0), (.int .i64 s.sent)], .agg #[(.int .i64 k), (.int .i64 v)]] w fun e w' => ∃ q : Pc × Vs × Vs, (q.1 = (does s k v).1 ∧ q.1.zs.length ≤ q.2.1.c ∧ q.2.2.n = ((does s k v).2.2).length ∧ q.2.2.xs = cI ((does s k v).2.2)) ∧ e = .returned (.tuple #[.agg #[.slice q.2.1.A q.1.zs.length q.2.1.c, (.int .i64 100), (.int .i64 60000), (.int .i64 q.1.drops), (.int .i64 q.1.b.num), (.int .i64 q.1.b.den), (.int .i64 q.1.b.burst), (.int .i64 q.1.b.level), (.int .i64 q.1.b.at0), (.int .i64 q.1.sent)], .agg #[(.int .i64 ((does s k v).2.1)), .slice q.2.2.A q.2.2.n q.2.2.c]]) ∧ St w0 w' (rdr q.2.1.A (cI q.1.zs) :: vec 3 1 (.slice q.2.2.A q.2.2.n q.2.2.c) q.2.2.n q.2.2.xs :: T) := by
  by_cases k1 : k = 1
  · subst k1
    by_cases hv : v < 1 ∨ 1500 < v
    · rw [does_1r hv]; exact do_1r hS hc hg hm (k := 1) hv
    · by_cases hl : (s.zs.length : Int) < 100 ∧ tot s.zs + v ≤ 60000
      · rw [does_1i (by omega) (by omega) hl]; exact do_1i hS hc hg hm (k := 1) (by omega) (by omega) hl
      · rw [does_1d (by omega) (by omega) hl]; exact do_1d hS hc hg hm (k := 1) (by omega) (by omega) hl
  by_cases k2 : k = 2
  · subst k2
    by_cases hv : v < 0 ∨ 1099511627776 < v
    · rw [does_2r hv]; exact do_2r hS hc hg hm (k := 1) hv
    · rw [does_2t (by omega) (by omega) rfl]; exact do_2t hS hc hg hm (k := 1) (by omega) (by omega)
  by_cases k3 : k = 3
  · subst k3
    by_cases hv : v < 0 ∨ 1073741824 < v
    · rw [does_3r hv]; exact do_3r hS hc hg hm (k := 1) hv
    · rw [does_3p (by omega) (by omega) rfl]; exact do_3p hS hc hg hm (k := 1) (by omega) (by omega)
  · rw [does_k (by omega)]; exact do_K hS hc hg hm ⟨k1, k2, k3⟩

end Go.Proofs.YtoibebmhfcjpfaaGreatDoor.Pace

namespace Go.Proofs.YtoibebmhfcjpfaaGreatDoor.E
open Go.RowKit
section
variable {P : Program} {N : Nat} {w0 : World} {Q : Exit → Act → World → Prop} {F : Frm} {L : List Res} {c : Code}
theorem subs_pad {e s : Nat} {vs : List Vs} {w : World} (h : (subs e s vs).holds w) : (subs e s (vs ++ [Vs.nil])).holds w := by
  have key : ∀ p v, (vs ++ [Vs.nil])[p]? = some v → vs[p]? = some v ∨ v = Vs.nil := fun p v hp => by
    rw [List.getElem?_append] at hp
    split at hp
    · exact .inl hp
    · cases hq : p - vs.length with
      | zero => rw [hq] at hp; exact .inr (Option.some.inj hp).symm
      | succ q => rw [hq] at hp; cases hp
  refine ⟨fun q v hq => ?_, fun p q v u b hp hq hne hb => ?_⟩
  · rcases key q v hq with h1 | rfl
    · exact h.1 q v h1
    · exact OwnV.nil w e s
  · rcases key p v hp with h1 | rfl
    · rcases key q u hq with h2 | rfl
      · exact h.2 p q v u b h1 h2 hne hb
      · simp [sv, Vs.nil, Value.ownBlock]
    · simp [sv, Vs.nil, Value.ownBlock] at hb
theorem subs_pad_foot {e s : Nat} {vs : List Vs} : (subs e s (vs ++ [Vs.nil])).foot = (subs e s vs).foot := by
  simp [subs, List.flatMap_append, sv, Vs.nil, Value.ownBlock]
theorem St.subPad {w : World} {i e s : Nat} {vs : List Vs} (h : St w0 w L) (hi : lget L i = some (subs e s vs)) : St w0 w (lset L i (subs e s (vs ++ [Vs.nil]))) :=
  h.turn hi rfl rfl rfl (Nat.le_refl _) (fun _ _ _ => rfl) (subs_pad (h.holds i _ hi)) (fun b hb => by
    rw [subs_pad_foot] at hb
    exact ⟨(h.lt i _ hi b hb).2, .inl hb⟩)
/-- One slice more, at the end. -/
theorem tr_subPush {e s n cp : Nat} {vs vs' : List Vs} {A : Option Addr} {xs : List Value} (j i : Nat) (hj : lget L j = some (vec e s (.slice A n cp) n xs)) (hi : lget L i = some (subs e s vs)) (hne : Nat.beq i j = false) (hv : vs ++ [⟨A, n, cp, xs⟩] = vs')
    (h : TR P N w0 Q c F (lset (lset L j emp) i (subs e s vs'))) : TR P N w0 Q c F L := fun a w hF hS => by
  have h1 := hS.front2 hj
  have hi2 : lget (lset L j emp) i = some (subs e s vs) := by rw [lget_lset, if_neg (Nat.ne_of_beq_eq_false hne)]; exact hi
  have h2 := h1.subPad (i := i + 1) hi2
  have hi3 : lget (lset (lset L j emp) i (subs e s (vs ++ [Vs.nil]))) i = some (subs e s (vs ++ [Vs.nil])) := by rw [lget_lset, if_pos rfl, hi2]; rfl
  have hq : (vs ++ [Vs.nil])[vs.length]? = some Vs.nil := by simp
  have h3 := St.subIn (L := lset (lset L j emp) i (subs e s (vs ++ [Vs.nil]))) h2 hi3 hq (vs' := vs') (by rw [← hv, List.set_append_right _ _ (Nat.le_refl _), Nat.sub_self]; rfl)
  refine h a w hF ?_
  have e1 : ∀ (M : List Res) (r r' : Res), lset (lset M i r) i r' = lset M i r' := fun M r r' => by
    clear h h1 h2 h3 hi2 hi3 hj hi hS hne
    induction M generalizing i with
    | nil => rfl
    | cons x M ih => cases i with
      | zero => rfl
      | succ i => simp only [lset]; rw [ih]
  rwa [e1] at h3
theorem subs_none {e s : Nat} {α : Type} {f : α → Vs} : ∀ w, (subs e s (([] : List α).map f)).holds w := fun w => subs_nils (n := 0) w
end
end Go.Proofs.YtoibebmhfcjpfaaGreatDoor.E
namespace Go.Proofs.YtoibebmhfcjpfaaGreatDoor.Pace
open Go.RowKit Go.Proofs.YtoibebmhfcjpfaaGreatDoor.E Go.Proofs.YtoibebmhfcjpfaaGreatDoor.Ring Go.Proofs.YtoibebmhfcjpfaaGreatDoor.Bucket

/-- An answer, with its slice. -/
structure PA where
  er : Int
  A : Option Addr
  c : Nat
  xs : List Int
def PA.a (p : PA) : Ans := (p.er, p.xs)
def PA.v (p : PA) : Vs := ⟨p.A, p.xs.length, p.c, cI p.xs⟩
def PA.nil : PA := ⟨0, none, 0, []⟩
def cP (p : PA) : List Value := [(.int .i64 p.er), .slice p.A p.xs.length p.c]
theorem hcP : ∀ p, (cP p).length = 2 := fun _ => rfl
theorem rdl_sub {w0 : World} {L : List Res} {l : List PA} {k : Nat} (i : Nat) (hi : lget L i = some (subs 3 1 (l.map PA.v))) (hk : k < l.length) : RdL w0 L (l.getD k PA.nil).A (cI (l.getD k PA.nil).xs) := subG (f := PA.v) (d := PA.nil) i hi hk
theorem run_next {b : Bkt} {l : List (Int × Int)} {k : Nat} {s : Pc} {ans : List PA} (hr : run b (l.take k) = (s, ans.map PA.a)) (hk : k < l.length) (x : PA) (hx : x.a = (does s l[k].1 l[k].2).2) : run b (l.take (k + 1)) = ((does s l[k].1 l[k].2).1, (ans ++ [x]).map PA.a) := by
  rw [run_take hk, hr, List.map_append, List.map_cons, List.map_nil, hx]
theorem run_end {b : Bkt} {l : List (Int × Int)} {k : Nat} {s : Pc} {ans : List PA} (hr : run b (l.take k) = (s, ans.map PA.a)) (hk : l.length ≤ k) : run b l = (s, ans.map PA.a) := by rw [List.take_of_length_le hk] at hr; exact hr
theorem run_gd {b : Bkt} (hb : b.right = true) {l : List (Int × Int)} {k : Nat} {s : Pc} {ans : List PA} (hr : run b (l.take k) = (s, ans.map PA.a)) (hk : k ≤ l.length) : Gd k s ∧ ans.length = k := by
  have := run_good hb (l := l) k hk
  rw [hr] at this
  exact ⟨this.1, by simpa using this.2⟩
theorem does_short {m : Nat} {s : Pc} (h : Gd m s) (k v : Int) : (does s k v).2.2.length ≤ 100 := by
  have := h.parts
  unfold does
  repeat' split
  all_goals first | (simp; done) | (simp only [List.length_take]; omega)
theorem run_short {b : Bkt} (hb : b.right = true) {l : List (Int × Int)} : ∀ k, k ≤ l.length → ∀ a ∈ (run b (l.take k)).2, a.2.length ≤ 100
  | 0, _, a, ha => by cases ha
  | k + 1, h, a, ha => by
    rw [run_take h] at ha
    rcases List.mem_append.1 ha with h1 | h1
    · exact run_short hb k (by omega) a h1
    · rw [List.mem_singleton.1 h1]
      exact does_short (run_good hb k (by omega)).1 _ _
theorem ans_short {b : Bkt} (hb : b.right = true) {l : List (Int × Int)} {s : Pc} {ans : List PA} (hr : run b l = (s, ans.map PA.a)) (k : Nat) (hk : k < ans.length) : (ans.getD k PA.nil).xs.length ≤ 100 := by
  have h1 := run_short hb (l := l) l.length (Nat.le_refl _)
  rw [List.take_length, hr] at h1
  exact h1 _ (List.mem_map.2 ⟨ans.getD k PA.nil, by rw [getD_lt hk]; exact List.getElem_mem hk, rfl⟩)
theorem start_right {num den burst : Int} (h : rng num den burst = true) : (⟨num, den, burst, burst * den, 0⟩ : Bkt).right = true := by
  have h1 := rng_iff.1 h
  have h2 := prod_bd h1.2.2.1 h1.2.2.2 h1.2.1.1 h1.2.1.2
  show bright num den burst (burst * den) 0 = true
  simp only [bright, Bool.and_eq_true, decide_eq_true_eq]
  exact ⟨⟨⟨⟨h, h2.1⟩, Int.le_refl _⟩, by decide⟩, by decide⟩
end Go.Proofs.YtoibebmhfcjpfaaGreatDoor.Pace
