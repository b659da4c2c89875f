/- Walks: pace.Play. -/
import Derived.Test.YtoibebmhfcjpfaaGreatDoorZfPaD
import Derived.Test.YtoibebmhfcjpfaaGreatDoorZfRingH
namespace Go.Proofs.YtoibebmhfcjpfaaGreatDoor.Pace
open Go.RowKit Go.Proofs.YtoibebmhfcjpfaaGreatDoor.E Go.Proofs.YtoibebmhfcjpfaaGreatDoor.Ring Go.Proofs.YtoibebmhfcjpfaaGreatDoor.Bucket

set_option maxRecDepth 100000 in
theorem clone_any (A : Option Addr) (n c : Nat) (zs : List Int) (w : World) (hr : Rd w A (zs.map (.int .i64))) (hn : zs.length = n) (hm : n ≤ 1000000000) :
    Calls Tryz.prog 31 #[.slice A n c] w fun e w' => ∃ q : Option Addr × Nat, zs.length ≤ q.2 ∧ e = .returned (.slice q.1 zs.length q.2) ∧ E.St w w' [vec 3 1 (.slice q.1 zs.length q.2) zs.length (cI zs)] := by
  refine calls_tr Tryz.func31 Tryz.ntmps31 rfl rfl (St.refl _) ?_
  refine tr_seq ?_
  refine tr_region ?_
  refine tl_step rfl (oj_val (y_assign fe_c) ?_)
  refine tl_nil ?_
  refine tx_then ?_
  refine tr_seq ?_
  refine tr_seq ?_
  refine tr_region ?_
  refine tl_step rfl (oj_val (y_move (fe_t rfl)) ?_)
  refine tl_step rfl (oj_val (y_eqnil Tryz.underlying22 (fe_t rfl) fe_c) ?_)
  refine tl_nil ?_
  refine tx_then ?_
  refine tr_cond (fe_t rfl) (fun hq1 => ?_) (fun hq2 => ?_)
  · obtain rfl : A = none := by cases A <;> simp_all
    have hz : zs = [] := by
      rcases hr with h | ⟨_, _, h, _⟩
      · simpa using h
      · cases h
    subst hz
    refine tr_seq ?_
    refine tr_region ?_
    refine tl_step rfl (oj_val (y_assign fe_c) ?_)
    refine tl_nil ?_
    refine tx_then ?_
    refine tr_ret ?_
    refine tx_then_ret ?_
    refine tx_ret (res1 Tryz.results31 (rok_t rfl)) (fun w' hS => ?_)
    refine ⟨(none, 0), by simp, rfl, ?_⟩
    exact (hS.pick [] [] rfl (by decide)).add (Below.refl _ _) (vec_nil _) (by simp [vec, Value.ownBlock])
  · refine tr_skip ?_
    refine tx_then ?_
    refine tr_seq ?_
    refine tr_region ?_
    refine tl_step rfl (oj_slice0 Tryz.underlying22 Tryz.sizeOf3 (fun g1 => ?_))
    refine tl_step rfl (oj_val (y_move (fe_t rfl)) ?_)
    refine tl_step rfl (oj_appg (i := 0) (s := 1) (z := (.int .i64 0)) (bytes := 8) Tryz.underlying22 (by kernel_rfl) (fe_t rfl) (fe_t rfl) rfl (rdl_out hr) (by first | (simp; done) | (simp; omega)) (by decide) (by first | exact oneI | exact oneF (fun _ => rfl) | exact fun u hu => List.all_eq_true.1 (show List.all _ (fun x => x.oneCell') = true from rfl) u hu | (intro u hu; revert u hu; simp [Value.oneCell'])) ⟨by omega, by decide⟩ (fun Aa1 ca1 hca1 => ?_))
    refine tl_step rfl (oj_val (y_assign (fe_t rfl)) ?_)
    refine tl_nil ?_
    refine tx_then ?_
    refine tr_ret ?_
    refine tx_ret (res1 Tryz.results31 (rok_t rfl)) (fun w' hS => ?_)
    have e1 := OwnV.rd (hS.holds 0 _ rfl)
    simp only [Nat.zero_add, List.nil_append] at hS e1
    subst hn
    exact ⟨(_, _), e1.2.1, by rw [Nat.zero_add], hS.pick [0] _ rfl (by decide)⟩

set_option maxRecDepth 100000 in
set_option maxHeartbeats 4000000 in
theorem play_ok (num den burst : Int) (A : Option Addr) (n c : Nat) (l : List (Int × Int)) (w : World) (hr : Rd w A (l.flatMap c2)) (hn : l.length = n) (hm : n ≤ 1048576) (hg : rng num den burst = true) (hb : 1500 ≤ burst) :
    Calls Tryz.prog 16 #[(.int .i64 num), (.int .i64 den), (.int .i64 burst), .slice A n c] w fun e w' => ∃ q : Pc × List PA × Vs × Vs, (run (⟨num, den, burst, burst * den, 0⟩ : Bkt) l = (q.1, q.2.1.map PA.a) ∧ q.2.2.1.n = q.1.zs.length ∧ q.2.2.1.xs = cI q.1.zs ∧ q.2.2.2.n = q.2.1.length ∧ q.2.2.2.xs = q.2.1.flatMap cP ∧ q.2.1.length = n) ∧ e = .returned (.tuple #[.slice q.2.2.2.A q.2.2.2.n q.2.2.2.c, .agg #[.slice q.2.2.1.A q.2.2.1.n q.2.2.1.c, (.int .i64 100), (.int .i64 60000), (.int .i64 q.1.drops), (.int .i64 q.1.b.num), (.int .i64 q.1.b.den), (.int .i64 q.1.b.burst), (.int .i64 q.1.b.level), (.int .i64 q.1.b.at0), (.int .i64 q.1.sent)], (.int .i64 0)]) ∧ St w w' [vec 3 1 (.slice q.2.2.1.A q.2.2.1.n q.2.2.1.c) q.2.2.1.n q.2.2.1.xs, vec 65 2 (.slice q.2.2.2.A q.2.2.2.n q.2.2.2.c) q.2.2.2.n q.2.2.2.xs, subs 3 1 (q.2.1.map PA.v)] := by
  have hB := start_right hg
  refine calls_tr Tryz.func16 Tryz.ntmps16 rfl rfl (St.refl _) ?_
  refine tr_seq ?_
  refine tr_region ?_
  refine tl_step rfl (oj_val (y_assign fe_c) ?_)
  refine tl_step rfl (oj_alloc Tryz.zeroValue61 (fun rb => ?_))
  refine tl_step rfl (oj_val (y_assign fe_c) ?_)
  refine tl_nil ?_
  refine tx_then ?_
  refine tr_seq ?_
  refine tr_seq ?_
  refine tr_region ?_
  refine tl_step rfl (oj_val (y_move (fe_t rfl)) ?_)
  refine tl_step rfl (oj_val (y_move (fe_t rfl)) ?_)
  refine tl_step rfl (oj_val (y_move (fe_t rfl)) ?_)
  refine tl_step rfl (oj_callv Tryz.call28 fe_f (fel_cons (fe_t rfl) (fel_cons (fe_t rfl) (fel_cons (fe_t rfl) fel_nil))) (fun w' hS => wrong_K num den burst w' hg hb) ?_)
  refine tl_step rfl (oj_val (y_assign (fe_t rfl)) ?_)
  refine tl_nil ?_
  refine tx_then ?_
  refine tr_seq ?_
  refine tr_region ?_
  refine tl_step rfl (oj_val (y_move (fe_t rfl)) ?_)
  refine tl_step rfl (oj_val (y_neq (fe_t rfl) fe_c) ?_)
  refine tl_nil ?_
  refine tx_then ?_
  refine tr_condp (fe_t rfl) (fun hq1 => ?_) (fun hq2 => ?_)
  · try (exfalso; omega)
    all_goals
      refine tr_seq ?_
      refine tr_region ?_
      refine tl_step rfl (oj_val (y_build (is := []) (vs := []) (cs := [.slice none 0 0, .int .i64 0, .int .i64 0, .int .i64 0, .int .i64 0, .int .i64 0, .int .i64 0, .int .i64 0, .int .i64 0, .int .i64 0]) rfl fel_nil (by kernel_rfl)) ?_)
      refine tl_step rfl (oj_val (y_move (fe_t rfl)) ?_)
      refine tl_step rfl (oj_val (y_assign fe_c) ?_)
      refine tl_step rfl (oj_storeW 0 Tryz.sizeOf61 (fe_t rfl) (fe_t rfl) rfl rfl rfl rfl rfl (?_))
      refine tl_step rfl (oj_val (y_assign (fe_t rfl)) ?_)
      refine tl_nil ?_
      refine tx_then ?_
      refine tr_ret ?_
      refine tx_then_ret ?_
      refine tx_ret (res3 Tryz.results16 (rok_t rfl) (rok_b 0 Tryz.isAgg61 Tryz.sizeOf61 rfl rfl rfl) (rok_t rfl)) (fun w' hS => ?_)
      have hrn := run_end hrun (by omega)
      exact ⟨(s, ans, ⟨cq.1, s.zs.length, cq.2, cI s.zs⟩, q), ⟨hrn, rfl, rfl, by dsimp only; omega, hqx, by dsimp only; omega⟩, rfl, hS.pick [0, 0, 0] _ rfl (by decide)⟩
  · try (exfalso; omega)
    all_goals
      refine tr_skip ?_
      refine tx_then ?_
      refine tr_seq ?_
      refine tr_region ?_
      refine tl_step rfl (oj_val (y_move (fe_t rfl)) ?_)
      refine tl_step rfl (oj_val (y_move (fe_t rfl)) ?_)
      refine tl_step rfl (oj_val (y_move (fe_t rfl)) ?_)
      refine tl_step rfl (oj_callv Tryz.call29 fe_f (fel_cons (fe_t rfl) (fel_cons (fe_t rfl) (fel_cons (fe_t rfl) fel_nil))) (fun w' hS => fullE num den burst w' hg) ?_)
      refine tl_step rfl (oj_val (y_move (fe_t rfl)) ?_)
      refine tl_step rfl (oj_val (y_extract (fe_t rfl) rfl) ?_)
      refine tl_step rfl (oj_val (y_extract (fe_t rfl) rfl) ?_)
      refine tl_step rfl (oj_alloc Tryz.zeroValue59 (fun b1 => ?_))
      refine tl_step rfl (oj_storeW 0 Tryz.sizeOf59 (fe_t rfl) (fe_t rfl) rfl rfl rfl rfl rfl (?_))
      refine tl_step rfl (oj_val (y_assign (fe_t rfl)) ?_)
      refine tl_nil ?_
      refine tx_then ?_
      refine tr_seq ?_
      refine tr_region ?_
      refine tl_step rfl (oj_val ((fun {u0 u1} hx hb => y_build (is := [1, 2]) (vs := [u0, u1]) (cs := [.slice none 0 0, u0, u1, .int .i64 0]) rfl hx hb) (fel_cons (fe_c (v := .int .i64 100)) (fel_cons (fe_c (v := .int .i64 60000)) fel_nil)) (by kernel_rfl)) ?_)
      refine tl_step rfl (oj_val (y_ldbA 0 Tryz.isAgg59 Tryz.sizeOf59 (fe_t rfl) rfl rfl rfl) ?_)
      refine tl_step rfl (oj_val (y_build (is := [0, 1]) (vs := [.agg #[.slice none 0 0, (.int .i64 100), (.int .i64 60000), (.int .i64 0)], .agg #[(.int .i64 num), (.int .i64 den), (.int .i64 burst), (.int .i64 (burst * den)), (.int .i64 0)]]) (cs := [.slice none 0 0, (.int .i64 100), (.int .i64 60000), (.int .i64 0), (.int .i64 num), (.int .i64 den), (.int .i64 burst), (.int .i64 (burst * den)), (.int .i64 0), (.int .i64 0)]) rfl (fel_cons (fe_t rfl) (fel_cons (fe_t rfl) fel_nil)) (by kernel_rfl)) ?_)
      refine tl_step rfl (oj_alloc Tryz.zeroValue61 (fun pb => ?_))
      refine tl_step rfl (oj_storeW 0 Tryz.sizeOf61 (fe_t rfl) (fe_t rfl) rfl rfl rfl rfl rfl (?_))
      refine tl_nil ?_
      refine tx_then ?_
      refine tr_seq ?_
      refine tr_region ?_
      refine tl_step rfl (oj_val (y_assign fe_c) ?_)
      refine tl_nil ?_
      refine tx_then ?_
      refine tr_seq ?_
      refine tr_seq ?_
      refine tr_region ?_
      refine tl_step rfl (oj_val (y_move (fe_t rfl)) ?_)
      refine tl_step rfl (oj_val (y_len Tryz.underlying50 (fe_t rfl)) ?_)
      refine tl_step rfl (oj_val (y_move fe_c) ?_)
      refine tl_nil ?_
      refine tx_then ?_
      refine tr_block ?_
      refine tr_add (r := rdr none (cI [])) rdr_nil rfl ?_
      refine tr_add (r := subs 3 1 (([] : List PA).map PA.v)) subs_none rfl ?_
      refine tr_add (r := vec 65 2 (.slice none 0 0) 0 []) vec_nil rfl ?_
      refine tr_loop5 [15, 17, 18, 39, 40, 41, 42, 43, 44, 45, 46, 47, 48, 49, 50, 51, 52, 53] (fun (k : Nat) (s : Pc) (ans : List PA) (h : Vs) (q : Vs) => [(39, .int .i64 (k : Int)), (15, .slice q.A q.n q.c)]) 0 (fun (k : Nat) (s : Pc) (ans : List PA) (h : Vs) (q : Vs) => [(3, blk pb [.slice h.A s.zs.length h.c, (.int .i64 100), (.int .i64 60000), (.int .i64 s.drops), (.int .i64 s.b.num), (.int .i64 s.b.den), (.int .i64 s.b.burst), (.int .i64 s.b.level), (.int .i64 s.b.at0), (.int .i64 s.sent)]), (0, vec 65 2 (.slice q.A q.n q.c) q.n q.xs), (2, rdr h.A (cI s.zs)), (1, subs 3 1 (ans.map PA.v))]) (fun (k : Nat) (s : Pc) (ans : List PA) (h : Vs) (q : Vs) => k ≤ n ∧ run (⟨num, den, burst, burst * den, 0⟩ : Bkt) (l.take k) = (s, ans.map PA.a) ∧ s.zs.length ≤ h.c ∧ q.n = k ∧ q.xs = ans.flatMap cP) (fun (k : Nat) (s : Pc) (ans : List PA) (h : Vs) (q : Vs) => n - k) (0) ((⟨[], 0, (⟨num, den, burst, burst * den, 0⟩ : Bkt), 0⟩ : Pc)) ([]) ((⟨none, 0, 0, []⟩ : Vs)) (⟨none, 0, 0, []⟩ : Vs) (cov_cons (by first | rfl | exact v_int (by omega) | exact v_bool (by simp [*])) (cov_cons (by first | rfl | exact v_int (by omega) | exact v_bool (by simp [*])) (cov_nil))) (fun w h => h) ?_ ?_
      · try dsimp only
        exact ⟨by omega, rfl, by simp, rfl, rfl⟩
      intro k s ans h q hp
      obtain ⟨hk, hrun, hhc, hqn, hqx⟩ := hp
      obtain ⟨hgk, hal⟩ := run_gd hB hrun (by omega)
      have hgp := hgk.parts
      refine tr_seq ?_
      refine tr_region ?_
      refine tl_step rfl (oj_val (y_lss (fe_t rfl) (fe_t rfl)) ?_)
      refine tl_nil ?_
      refine tx_then ?_
      refine tr_seq ?_
      refine tr_condp (fe_t rfl) (fun hq3 => ?_) (fun hq4 => ?_)
      · try (exfalso; omega)
        all_goals
          refine tr_skip ?_
          refine tx_then ?_
          refine tr_seq ?_
          refine tr_block ?_
          refine tr_seq ?_
          refine tr_region ?_
          refine tl_step rfl (oj_val (y_index Tryz.underlying50 Tryz.sizeOf68 (fe_t rfl) (fe_t rfl) (rdl_out hr) (lenF (fun _ => rfl) hn) (by decide) (by omega) rfl) ?_)
          refine tl_step rfl (oj_val (y_ldA Tryz.isAgg68 Tryz.sizeOf68 (fe_t rfl) (rdl_out hr) rfl (by decide) (getF (c := c2) (l := l) (fun _ => rfl) (by omega))) ?_)
          refine tl_step rfl (oj_alloc Tryz.zeroValue68 (fun ob => ?_))
          refine tl_step rfl (oj_storeW 0 Tryz.sizeOf68 (fe_t rfl) (fe_t rfl) rfl rfl rfl rfl rfl (?_))
          refine tl_nil ?_
          refine tx_then ?_
          refine tr_seq ?_
          refine tr_region ?_
          refine tl_step rfl (oj_alloc Tryz.zeroValue65 (fun ab => ?_))
          refine tl_nil ?_
          refine tx_then ?_
          refine tr_seq ?_
          refine tr_region ?_
          refine tl_step rfl (oj_val (y_ldbA 5 Tryz.isAgg61 Tryz.sizeOf61 (fe_t rfl) rfl rfl rfl) ?_)
          refine tl_step rfl (oj_val (y_ldbA 1 Tryz.isAgg68 Tryz.sizeOf68 (fe_t rfl) rfl rfl rfl) ?_)
          refine tl_step rfl (oj_call2 Tryz.call30 fe_f (fel_cons (fe_t rfl) (fel_cons (fe_t rfl) fel_nil)) (fun w' hS => doE (hS.pick [4, 0, 1, 2, 3, 5, 6, 7] [_, _, _, _, _, _, _, _] rfl (by decide)) hhc hgk (by omega) _ _) (fun y hy => ?_))
          refine tl_step rfl (oj_val (y_move (fe_t rfl)) ?_)
          refine tl_step rfl (oj_val (y_extract (fe_t rfl) rfl) ?_)
          refine tl_step rfl (oj_val (y_extract (fe_t rfl) rfl) ?_)
          refine tl_step rfl (oj_storeW 6 Tryz.sizeOf61 (fe_t rfl) (fe_t rfl) rfl rfl rfl rfl rfl (?_))
          refine tl_step rfl (oj_storeW 2 Tryz.sizeOf65 (fe_t rfl) (fe_t rfl) rfl rfl rfl rfl rfl (?_))
          refine tl_nil ?_
          refine tx_then ?_
          obtain ⟨hy1, hy2, hy3, hy4⟩ := hy
          refine tr_region ?_
          refine tl_step rfl (oj_val (y_move (fe_t rfl)) ?_)
          refine tl_step rfl (oj_val (y_ldbA 2 Tryz.isAgg65 Tryz.sizeOf65 (fe_t rfl) rfl rfl rfl) ?_)
          refine tl_step rfl (oj_slice1 Tryz.underlying55 Tryz.sizeOf65 Tryz.zeroValue65 (fe_t rfl) (by decide) rfl (fun b2 => ?_))
          refine tl_step rfl (oj_append (i := 5) (s := 2) (z := (.agg #[.int .i64 0, .slice none 0 0])) (bytes := 32) Tryz.underlying55 (by kernel_rfl) (fe_t rfl) (fe_t rfl) rfl (rdl_blk 0 rfl) rfl (by decide) (by first | exact oneI | exact oneF (fun _ => rfl) | exact fun u hu => List.all_eq_true.1 (show List.all _ (fun x => x.oneCell') = true from rfl) u hu | (intro u hu; revert u hu; simp [Value.oneCell'])) (by decide) ⟨by omega, by decide⟩ (fun Aa1 ca1 hca1 => ?_))
          refine tl_step rfl (oj_val (y_assign (fe_t rfl)) ?_)
          refine tl_nil ?_
          refine tx_in ?_
          refine tx_then ?_
          refine tr_subPush (vs' := (ans ++ [(⟨(does s (l[k]'(by omega)).1 (l[k]'(by omega)).2).2.1, y.2.2.A, y.2.2.c, (does s (l[k]'(by omega)).1 (l[k]'(by omega)).2).2.2⟩ : PA)]).map PA.v) 2 6 rfl rfl rfl (by rw [List.map_append, List.map_cons, List.map_nil]; simp only [PA.v]; rw [← hy3, ← hy4]) ?_
          refine tr_region ?_
          refine tl_step rfl (oj_val (y_inc (fe_t rfl) fe_c (by omega)) ?_)
          refine tl_step rfl (oj_val (y_move (fe_t rfl)) ?_)
          refine tl_nil ?_
          apply tx_back5 (k + 1) (y.1) (ans ++ [(⟨(does s (l[k]'(by omega)).1 (l[k]'(by omega)).2).2.1, y.2.2.A, y.2.2.c, (does s (l[k]'(by omega)).1 (l[k]'(by omega)).2).2.2⟩ : PA)]) (y.2.1) ((⟨_, _, _, _⟩ : Vs))
          · exact (cov_cons (by first | rfl | exact v_int (by omega) | exact v_bool (by simp [*])) (cov_cons (by first | rfl | exact v_int (by omega) | exact v_bool (by simp [*])) (cov_nil)))
          · repeat (first | exact over_nil | refine over_put rfl ?_ | refine over_drop rfl ?_)
          · exact fun w h => h.pick [5, 6, 1, 7, 8, 9] _ rfl (by decide)
          · refine ⟨⟨by omega, by rw [hy1]; exact run_next hrun (by omega) _ rfl, hy2, by dsimp only; omega, ?_⟩, by omega⟩
            dsimp only
            rw [hqx, List.flatMap_append]
            simp [cP, zc, hy3]
      · try (exfalso; omega)
        all_goals
          refine tr_exit ?_
          refine tx_then_exit ?_
          refine tx_then_exit ?_
          refine tx_in_exit ?_
          refine tx_then ?_
          refine tr_seq ?_
          refine tr_region ?_
          refine tl_step rfl (oj_val (y_fieldAddr (td := 57) Tryz.underlying61 rfl rfl Tryz.sizeOf57 (o' := 0) rfl (fe_t rfl)) ?_)
          refine tl_step rfl (oj_val (y_fieldAddr (td := 22) Tryz.underlying57 rfl rfl Tryz.sizeOf22 (o' := 0) rfl (fe_t rfl)) ?_)
          refine tl_step rfl (oj_val (y_ldb 3 Tryz.isAgg22 (fe_t rfl) rfl rfl) ?_)
          refine tl_step rfl (oj_call Tryz.call31 fe_f (fel_cons (fe_t rfl) fel_nil) (fun w' hS => clone_any h.A s.zs.length h.c s.zs w' (hS.holds 2 _ rfl) rfl (by omega)) (fun cq hcq => ?_))
          refine tl_step rfl (oj_val (y_fieldAddr (td := 57) Tryz.underlying61 rfl rfl Tryz.sizeOf57 (o' := 0) rfl (fe_t rfl)) ?_)
          refine tl_step rfl (oj_val (y_fieldAddr (td := 22) Tryz.underlying57 rfl rfl Tryz.sizeOf22 (o' := 0) rfl (fe_t rfl)) ?_)
          refine tl_step rfl (oj_store1 4 Tryz.sizeOf22 (fe_t rfl) (fe_t rfl) rfl rfl rfl rfl (?_))
          refine tl_nil ?_
          refine tx_then ?_
          refine tr_seq ?_
          refine tb_draw 3 (sel _ [0, 1, 2, 3, 4, 5]) (fun w h => h.sel _ rfl (by decide)) rfl ?_
          refine tb_float (i := 0) rfl (by kernel_rfl) rfl (wants_none rfl) (yq_of (y_move (fe_t rfl))) ?_
          refine tb_float (i := 1) rfl (by kernel_rfl) rfl (wants_none rfl) (yq_of (y_ldbA 4 Tryz.isAgg61 Tryz.sizeOf61 (fe_t rfl) rfl rfl rfl)) ?_
          refine tb_float (i := 2) rfl (by kernel_rfl) rfl (wants_none rfl) (yq_of (y_assign (fe_t rfl))) ?_
          refine tb_one2 (i := 3) rfl (by kernel_rfl) (by kernel_rfl) (wants_none rfl) (oj_storeW 6 Tryz.sizeOf61 (fe_t rfl) (fe_t rfl) rfl rfl rfl rfl rfl (⟨fun w h => h.pick [0, 1, 2, 3, 4, 5] _ rfl (by decide), ?_⟩))
          refine tb_float (i := 4) rfl (by kernel_rfl) rfl (wants_none rfl) (yq_of (y_assign fe_c)) ?_
          refine tb_done (by kernel_rfl) ?_
          refine tx_then ?_
          refine tr_ret ?_
          refine tx_ret (res3 Tryz.results16 (rok_t rfl) (rok_b 6 Tryz.isAgg61 Tryz.sizeOf61 rfl rfl rfl) (rok_t rfl)) (fun w' hS => ?_)
          have hrn := run_end hrun (by omega)
          exact ⟨(s, ans, ⟨cq.1, s.zs.length, cq.2, cI s.zs⟩, q), ⟨hrn, rfl, rfl, by dsimp only; omega, hqx, by dsimp only; omega⟩, rfl, hS.pick [0, 1, 2] _ rfl (by decide)⟩

set_option maxRecDepth 100000 in
set_option maxHeartbeats 4000000 in
theorem play_bad (num den burst : Int) (A : Option Addr) (n c : Nat) (w : World) (hg : okb num den burst = false) :
    Calls Tryz.prog 16 #[(.int .i64 num), (.int .i64 den), (.int .i64 burst), .slice A n c] w fun e w' => e = .returned (.tuple #[.slice none 0 0, .agg #[.slice none 0 0, (.int .i64 0), (.int .i64 0), (.int .i64 0), (.int .i64 0), (.int .i64 0), (.int .i64 0), (.int .i64 0), (.int .i64 0), (.int .i64 0)], (.int .i64 2)]) ∧ St w w' [] := by
  refine calls_tr Tryz.func16 Tryz.ntmps16 rfl rfl (St.refl _) ?_
  refine tr_seq ?_
  refine tr_region ?_
  refine tl_step rfl (oj_val (y_assign fe_c) ?_)
  refine tl_step rfl (oj_alloc Tryz.zeroValue61 (fun rb => ?_))
  refine tl_step rfl (oj_val (y_assign fe_c) ?_)
  refine tl_nil ?_
  refine tx_then ?_
  refine tr_seq ?_
  refine tr_seq ?_
  refine tr_region ?_
  refine tl_step rfl (oj_val (y_move (fe_t rfl)) ?_)
  refine tl_step rfl (oj_val (y_move (fe_t rfl)) ?_)
  refine tl_step rfl (oj_val (y_move (fe_t rfl)) ?_)
  refine tl_step rfl (oj_callv Tryz.call28 fe_f (fel_cons (fe_t rfl) (fel_cons (fe_t rfl) (fel_cons (fe_t rfl) fel_nil))) (fun w' hS => wrong_any num den burst w') ?_)
  refine tl_step rfl (oj_val (y_assign (fe_t rfl)) ?_)
  refine tl_nil ?_
  refine tx_then ?_
  refine tr_seq ?_
  refine tr_region ?_
  refine tl_step rfl (oj_val (y_move (fe_t rfl)) ?_)
  refine tl_step rfl (oj_val (y_neq (fe_t rfl) fe_c) ?_)
  refine tl_nil ?_
  refine tx_then ?_
  refine tr_condp (fe_t rfl) (fun hq1 => ?_) (fun hq2 => ?_)
  · try (exfalso; omega)
    all_goals
      refine tr_seq ?_
      refine tr_region ?_
      refine tl_step rfl (oj_val (y_build (is := []) (vs := []) (cs := [.slice none 0 0, .int .i64 0, .int .i64 0, .int .i64 0, .int .i64 0, .int .i64 0, .int .i64 0, .int .i64 0, .int .i64 0, .int .i64 0]) rfl fel_nil (by kernel_rfl)) ?_)
      refine tl_step rfl (oj_val (y_move (fe_t rfl)) ?_)
      refine tl_step rfl (oj_val (y_assign fe_c) ?_)
      refine tl_step rfl (oj_storeW 0 Tryz.sizeOf61 (fe_t rfl) (fe_t rfl) rfl rfl rfl rfl rfl (?_))
      refine tl_step rfl (oj_val (y_assign (fe_t rfl)) ?_)
      refine tl_nil ?_
      refine tx_then ?_
      refine tr_ret ?_
      refine tx_then_ret ?_
      refine tx_ret (res3 Tryz.results16 (rok_t rfl) (rok_b 0 Tryz.isAgg61 Tryz.sizeOf61 rfl rfl rfl) (rok_t rfl)) (fun w' hS => ?_)
      exact ⟨by rw [hg]; rfl, hS.pick [] _ rfl (by decide)⟩
  · exact absurd hq2 (by rw [hg]; decide)

end Go.Proofs.YtoibebmhfcjpfaaGreatDoor.Pace
