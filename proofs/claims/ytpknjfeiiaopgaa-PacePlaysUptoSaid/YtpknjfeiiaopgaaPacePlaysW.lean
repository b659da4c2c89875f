/- Walk: pace.Play. -/
import Derived.Test.YtpknjfeiiaopgaaPaD
import Derived.Test.YtpknjfeiiaopgaaRingH
import Derived.Test.YtpknjfeiiaopgaaPaF
namespace Go.Proofs.Ytpknjfeiiaopgaa.Pace
open Go.RowKit Go.Proofs.Ytpknjfeiiaopgaa.E Go.Proofs.Ytpknjfeiiaopgaa.Ring Go.Proofs.Ytpknjfeiiaopgaa.Bucket

set_option maxRecDepth 100000 in
theorem clone_any (A : Option Addr) (n c : Nat) (zs : List Int) (w : World) (hr : Rd w A (zs.map (.int .i64))) (hn : zs.length = n) (hm : n ≤ 1000000000) :
    Calls Try.prog 68 #[.slice A n c] w fun e w' => ∃ q : Option Addr × Nat, zs.length ≤ q.2 ∧ e = .returned (.slice q.1 zs.length q.2) ∧ E.St w w' [vec 3 1 (.slice q.1 zs.length q.2) zs.length (cI zs)] := by
  refine calls_tr Try.func68 Try.ntmps68 rfl rfl (St.refl _) ?_
  refine tr_seq ?_
  refine tr_region ?_
  refine tl_step rfl (oj_val (y_assign fe_c) ?_)
  refine tl_nil ?_
  refine tx_then ?_
  refine tr_seq ?_
  refine tr_seq ?_
  refine tr_region ?_
  refine tl_step rfl (oj_val (y_move (fe_t rfl)) ?_)
  refine tl_step rfl (oj_val (y_eqnil Try.underlying27 (fe_t rfl) fe_c) ?_)
  refine tl_nil ?_
  refine tx_then ?_
  refine tr_cond (fe_t rfl) (fun hq1 => ?_) (fun hq2 => ?_)
  · obtain rfl : A = none := by cases A <;> simp_all
    have hz : zs = [] := by
      rcases hr with h | ⟨_, _, h, _⟩
      · simpa using h
      · cases h
    subst hz
    refine tr_seq ?_
    refine tr_region ?_
    refine tl_step rfl (oj_val (y_assign fe_c) ?_)
    refine tl_nil ?_
    refine tx_then ?_
    refine tr_ret ?_
    refine tx_then_ret ?_
    refine tx_ret (res1 Try.results68 (rok_t rfl)) (fun w' hS => ?_)
    refine ⟨(none, 0), by simp, rfl, ?_⟩
    exact (hS.pick [] [] rfl (by decide)).add (Below.refl _ _) (vec_nil _) (by simp [vec, Value.ownBlock])
  · refine tr_skip ?_
    refine tx_then ?_
    refine tr_seq ?_
    refine tr_region ?_
    refine tl_step rfl (oj_slice0 Try.underlying27 Try.sizeOf3 (fun g1 => ?_))
    refine tl_step rfl (oj_val (y_move (fe_t rfl)) ?_)
    refine tl_step rfl (oj_appg (i := 0) (s := 1) (z := (.int .i64 0)) (bytes := 8) Try.underlying27 (by kernel_rfl) (fe_t rfl) (fe_t rfl) rfl (rdl_out hr) (by first | (simp; done) | (simp; omega)) (by decide) (by first | exact oneI | exact oneF (fun _ => rfl) | exact fun u hu => List.all_eq_true.1 (show List.all _ (fun x => x.oneCell') = true from rfl) u hu | (intro u hu; revert u hu; simp [Value.oneCell'])) ⟨by omega, by decide⟩ (fun Aa1 ca1 hca1 => ?_))
    refine tl_step rfl (oj_val (y_assign (fe_t rfl)) ?_)
    refine tl_nil ?_
    refine tx_then ?_
    refine tr_ret ?_
    refine tx_ret (res1 Try.results68 (rok_t rfl)) (fun w' hS => ?_)
    have e1 := OwnV.rd (hS.holds 0 _ rfl)
    simp only [Nat.zero_add, List.nil_append] at hS e1
    subst hn
    exact ⟨(_, _), e1.2.1, by rw [Nat.zero_add], hS.pick [0] _ rfl (by decide)⟩

set_option maxRecDepth 100000 in
set_option maxHeartbeats 4000000 in
theorem play_ok (num den burst : Int) (A : Option Addr) (n c : Nat) (l : List (Int × Int)) (w : World) (hr : Rd w A (l.flatMap c2)) (hn : l.length = n) (hm : n ≤ 1048576) (hg : rng num den burst = true) (hb : 1500 ≤ burst) :
    Calls Try.prog 26 #[(.int .i64 num), (.int .i64 den), (.int .i64 burst), .slice A n c] w fun e w' => ∃ q : Pc × List PA × Vs × Vs, (run (⟨num, den, burst, burst * den, 0⟩ : Bkt) l = (q.1, q.2.1.map PA.a) ∧ q.2.2.1.n = q.1.zs.length ∧ q.2.2.1.xs = cI q.1.zs ∧ q.2.2.2.n = q.2.1.length ∧ q.2.2.2.xs = q.2.1.flatMap cP ∧ q.2.1.length = n) ∧ e = .returned (.tuple #[.slice q.2.2.2.A q.2.2.2.n q.2.2.2.c, .agg #[.slice q.2.2.1.A q.2.2.1.n q.2.2.1.c, (.int .i64 100), (.int .i64 60000), (.int .i64 q.1.drops), (.int .i64 q.1.b.num), (.int .i64 q.1.b.den), (.int .i64 q.1.b.burst), (.int .i64 q.1.b.level), (.int .i64 q.1.b.at0), (.int .i64 q.1.sent)], (.int .i64 0)]) ∧ St w w' [vec 3 1 (.slice q.2.2.1.A q.2.2.1.n q.2.2.1.c) q.2.2.1.n q.2.2.1.xs, vec 136 2 (.slice q.2.2.2.A q.2.2.2.n q.2.2.2.c) q.2.2.2.n q.2.2.2.xs, subs 3 1 (q.2.1.map PA.v)] := by
  have hB := start_right hg
  refine calls_tr Try.func26 Try.ntmps26 rfl rfl (St.refl _) ?_
  refine tr_seq ?_
  refine tr_region ?_
  refine tl_step rfl (oj_val (y_assign fe_c) ?_)
  refine tl_step rfl (oj_alloc Try.zeroValue60 (fun rb => ?_))
  refine tl_step rfl (oj_val (y_assign fe_c) ?_)
  refine tl_nil ?_
  refine tx_then ?_
  refine tr_seq ?_
  refine tr_seq ?_
  refine tr_region ?_
  refine tl_step rfl (oj_val (y_move (fe_t rfl)) ?_)
  refine tl_step rfl (oj_val (y_move (fe_t rfl)) ?_)
  refine tl_step rfl (oj_val (y_move (fe_t rfl)) ?_)
  refine tl_step rfl (oj_callv Try.call28 fe_f (fel_cons (fe_t rfl) (fel_cons (fe_t rfl) (fel_cons (fe_t rfl) fel_nil))) (fun w' hS => wrong_K num den burst w' hg hb) ?_)
  refine tl_step rfl (oj_val (y_assign (fe_t rfl)) ?_)
  refine tl_nil ?_
  refine tx_then ?_
  refine tr_seq ?_
  refine tr_region ?_
  refine tl_step rfl (oj_val (y_move (fe_t rfl)) ?_)
  refine tl_step rfl (oj_val (y_neq (fe_t rfl) fe_c) ?_)
  refine tl_nil ?_
  refine tx_then ?_
  refine tr_condp (fe_t rfl) (fun hq1 => ?_) (fun hq2 => ?_)
  · try (exfalso; omega)
    all_goals
      refine tr_seq ?_
      refine tr_region ?_
      refine tl_step rfl (oj_val (y_build (is := []) (vs := []) (cs := [.slice none 0 0, .int .i64 0, .int .i64 0, .int .i64 0, .int .i64 0, .int .i64 0, .int .i64 0, .int .i64 0, .int .i64 0, .int .i64 0]) rfl fel_nil (by kernel_rfl)) ?_)
      refine tl_step rfl (oj_val (y_move (fe_t rfl)) ?_)
      refine tl_step rfl (oj_val (y_assign fe_c) ?_)
      refine tl_step rfl (oj_storeW 0 Try.sizeOf60 (fe_t rfl) (fe_t rfl) rfl rfl rfl rfl rfl (?_))
      refine tl_step rfl (oj_val (y_assign (fe_t rfl)) ?_)
      refine tl_nil ?_
      refine tx_then ?_
      refine tr_ret ?_
      refine tx_then_ret ?_
      refine tx_ret (res3 Try.results26 (rok_t rfl) (rok_b 0 Try.isAgg60 Try.sizeOf60 rfl rfl rfl) (rok_t rfl)) (fun w' hS => ?_)
      have hrn := run_end hrun (by omega)
      exact ⟨(s, ans, ⟨cq.1, s.zs.length, cq.2, cI s.zs⟩, q), ⟨hrn, rfl, rfl, by dsimp only; omega, hqx, by dsimp only; omega⟩, rfl, hS.pick [0, 0, 0] _ rfl (by decide)⟩
  · try (exfalso; omega)
    all_goals
      refine tr_skip ?_
      refine tx_then ?_
      refine tr_seq ?_
      refine tr_region ?_
      refine tl_step rfl (oj_val (y_move (fe_t rfl)) ?_)
      refine tl_step rfl (oj_val (y_move (fe_t rfl)) ?_)
      refine tl_step rfl (oj_val (y_move (fe_t rfl)) ?_)
      refine tl_step rfl (oj_callv Try.call66 fe_f (fel_cons (fe_t rfl) (fel_cons (fe_t rfl) (fel_cons (fe_t rfl) fel_nil))) (fun w' hS => fullE num den burst w' hg) ?_)
      refine tl_step rfl (oj_val (y_move (fe_t rfl)) ?_)
      refine tl_step rfl (oj_val (y_extract (fe_t rfl) rfl) ?_)
      refine tl_step rfl (oj_val (y_extract (fe_t rfl) rfl) ?_)
      refine tl_step rfl (oj_alloc Try.zeroValue58 (fun b1 => ?_))
      refine tl_step rfl (oj_storeW 0 Try.sizeOf58 (fe_t rfl) (fe_t rfl) rfl rfl rfl rfl rfl (?_))
      refine tl_step rfl (oj_val (y_assign (fe_t rfl)) ?_)
      refine tl_nil ?_
      refine tx_then ?_
      refine tr_seq ?_
      refine tr_region ?_
      refine tl_step rfl (oj_val ((fun {u0 u1} hx hb => y_build (is := [1, 2]) (vs := [u0, u1]) (cs := [.slice none 0 0, u0, u1, .int .i64 0]) rfl hx hb) (fel_cons (fe_c (v := .int .i64 100)) (fel_cons (fe_c (v := .int .i64 60000)) fel_nil)) (by kernel_rfl)) ?_)
      refine tl_step rfl (oj_val (y_ldbA 0 Try.isAgg58 Try.sizeOf58 (fe_t rfl) rfl rfl rfl) ?_)
      refine tl_step rfl (oj_val (y_build (is := [0, 1]) (vs := [.agg #[.slice none 0 0, (.int .i64 100), (.int .i64 60000), (.int .i64 0)], .agg #[(.int .i64 num), (.int .i64 den), (.int .i64 burst), (.int .i64 (burst * den)), (.int .i64 0)]]) (cs := [.slice none 0 0, (.int .i64 100), (.int .i64 60000), (.int .i64 0), (.int .i64 num), (.int .i64 den), (.int .i64 burst), (.int .i64 (burst * den)), (.int .i64 0), (.int .i64 0)]) rfl (fel_cons (fe_t rfl) (fel_cons (fe_t rfl) fel_nil)) (by kernel_rfl)) ?_)
      refine tl_step rfl (oj_alloc Try.zeroValue60 (fun pb => ?_))
      refine tl_step rfl (oj_storeW 0 Try.sizeOf60 (fe_t rfl) (fe_t rfl) rfl rfl rfl rfl rfl (?_))
      refine tl_nil ?_
      refine tx_then ?_
      refine tr_seq ?_
      refine tr_region ?_
      refine tl_step rfl (oj_val (y_assign fe_c) ?_)
      refine tl_nil ?_
      refine tx_then ?_
      refine tr_seq ?_
      refine tr_seq ?_
      refine tr_region ?_
      refine tl_step rfl (oj_val (y_move (fe_t rfl)) ?_)
      refine tl_step rfl (oj_val (y_len Try.underlying53 (fe_t rfl)) ?_)
      refine tl_step rfl (oj_val (y_move fe_c) ?_)
      refine tl_nil ?_
      refine tx_then ?_
      refine tr_block ?_
      refine tr_add (r := rdr none (cI [])) rdr_nil rfl ?_
      refine tr_add (r := subs 3 1 (([] : List PA).map PA.v)) subs_none rfl ?_
      refine tr_add (r := vec 136 2 (.slice none 0 0) 0 []) vec_nil rfl ?_
      refine tr_loop5 [15, 17, 18, 39, 40, 41, 42, 43, 44, 45, 46, 47, 48, 49, 50, 51, 52, 53] (fun (k : Nat) (s : Pc) (ans : List PA) (h : Vs) (q : Vs) => [(39, .int .i64 (k : Int)), (15, .slice q.A q.n q.c)]) 0 (fun (k : Nat) (s : Pc) (ans : List PA) (h : Vs) (q : Vs) => [(3, blk pb [.slice h.A s.zs.length h.c, (.int .i64 100), (.int .i64 60000), (.int .i64 s.drops), (.int .i64 s.b.num), (.int .i64 s.b.den), (.int .i64 s.b.burst), (.int .i64 s.b.level), (.int .i64 s.b.at0), (.int .i64 s.sent)]), (0, vec 136 2 (.slice q.A q.n q.c) q.n q.xs), (2, rdr h.A (cI s.zs)), (1, subs 3 1 (ans.map PA.v))]) (fun (k : Nat) (s : Pc) (ans : List PA) (h : Vs) (q : Vs) => k ≤ n ∧ run (⟨num, den, burst, burst * den, 0⟩ : Bkt) (l.take k) = (s, ans.map PA.a) ∧ s.zs.length ≤ h.c ∧ q.n = k ∧ q.xs = ans.flatMap cP) (fun (k : Nat) (s : Pc) (ans : List PA) (h : Vs) (q : Vs) => n - k) (0) ((⟨[], 0, (⟨num, den, burst, burst * den, 0⟩ : Bkt), 0⟩ : Pc)) ([]) ((⟨none, 0, 0, []⟩ : Vs)) (⟨none, 0, 0, []⟩ : Vs) (cov_cons (by first | rfl | exact v_int (by omega) | exact v_bool (by simp [*])) (cov_cons (by first | rfl | exact v_int (by omega) | exact v_bool (by simp [*])) (cov_nil))) (fun w h => h) ?_ ?_
      · try dsimp only
        exact ⟨by omega, rfl, by simp, rfl, rfl⟩
      intro k s ans h q hp
      obtain ⟨hk, hrun, hhc, hqn, hqx⟩ := hp
      obtain ⟨hgk, hal⟩ := run_gd hB hrun (by omega)
      have hgp := hgk.parts
      refine tr_seq ?_
      refine tr_region ?_
      refine tl_step rfl (oj_val (y_lss (fe_t rfl) (fe_t rfl)) ?_)
      refine tl_nil ?_
      refine tx_then ?_
      refine tr_seq ?_
      refine tr_condp (fe_t rfl) (fun hq3 => ?_) (fun hq4 => ?_)
      · try (exfalso; omega)
        all_goals
          refine tr_skip ?_
          refine tx_then ?_
          refine tr_seq ?_
          refine tr_block ?_
          refine tr_seq ?_
          refine tr_region ?_
          refine tl_step rfl (oj_val (y_index Try.underlying53 Try.sizeOf134 (fe_t rfl) (fe_t rfl) (rdl_out hr) (lenF (fun _ => rfl) hn) (by decide) (by omega) rfl) ?_)
          refine tl_step rfl (oj_val (y_ldA Try.isAgg134 Try.sizeOf134 (fe_t rfl) (rdl_out hr) rfl (by decide) (getF (c := c2) (l := l) (fun _ => rfl) (by omega))) ?_)
          refine tl_step rfl (oj_alloc Try.zeroValue134 (fun ob => ?_))
          refine tl_step rfl (oj_storeW 0 Try.sizeOf134 (fe_t rfl) (fe_t rfl) rfl rfl rfl rfl rfl (?_))
          refine tl_nil ?_
          refine tx_then ?_
          refine tr_seq ?_
          refine tr_region ?_
          refine tl_step rfl (oj_alloc Try.zeroValue136 (fun ab => ?_))
          refine tl_nil ?_
          refine tx_then ?_
          refine tr_seq ?_
          refine tr_region ?_
          refine tl_step rfl (oj_val (y_ldbA 5 Try.isAgg60 Try.sizeOf60 (fe_t rfl) rfl rfl rfl) ?_)
          refine tl_step rfl (oj_val (y_ldbA 1 Try.isAgg134 Try.sizeOf134 (fe_t rfl) rfl rfl rfl) ?_)
          refine tl_step rfl (oj_call2 Try.call67 fe_f (fel_cons (fe_t rfl) (fel_cons (fe_t rfl) fel_nil)) (fun w' hS => doE (hS.pick [4, 0, 1, 2, 3, 5, 6, 7] [_, _, _, _, _, _, _, _] rfl (by decide)) hhc hgk (by omega) _ _) (fun y hy => ?_))
          refine tl_step rfl (oj_val (y_move (fe_t rfl)) ?_)
          refine tl_step rfl (oj_val (y_extract (fe_t rfl) rfl) ?_)
          refine tl_step rfl (oj_val (y_extract (fe_t rfl) rfl) ?_)
          refine tl_step rfl (oj_storeW 6 Try.sizeOf60 (fe_t rfl) (fe_t rfl) rfl rfl rfl rfl rfl (?_))
          refine tl_step rfl (oj_storeW 2 Try.sizeOf136 (fe_t rfl) (fe_t rfl) rfl rfl rfl rfl rfl (?_))
          refine tl_nil ?_
          refine tx_then ?_
          obtain ⟨hy1, hy2, hy3, hy4⟩ := hy
          refine tr_region ?_
          refine tl_step rfl (oj_val (y_move (fe_t rfl)) ?_)
          refine tl_step rfl (oj_val (y_ldbA 2 Try.isAgg136 Try.sizeOf136 (fe_t rfl) rfl rfl rfl) ?_)
          refine tl_step rfl (oj_slice1 Try.underlying54 Try.sizeOf136 Try.zeroValue136 (fe_t rfl) (by decide) rfl (fun b2 => ?_))
          refine tl_step rfl (oj_append (i := 5) (s := 2) (z := (.agg #[.int .i64 0, .slice none 0 0])) (bytes := 32) Try.underlying54 (by kernel_rfl) (fe_t rfl) (fe_t rfl) rfl (rdl_blk 0 rfl) rfl (by decide) (by first | exact oneI | exact oneF (fun _ => rfl) | exact fun u hu => List.all_eq_true.1 (show List.all _ (fun x => x.oneCell') = true from rfl) u hu | (intro u hu; revert u hu; simp [Value.oneCell'])) (by decide) ⟨by omega, by decide⟩ (fun Aa1 ca1 hca1 => ?_))
          refine tl_step rfl (oj_val (y_assign (fe_t rfl)) ?_)
          refine tl_nil ?_
          refine tx_in ?_
          refine tx_then ?_
          refine tr_subPush (vs' := (ans ++ [(⟨(does s (l[k]'(by omega)).1 (l[k]'(by omega)).2).2.1, y.2.2.A, y.2.2.c, (does s (l[k]'(by omega)).1 (l[k]'(by omega)).2).2.2⟩ : PA)]).map PA.v) 2 6 rfl rfl rfl (by rw [List.map_append, List.map_cons, List.map_nil]; simp only [PA.v]; rw [← hy3, ← hy4]) ?_
          refine tr_region ?_
          refine tl_step rfl (oj_val (y_inc (fe_t rfl) fe_c (by omega)) ?_)
          refine tl_step rfl (oj_val (y_move (fe_t rfl)) ?_)
          refine tl_nil ?_
          apply tx_back5 (k + 1) (y.1) (ans ++ [(⟨(does s (l[k]'(by omega)).1 (l[k]'(by omega)).2).2.1, y.2.2.A, y.2.2.c, (does s (l[k]'(by omega)).1 (l[k]'(by omega)).2).2.2⟩ : PA)]) (y.2.1) ((⟨_, _, _, _⟩ : Vs))
          · exact (cov_cons (by first | rfl | exact v_int (by omega) | exact v_bool (by simp [*])) (cov_cons (by first | rfl | exact v_int (by omega) | exact v_bool (by simp [*])) (cov_nil)))
          · repeat (first | exact over_nil | refine over_put rfl ?_ | refine over_drop rfl ?_)
          · exact fun w h => h.pick [5, 6, 1, 7, 8, 9] _ rfl (by decide)
          · refine ⟨⟨by omega, by rw [hy1]; exact run_next hrun (by omega) _ rfl, hy2, by dsimp only; omega, ?_⟩, by omega⟩
            dsimp only
            rw [hqx, List.flatMap_append]
            simp [cP, zc, hy3]
      · try (exfalso; omega)
        all_goals
          refine tr_exit ?_
          refine tx_then_exit ?_
          refine tx_then_exit ?_
          refine tx_in_exit ?_
          refine tx_then ?_
          refine tr_seq ?_
          refine tr_region ?_
          refine tl_step rfl (oj_val (y_fieldAddr (td := 56) Try.underlying60 rfl rfl Try.sizeOf56 (o' := 0) rfl (fe_t rfl)) ?_)
          refine tl_step rfl (oj_val (y_fieldAddr (td := 27) Try.underlying56 rfl rfl Try.sizeOf27 (o' := 0) rfl (fe_t rfl)) ?_)
          refine tl_step rfl (oj_val (y_ldb 3 Try.isAgg27 (fe_t rfl) rfl rfl) ?_)
          refine tl_step rfl (oj_call Try.call68 fe_f (fel_cons (fe_t rfl) fel_nil) (fun w' hS => clone_any h.A s.zs.length h.c s.zs w' (hS.holds 2 _ rfl) rfl (by omega)) (fun cq hcq => ?_))
          refine tl_step rfl (oj_val (y_fieldAddr (td := 56) Try.underlying60 rfl rfl Try.sizeOf56 (o' := 0) rfl (fe_t rfl)) ?_)
          refine tl_step rfl (oj_val (y_fieldAddr (td := 27) Try.underlying56 rfl rfl Try.sizeOf27 (o' := 0) rfl (fe_t rfl)) ?_)
          refine tl_step rfl (oj_store1 4 Try.sizeOf27 (fe_t rfl) (fe_t rfl) rfl rfl rfl rfl (?_))
          refine tl_nil ?_
          refine tx_then ?_
          refine tr_seq ?_
          refine tb_draw 3 (sel _ [0, 1, 2, 3, 4, 5]) (fun w h => h.sel _ rfl (by decide)) rfl ?_
          refine tb_float (i := 0) rfl (by kernel_rfl) rfl (wants_none rfl) (yq_of (y_move (fe_t rfl))) ?_
          refine tb_float (i := 1) rfl (by kernel_rfl) rfl (wants_none rfl) (yq_of (y_ldbA 4 Try.isAgg60 Try.sizeOf60 (fe_t rfl) rfl rfl rfl)) ?_
          refine tb_float (i := 2) rfl (by kernel_rfl) rfl (wants_none rfl) (yq_of (y_assign (fe_t rfl))) ?_
          refine tb_one2 (i := 3) rfl (by kernel_rfl) (by kernel_rfl) (wants_none rfl) (oj_storeW 6 Try.sizeOf60 (fe_t rfl) (fe_t rfl) rfl rfl rfl rfl rfl (⟨fun w h => h.pick [0, 1, 2, 3, 4, 5] _ rfl (by decide), ?_⟩))
          refine tb_float (i := 4) rfl (by kernel_rfl) rfl (wants_none rfl) (yq_of (y_assign fe_c)) ?_
          refine tb_done (by kernel_rfl) ?_
          refine tx_then ?_
          refine tr_ret ?_
          refine tx_ret (res3 Try.results26 (rok_t rfl) (rok_b 6 Try.isAgg60 Try.sizeOf60 rfl rfl rfl) (rok_t rfl)) (fun w' hS => ?_)
          have hrn := run_end hrun (by omega)
          exact ⟨(s, ans, ⟨cq.1, s.zs.length, cq.2, cI s.zs⟩, q), ⟨hrn, rfl, rfl, by dsimp only; omega, hqx, by dsimp only; omega⟩, rfl, hS.pick [0, 1, 2] _ rfl (by decide)⟩

set_option maxRecDepth 100000 in
set_option maxHeartbeats 4000000 in
theorem play_bad (num den burst : Int) (A : Option Addr) (n c : Nat) (w : World) (hg : okb num den burst = false) :
    Calls Try.prog 26 #[(.int .i64 num), (.int .i64 den), (.int .i64 burst), .slice A n c] w fun e w' => e = .returned (.tuple #[.slice none 0 0, .agg #[.slice none 0 0, (.int .i64 0), (.int .i64 0), (.int .i64 0), (.int .i64 0), (.int .i64 0), (.int .i64 0), (.int .i64 0), (.int .i64 0), (.int .i64 0)], (.int .i64 2)]) ∧ St w w' [] := by
  refine calls_tr Try.func26 Try.ntmps26 rfl rfl (St.refl _) ?_
  refine tr_seq ?_
  refine tr_region ?_
  refine tl_step rfl (oj_val (y_assign fe_c) ?_)
  refine tl_step rfl (oj_alloc Try.zeroValue60 (fun rb => ?_))
  refine tl_step rfl (oj_val (y_assign fe_c) ?_)
  refine tl_nil ?_
  refine tx_then ?_
  refine tr_seq ?_
  refine tr_seq ?_
  refine tr_region ?_
  refine tl_step rfl (oj_val (y_move (fe_t rfl)) ?_)
  refine tl_step rfl (oj_val (y_move (fe_t rfl)) ?_)
  refine tl_step rfl (oj_val (y_move (fe_t rfl)) ?_)
  refine tl_step rfl (oj_callv Try.call28 fe_f (fel_cons (fe_t rfl) (fel_cons (fe_t rfl) (fel_cons (fe_t rfl) fel_nil))) (fun w' hS => wrong_any num den burst w') ?_)
  refine tl_step rfl (oj_val (y_assign (fe_t rfl)) ?_)
  refine tl_nil ?_
  refine tx_then ?_
  refine tr_seq ?_
  refine tr_region ?_
  refine tl_step rfl (oj_val (y_move (fe_t rfl)) ?_)
  refine tl_step rfl (oj_val (y_neq (fe_t rfl) fe_c) ?_)
  refine tl_nil ?_
  refine tx_then ?_
  refine tr_condp (fe_t rfl) (fun hq1 => ?_) (fun hq2 => ?_)
  · try (exfalso; omega)
    all_goals
      refine tr_seq ?_
      refine tr_region ?_
      refine tl_step rfl (oj_val (y_build (is := []) (vs := []) (cs := [.slice none 0 0, .int .i64 0, .int .i64 0, .int .i64 0, .int .i64 0, .int .i64 0, .int .i64 0, .int .i64 0, .int .i64 0, .int .i64 0]) rfl fel_nil (by kernel_rfl)) ?_)
      refine tl_step rfl (oj_val (y_move (fe_t rfl)) ?_)
      refine tl_step rfl (oj_val (y_assign fe_c) ?_)
      refine tl_step rfl (oj_storeW 0 Try.sizeOf60 (fe_t rfl) (fe_t rfl) rfl rfl rfl rfl rfl (?_))
      refine tl_step rfl (oj_val (y_assign (fe_t rfl)) ?_)
      refine tl_nil ?_
      refine tx_then ?_
      refine tr_ret ?_
      refine tx_then_ret ?_
      refine tx_ret (res3 Try.results26 (rok_t rfl) (rok_b 0 Try.isAgg60 Try.sizeOf60 rfl rfl rfl) (rok_t rfl)) (fun w' hS => ?_)
      exact ⟨by rw [hg]; rfl, hS.pick [] _ rfl (by decide)⟩
  · exact absurd hq2 (by rw [hg]; decide)

end Go.Proofs.Ytpknjfeiiaopgaa.Pace

namespace Go.Proofs.Ytpknjfeiiaopgaa.Pace
open Go.RowKit Go.Proofs.Ytpknjfeiiaopgaa.E Go.Proofs.Ytpknjfeiiaopgaa.Ring Go.Proofs.Ytpknjfeiiaopgaa.Bucket

theorem same_at {la lb : List PA} (he : la.map PA.a = lb.map PA.a) {k : Nat} (hk : k < la.length) : (la.getD k PA.nil).er = (lb.getD k PA.nil).er ∧ (la.getD k PA.nil).xs = (lb.getD k PA.nil).xs := by
  have hl : la.length = lb.length := by simpa using congrArg List.length he
  have h1 : (la.map PA.a)[k]? = (lb.map PA.a)[k]? := by rw [he]
  rw [List.getElem?_map, List.getElem?_map, List.getElem?_eq_getElem hk, List.getElem?_eq_getElem (by omega : k < lb.length)] at h1
  simp only [Option.map_some, Option.some.injEq, PA.a, Prod.mk.injEq] at h1
  rw [getD_lt hk, getD_lt (by omega : k < lb.length)]
  exact h1
theorem eq_bkt {x y : Operand} (p : Bool) (a b c d e a' b' c' d' e' : Int) (h : ((a == a') && ((b == b') && ((c == c') && ((d == d') && (e == e'))))) = p) (w : World) : (do eqGuard .eql 58 x y (.agg #[(.int .i64 a), (.int .i64 b), (.int .i64 c), (.int .i64 d), (.int .i64 e)]) (.agg #[(.int .i64 a'), (.int .i64 b'), (.int .i64 c'), (.int .i64 d'), (.int .i64 e')]); binOp .eql 58 (.agg #[(.int .i64 a), (.int .i64 b), (.int .i64 c), (.int .i64 d), (.int .i64 e)]) (.agg #[(.int .i64 a'), (.int .i64 b'), (.int .i64 c'), (.int .i64 d'), (.int .i64 e')]) : Sem Value).run Try.prog w = .ok (.bool p) w := by
  rw [← h]
  have e1 : ∀ x y, Op.equal 58 x y = Op.equalIn (9998 + 1 + 1) 58 x y := fun _ _ => rfl
  by_cases h1 : a = a' <;> by_cases h2 : b = b' <;> by_cases h3 : c = c' <;> by_cases h4 : d = d' <;> by_cases h5 : e = e' <;> simp [eqGuard, binOp, e1, go_sem, h1, h2, h3, h4, h5]

set_option maxRecDepth 100000 in
set_option maxHeartbeats 4000000 in
theorem same_run {la lb : List PA} {A B : Option Addr} {n c d : Nat} (w : World) (ha : Rd w A (la.flatMap cP)) (hb : Rd w B (lb.flatMap cP)) (hsa : ∀ k, k < la.length → Rd w (la.getD k PA.nil).A (cI (la.getD k PA.nil).xs)) (hsb : ∀ k, k < lb.length → Rd w (lb.getD k PA.nil).A (cI (lb.getD k PA.nil).xs)) (hsh : ∀ k, k < la.length → (la.getD k PA.nil).xs.length ≤ 100) (he : la.map PA.a = lb.map PA.a) (hna : la.length = n) (hnb : lb.length = n) (hm : n ≤ 1048576) :
    Calls Try.prog 30 #[.slice A n c, .slice B n d] w fun e w' => e = .returned (.bool true) ∧ St w w' [] := by
  refine calls_tr Try.func30 Try.ntmps30 rfl rfl (St.refl _) ?_
  refine tr_seq ?_
  refine tr_region ?_
  refine tl_step rfl (oj_val (y_assign fe_c) ?_)
  refine tl_nil ?_
  refine tx_then ?_
  refine tr_seq ?_
  refine tr_seq ?_
  refine tr_region ?_
  refine tl_step rfl (oj_val (y_move (fe_t rfl)) ?_)
  refine tl_step rfl (oj_val (y_len Try.underlying54 (fe_t rfl)) ?_)
  refine tl_step rfl (oj_val (y_move (fe_t rfl)) ?_)
  refine tl_step rfl (oj_val (y_len Try.underlying54 (fe_t rfl)) ?_)
  refine tl_step rfl (oj_val (y_neq (fe_t rfl) (fe_t rfl)) ?_)
  refine tl_nil ?_
  refine tx_then ?_
  refine tr_condp (fe_t rfl) (fun hq1 => ?_) (fun hq2 => ?_)
  · try (exfalso; omega)
    all_goals
      refine tr_seq ?_
      refine tr_region ?_
      refine tl_step rfl (oj_val (y_assign fe_c) ?_)
      refine tl_nil ?_
      refine tx_then ?_
      refine tr_ret ?_
      refine tx_then_ret ?_
      refine tx_ret (res1 Try.results30 (rok_t rfl)) (fun w' hS => ?_)
      exact ⟨rfl, hS.pick [] _ rfl (by decide)⟩
  · try (exfalso; omega)
    all_goals
      refine tr_skip ?_
      refine tx_then ?_
      refine tr_seq ?_
      refine tr_seq ?_
      refine tr_region ?_
      refine tl_step rfl (oj_val (y_move (fe_t rfl)) ?_)
      refine tl_step rfl (oj_val (y_len Try.underlying54 (fe_t rfl)) ?_)
      refine tl_step rfl (oj_val (y_move fe_c) ?_)
      refine tl_nil ?_
      refine tx_then ?_
      refine tr_block ?_
      refine tr_loop1 [4, 5, 6, 14, 15, 16, 17, 18, 19, 20, 21, 22, 23, 24, 25, 26, 27, 28, 29, 30, 31, 32, 33, 34, 35, 36, 37, 38, 39, 40, 41, 42, 43, 44, 45, 46, 47, 48, 49, 50, 51, 52, 53, 54, 55, 56, 57, 58, 59, 60, 61, 62, 63, 64, 65, 66, 67, 68, 69, 70] (fun (k : Nat) => [(14, .int .i64 (k : Int))]) 0 (fun (k : Nat) => []) (fun (k : Nat) => k ≤ n) (fun (k : Nat) => n - k) (0) (cov_cons (by first | rfl | exact v_int (by omega) | exact v_bool (by simp [*])) (cov_nil)) (fun w h => h) ?_ ?_
      · try dsimp only
        omega
      intro k hp
      have hk := hp
      refine tr_seq ?_
      refine tr_region ?_
      refine tl_step rfl (oj_val (y_lss (fe_t rfl) (fe_t rfl)) ?_)
      refine tl_nil ?_
      refine tx_then ?_
      refine tr_seq ?_
      refine tr_condp (fe_t rfl) (fun hq3 => ?_) (fun hq4 => ?_)
      · try (exfalso; omega)
        all_goals
          obtain ⟨hE, hX⟩ := same_at he (k := k) (by omega)
          have hL : (la.getD k PA.nil).xs.length = (lb.getD k PA.nil).xs.length := by rw [hX]
          have hSh := hsh k (by omega)
          refine tr_skip ?_
          refine tx_then ?_
          refine tr_seq ?_
          refine tr_block ?_
          refine tr_seq ?_
          refine tr_region ?_
          refine tl_step rfl (oj_val (y_move (fe_t rfl)) ?_)
          refine tl_step rfl (oj_val (y_assign (fe_t rfl)) ?_)
          refine tl_nil ?_
          refine tx_then ?_
          refine tr_seq ?_
          refine tr_seq ?_
          refine tb_draw 26 (sel _ []) (fun w h => h.sel _ rfl (by decide)) rfl ?_
          refine tb_float (i := 0) rfl (by kernel_rfl) rfl (wants_none rfl) (yq_of (y_move (fe_t rfl))) ?_
          refine tb_float (i := 1) rfl (by kernel_rfl) rfl (wants_none rfl) (yq_of (y_move (fe_t rfl))) ?_
          refine tb_float (i := 2) rfl (by kernel_rfl) rfl (wants_none rfl) (yq_of (y_index Try.underlying54 Try.sizeOf136 (fe_t rfl) (fe_t rfl) (rdl_out ha) (by rw [flat_len hcP]; omega) (by decide) (by omega) rfl)) ?_
          refine tb_float (i := 3) rfl (by kernel_rfl) rfl (wants_none rfl) (yq_of (y_fieldAddrE (td := 29) Try.underlying136 rfl rfl Try.sizeOf29 rfl (fe_t rfl) (rdl_out ha) (by rw [flat_len hcP]; omega))) ?_
          refine tb_float (i := 4) rfl (by kernel_rfl) rfl (wants_none rfl) (yq_of (y_ld Try.isAgg29 (fe_t rfl) (rdl_out ha) (flatG (d := PA.nil) (i := 0) hcP (by omega) rfl))) ?_
          refine tb_float (i := 5) rfl (by kernel_rfl) rfl (wants_none rfl) (yq_of (y_move (fe_t rfl))) ?_
          refine tb_float (i := 6) rfl (by kernel_rfl) rfl (wants_none rfl) (yq_of (y_move (fe_t rfl))) ?_
          refine tb_float (i := 7) rfl (by kernel_rfl) rfl (wants_none rfl) (yq_of (y_index Try.underlying54 Try.sizeOf136 (fe_t rfl) (fe_t rfl) (rdl_out hb) (by rw [flat_len hcP]; omega) (by decide) (by omega) rfl)) ?_
          refine tb_float (i := 8) rfl (by kernel_rfl) rfl (wants_none rfl) (yq_of (y_fieldAddrE (td := 29) Try.underlying136 rfl rfl Try.sizeOf29 rfl (fe_t rfl) (rdl_out hb) (by rw [flat_len hcP]; omega))) ?_
          refine tb_float (i := 9) rfl (by kernel_rfl) rfl (wants_none rfl) (yq_of (y_ld Try.isAgg29 (fe_t rfl) (rdl_out hb) (flatG (d := PA.nil) (i := 0) hcP (by omega) rfl))) ?_
          refine tb_float (i := 10) rfl (by kernel_rfl) rfl (wants_none rfl) (yq_of (y_neq (fe_t rfl) (fe_t rfl))) ?_
          refine tb_float (i := 11) rfl (by kernel_rfl) rfl (wants_none rfl) (yq_of (y_move (fe_t rfl))) ?_
          refine tb_splitp (d := 28) rfl (fun hq5 => ?_) (fun hq6 => ?_)
          · try (exfalso; omega)
            all_goals
              refine tb_skip (i := 12) rfl (by kernel_rfl) rfl (wants_f rfl rfl rfl rfl) ?_
              refine tb_skip (i := 13) rfl (by kernel_rfl) rfl (wants_f rfl rfl rfl rfl) ?_
              refine tb_skip (i := 14) rfl (by kernel_rfl) rfl (wants_f rfl rfl rfl rfl) ?_
              refine tb_skip (i := 15) rfl (by kernel_rfl) rfl (wants_f rfl rfl rfl rfl) ?_
              refine tb_skip (i := 16) rfl (by kernel_rfl) rfl (wants_f rfl rfl rfl rfl) ?_
              refine tb_skip (i := 17) rfl (by kernel_rfl) rfl (wants_f rfl rfl rfl rfl) ?_
              refine tb_skip (i := 18) rfl (by kernel_rfl) rfl (wants_f rfl rfl rfl rfl) ?_
              refine tb_skip (i := 19) rfl (by kernel_rfl) rfl (wants_f rfl rfl rfl rfl) ?_
              refine tb_skip (i := 20) rfl (by kernel_rfl) rfl (wants_f rfl rfl rfl rfl) ?_
              refine tb_skip (i := 21) rfl (by kernel_rfl) rfl (wants_f rfl rfl rfl rfl) ?_
              refine tb_skip (i := 22) rfl (by kernel_rfl) rfl (wants_f rfl rfl rfl rfl) ?_
              refine tb_skip (i := 23) rfl (by kernel_rfl) rfl (wants_f rfl rfl rfl rfl) ?_
              refine tb_skip (i := 24) rfl (by kernel_rfl) rfl (wants_f rfl rfl rfl rfl) ?_
              refine tb_float (i := 25) rfl (by kernel_rfl) rfl (wants_none rfl) (yq_of (y_pickt (fe_t rfl) fe_c)) ?_
              refine tb_done (by kernel_rfl) ?_
              refine tx_then ?_
              refine tr_condt (fe_t rfl) ?_
              refine tr_seq ?_
              refine tr_region ?_
              refine tl_step rfl (oj_val (y_assign fe_c) ?_)
              refine tl_nil ?_
              refine tx_then ?_
              refine tr_ret ?_
              refine tx_then_ret ?_
              refine tx_in_ret ?_
              refine tx_then_ret ?_
              refine tx_then_ret ?_
              refine tx_in_ret ?_
              refine tx_then_ret ?_
              refine tx_ret (res1 Try.results30 (rok_t rfl)) (fun w' hS => ?_)
              exact ⟨rfl, hS.pick [] _ rfl (by decide)⟩
          · try (exfalso; omega)
            all_goals
              refine tb_float (i := 12) rfl (by kernel_rfl) rfl (wants_t rfl rfl rfl) (yq_of (y_move (fe_t rfl))) ?_
              refine tb_float (i := 13) rfl (by kernel_rfl) rfl (wants_t rfl rfl rfl) (yq_of (y_move (fe_t rfl))) ?_
              refine tb_float (i := 14) rfl (by kernel_rfl) rfl (wants_t rfl rfl rfl) (yq_of (y_index Try.underlying54 Try.sizeOf136 (fe_t rfl) (fe_t rfl) (rdl_out ha) (by rw [flat_len hcP]; omega) (by decide) (by omega) rfl)) ?_
              refine tb_float (i := 15) rfl (by kernel_rfl) rfl (wants_t rfl rfl rfl) (yq_of (y_fieldAddrE (td := 27) Try.underlying136 rfl rfl Try.sizeOf27 rfl (fe_t rfl) (rdl_out ha) (by rw [flat_len hcP]; omega))) ?_
              refine tb_float (i := 16) rfl (by kernel_rfl) rfl (wants_t rfl rfl rfl) (yq_of (y_ld Try.isAgg27 (fe_t rfl) (rdl_out ha) (flatG (d := PA.nil) (i := 1) hcP (by omega) rfl))) ?_
              refine tb_float (i := 17) rfl (by kernel_rfl) rfl (wants_t rfl rfl rfl) (yq_of (y_len Try.underlying27 (fe_t rfl))) ?_
              refine tb_float (i := 18) rfl (by kernel_rfl) rfl (wants_t rfl rfl rfl) (yq_of (y_move (fe_t rfl))) ?_
              refine tb_float (i := 19) rfl (by kernel_rfl) rfl (wants_t rfl rfl rfl) (yq_of (y_move (fe_t rfl))) ?_
              refine tb_float (i := 20) rfl (by kernel_rfl) rfl (wants_t rfl rfl rfl) (yq_of (y_index Try.underlying54 Try.sizeOf136 (fe_t rfl) (fe_t rfl) (rdl_out hb) (by rw [flat_len hcP]; omega) (by decide) (by omega) rfl)) ?_
              refine tb_float (i := 21) rfl (by kernel_rfl) rfl (wants_t rfl rfl rfl) (yq_of (y_fieldAddrE (td := 27) Try.underlying136 rfl rfl Try.sizeOf27 rfl (fe_t rfl) (rdl_out hb) (by rw [flat_len hcP]; omega))) ?_
              refine tb_float (i := 22) rfl (by kernel_rfl) rfl (wants_t rfl rfl rfl) (yq_of (y_ld Try.isAgg27 (fe_t rfl) (rdl_out hb) (flatG (d := PA.nil) (i := 1) hcP (by omega) rfl))) ?_
              refine tb_float (i := 23) rfl (by kernel_rfl) rfl (wants_t rfl rfl rfl) (yq_of (y_len Try.underlying27 (fe_t rfl))) ?_
              refine tb_float (i := 24) rfl (by kernel_rfl) rfl (wants_t rfl rfl rfl) (yq_of (y_neq (fe_t rfl) (fe_t rfl))) ?_
              refine tb_float (i := 25) rfl (by kernel_rfl) rfl (wants_none rfl) (yq_of (y_pickf (fe_t rfl) (fe_t rfl))) ?_
              refine tb_done (by kernel_rfl) ?_
              refine tx_then ?_
              refine tr_condp (fe_t rfl) (fun hq7 => ?_) (fun hq8 => ?_)
              · try (exfalso; omega)
                all_goals
                  refine tr_seq ?_
                  refine tr_region ?_
                  refine tl_step rfl (oj_val (y_assign fe_c) ?_)
                  refine tl_nil ?_
                  refine tx_then ?_
                  refine tr_ret ?_
                  refine tx_then_ret ?_
                  refine tx_in_ret ?_
                  refine tx_then_ret ?_
                  refine tx_then_ret ?_
                  refine tx_in_ret ?_
                  refine tx_then_ret ?_
                  refine tx_ret (res1 Try.results30 (rok_t rfl)) (fun w' hS => ?_)
                  exact ⟨rfl, hS.pick [] _ rfl (by decide)⟩
              · try (exfalso; omega)
                all_goals
                  refine tr_skip ?_
                  refine tx_then ?_
                  refine tr_seq ?_
                  refine tr_region ?_
                  refine tl_step rfl (oj_val (y_move (fe_t rfl)) ?_)
                  refine tl_step rfl (oj_val (y_move (fe_t rfl)) ?_)
                  refine tl_step rfl (oj_val (y_index Try.underlying54 Try.sizeOf136 (fe_t rfl) (fe_t rfl) (rdl_out ha) (by rw [flat_len hcP]; omega) (by decide) (by omega) rfl) ?_)
                  refine tl_step rfl (oj_val (y_fieldAddrE (td := 27) Try.underlying136 rfl rfl Try.sizeOf27 rfl (fe_t rfl) (rdl_out ha) (by rw [flat_len hcP]; omega)) ?_)
                  refine tl_step rfl (oj_val (y_ld Try.isAgg27 (fe_t rfl) (rdl_out ha) (flatG (d := PA.nil) (i := 1) hcP (by omega) rfl)) ?_)
                  refine tl_step rfl (oj_val (y_len Try.underlying27 (fe_t rfl)) ?_)
                  refine tl_step rfl (oj_val (y_move fe_c) ?_)
                  refine tl_nil ?_
                  refine tx_then ?_
                  refine tr_block ?_
                  refine tr_loop1 [4, 6, 49, 50, 51, 52, 53, 54, 55, 56, 57, 58, 59, 60, 61, 62, 63, 64, 65, 66, 67, 68, 69] (fun (j : Nat) => [(49, .int .i64 (j : Int))]) 0 (fun (j : Nat) => []) (fun (j : Nat) => j ≤ (la.getD k PA.nil).xs.length) (fun (j : Nat) => (la.getD k PA.nil).xs.length - j) (0) (cov_cons (by first | rfl | exact v_int (by omega) | exact v_bool (by simp [*])) (cov_nil)) (fun w h => h) ?_ ?_
                  · try dsimp only
                    omega
                  intro j hp
                  have hj := hp
                  refine tr_seq ?_
                  refine tr_region ?_
                  refine tl_step rfl (oj_val (y_lss (fe_t rfl) (fe_t rfl)) ?_)
                  refine tl_nil ?_
                  refine tx_then ?_
                  refine tr_seq ?_
                  refine tr_condp (fe_t rfl) (fun hq9 => ?_) (fun hq10 => ?_)
                  · try (exfalso; omega)
                    all_goals
                      refine tr_skip ?_
                      refine tx_then ?_
                      refine tr_seq ?_
                      refine tr_block ?_
                      refine tr_seq ?_
                      refine tr_region ?_
                      refine tl_step rfl (oj_val (y_move (fe_t rfl)) ?_)
                      refine tl_step rfl (oj_val (y_assign (fe_t rfl)) ?_)
                      refine tl_nil ?_
                      refine tx_then ?_
                      refine tr_seq ?_
                      refine tb_draw 17 (sel _ []) (fun w h => h.sel _ rfl (by decide)) rfl ?_
                      refine tb_float (i := 0) rfl (by kernel_rfl) rfl (wants_none rfl) (yq_of (y_move (fe_t rfl))) ?_
                      refine tb_float (i := 1) rfl (by kernel_rfl) rfl (wants_none rfl) (yq_of (y_move (fe_t rfl))) ?_
                      refine tb_float (i := 2) rfl (by kernel_rfl) rfl (wants_none rfl) (yq_of (y_index Try.underlying54 Try.sizeOf136 (fe_t rfl) (fe_t rfl) (rdl_out ha) (by rw [flat_len hcP]; omega) (by decide) (by omega) rfl)) ?_
                      refine tb_float (i := 3) rfl (by kernel_rfl) rfl (wants_none rfl) (yq_of (y_fieldAddrE (td := 27) Try.underlying136 rfl rfl Try.sizeOf27 rfl (fe_t rfl) (rdl_out ha) (by rw [flat_len hcP]; omega))) ?_
                      refine tb_float (i := 4) rfl (by kernel_rfl) rfl (wants_none rfl) (yq_of (y_ld Try.isAgg27 (fe_t rfl) (rdl_out ha) (flatG (d := PA.nil) (i := 1) hcP (by omega) rfl))) ?_
                      refine tb_float (i := 5) rfl (by kernel_rfl) rfl (wants_none rfl) (yq_of (y_move (fe_t rfl))) ?_
                      refine tb_float (i := 6) rfl (by kernel_rfl) rfl (wants_none rfl) (yq_of (y_index Try.underlying27 Try.sizeOf3 (fe_t rfl) (fe_t rfl) (rdl_out (hsa k (by omega))) (by simp [cI]) (by decide) (by omega) (Nat.mul_one _))) ?_
                      refine tb_float (i := 7) rfl (by kernel_rfl) rfl (wants_none rfl) (yq_of (y_ld (v := (.int .i64 ((la.getD k PA.nil).xs[j]'(by omega)))) Try.isAgg3 (fe_t rfl) (rdl_out (hsa k (by omega))) (getI (by omega)))) ?_
                      refine tb_float (i := 8) rfl (by kernel_rfl) rfl (wants_none rfl) (yq_of (y_move (fe_t rfl))) ?_
                      refine tb_float (i := 9) rfl (by kernel_rfl) rfl (wants_none rfl) (yq_of (y_move (fe_t rfl))) ?_
                      refine tb_float (i := 10) rfl (by kernel_rfl) rfl (wants_none rfl) (yq_of (y_index Try.underlying54 Try.sizeOf136 (fe_t rfl) (fe_t rfl) (rdl_out hb) (by rw [flat_len hcP]; omega) (by decide) (by omega) rfl)) ?_
                      refine tb_float (i := 11) rfl (by kernel_rfl) rfl (wants_none rfl) (yq_of (y_fieldAddrE (td := 27) Try.underlying136 rfl rfl Try.sizeOf27 rfl (fe_t rfl) (rdl_out hb) (by rw [flat_len hcP]; omega))) ?_
                      refine tb_float (i := 12) rfl (by kernel_rfl) rfl (wants_none rfl) (yq_of (y_ld Try.isAgg27 (fe_t rfl) (rdl_out hb) (flatG (d := PA.nil) (i := 1) hcP (by omega) rfl))) ?_
                      refine tb_float (i := 13) rfl (by kernel_rfl) rfl (wants_none rfl) (yq_of (y_move (fe_t rfl))) ?_
                      refine tb_float (i := 14) rfl (by kernel_rfl) rfl (wants_none rfl) (yq_of (y_index Try.underlying27 Try.sizeOf3 (fe_t rfl) (fe_t rfl) (rdl_out (hsb k (by omega))) (by simp [cI]) (by decide) (by omega) (Nat.mul_one _))) ?_
                      refine tb_float (i := 15) rfl (by kernel_rfl) rfl (wants_none rfl) (yq_of (y_ld (v := (.int .i64 ((la.getD k PA.nil).xs[j]'(by omega)))) Try.isAgg3 (fe_t rfl) (rdl_out (hsb k (by omega))) (by rw [← hX]; exact getI (by omega)))) ?_
                      refine tb_float (i := 16) rfl (by kernel_rfl) rfl (wants_none rfl) (yq_of (y_neq (fe_t rfl) (fe_t rfl))) ?_
                      refine tb_done (by kernel_rfl) ?_
                      refine tx_then ?_
                      refine tr_condp (fe_t rfl) (fun hq11 => ?_) (fun hq12 => ?_)
                      · try (exfalso; omega)
                        all_goals
                          refine tr_seq ?_
                          refine tr_region ?_
                          refine tl_step rfl (oj_val (y_assign fe_c) ?_)
                          refine tl_nil ?_
                          refine tx_then ?_
                          refine tr_ret ?_
                          refine tx_in_ret ?_
                          refine tx_then_ret ?_
                          refine tx_then_ret ?_
                          refine tx_in_ret ?_
                          refine tx_in_ret ?_
                          refine tx_then_ret ?_
                          refine tx_then_ret ?_
                          refine tx_in_ret ?_
                          refine tx_then_ret ?_
                          refine tx_ret (res1 Try.results30 (rok_t rfl)) (fun w' hS => ?_)
                          exact ⟨rfl, hS.pick [] _ rfl (by decide)⟩
                      · try (exfalso; omega)
                        all_goals
                          refine tr_skip ?_
                          refine tx_in ?_
                          refine tx_then ?_
                          refine tr_region ?_
                          refine tl_step rfl (oj_val (y_inc (fe_t rfl) fe_c (by omega)) ?_)
                          refine tl_step rfl (oj_val (y_move (fe_t rfl)) ?_)
                          refine tl_nil ?_
                          apply tx_back1 (j + 1)
                          · exact (cov_cons (by first | rfl | exact v_int (by omega) | exact v_bool (by simp [*])) (cov_nil))
                          · repeat (first | exact over_nil | refine over_put rfl ?_ | refine over_drop rfl ?_)
                          · exact fun w h => h.pick [] _ rfl (by decide)
                          · exact ⟨by omega, by omega⟩
                  · try (exfalso; omega)
                    all_goals
                      refine tr_exit ?_
                      refine tx_then_exit ?_
                      refine tx_then_exit ?_
                      refine tx_in_exit ?_
                      refine tx_in ?_
                      refine tx_then ?_
                      refine tr_region ?_
                      refine tl_step rfl (oj_val (y_inc (fe_t rfl) fe_c (by omega)) ?_)
                      refine tl_step rfl (oj_val (y_move (fe_t rfl)) ?_)
                      refine tl_nil ?_
                      apply tx_back1 (k + 1)
                      · exact (cov_cons (by first | rfl | exact v_int (by omega) | exact v_bool (by simp [*])) (cov_nil))
                      · repeat (first | exact over_nil | refine over_put rfl ?_ | refine over_drop rfl ?_)
                      · exact fun w h => h.pick [] _ rfl (by decide)
                      · exact ⟨by omega, by omega⟩
      · try (exfalso; omega)
        all_goals
          refine tr_exit ?_
          refine tx_then_exit ?_
          refine tx_then_exit ?_
          refine tx_in_exit ?_
          refine tx_then ?_
          refine tr_seq ?_
          refine tr_region ?_
          refine tl_step rfl (oj_val (y_assign fe_c) ?_)
          refine tl_nil ?_
          refine tx_then ?_
          refine tr_ret ?_
          refine tx_ret (res1 Try.results30 (rok_t rfl)) (fun w' hS => ?_)
          exact ⟨rfl, hS.pick [] _ rfl (by decide)⟩

set_option maxRecDepth 100000 in
set_option maxHeartbeats 4000000 in
theorem paced_run {zs : List Int} {A B : Option Addr} {n c d : Nat} {i1 i2 i3 i4 i5 i6 i7 i8 i9 : Int} (w : World) (h1 : Rd w A (cI zs)) (h2 : Rd w B (cI zs)) (hn : zs.length = n) (hm : n ≤ 140737488355328) :
    Calls Try.prog 31 #[.agg #[.slice A n c, (.int .i64 i1), (.int .i64 i2), (.int .i64 i3), (.int .i64 i4), (.int .i64 i5), (.int .i64 i6), (.int .i64 i7), (.int .i64 i8), (.int .i64 i9)], .agg #[.slice B n d, (.int .i64 i1), (.int .i64 i2), (.int .i64 i3), (.int .i64 i4), (.int .i64 i5), (.int .i64 i6), (.int .i64 i7), (.int .i64 i8), (.int .i64 i9)]] w fun e w' => e = .returned (.bool true) ∧ St w w' [] := by
  refine calls_tr Try.func31 Try.ntmps31 rfl rfl (St.refl _) ?_
  refine tr_seq ?_
  refine tr_region ?_
  refine tl_step rfl (oj_box (fe_t rfl) (fun ba => ?_))
  refine tl_step rfl (oj_box (fe_t rfl) (fun bb => ?_))
  refine tl_step rfl (oj_val (y_assign fe_c) ?_)
  refine tl_nil ?_
  refine tx_then ?_
  refine tr_seq ?_
  refine tr_region ?_
  refine tl_step rfl (oj_val (y_fieldAddr (td := 56) Try.underlying60 rfl rfl Try.sizeOf56 (o' := 0) rfl (fe_t rfl)) ?_)
  refine tl_step rfl (oj_val (y_ldbA 1 Try.isAgg56 Try.sizeOf56 (fe_t rfl) rfl rfl rfl) ?_)
  refine tl_step rfl (oj_val (y_fieldAddr (td := 56) Try.underlying60 rfl rfl Try.sizeOf56 (o' := 0) rfl (fe_t rfl)) ?_)
  refine tl_step rfl (oj_val (y_ldbA 0 Try.isAgg56 Try.sizeOf56 (fe_t rfl) rfl rfl rfl) ?_)
  refine tl_step rfl (oj_callv Try.call72 fe_f (fel_cons (fe_t rfl) (fel_cons (fe_t rfl) fel_nil)) (fun w' hS => of_bel (same_any A B n c d zs i1 i2 i3 w' (Rd.below h1 hS.below) (Rd.below h2 hS.below) hn hm)) ?_)
  refine tl_step rfl (oj_val (y_move (fe_t rfl)) ?_)
  refine tl_want rfl rfl rfl (oj_val (y_fieldAddr (td := 58) Try.underlying60 rfl rfl Try.sizeOf58 (o' := 4) rfl (fe_t rfl)) ?_)
  refine tl_want rfl rfl rfl (oj_val (y_ldbA 1 Try.isAgg58 Try.sizeOf58 (fe_t rfl) rfl rfl rfl) ?_)
  refine tl_want rfl rfl rfl (oj_val (y_fieldAddr (td := 58) Try.underlying60 rfl rfl Try.sizeOf58 (o' := 4) rfl (fe_t rfl)) ?_)
  refine tl_want rfl rfl rfl (oj_val (y_ldbA 0 Try.isAgg58 Try.sizeOf58 (fe_t rfl) rfl rfl rfl) ?_)
  refine tl_want rfl rfl rfl (oj_val (y_binop (fe_t rfl) (fe_t rfl) (fun w => eq_bkt true _ _ _ _ _ _ _ _ _ _ (by simp) w)) ?_)
  refine tl_step rfl (oj_val (y_pickt (fe_t rfl) (fe_t rfl)) ?_)
  refine tl_step rfl (oj_val (y_move (fe_t rfl)) ?_)
  refine tl_want rfl rfl rfl (oj_val (y_fieldAddr (td := 3) Try.underlying60 rfl rfl Try.sizeOf3 (o' := 9) rfl (fe_t rfl)) ?_)
  refine tl_want rfl rfl rfl (oj_val (y_ldb 1 Try.isAgg3 (fe_t rfl) rfl rfl) ?_)
  refine tl_want rfl rfl rfl (oj_val (y_fieldAddr (td := 3) Try.underlying60 rfl rfl Try.sizeOf3 (o' := 9) rfl (fe_t rfl)) ?_)
  refine tl_want rfl rfl rfl (oj_val (y_ldb 0 Try.isAgg3 (fe_t rfl) rfl rfl) ?_)
  refine tl_want rfl rfl rfl (oj_val (y_eq (fe_t rfl) (fe_t rfl)) ?_)
  refine tl_step rfl (oj_val (y_pickt (fe_t rfl) (fe_t rfl)) ?_)
  refine tl_step rfl (oj_val (y_assign (fe_t rfl)) ?_)
  refine tl_nil ?_
  refine tx_then ?_
  refine tr_ret ?_
  refine tx_ret (res1 Try.results31 (rok_t rfl)) (fun w' hS => ?_)
  exact ⟨ret_bool (by simp), hS.pick [] _ rfl (by decide)⟩

theorem sameE {la lb : List PA} {A B : Option Addr} {n m c d : Nat} {xs ys : List Value} (w : World) (ha : Rd w A xs) (hb : Rd w B ys) (hxa : xs = la.flatMap cP) (hxb : ys = lb.flatMap cP) (hsa : ∀ k, k < la.length → Rd w (la.getD k PA.nil).A (cI (la.getD k PA.nil).xs)) (hsb : ∀ k, k < lb.length → Rd w (lb.getD k PA.nil).A (cI (lb.getD k PA.nil).xs)) (hsh : ∀ k, k < la.length → (la.getD k PA.nil).xs.length ≤ 100) (he : la.map PA.a = lb.map PA.a) (hna : n = la.length) (hnb : m = lb.length) (hm : n ≤ 1048576) :
    Calls Try.prog 30 #[.slice A n c, .slice B m d] w fun e w' => e = .returned (.bool true) ∧ St w w' [] := by
  have hl : la.length = lb.length := by simpa using congrArg List.length he
  subst hxa hxb
  obtain rfl : m = n := by omega
  exact same_run w ha hb hsa hsb hsh he hna.symm hnb.symm hm
theorem pacedE {zs : List Int} {A B : Option Addr} {n m c d : Nat} {i1 i2 i3 i4 i5 i6 i7 i8 i9 : Int} {xs ys : List Value} (w : World) (h1 : Rd w A xs) (h2 : Rd w B ys) (hx : xs = cI zs) (hy : ys = cI zs) (hn : n = zs.length) (hn2 : m = zs.length) (hm : n ≤ 140737488355328) :
    Calls Try.prog 31 #[.agg #[.slice A n c, (.int .i64 i1), (.int .i64 i2), (.int .i64 i3), (.int .i64 i4), (.int .i64 i5), (.int .i64 i6), (.int .i64 i7), (.int .i64 i8), (.int .i64 i9)], .agg #[.slice B m d, (.int .i64 i1), (.int .i64 i2), (.int .i64 i3), (.int .i64 i4), (.int .i64 i5), (.int .i64 i6), (.int .i64 i7), (.int .i64 i8), (.int .i64 i9)]] w fun e w' => e = .returned (.bool true) ∧ St w w' [] := by
  subst hx hy hn2
  subst hn
  exact paced_run w h1 h2 rfl hm

end Go.Proofs.Ytpknjfeiiaopgaa.Pace

namespace Go.Proofs.Ytpknjfeiiaopgaa.Pace
open Go.RowKit Go.Proofs.Ytpknjfeiiaopgaa.E Go.Proofs.Ytpknjfeiiaopgaa.Ring Go.Proofs.Ytpknjfeiiaopgaa.Bucket

set_option maxRecDepth 100000 in
set_option maxHeartbeats 4000000 in
theorem law_ok (num den burst : Int) (A : Option Addr) (n c : Nat) (l : List (Int × Int)) (w : World) (hr : Rd w A (l.flatMap c2)) (hn : l.length = n) (hm : n ≤ 1048576) (hg : rng num den burst = true) (hb : 1500 ≤ burst) :
    Calls Try.prog 6 #[(.int .i64 num), (.int .i64 den), (.int .i64 burst), .slice A n c] w fun e w' => e = .returned (.bool true) ∧ E.St w w' [] := by
  refine calls_tr Try.func6 Try.ntmps6 rfl rfl (St.refl _) ?_
  refine tr_seq ?_
  refine tr_region ?_
  refine tl_step rfl (oj_val (y_assign fe_c) ?_)
  refine tl_nil ?_
  refine tx_then ?_
  refine tr_seq ?_
  refine tr_region ?_
  refine tl_step rfl (oj_val (y_move (fe_t rfl)) ?_)
  refine tl_step rfl (oj_val (y_move (fe_t rfl)) ?_)
  refine tl_step rfl (oj_val (y_move (fe_t rfl)) ?_)
  refine tl_step rfl (oj_val (y_move (fe_t rfl)) ?_)
  refine tl_step rfl (oj_call Try.call26 fe_f (fel_cons (fe_t rfl) (fel_cons (fe_t rfl) (fel_cons (fe_t rfl) (fel_cons (fe_t rfl) fel_nil)))) (fun w' hS => play_ok num den burst A n c l w' (Rd.below hr hS.below) hn hm hg hb) (fun q0 hq0 => ?_))
  refine tl_step rfl (oj_val (y_move (fe_t rfl)) ?_)
  refine tl_step rfl (oj_val (y_extract (fe_t rfl) rfl) ?_)
  refine tl_step rfl (oj_val (y_extract (fe_t rfl) rfl) ?_)
  refine tl_step rfl (oj_val (y_extract (fe_t rfl) rfl) ?_)
  refine tl_step rfl (oj_alloc Try.zeroValue60 (fun ob => ?_))
  refine tl_step rfl (oj_val (y_assign (fe_t rfl)) ?_)
  refine tl_step rfl (oj_storeW 0 Try.sizeOf60 (fe_t rfl) (fe_t rfl) rfl rfl rfl rfl rfl (?_))
  refine tl_step rfl (oj_val (y_assign (fe_t rfl)) ?_)
  refine tl_nil ?_
  refine tx_then ?_
  refine tr_seq ?_
  refine tr_region ?_
  refine tl_step rfl (oj_val (y_move (fe_t rfl)) ?_)
  refine tl_step rfl (oj_val (y_move (fe_t rfl)) ?_)
  refine tl_step rfl (oj_val (y_move (fe_t rfl)) ?_)
  refine tl_step rfl (oj_val (y_move (fe_t rfl)) ?_)
  refine tl_step rfl (oj_call Try.call27 fe_f (fel_cons (fe_t rfl) (fel_cons (fe_t rfl) (fel_cons (fe_t rfl) (fel_cons (fe_t rfl) fel_nil)))) (fun w' hS => yplay_ok num den burst A n c l w' (Rd.below hr hS.below) hn hm hg hb) (fun q1 hq1 => ?_))
  refine tl_step rfl (oj_val (y_move (fe_t rfl)) ?_)
  refine tl_step rfl (oj_val (y_extract (fe_t rfl) rfl) ?_)
  refine tl_step rfl (oj_val (y_extract (fe_t rfl) rfl) ?_)
  refine tl_step rfl (oj_val (y_extract (fe_t rfl) rfl) ?_)
  refine tl_step rfl (oj_alloc Try.zeroValue60 (fun bb => ?_))
  refine tl_step rfl (oj_val (y_assign (fe_t rfl)) ?_)
  refine tl_step rfl (oj_storeW 0 Try.sizeOf60 (fe_t rfl) (fe_t rfl) rfl rfl rfl rfl rfl (?_))
  refine tl_step rfl (oj_val (y_assign (fe_t rfl)) ?_)
  refine tl_nil ?_
  refine tx_then ?_
  refine tr_seq ?_
  obtain ⟨s1, lb, gb, vb⟩ := q1
  obtain ⟨a1, a2, a3, a4, a5, a6⟩ := hq0
  obtain ⟨b1, b2, b3, b4, b5, b6⟩ := hq1
  dsimp only at b1 b2 b3 b4 b5 b6
  have hpr := a1.symm.trans b1
  have hs12 : q0.1 = s1 := congrArg Prod.fst hpr
  have he2 : q0.2.1.map PA.a = lb.map PA.a := congrArg Prod.snd hpr
  subst hs12
  have hzl : q0.1.zs.length ≤ 100 := by have := (run_gd (start_right hg) (l := l) (k := l.length) (s := q0.1) (ans := q0.2.1) (by rw [List.take_length]; exact a1) (Nat.le_refl _)).1.parts; omega
  refine tr_region ?_
  refine tl_step rfl (oj_val (y_move (fe_t rfl)) ?_)
  refine tl_step rfl (oj_val (y_move (fe_t rfl)) ?_)
  refine tl_step rfl (oj_val (y_move (fe_t rfl)) ?_)
  refine tl_step rfl (oj_callv Try.call28 fe_f (fel_cons (fe_t rfl) (fel_cons (fe_t rfl) (fel_cons (fe_t rfl) fel_nil))) (fun w' hS => wrong_K num den burst w' hg hb) ?_)
  refine tl_step rfl (oj_val (y_move (fe_t rfl)) ?_)
  refine tl_step rfl (oj_val (y_move (fe_t rfl)) ?_)
  refine tl_step rfl (oj_val (y_move (fe_t rfl)) ?_)
  refine tl_step rfl (oj_callv Try.call29 fe_f (fel_cons (fe_t rfl) (fel_cons (fe_t rfl) (fel_cons (fe_t rfl) fel_nil))) (fun w' hS => ywrong_K num den burst w' hg hb) ?_)
  refine tl_step rfl (oj_val (y_eq (fe_t rfl) (fe_t rfl)) ?_)
  refine tl_step rfl (oj_val (y_move (fe_t rfl)) ?_)
  refine tl_splitp (d := 42) rfl (fun hq1 => ?_) (fun hq2 => ?_)
  · try (exfalso; omega)
    all_goals
      refine tl_want rfl rfl rfl (oj_val (y_move (fe_t rfl)) ?_)
      refine tl_want rfl rfl rfl (oj_val (y_move (fe_t rfl)) ?_)
      refine tl_want rfl rfl rfl (oj_val (y_eq (fe_t rfl) (fe_t rfl)) ?_)
      refine tl_step rfl (oj_val (y_pickt (fe_t rfl) (fe_t rfl)) ?_)
      refine tl_step rfl (oj_val (y_move (fe_t rfl)) ?_)
      refine tl_splitp (d := 47) rfl (fun hq3 => ?_) (fun hq4 => ?_)
      · try (exfalso; omega)
        all_goals
          refine tl_want rfl rfl rfl (oj_val (y_move (fe_t rfl)) ?_)
          refine tl_want rfl rfl rfl (oj_val (y_move (fe_t rfl)) ?_)
          refine tl_want rfl rfl rfl (oj_callv Try.call30 fe_f (fel_cons (fe_t rfl) (fel_cons (fe_t rfl) fel_nil)) (fun w' hS => sameE (la := q0.2.1) (lb := lb) w' (OwnV.rd (hS.holds 6 _ rfl)).2.2 (OwnV.rd (hS.holds 2 _ rfl)).2.2 a5 b5 (fun k hk => rdl_sub 7 rfl hk w' hS) (fun k hk => rdl_sub 3 rfl hk w' hS) (ans_short (start_right hg) a1) he2 a4 b4 (by omega)) ?_)
          refine tl_step rfl (oj_val (y_pickt (fe_t rfl) (fe_t rfl)) ?_)
          refine tl_step rfl (oj_val (y_move (fe_t rfl)) ?_)
          refine tl_want rfl rfl rfl (oj_val (y_ldbA 4 Try.isAgg60 Try.sizeOf60 (fe_t rfl) rfl rfl rfl) ?_)
          refine tl_want rfl rfl rfl (oj_val (y_ldbA 0 Try.isAgg60 Try.sizeOf60 (fe_t rfl) rfl rfl rfl) ?_)
          refine tl_want rfl rfl rfl (oj_callv Try.call31 fe_f (fel_cons (fe_t rfl) (fel_cons (fe_t rfl) fel_nil)) (fun w' hS => pacedE (zs := q0.1.zs) w' (OwnV.rd (hS.holds 5 _ rfl)).2.2 (OwnV.rd (hS.holds 1 _ rfl)).2.2 a3 b3 a2 b2 (by omega)) ?_)
          refine tl_step rfl (oj_val (y_pickt (fe_t rfl) (fe_t rfl)) ?_)
          refine tl_step rfl (oj_val (y_assign (fe_t rfl)) ?_)
          refine tl_nil ?_
          refine tx_then ?_
          refine tr_ret ?_
          refine tx_ret (res1 Try.results6 (rok_t rfl)) (fun w' hS => ?_)
          exact ⟨ret_bool (by first | rfl | (simp; done)), hS.pick [] _ rfl (by decide)⟩
      · try (exfalso; omega)
        all_goals
          refine tl_skip rfl rfl rfl rfl ?_
          refine tl_skip rfl rfl rfl rfl ?_
          refine tl_skip rfl rfl rfl rfl ?_
          refine tl_step rfl (oj_val (y_pickf (fe_t rfl) fe_c) ?_)
          refine tl_step rfl (oj_val (y_move (fe_t rfl)) ?_)
          refine tl_skip rfl rfl rfl rfl ?_
          refine tl_skip rfl rfl rfl rfl ?_
          refine tl_skip rfl rfl rfl rfl ?_
          refine tl_step rfl (oj_val (y_pickf (fe_t rfl) fe_c) ?_)
          refine tl_step rfl (oj_val (y_assign (fe_t rfl)) ?_)
          refine tl_nil ?_
          refine tx_then ?_
          refine tr_ret ?_
          refine tx_ret (res1 Try.results6 (rok_t rfl)) (fun w' hS => ?_)
          exact ⟨ret_bool (by first | rfl | (simp; done)), hS.pick [] _ rfl (by decide)⟩
  · try (exfalso; omega)
    all_goals
      refine tl_skip rfl rfl rfl rfl ?_
      refine tl_skip rfl rfl rfl rfl ?_
      refine tl_skip rfl rfl rfl rfl ?_
      refine tl_step rfl (oj_val (y_pickf (fe_t rfl) fe_c) ?_)
      refine tl_step rfl (oj_val (y_move (fe_t rfl)) ?_)
      refine tl_skip rfl rfl rfl rfl ?_
      refine tl_skip rfl rfl rfl rfl ?_
      refine tl_skip rfl rfl rfl rfl ?_
      refine tl_step rfl (oj_val (y_pickf (fe_t rfl) fe_c) ?_)
      refine tl_step rfl (oj_val (y_move (fe_t rfl)) ?_)
      refine tl_skip rfl rfl rfl rfl ?_
      refine tl_skip rfl rfl rfl rfl ?_
      refine tl_skip rfl rfl rfl rfl ?_
      refine tl_step rfl (oj_val (y_pickf (fe_t rfl) fe_c) ?_)
      refine tl_step rfl (oj_val (y_assign (fe_t rfl)) ?_)
      refine tl_nil ?_
      refine tx_then ?_
      refine tr_ret ?_
      refine tx_ret (res1 Try.results6 (rok_t rfl)) (fun w' hS => ?_)
      exact ⟨ret_bool (by first | rfl | (simp; done)), hS.pick [] _ rfl (by decide)⟩

set_option maxRecDepth 100000 in
set_option maxHeartbeats 4000000 in
theorem law_bad (num den burst : Int) (A : Option Addr) (n c : Nat) (w : World) (hg : okb num den burst = false) :
    Calls Try.prog 6 #[(.int .i64 num), (.int .i64 den), (.int .i64 burst), .slice A n c] w fun e w' => e = .returned (.bool true) ∧ E.St w w' [] := by
  have hg2 : (if okb num den burst = true then (0 : Int) else 2) = 2 := by rw [hg]; rfl
  refine calls_tr Try.func6 Try.ntmps6 rfl rfl (St.refl _) ?_
  refine tr_seq ?_
  refine tr_region ?_
  refine tl_step rfl (oj_val (y_assign fe_c) ?_)
  refine tl_nil ?_
  refine tx_then ?_
  refine tr_seq ?_
  refine tr_region ?_
  refine tl_step rfl (oj_val (y_move (fe_t rfl)) ?_)
  refine tl_step rfl (oj_val (y_move (fe_t rfl)) ?_)
  refine tl_step rfl (oj_val (y_move (fe_t rfl)) ?_)
  refine tl_step rfl (oj_val (y_move (fe_t rfl)) ?_)
  refine tl_step rfl (oj_callv Try.call26 fe_f (fel_cons (fe_t rfl) (fel_cons (fe_t rfl) (fel_cons (fe_t rfl) (fel_cons (fe_t rfl) fel_nil)))) (fun w' hS => play_bad num den burst A n c w' hg) ?_)
  refine tl_step rfl (oj_val (y_move (fe_t rfl)) ?_)
  refine tl_step rfl (oj_val (y_extract (fe_t rfl) rfl) ?_)
  refine tl_step rfl (oj_val (y_extract (fe_t rfl) rfl) ?_)
  refine tl_step rfl (oj_val (y_extract (fe_t rfl) rfl) ?_)
  refine tl_step rfl (oj_alloc Try.zeroValue60 (fun ob => ?_))
  refine tl_step rfl (oj_val (y_assign (fe_t rfl)) ?_)
  refine tl_step rfl (oj_storeW 0 Try.sizeOf60 (fe_t rfl) (fe_t rfl) rfl rfl rfl rfl rfl (?_))
  refine tl_step rfl (oj_val (y_assign (fe_t rfl)) ?_)
  refine tl_nil ?_
  refine tx_then ?_
  refine tr_seq ?_
  refine tr_region ?_
  refine tl_step rfl (oj_val (y_move (fe_t rfl)) ?_)
  refine tl_step rfl (oj_val (y_move (fe_t rfl)) ?_)
  refine tl_step rfl (oj_val (y_move (fe_t rfl)) ?_)
  refine tl_step rfl (oj_val (y_move (fe_t rfl)) ?_)
  refine tl_step rfl (oj_callv Try.call27 fe_f (fel_cons (fe_t rfl) (fel_cons (fe_t rfl) (fel_cons (fe_t rfl) (fel_cons (fe_t rfl) fel_nil)))) (fun w' hS => yplay_bad num den burst A n c w' hg) ?_)
  refine tl_step rfl (oj_val (y_move (fe_t rfl)) ?_)
  refine tl_step rfl (oj_val (y_extract (fe_t rfl) rfl) ?_)
  refine tl_step rfl (oj_val (y_extract (fe_t rfl) rfl) ?_)
  refine tl_step rfl (oj_val (y_extract (fe_t rfl) rfl) ?_)
  refine tl_step rfl (oj_alloc Try.zeroValue60 (fun bb => ?_))
  refine tl_step rfl (oj_val (y_assign (fe_t rfl)) ?_)
  refine tl_step rfl (oj_storeW 0 Try.sizeOf60 (fe_t rfl) (fe_t rfl) rfl rfl rfl rfl rfl (?_))
  refine tl_step rfl (oj_val (y_assign (fe_t rfl)) ?_)
  refine tl_nil ?_
  refine tx_then ?_
  refine tr_seq ?_
  refine tr_region ?_
  refine tl_step rfl (oj_val (y_move (fe_t rfl)) ?_)
  refine tl_step rfl (oj_val (y_move (fe_t rfl)) ?_)
  refine tl_step rfl (oj_val (y_move (fe_t rfl)) ?_)
  refine tl_step rfl (oj_callv Try.call28 fe_f (fel_cons (fe_t rfl) (fel_cons (fe_t rfl) (fel_cons (fe_t rfl) fel_nil))) (fun w' hS => hg2 ▸ wrong_any num den burst w') ?_)
  refine tl_step rfl (oj_val (y_move (fe_t rfl)) ?_)
  refine tl_step rfl (oj_val (y_move (fe_t rfl)) ?_)
  refine tl_step rfl (oj_val (y_move (fe_t rfl)) ?_)
  refine tl_step rfl (oj_callv Try.call29 fe_f (fel_cons (fe_t rfl) (fel_cons (fe_t rfl) (fel_cons (fe_t rfl) fel_nil))) (fun w' hS => hg2 ▸ ywrong_any num den burst w') ?_)
  refine tl_step rfl (oj_val (y_eq (fe_t rfl) (fe_t rfl)) ?_)
  refine tl_step rfl (oj_val (y_move (fe_t rfl)) ?_)
  refine tl_splitp (d := 42) rfl (fun hq1 => ?_) (fun hq2 => ?_)
  · try (exfalso; omega)
    all_goals
      refine tl_want rfl rfl rfl (oj_val (y_move (fe_t rfl)) ?_)
      refine tl_want rfl rfl rfl (oj_val (y_move (fe_t rfl)) ?_)
      refine tl_want rfl rfl rfl (oj_val (y_eq (fe_t rfl) (fe_t rfl)) ?_)
      refine tl_step rfl (oj_val (y_pickt (fe_t rfl) (fe_t rfl)) ?_)
      refine tl_step rfl (oj_val (y_move (fe_t rfl)) ?_)
      refine tl_splitp (d := 47) rfl (fun hq3 => ?_) (fun hq4 => ?_)
      · try (exfalso; omega)
        all_goals
          refine tl_want rfl rfl rfl (oj_val (y_move (fe_t rfl)) ?_)
          refine tl_want rfl rfl rfl (oj_val (y_move (fe_t rfl)) ?_)
          refine tl_want rfl rfl rfl (oj_callv Try.call30 fe_f (fel_cons (fe_t rfl) (fel_cons (fe_t rfl) fel_nil)) (fun w' hS => sameE (la := []) (lb := []) w' Rd.nil Rd.nil rfl rfl (fun k hk => absurd hk (Nat.not_lt_zero _)) (fun k hk => absurd hk (Nat.not_lt_zero _)) (fun k hk => absurd hk (Nat.not_lt_zero _)) rfl rfl rfl (by omega)) ?_)
          refine tl_step rfl (oj_val (y_pickt (fe_t rfl) (fe_t rfl)) ?_)
          refine tl_step rfl (oj_val (y_move (fe_t rfl)) ?_)
          refine tl_want rfl rfl rfl (oj_val (y_ldbA 1 Try.isAgg60 Try.sizeOf60 (fe_t rfl) rfl rfl rfl) ?_)
          refine tl_want rfl rfl rfl (oj_val (y_ldbA 0 Try.isAgg60 Try.sizeOf60 (fe_t rfl) rfl rfl rfl) ?_)
          refine tl_want rfl rfl rfl (oj_callv Try.call31 fe_f (fel_cons (fe_t rfl) (fel_cons (fe_t rfl) fel_nil)) (fun w' hS => pacedE (zs := []) w' Rd.nil Rd.nil rfl rfl rfl rfl (by omega)) ?_)
          refine tl_step rfl (oj_val (y_pickt (fe_t rfl) (fe_t rfl)) ?_)
          refine tl_step rfl (oj_val (y_assign (fe_t rfl)) ?_)
          refine tl_nil ?_
          refine tx_then ?_
          refine tr_ret ?_
          refine tx_ret (res1 Try.results6 (rok_t rfl)) (fun w' hS => ?_)
          exact ⟨ret_bool (by first | rfl | (simp; done)), hS.pick [] _ rfl (by decide)⟩
      · try (exfalso; omega)
        all_goals
          refine tl_skip rfl rfl rfl rfl ?_
          refine tl_skip rfl rfl rfl rfl ?_
          refine tl_skip rfl rfl rfl rfl ?_
          refine tl_step rfl (oj_val (y_pickf (fe_t rfl) fe_c) ?_)
          refine tl_step rfl (oj_val (y_move (fe_t rfl)) ?_)
          refine tl_skip rfl rfl rfl rfl ?_
          refine tl_skip rfl rfl rfl rfl ?_
          refine tl_skip rfl rfl rfl rfl ?_
          refine tl_step rfl (oj_val (y_pickf (fe_t rfl) fe_c) ?_)
          refine tl_step rfl (oj_val (y_assign (fe_t rfl)) ?_)
          refine tl_nil ?_
          refine tx_then ?_
          refine tr_ret ?_
          refine tx_ret (res1 Try.results6 (rok_t rfl)) (fun w' hS => ?_)
          exact ⟨ret_bool (by first | rfl | (simp; done)), hS.pick [] _ rfl (by decide)⟩
  · try (exfalso; omega)
    all_goals
      refine tl_skip rfl rfl rfl rfl ?_
      refine tl_skip rfl rfl rfl rfl ?_
      refine tl_skip rfl rfl rfl rfl ?_
      refine tl_step rfl (oj_val (y_pickf (fe_t rfl) fe_c) ?_)
      refine tl_step rfl (oj_val (y_move (fe_t rfl)) ?_)
      refine tl_skip rfl rfl rfl rfl ?_
      refine tl_skip rfl rfl rfl rfl ?_
      refine tl_skip rfl rfl rfl rfl ?_
      refine tl_step rfl (oj_val (y_pickf (fe_t rfl) fe_c) ?_)
      refine tl_step rfl (oj_val (y_move (fe_t rfl)) ?_)
      refine tl_skip rfl rfl rfl rfl ?_
      refine tl_skip rfl rfl rfl rfl ?_
      refine tl_skip rfl rfl rfl rfl ?_
      refine tl_step rfl (oj_val (y_pickf (fe_t rfl) fe_c) ?_)
      refine tl_step rfl (oj_val (y_assign (fe_t rfl)) ?_)
      refine tl_nil ?_
      refine tx_then ?_
      refine tr_ret ?_
      refine tx_ret (res1 Try.results6 (rok_t rfl)) (fun w' hS => ?_)
      exact ⟨ret_bool (by first | rfl | (simp; done)), hS.pick [] _ rfl (by decide)⟩

end Go.Proofs.Ytpknjfeiiaopgaa.Pace

namespace Go.Proofs.Ytpknjfeiiaopgaa.PacePlays
open Go.RowKit Go.Proofs.Ytpknjfeiiaopgaa.E Go.Proofs.Ytpknjfeiiaopgaa.Pace Go.Proofs.Ytpknjfeiiaopgaa.Bucket

theorem walk (num den burst : Int) (A : Option Addr) (n c : Nat) (l : List (Int × Int)) (w : World) (hr : Rd w A (l.flatMap c2)) (hn : l.length = n) (hm : n ≤ 1048576) :
    Calls Try.prog 6 #[(.int .i64 num), (.int .i64 den), (.int .i64 burst), .slice A n c] w fun e w' => e = .returned (.bool true) ∧ Below w.heap.size w w' := by
  refine to_bel ?_
  cases hg : okb num den burst
  · exact law_bad num den burst A n c w hg
  · have h1 : rng num den burst = true ∧ 1500 ≤ burst := by simpa [okb] using hg
    exact law_ok num den burst A n c l w hr hn hm h1.1 h1.2
end Go.Proofs.Ytpknjfeiiaopgaa.PacePlays
