/- Walk: the reference YPlay. -/
import Derived.Test.YtfcpmcdlgkfolaaDoorPaD
namespace Go.Proofs.YtfcpmcdlgkfolaaDoor.Pace
open Go.RowKit Go.Proofs.YtfcpmcdlgkfolaaDoor.E Go.Proofs.YtfcpmcdlgkfolaaDoor.Ring Go.Proofs.YtfcpmcdlgkfolaaDoor.Bucket

set_option maxRecDepth 100000 in
set_option maxHeartbeats 8000000 in
theorem yplay_ok (num den burst : Int) (A : Option Addr) (n c : Nat) (l : List (Int × Int)) (w : World) (hr : Rd w A (l.flatMap c2)) (hn : l.length = n) (hm : n ≤ 1048576) (hg : rng num den burst = true) (hb : 1500 ≤ burst) :
    Calls Tryd.prog 44 #[(.int .i64 num), (.int .i64 den), (.int .i64 burst), .slice A n c] w fun e w' => ∃ q : Pc × List PA × Vs × Vs, (run (⟨num, den, burst, burst * den, 0⟩ : Bkt) l = (q.1, q.2.1.map PA.a) ∧ q.2.2.1.n = q.1.zs.length ∧ q.2.2.1.xs = cI q.1.zs ∧ q.2.2.2.n = q.2.1.length ∧ q.2.2.2.xs = q.2.1.flatMap cP ∧ q.2.1.length = n) ∧ e = .returned (.tuple #[.slice q.2.2.2.A q.2.2.2.n q.2.2.2.c, .agg #[.slice q.2.2.1.A q.2.2.1.n q.2.2.1.c, (.int .i64 100), (.int .i64 60000), (.int .i64 q.1.drops), (.int .i64 q.1.b.num), (.int .i64 q.1.b.den), (.int .i64 q.1.b.burst), (.int .i64 q.1.b.level), (.int .i64 q.1.b.at0), (.int .i64 q.1.sent)], (.int .i64 0)]) ∧ St w w' [vec 3 1 (.slice q.2.2.1.A q.2.2.1.n q.2.2.1.c) q.2.2.1.n q.2.2.1.xs, vec 49 2 (.slice q.2.2.2.A q.2.2.2.n q.2.2.2.c) q.2.2.2.n q.2.2.2.xs, subs 3 1 (q.2.1.map PA.v)] := by
  have hB := start_right hg
  obtain ⟨⟨e0, e1⟩, ⟨e2, e3⟩, e4, e5⟩ := rng_iff.1 hg
  have hpd := prod_bd e4 e5 e2 e3
  refine calls_tr Tryd.func44 Tryd.ntmps44 rfl rfl (St.refl _) ?_
  refine tr_seq ?_
  refine tr_region ?_
  refine tl_step rfl (oj_val (y_assign fe_c) ?_)
  refine tl_step rfl (oj_alloc Tryd.zeroValue45 (fun rb => ?_))
  refine tl_step rfl (oj_val (y_assign fe_c) ?_)
  refine tl_nil ?_
  refine tx_then ?_
  refine tr_seq ?_
  refine tr_seq ?_
  refine tr_region ?_
  refine tl_step rfl (oj_val (y_move (fe_t rfl)) ?_)
  refine tl_step rfl (oj_val (y_move (fe_t rfl)) ?_)
  refine tl_step rfl (oj_val (y_move (fe_t rfl)) ?_)
  refine tl_step rfl (oj_callv Tryd.call70 fe_f (fel_cons (fe_t rfl) (fel_cons (fe_t rfl) (fel_cons (fe_t rfl) fel_nil))) (fun w' hS => ywrong_K num den burst w' hg hb) ?_)
  refine tl_step rfl (oj_val (y_assign (fe_t rfl)) ?_)
  refine tl_nil ?_
  refine tx_then ?_
  refine tr_seq ?_
  refine tr_region ?_
  refine tl_step rfl (oj_val (y_move (fe_t rfl)) ?_)
  refine tl_step rfl (oj_val (y_neq (fe_t rfl) fe_c) ?_)
  refine tl_nil ?_
  refine tx_then ?_
  refine tr_condp (fe_t rfl) (fun hq1 => ?_) (fun hq2 => ?_)
  · try (exfalso; omega)
    all_goals
      refine tr_seq ?_
      refine tr_region ?_
      refine tl_step rfl (oj_val (y_build (is := []) (vs := []) (cs := [.slice none 0 0, .int .i64 0, .int .i64 0, .int .i64 0, .int .i64 0, .int .i64 0, .int .i64 0, .int .i64 0, .int .i64 0, .int .i64 0]) rfl fel_nil (by kernel_rfl)) ?_)
      refine tl_step rfl (oj_val (y_move (fe_t rfl)) ?_)
      refine tl_step rfl (oj_val (y_assign fe_c) ?_)
      refine tl_step rfl (oj_storeW 0 Tryd.sizeOf45 (fe_t rfl) (fe_t rfl) rfl rfl rfl rfl rfl (?_))
      refine tl_step rfl (oj_val (y_assign (fe_t rfl)) ?_)
      refine tl_nil ?_
      refine tx_then ?_
      refine tr_ret ?_
      refine tx_then_ret ?_
      refine tx_ret (res3 Tryd.results44 (rok_t rfl) (rok_b 0 Tryd.isAgg45 Tryd.sizeOf45 rfl rfl rfl) (rok_t rfl)) (fun w' hS => ?_)
      have hrn := run_end hrun (by omega)
      exact ⟨(s, ans, h, q), ⟨hrn, hhn, hhx, by dsimp only; omega, hqx, by dsimp only; omega⟩, rfl, hS.pick [0, 0, 0] _ rfl (by decide)⟩
  · try (exfalso; omega)
    all_goals
      refine tr_skip ?_
      refine tx_then ?_
      refine tr_seq ?_
      refine tr_region ?_
      refine tl_step rfl (oj_val ((fun {u0 u1} hx hb => y_build (is := [1, 2]) (vs := [u0, u1]) (cs := [.slice none 0 0, u0, u1, .int .i64 0]) rfl hx hb) (fel_cons (fe_c (v := .int .i64 100)) (fel_cons (fe_c (v := .int .i64 60000)) fel_nil)) (by kernel_rfl)) ?_)
      refine tl_step rfl (oj_val (y_move (fe_t rfl)) ?_)
      refine tl_step rfl (oj_val (y_move (fe_t rfl)) ?_)
      refine tl_step rfl (oj_val (y_move (fe_t rfl)) ?_)
      refine tl_step rfl (oj_val (y_move (fe_t rfl)) ?_)
      refine tl_step rfl (oj_val (y_move (fe_t rfl)) ?_)
      refine tl_step rfl (oj_val (y_mul (fe_t rfl) (fe_t rfl) (by omega)) ?_)
      refine tl_step rfl (oj_val ((fun {u0 u1 u2 u3} hx hb => y_build (is := [0, 1, 2, 3]) (vs := [u0, u1, u2, u3]) (cs := [u0, u1, u2, u3, .int .i64 0]) rfl hx hb) (fel_cons (fe_t rfl) (fel_cons (fe_t rfl) (fel_cons (fe_t rfl) (fel_cons (fe_t rfl) fel_nil)))) (by kernel_rfl)) ?_)
      refine tl_step rfl (oj_val (y_build (is := [0, 1]) (vs := [.agg #[.slice none 0 0, (.int .i64 100), (.int .i64 60000), (.int .i64 0)], .agg #[(.int .i64 num), (.int .i64 den), (.int .i64 burst), (.int .i64 (burst * den)), (.int .i64 0)]]) (cs := [.slice none 0 0, (.int .i64 100), (.int .i64 60000), (.int .i64 0), (.int .i64 num), (.int .i64 den), (.int .i64 burst), (.int .i64 (burst * den)), (.int .i64 0), (.int .i64 0)]) rfl (fel_cons (fe_t rfl) (fel_cons (fe_t rfl) fel_nil)) (by kernel_rfl)) ?_)
      refine tl_step rfl (oj_alloc Tryd.zeroValue45 (fun pb => ?_))
      refine tl_step rfl (oj_storeW 0 Tryd.sizeOf45 (fe_t rfl) (fe_t rfl) rfl rfl rfl rfl rfl (?_))
      refine tl_nil ?_
      refine tx_then ?_
      refine tr_seq ?_
      refine tr_region ?_
      refine tl_step rfl (oj_val (y_assign fe_c) ?_)
      refine tl_nil ?_
      refine tx_then ?_
      refine tr_seq ?_
      refine tr_seq ?_
      refine tr_region ?_
      refine tl_step rfl (oj_val (y_move (fe_t rfl)) ?_)
      refine tl_step rfl (oj_val (y_len Tryd.underlying22 (fe_t rfl)) ?_)
      refine tl_step rfl (oj_val (y_move fe_c) ?_)
      refine tl_nil ?_
      refine tx_then ?_
      refine tr_block ?_
      refine tr_add (r := vec 3 1 (.slice none 0 0) 0 []) vec_nil rfl ?_
      refine tr_add (r := subs 3 1 (([] : List PA).map PA.v)) subs_none rfl ?_
      refine tr_add (r := vec 49 2 (.slice none 0 0) 0 []) vec_nil rfl ?_
      refine tr_loop5 [13, 15, 16, 17, 18, 19, 20, 40, 41, 42, 43, 44, 45, 46, 47, 48, 49, 50, 51, 52, 53, 54, 55, 56, 57, 58, 59, 60, 61, 62, 63, 64, 65, 66, 67, 68, 69, 70, 71, 72, 73, 74, 75, 76, 77, 78, 79, 80, 81, 82, 83, 84, 85, 86, 87, 88, 89, 90, 91, 92, 93, 94, 95, 96, 97, 98, 99, 100, 101, 102, 103, 104, 105, 106, 107, 108, 109, 110, 111, 112, 113, 114, 115, 116, 117, 118, 119, 120, 121, 122, 123, 124, 125, 126, 127, 128, 129, 130, 131, 132, 133, 134, 135, 136, 137, 138, 139, 140, 141, 142, 143, 144, 145, 146, 147, 148, 149, 150, 151, 152, 153, 154, 155, 156, 157, 158, 159, 160, 161, 162, 163, 164, 165, 166, 167, 168, 169, 170, 171, 172, 173, 174, 175, 176, 177, 178, 179, 180, 181, 182, 183, 184, 185, 186, 187, 188, 189, 190, 191, 192, 193, 194, 195, 196, 197, 198, 199, 200, 201, 202, 203, 204, 205, 206, 207, 208, 209, 210, 211, 212, 213, 214, 215, 216, 217, 218, 219, 220, 221, 222, 223, 224, 225, 226, 227, 228, 229, 230, 231, 232, 233, 234, 235, 236, 237] (fun (k : Nat) (s : Pc) (ans : List PA) (h : Vs) (q : Vs) => [(40, .int .i64 (k : Int)), (13, .slice q.A q.n q.c)]) 0 (fun (k : Nat) (s : Pc) (ans : List PA) (h : Vs) (q : Vs) => [(3, blk pb [.slice h.A h.n h.c, (.int .i64 100), (.int .i64 60000), (.int .i64 s.drops), (.int .i64 s.b.num), (.int .i64 s.b.den), (.int .i64 s.b.burst), (.int .i64 s.b.level), (.int .i64 s.b.at0), (.int .i64 s.sent)]), (0, vec 49 2 (.slice q.A q.n q.c) q.n q.xs), (2, vec 3 1 (.slice h.A h.n h.c) h.n h.xs), (1, subs 3 1 (ans.map PA.v))]) (fun (k : Nat) (s : Pc) (ans : List PA) (h : Vs) (q : Vs) => k ≤ n ∧ run (⟨num, den, burst, burst * den, 0⟩ : Bkt) (l.take k) = (s, ans.map PA.a) ∧ h.n = s.zs.length ∧ h.xs = cI s.zs ∧ q.n = k ∧ q.xs = ans.flatMap cP ∧ s.b.den = den) (fun (k : Nat) (s : Pc) (ans : List PA) (h : Vs) (q : Vs) => n - k) (0) ((⟨[], 0, (⟨num, den, burst, burst * den, 0⟩ : Bkt), 0⟩ : Pc)) ([]) (⟨none, 0, 0, []⟩ : Vs) (⟨none, 0, 0, []⟩ : Vs) (cov_cons (by first | rfl | exact v_int (by omega) | exact v_bool (by simp [*])) (cov_cons (by first | rfl | exact v_int (by omega) | exact v_bool (by simp [*])) (cov_nil))) (fun w h => h) ?_ ?_
      · try dsimp only
        exact ⟨by omega, rfl, rfl, rfl, rfl, rfl, rfl⟩
      intro k s ans h q hp
      obtain ⟨hk, hrun, hhn, hhx, hqn, hqx, hsd⟩ := hp
      obtain ⟨hgk, hal⟩ := run_gd hB hrun (by omega)
      have hgp := hgk.parts
      have hgd := hgk.d0
      have hge := hgk.d1
      have hgs := hgk.s0
      have hgt := hgk.s1
      have hgb := bparts hgk.b
      refine tr_seq ?_
      refine tr_region ?_
      refine tl_step rfl (oj_val (y_lss (fe_t rfl) (fe_t rfl)) ?_)
      refine tl_nil ?_
      refine tx_then ?_
      refine tr_seq ?_
      refine tr_condp (fe_t rfl) (fun hq3 => ?_) (fun hq4 => ?_)
      · try (exfalso; omega)
        all_goals
          refine tr_skip ?_
          refine tx_then ?_
          refine tr_seq ?_
          refine tr_block ?_
          refine tr_seq ?_
          refine tr_region ?_
          refine tl_step rfl (oj_val (y_index Tryd.underlying22 Tryd.sizeOf52 (fe_t rfl) (fe_t rfl) (rdl_out hr) (lenF (fun _ => rfl) hn) (by decide) (by omega) rfl) ?_)
          refine tl_step rfl (oj_val (y_ldA Tryd.isAgg52 Tryd.sizeOf52 (fe_t rfl) (rdl_out hr) rfl (by decide) (getF (c := c2) (l := l) (fun _ => rfl) (by omega))) ?_)
          refine tl_step rfl (oj_alloc Tryd.zeroValue52 (fun ob => ?_))
          refine tl_step rfl (oj_storeW 0 Tryd.sizeOf52 (fe_t rfl) (fe_t rfl) rfl rfl rfl rfl rfl (?_))
          refine tl_nil ?_
          refine tx_then ?_
          refine tr_seq ?_
          refine tr_add (r := vec 3 1 (.slice none 0 0) 0 []) vec_nil rfl ?_
          refine tr_region ?_
          refine tl_step rfl (oj_val (y_build (is := []) (vs := []) (cs := [.int .i64 0, .slice none 0 0]) rfl fel_nil (by kernel_rfl)) ?_)
          refine tl_step rfl (oj_alloc Tryd.zeroValue49 (fun ab => ?_))
          refine tl_step rfl (oj_storeW 0 Tryd.sizeOf49 (fe_t rfl) (fe_t rfl) rfl rfl rfl rfl rfl (?_))
          refine tl_nil ?_
          refine tx_then ?_
          refine tr_seq ?_
          refine tr_region ?_
          refine tl_step rfl (oj_val (y_fieldAddr (td := 41) Tryd.underlying45 rfl rfl Tryd.sizeOf41 (o' := 0) rfl (fe_t rfl)) ?_)
          refine tl_step rfl (oj_val (y_assign (fe_t rfl)) ?_)
          refine tl_nil ?_
          refine tx_then ?_
          refine tr_seq ?_
          refine tr_block ?_
          refine tr_cut1 [117, 118, 119, 120, 121, 122, 123, 124, 125] (fun (p : Bool) => [(117, .bool p)]) 0 (fun (p : Bool) => []) (fun (p : Bool) => (p = true → ((l[k]'(by omega)).1 < 1 ∨ 3 < (l[k]'(by omega)).1)) ∧ (p = false → ¬ (((l[k]'(by omega)).1 < 1 ∨ 3 < (l[k]'(by omega)).1)))) ?_ ?_
          · refine tr_region ?_
            refine tl_step rfl (oj_val (y_fieldAddr (td := 3) Tryd.underlying52 rfl rfl Tryd.sizeOf3 (o' := 0) rfl (fe_t rfl)) ?_)
            refine tl_step rfl (oj_val (y_ldb 2 Tryd.isAgg3 (fe_t rfl) rfl rfl) ?_)
            refine tl_step rfl (oj_val (y_lss (fe_t rfl) fe_c) ?_)
            refine tl_step rfl (oj_val (y_move (fe_t rfl)) ?_)
            refine tl_splitp (d := 121) rfl (fun hq5 => ?_) (fun hq6 => ?_)
            · try (exfalso; omega)
              all_goals
                refine tl_skip rfl rfl rfl rfl ?_
                refine tl_skip rfl rfl rfl rfl ?_
                refine tl_skip rfl rfl rfl rfl ?_
                refine tl_step rfl (oj_val (y_pickt (fe_t rfl) fe_c) ?_)
                refine tl_step rfl (oj_val (y_assign (fe_t rfl)) ?_)
                refine tl_nil ?_
                apply tx_back1 (_)
                · exact (cov_cons (by first | rfl | exact v_int (by omega) | exact v_bool (by simp [*])) (cov_nil))
                · repeat (first | exact over_nil | refine over_put rfl ?_ | refine over_drop rfl ?_)
                · exact fun w h => h.pick [0, 1, 2, 3, 4, 5, 6, 7] _ rfl (by decide)
                · refine ⟨fun h9 => ?_, fun h9 => ?_⟩ <;> first | omega | (simp only [decide_eq_true_eq, decide_eq_false_iff_not] at h9; omega) | exact absurd h9 (by decide)
            · try (exfalso; omega)
              all_goals
                refine tl_want rfl rfl rfl (oj_val (y_fieldAddr (td := 3) Tryd.underlying52 rfl rfl Tryd.sizeOf3 (o' := 0) rfl (fe_t rfl)) ?_)
                refine tl_want rfl rfl rfl (oj_val (y_ldb 2 Tryd.isAgg3 (fe_t rfl) rfl rfl) ?_)
                refine tl_want rfl rfl rfl (oj_val (y_gtr (fe_t rfl) fe_c) ?_)
                refine tl_step rfl (oj_val (y_pickf (fe_t rfl) (fe_t rfl)) ?_)
                refine tl_step rfl (oj_val (y_assign (fe_t rfl)) ?_)
                refine tl_nil ?_
                apply tx_back1 (_)
                · exact (cov_cons (by first | rfl | exact v_int (by omega) | exact v_bool (by simp [*])) (cov_nil))
                · repeat (first | exact over_nil | refine over_put rfl ?_ | refine over_drop rfl ?_)
                · exact fun w h => h.pick [0, 1, 2, 3, 4, 5, 6, 7] _ rfl (by decide)
                · refine ⟨fun h9 => ?_, fun h9 => ?_⟩ <;> first | omega | (simp only [decide_eq_true_eq, decide_eq_false_iff_not] at h9; omega) | exact absurd h9 (by decide)
          · intro p hp
            obtain ⟨hpt117, hpf117⟩ := hp
            refine tr_cond (fe_t rfl) (fun hq7 => ?_) (fun hq8 => ?_)
            · try (exfalso; omega)
              all_goals
                have hK117 := hpt117 hq7
                refine tr_region ?_
                refine tl_step rfl (oj_val (y_fieldAddr (td := 25) Tryd.underlying49 rfl rfl Tryd.sizeOf25 (o' := 0) rfl (fe_t rfl)) ?_)
                refine tl_step rfl (oj_store1 0 Tryd.sizeOf25 (fe_t rfl) fe_c rfl rfl rfl rfl (?_))
                refine tl_nil ?_
                refine tx_in ?_
                refine tx_then ?_
                have hdo : does s (l[k]'(by omega)).1 (l[k]'(by omega)).2 = (s, 5, []) := does_k (by omega)
                refine tr_region ?_
                refine tl_step rfl (oj_val (y_move (fe_t rfl)) ?_)
                refine tl_step rfl (oj_val (y_ldbA 0 Tryd.isAgg49 Tryd.sizeOf49 (fe_t rfl) rfl rfl rfl) ?_)
                refine tl_step rfl (oj_slice1 Tryd.underlying38 Tryd.sizeOf49 Tryd.zeroValue49 (fe_t rfl) (by decide) rfl (fun b1 => ?_))
                refine tl_step rfl (oj_append (i := 4) (s := 2) (z := (.agg #[.int .i64 0, .slice none 0 0])) (bytes := 32) Tryd.underlying38 (by kernel_rfl) (fe_t rfl) (fe_t rfl) rfl (rdl_blk 0 rfl) rfl (by decide) (by first | exact oneI | exact oneF (fun _ => rfl) | exact fun u hu => List.all_eq_true.1 (show List.all _ (fun x => x.oneCell') = true from rfl) u hu | (intro u hu; revert u hu; simp [Value.oneCell'])) (by decide) ⟨by omega, by decide⟩ (fun Aa1 ca1 hca1 => ?_))
                refine tl_step rfl (oj_val (y_assign (fe_t rfl)) ?_)
                refine tl_nil ?_
                refine tx_in ?_
                refine tx_then ?_
                refine tr_subPush (vs' := (ans ++ [(⟨5, none, 0, []⟩ : PA)]).map PA.v) 2 5 rfl rfl rfl (by rw [List.map_append, List.map_cons, List.map_nil]; rfl) ?_
                refine tr_region ?_
                refine tl_step rfl (oj_val (y_inc (fe_t rfl) fe_c (by omega)) ?_)
                refine tl_step rfl (oj_val (y_move (fe_t rfl)) ?_)
                refine tl_nil ?_
                apply tx_back5 (k + 1) (s) (ans ++ [(⟨5, none, 0, []⟩ : PA)]) ((⟨_, _, _, _⟩ : Vs)) ((⟨_, _, _, _⟩ : Vs))
                · exact (cov_cons (by first | rfl | exact v_int (by omega) | exact v_bool (by simp [*])) (cov_cons (by first | rfl | exact v_int (by omega) | exact v_bool (by simp [*])) (cov_nil)))
                · repeat (first | exact over_nil | refine over_put rfl ?_ | refine over_drop rfl ?_)
                · exact fun w h => h.pick [4, 5, 6, 7, 8] _ rfl (by decide)
                · refine ⟨⟨by omega, ?_, ?_, ?_, by dsimp only; omega, ?_, ?_⟩, by omega⟩
                  · have h1 := run_next hrun (by omega) (⟨5, none, 0, []⟩ : PA) (by rw [hdo]; rfl)
                    rw [hdo] at h1
                    exact h1
                  · first | exact hgn | exact hhn | (dsimp only; simp; omega)
                  · first | exact hgx | exact hhx | (dsimp only; rw [hhx]; simp [cI, zc])
                  · dsimp only
                    rw [hqx, List.flatMap_append]
                    first | (simp [cP, zc]; done) | (simp [cP, zc]; omega)
                  · first | exact hsd | exact hdn
            · try (exfalso; omega)
              all_goals
                have hK117 := hpf117 hq8
                refine tr_cut1 [127, 128, 129, 130, 131, 132, 133, 134, 135, 136, 137, 138, 139, 140, 141, 142, 143, 144, 145, 146, 147, 148, 149, 150, 151, 152, 153, 154, 155, 156, 157, 158, 159, 160, 161, 162, 163, 164, 165] (fun (p : Bool) => [(127, .bool p)]) 0 (fun (p : Bool) => []) (fun (p : Bool) => (p = true → ((l[k]'(by omega)).2 < 0 ∨ ((l[k]'(by omega)).1 = 1 ∧ ((l[k]'(by omega)).2 < 1 ∨ 1500 < (l[k]'(by omega)).2)) ∨ ((l[k]'(by omega)).1 = 2 ∧ 1099511627776 < (l[k]'(by omega)).2) ∨ ((l[k]'(by omega)).1 = 3 ∧ 1073741824 < (l[k]'(by omega)).2))) ∧ (p = false → ¬ (((l[k]'(by omega)).2 < 0 ∨ ((l[k]'(by omega)).1 = 1 ∧ ((l[k]'(by omega)).2 < 1 ∨ 1500 < (l[k]'(by omega)).2)) ∨ ((l[k]'(by omega)).1 = 2 ∧ 1099511627776 < (l[k]'(by omega)).2) ∨ ((l[k]'(by omega)).1 = 3 ∧ 1073741824 < (l[k]'(by omega)).2))))) ?_ ?_
                · refine tr_region ?_
                  refine tl_step rfl (oj_val (y_fieldAddr (td := 3) Tryd.underlying52 rfl rfl Tryd.sizeOf3 (o' := 1) rfl (fe_t rfl)) ?_)
                  refine tl_step rfl (oj_val (y_ldb 2 Tryd.isAgg3 (fe_t rfl) rfl rfl) ?_)
                  refine tl_step rfl (oj_val (y_lss (fe_t rfl) fe_c) ?_)
                  refine tl_step rfl (oj_val (y_move (fe_t rfl)) ?_)
                  refine tl_splitp (d := 131) rfl (fun hq9 => ?_) (fun hq10 => ?_)
                  · try (exfalso; omega)
                    all_goals
                      refine tl_skip rfl rfl rfl rfl ?_
                      refine tl_skip rfl rfl rfl rfl ?_
                      refine tl_skip rfl rfl rfl rfl ?_
                      refine tl_skip rfl rfl rfl rfl ?_
                      refine tl_skip rfl rfl rfl rfl ?_
                      refine tl_skip rfl rfl rfl rfl ?_
                      refine tl_skip rfl rfl rfl rfl ?_
                      refine tl_skip rfl rfl rfl rfl ?_
                      refine tl_skip rfl rfl rfl rfl ?_
                      refine tl_skip rfl rfl rfl rfl ?_
                      refine tl_skip rfl rfl rfl rfl ?_
                      refine tl_skip rfl rfl rfl rfl ?_
                      refine tl_skip rfl rfl rfl rfl ?_
                      refine tl_step rfl (oj_val (y_pickt (fe_t rfl) fe_c) ?_)
                      refine tl_step rfl (oj_val (y_move (fe_t rfl)) ?_)
                      refine tl_skip rfl rfl rfl rfl ?_
                      refine tl_skip rfl rfl rfl rfl ?_
                      refine tl_skip rfl rfl rfl rfl ?_
                      refine tl_skip rfl rfl rfl rfl ?_
                      refine tl_skip rfl rfl rfl rfl ?_
                      refine tl_skip rfl rfl rfl rfl ?_
                      refine tl_skip rfl rfl rfl rfl ?_
                      refine tl_skip rfl rfl rfl rfl ?_
                      refine tl_step rfl (oj_val (y_pickt (fe_t rfl) fe_c) ?_)
                      refine tl_step rfl (oj_val (y_move (fe_t rfl)) ?_)
                      refine tl_skip rfl rfl rfl rfl ?_
                      refine tl_skip rfl rfl rfl rfl ?_
                      refine tl_skip rfl rfl rfl rfl ?_
                      refine tl_skip rfl rfl rfl rfl ?_
                      refine tl_skip rfl rfl rfl rfl ?_
                      refine tl_skip rfl rfl rfl rfl ?_
                      refine tl_skip rfl rfl rfl rfl ?_
                      refine tl_skip rfl rfl rfl rfl ?_
                      refine tl_step rfl (oj_val (y_pickt (fe_t rfl) fe_c) ?_)
                      refine tl_step rfl (oj_val (y_assign (fe_t rfl)) ?_)
                      refine tl_nil ?_
                      apply tx_back1 (_)
                      · exact (cov_cons (by first | rfl | exact v_int (by omega) | exact v_bool (by simp [*])) (cov_nil))
                      · repeat (first | exact over_nil | refine over_put rfl ?_ | refine over_drop rfl ?_)
                      · exact fun w h => h.pick [0, 1, 2, 3, 4, 5, 6, 7] _ rfl (by decide)
                      · refine ⟨fun h9 => ?_, fun h9 => ?_⟩ <;> first | omega | (simp only [decide_eq_true_eq, decide_eq_false_iff_not] at h9; omega) | exact absurd h9 (by decide)
                  · try (exfalso; omega)
                    all_goals
                      refine tl_want rfl rfl rfl (oj_val (y_fieldAddr (td := 3) Tryd.underlying52 rfl rfl Tryd.sizeOf3 (o' := 0) rfl (fe_t rfl)) ?_)
                      refine tl_want rfl rfl rfl (oj_val (y_ldb 2 Tryd.isAgg3 (fe_t rfl) rfl rfl) ?_)
                      refine tl_want rfl rfl rfl (oj_val (y_eq (fe_t rfl) fe_c) ?_)
                      refine tl_want rfl rfl rfl (oj_val (y_move (fe_t rfl)) ?_)
                      refine tl_splitp (d := 135) rfl (fun hq11 => ?_) (fun hq12 => ?_)
                      · try (exfalso; omega)
                        all_goals
                          refine tl_want rfl rfl rfl (oj_val (y_fieldAddr (td := 3) Tryd.underlying52 rfl rfl Tryd.sizeOf3 (o' := 1) rfl (fe_t rfl)) ?_)
                          refine tl_want rfl rfl rfl (oj_val (y_ldb 2 Tryd.isAgg3 (fe_t rfl) rfl rfl) ?_)
                          refine tl_want rfl rfl rfl (oj_val (y_eq (fe_t rfl) fe_c) ?_)
                          refine tl_want rfl rfl rfl (oj_val (y_move (fe_t rfl)) ?_)
                          refine tl_splitp (d := 139) rfl (fun hq13 => ?_) (fun hq14 => ?_)
                          · try (exfalso; omega)
                            all_goals
                              refine tl_skip rfl rfl rfl rfl ?_
                              refine tl_skip rfl rfl rfl rfl ?_
                              refine tl_skip rfl rfl rfl rfl ?_
                              refine tl_want rfl rfl rfl (oj_val (y_pickt (fe_t rfl) fe_c) ?_)
                              refine tl_want rfl rfl rfl (oj_val (y_pickt (fe_t rfl) (fe_t rfl)) ?_)
                              refine tl_step rfl (oj_val (y_pickf (fe_t rfl) (fe_t rfl)) ?_)
                              refine tl_step rfl (oj_val (y_move (fe_t rfl)) ?_)
                              refine tl_skip rfl rfl rfl rfl ?_
                              refine tl_skip rfl rfl rfl rfl ?_
                              refine tl_skip rfl rfl rfl rfl ?_
                              refine tl_skip rfl rfl rfl rfl ?_
                              refine tl_skip rfl rfl rfl rfl ?_
                              refine tl_skip rfl rfl rfl rfl ?_
                              refine tl_skip rfl rfl rfl rfl ?_
                              refine tl_skip rfl rfl rfl rfl ?_
                              refine tl_step rfl (oj_val (y_pickt (fe_t rfl) fe_c) ?_)
                              refine tl_step rfl (oj_val (y_move (fe_t rfl)) ?_)
                              refine tl_skip rfl rfl rfl rfl ?_
                              refine tl_skip rfl rfl rfl rfl ?_
                              refine tl_skip rfl rfl rfl rfl ?_
                              refine tl_skip rfl rfl rfl rfl ?_
                              refine tl_skip rfl rfl rfl rfl ?_
                              refine tl_skip rfl rfl rfl rfl ?_
                              refine tl_skip rfl rfl rfl rfl ?_
                              refine tl_skip rfl rfl rfl rfl ?_
                              refine tl_step rfl (oj_val (y_pickt (fe_t rfl) fe_c) ?_)
                              refine tl_step rfl (oj_val (y_assign (fe_t rfl)) ?_)
                              refine tl_nil ?_
                              apply tx_back1 (_)
                              · exact (cov_cons (by first | rfl | exact v_int (by omega) | exact v_bool (by simp [*])) (cov_nil))
                              · repeat (first | exact over_nil | refine over_put rfl ?_ | refine over_drop rfl ?_)
                              · exact fun w h => h.pick [0, 1, 2, 3, 4, 5, 6, 7] _ rfl (by decide)
                              · refine ⟨fun h9 => ?_, fun h9 => ?_⟩ <;> first | omega | (simp only [decide_eq_true_eq, decide_eq_false_iff_not] at h9; omega) | exact absurd h9 (by decide)
                          · try (exfalso; omega)
                            all_goals
                              refine tl_want rfl rfl rfl (oj_val (y_fieldAddr (td := 3) Tryd.underlying52 rfl rfl Tryd.sizeOf3 (o' := 1) rfl (fe_t rfl)) ?_)
                              refine tl_want rfl rfl rfl (oj_val (y_ldb 2 Tryd.isAgg3 (fe_t rfl) rfl rfl) ?_)
                              refine tl_want rfl rfl rfl (oj_val (y_gtr (fe_t rfl) fe_c) ?_)
                              refine tl_want rfl rfl rfl (oj_val (y_pickf (fe_t rfl) (fe_t rfl)) ?_)
                              refine tl_want rfl rfl rfl (oj_val (y_pickt (fe_t rfl) (fe_t rfl)) ?_)
                              refine tl_step rfl (oj_val (y_pickf (fe_t rfl) (fe_t rfl)) ?_)
                              refine tl_step rfl (oj_val (y_move (fe_t rfl)) ?_)
                              refine tl_splitp (d := 146) rfl (fun hq15 => ?_) (fun hq16 => ?_)
                              · try (exfalso; omega)
                                all_goals
                                  refine tl_skip rfl rfl rfl rfl ?_
                                  refine tl_skip rfl rfl rfl rfl ?_
                                  refine tl_skip rfl rfl rfl rfl ?_
                                  refine tl_skip rfl rfl rfl rfl ?_
                                  refine tl_skip rfl rfl rfl rfl ?_
                                  refine tl_skip rfl rfl rfl rfl ?_
                                  refine tl_skip rfl rfl rfl rfl ?_
                                  refine tl_skip rfl rfl rfl rfl ?_
                                  refine tl_step rfl (oj_val (y_pickt (fe_t rfl) fe_c) ?_)
                                  refine tl_step rfl (oj_val (y_move (fe_t rfl)) ?_)
                                  refine tl_skip rfl rfl rfl rfl ?_
                                  refine tl_skip rfl rfl rfl rfl ?_
                                  refine tl_skip rfl rfl rfl rfl ?_
                                  refine tl_skip rfl rfl rfl rfl ?_
                                  refine tl_skip rfl rfl rfl rfl ?_
                                  refine tl_skip rfl rfl rfl rfl ?_
                                  refine tl_skip rfl rfl rfl rfl ?_
                                  refine tl_skip rfl rfl rfl rfl ?_
                                  refine tl_step rfl (oj_val (y_pickt (fe_t rfl) fe_c) ?_)
                                  refine tl_step rfl (oj_val (y_assign (fe_t rfl)) ?_)
                                  refine tl_nil ?_
                                  apply tx_back1 (_)
                                  · exact (cov_cons (by first | rfl | exact v_int (by omega) | exact v_bool (by simp [*])) (cov_nil))
                                  · repeat (first | exact over_nil | refine over_put rfl ?_ | refine over_drop rfl ?_)
                                  · exact fun w h => h.pick [0, 1, 2, 3, 4, 5, 6, 7] _ rfl (by decide)
                                  · refine ⟨fun h9 => ?_, fun h9 => ?_⟩ <;> first | omega | (simp only [decide_eq_true_eq, decide_eq_false_iff_not] at h9; omega) | exact absurd h9 (by decide)
                              · try (exfalso; omega)
                                all_goals
                                  refine tl_want rfl rfl rfl (oj_val (y_fieldAddr (td := 3) Tryd.underlying52 rfl rfl Tryd.sizeOf3 (o' := 0) rfl (fe_t rfl)) ?_)
                                  refine tl_want rfl rfl rfl (oj_val (y_ldb 2 Tryd.isAgg3 (fe_t rfl) rfl rfl) ?_)
                                  refine tl_want rfl rfl rfl (oj_val (y_eq (fe_t rfl) fe_c) ?_)
                                  refine tl_want rfl rfl rfl (oj_val (y_move (fe_t rfl)) ?_)
                                  refine tl_splitp (d := 150) rfl (fun hq17 => ?_) (fun hq18 => ?_)
                                  · try (exfalso; omega)
                                    all_goals
                                      refine tl_want rfl rfl rfl (oj_val (y_fieldAddr (td := 3) Tryd.underlying52 rfl rfl Tryd.sizeOf3 (o' := 1) rfl (fe_t rfl)) ?_)
                                      refine tl_want rfl rfl rfl (oj_val (y_ldb 2 Tryd.isAgg3 (fe_t rfl) rfl rfl) ?_)
                                      refine tl_want rfl rfl rfl (oj_val (y_gtr (fe_t rfl) fe_c) ?_)
                                      refine tl_want rfl rfl rfl (oj_val (y_pickt (fe_t rfl) (fe_t rfl)) ?_)
                                      refine tl_step rfl (oj_val (y_pickf (fe_t rfl) (fe_t rfl)) ?_)
                                      refine tl_step rfl (oj_val (y_move (fe_t rfl)) ?_)
                                      refine tl_splitp (d := 156) rfl (fun hq19 => ?_) (fun hq20 => ?_)
                                      · try (exfalso; omega)
                                        all_goals
                                          refine tl_skip rfl rfl rfl rfl ?_
                                          refine tl_skip rfl rfl rfl rfl ?_
                                          refine tl_skip rfl rfl rfl rfl ?_
                                          refine tl_skip rfl rfl rfl rfl ?_
                                          refine tl_skip rfl rfl rfl rfl ?_
                                          refine tl_skip rfl rfl rfl rfl ?_
                                          refine tl_skip rfl rfl rfl rfl ?_
                                          refine tl_skip rfl rfl rfl rfl ?_
                                          refine tl_step rfl (oj_val (y_pickt (fe_t rfl) fe_c) ?_)
                                          refine tl_step rfl (oj_val (y_assign (fe_t rfl)) ?_)
                                          refine tl_nil ?_
                                          apply tx_back1 (_)
                                          · exact (cov_cons (by first | rfl | exact v_int (by omega) | exact v_bool (by simp [*])) (cov_nil))
                                          · repeat (first | exact over_nil | refine over_put rfl ?_ | refine over_drop rfl ?_)
                                          · exact fun w h => h.pick [0, 1, 2, 3, 4, 5, 6, 7] _ rfl (by decide)
                                          · refine ⟨fun h9 => ?_, fun h9 => ?_⟩ <;> first | omega | (simp only [decide_eq_true_eq, decide_eq_false_iff_not] at h9; omega) | exact absurd h9 (by decide)
                                      · try (exfalso; omega)
                                        all_goals
                                          refine tl_want rfl rfl rfl (oj_val (y_fieldAddr (td := 3) Tryd.underlying52 rfl rfl Tryd.sizeOf3 (o' := 0) rfl (fe_t rfl)) ?_)
                                          refine tl_want rfl rfl rfl (oj_val (y_ldb 2 Tryd.isAgg3 (fe_t rfl) rfl rfl) ?_)
                                          refine tl_want rfl rfl rfl (oj_val (y_eq (fe_t rfl) fe_c) ?_)
                                          refine tl_want rfl rfl rfl (oj_val (y_move (fe_t rfl)) ?_)
                                          refine tl_splitp (d := 160) rfl (fun hq21 => ?_) (fun hq22 => ?_)
                                          · try (exfalso; omega)
                                            all_goals
                                              refine tl_want rfl rfl rfl (oj_val (y_fieldAddr (td := 3) Tryd.underlying52 rfl rfl Tryd.sizeOf3 (o' := 1) rfl (fe_t rfl)) ?_)
                                              refine tl_want rfl rfl rfl (oj_val (y_ldb 2 Tryd.isAgg3 (fe_t rfl) rfl rfl) ?_)
                                              refine tl_want rfl rfl rfl (oj_val (y_gtr (fe_t rfl) fe_c) ?_)
                                              refine tl_want rfl rfl rfl (oj_val (y_pickt (fe_t rfl) (fe_t rfl)) ?_)
                                              refine tl_step rfl (oj_val (y_pickf (fe_t rfl) (fe_t rfl)) ?_)
                                              refine tl_step rfl (oj_val (y_assign (fe_t rfl)) ?_)
                                              refine tl_nil ?_
                                              apply tx_back1 (_)
                                              · exact (cov_cons (by first | rfl | exact v_int (by omega) | exact v_bool (by simp [*])) (cov_nil))
                                              · repeat (first | exact over_nil | refine over_put rfl ?_ | refine over_drop rfl ?_)
                                              · exact fun w h => h.pick [0, 1, 2, 3, 4, 5, 6, 7] _ rfl (by decide)
                                              · refine ⟨fun h9 => ?_, fun h9 => ?_⟩ <;> first | omega | (simp only [decide_eq_true_eq, decide_eq_false_iff_not] at h9; omega) | exact absurd h9 (by decide)
                                          · try (exfalso; omega)
                                            all_goals
                                              refine tl_skip rfl rfl rfl rfl ?_
                                              refine tl_skip rfl rfl rfl rfl ?_
                                              refine tl_skip rfl rfl rfl rfl ?_
                                              refine tl_want rfl rfl rfl (oj_val (y_pickf (fe_t rfl) fe_c) ?_)
                                              refine tl_step rfl (oj_val (y_pickf (fe_t rfl) (fe_t rfl)) ?_)
                                              refine tl_step rfl (oj_val (y_assign (fe_t rfl)) ?_)
                                              refine tl_nil ?_
                                              apply tx_back1 (_)
                                              · exact (cov_cons (by first | rfl | exact v_int (by omega) | exact v_bool (by simp [*])) (cov_nil))
                                              · repeat (first | exact over_nil | refine over_put rfl ?_ | refine over_drop rfl ?_)
                                              · exact fun w h => h.pick [0, 1, 2, 3, 4, 5, 6, 7] _ rfl (by decide)
                                              · refine ⟨fun h9 => ?_, fun h9 => ?_⟩ <;> first | omega | (simp only [decide_eq_true_eq, decide_eq_false_iff_not] at h9; omega) | exact absurd h9 (by decide)
                                  · try (exfalso; omega)
                                    all_goals
                                      refine tl_skip rfl rfl rfl rfl ?_
                                      refine tl_skip rfl rfl rfl rfl ?_
                                      refine tl_skip rfl rfl rfl rfl ?_
                                      refine tl_want rfl rfl rfl (oj_val (y_pickf (fe_t rfl) fe_c) ?_)
                                      refine tl_step rfl (oj_val (y_pickf (fe_t rfl) (fe_t rfl)) ?_)
                                      refine tl_step rfl (oj_val (y_move (fe_t rfl)) ?_)
                                      refine tl_want rfl rfl rfl (oj_val (y_fieldAddr (td := 3) Tryd.underlying52 rfl rfl Tryd.sizeOf3 (o' := 0) rfl (fe_t rfl)) ?_)
                                      refine tl_want rfl rfl rfl (oj_val (y_ldb 2 Tryd.isAgg3 (fe_t rfl) rfl rfl) ?_)
                                      refine tl_want rfl rfl rfl (oj_val (y_eq (fe_t rfl) fe_c) ?_)
                                      refine tl_want rfl rfl rfl (oj_val (y_move (fe_t rfl)) ?_)
                                      refine tl_splitp (d := 160) rfl (fun hq23 => ?_) (fun hq24 => ?_)
                                      · try (exfalso; omega)
                                        all_goals
                                          refine tl_want rfl rfl rfl (oj_val (y_fieldAddr (td := 3) Tryd.underlying52 rfl rfl Tryd.sizeOf3 (o' := 1) rfl (fe_t rfl)) ?_)
                                          refine tl_want rfl rfl rfl (oj_val (y_ldb 2 Tryd.isAgg3 (fe_t rfl) rfl rfl) ?_)
                                          refine tl_want rfl rfl rfl (oj_val (y_gtr (fe_t rfl) fe_c) ?_)
                                          refine tl_want rfl rfl rfl (oj_val (y_pickt (fe_t rfl) (fe_t rfl)) ?_)
                                          refine tl_step rfl (oj_val (y_pickf (fe_t rfl) (fe_t rfl)) ?_)
                                          refine tl_step rfl (oj_val (y_assign (fe_t rfl)) ?_)
                                          refine tl_nil ?_
                                          apply tx_back1 (_)
                                          · exact (cov_cons (by first | rfl | exact v_int (by omega) | exact v_bool (by simp [*])) (cov_nil))
                                          · repeat (first | exact over_nil | refine over_put rfl ?_ | refine over_drop rfl ?_)
                                          · exact fun w h => h.pick [0, 1, 2, 3, 4, 5, 6, 7] _ rfl (by decide)
                                          · refine ⟨fun h9 => ?_, fun h9 => ?_⟩ <;> first | omega | (simp only [decide_eq_true_eq, decide_eq_false_iff_not] at h9; omega) | exact absurd h9 (by decide)
                                      · try (exfalso; omega)
                                        all_goals
                                          refine tl_skip rfl rfl rfl rfl ?_
                                          refine tl_skip rfl rfl rfl rfl ?_
                                          refine tl_skip rfl rfl rfl rfl ?_
                                          refine tl_want rfl rfl rfl (oj_val (y_pickf (fe_t rfl) fe_c) ?_)
                                          refine tl_step rfl (oj_val (y_pickf (fe_t rfl) (fe_t rfl)) ?_)
                                          refine tl_step rfl (oj_val (y_assign (fe_t rfl)) ?_)
                                          refine tl_nil ?_
                                          apply tx_back1 (_)
                                          · exact (cov_cons (by first | rfl | exact v_int (by omega) | exact v_bool (by simp [*])) (cov_nil))
                                          · repeat (first | exact over_nil | refine over_put rfl ?_ | refine over_drop rfl ?_)
                                          · exact fun w h => h.pick [0, 1, 2, 3, 4, 5, 6, 7] _ rfl (by decide)
                                          · refine ⟨fun h9 => ?_, fun h9 => ?_⟩ <;> first | omega | (simp only [decide_eq_true_eq, decide_eq_false_iff_not] at h9; omega) | exact absurd h9 (by decide)
                      · try (exfalso; omega)
                        all_goals
                          refine tl_skip rfl rfl rfl rfl ?_
                          refine tl_skip rfl rfl rfl rfl ?_
                          refine tl_skip rfl rfl rfl rfl ?_
                          refine tl_skip rfl rfl rfl rfl ?_
                          refine tl_skip rfl rfl rfl rfl ?_
                          refine tl_skip rfl rfl rfl rfl ?_
                          refine tl_skip rfl rfl rfl rfl ?_
                          refine tl_skip rfl rfl rfl rfl ?_
                          refine tl_want rfl rfl rfl (oj_val (y_pickf (fe_t rfl) fe_c) ?_)
                          refine tl_step rfl (oj_val (y_pickf (fe_t rfl) (fe_t rfl)) ?_)
                          refine tl_step rfl (oj_val (y_move (fe_t rfl)) ?_)
                          refine tl_want rfl rfl rfl (oj_val (y_fieldAddr (td := 3) Tryd.underlying52 rfl rfl Tryd.sizeOf3 (o' := 0) rfl (fe_t rfl)) ?_)
                          refine tl_want rfl rfl rfl (oj_val (y_ldb 2 Tryd.isAgg3 (fe_t rfl) rfl rfl) ?_)
                          refine tl_want rfl rfl rfl (oj_val (y_eq (fe_t rfl) fe_c) ?_)
                          refine tl_want rfl rfl rfl (oj_val (y_move (fe_t rfl)) ?_)
                          refine tl_splitp (d := 150) rfl (fun hq25 => ?_) (fun hq26 => ?_)
                          · try (exfalso; omega)
                            all_goals
                              refine tl_want rfl rfl rfl (oj_val (y_fieldAddr (td := 3) Tryd.underlying52 rfl rfl Tryd.sizeOf3 (o' := 1) rfl (fe_t rfl)) ?_)
                              refine tl_want rfl rfl rfl (oj_val (y_ldb 2 Tryd.isAgg3 (fe_t rfl) rfl rfl) ?_)
                              refine tl_want rfl rfl rfl (oj_val (y_gtr (fe_t rfl) fe_c) ?_)
                              refine tl_want rfl rfl rfl (oj_val (y_pickt (fe_t rfl) (fe_t rfl)) ?_)
                              refine tl_step rfl (oj_val (y_pickf (fe_t rfl) (fe_t rfl)) ?_)
                              refine tl_step rfl (oj_val (y_move (fe_t rfl)) ?_)
                              refine tl_splitp (d := 156) rfl (fun hq27 => ?_) (fun hq28 => ?_)
                              · try (exfalso; omega)
                                all_goals
                                  refine tl_skip rfl rfl rfl rfl ?_
                                  refine tl_skip rfl rfl rfl rfl ?_
                                  refine tl_skip rfl rfl rfl rfl ?_
                                  refine tl_skip rfl rfl rfl rfl ?_
                                  refine tl_skip rfl rfl rfl rfl ?_
                                  refine tl_skip rfl rfl rfl rfl ?_
                                  refine tl_skip rfl rfl rfl rfl ?_
                                  refine tl_skip rfl rfl rfl rfl ?_
                                  refine tl_step rfl (oj_val (y_pickt (fe_t rfl) fe_c) ?_)
                                  refine tl_step rfl (oj_val (y_assign (fe_t rfl)) ?_)
                                  refine tl_nil ?_
                                  apply tx_back1 (_)
                                  · exact (cov_cons (by first | rfl | exact v_int (by omega) | exact v_bool (by simp [*])) (cov_nil))
                                  · repeat (first | exact over_nil | refine over_put rfl ?_ | refine over_drop rfl ?_)
                                  · exact fun w h => h.pick [0, 1, 2, 3, 4, 5, 6, 7] _ rfl (by decide)
                                  · refine ⟨fun h9 => ?_, fun h9 => ?_⟩ <;> first | omega | (simp only [decide_eq_true_eq, decide_eq_false_iff_not] at h9; omega) | exact absurd h9 (by decide)
                              · try (exfalso; omega)
                                all_goals
                                  refine tl_want rfl rfl rfl (oj_val (y_fieldAddr (td := 3) Tryd.underlying52 rfl rfl Tryd.sizeOf3 (o' := 0) rfl (fe_t rfl)) ?_)
                                  refine tl_want rfl rfl rfl (oj_val (y_ldb 2 Tryd.isAgg3 (fe_t rfl) rfl rfl) ?_)
                                  refine tl_want rfl rfl rfl (oj_val (y_eq (fe_t rfl) fe_c) ?_)
                                  refine tl_want rfl rfl rfl (oj_val (y_move (fe_t rfl)) ?_)
                                  refine tl_splitp (d := 160) rfl (fun hq29 => ?_) (fun hq30 => ?_)
                                  · try (exfalso; omega)
                                    all_goals
                                      refine tl_want rfl rfl rfl (oj_val (y_fieldAddr (td := 3) Tryd.underlying52 rfl rfl Tryd.sizeOf3 (o' := 1) rfl (fe_t rfl)) ?_)
                                      refine tl_want rfl rfl rfl (oj_val (y_ldb 2 Tryd.isAgg3 (fe_t rfl) rfl rfl) ?_)
                                      refine tl_want rfl rfl rfl (oj_val (y_gtr (fe_t rfl) fe_c) ?_)
                                      refine tl_want rfl rfl rfl (oj_val (y_pickt (fe_t rfl) (fe_t rfl)) ?_)
                                      refine tl_step rfl (oj_val (y_pickf (fe_t rfl) (fe_t rfl)) ?_)
                                      refine tl_step rfl (oj_val (y_assign (fe_t rfl)) ?_)
                                      refine tl_nil ?_
                                      apply tx_back1 (_)
                                      · exact (cov_cons (by first | rfl | exact v_int (by omega) | exact v_bool (by simp [*])) (cov_nil))
                                      · repeat (first | exact over_nil | refine over_put rfl ?_ | refine over_drop rfl ?_)
                                      · exact fun w h => h.pick [0, 1, 2, 3, 4, 5, 6, 7] _ rfl (by decide)
                                      · refine ⟨fun h9 => ?_, fun h9 => ?_⟩ <;> first | omega | (simp only [decide_eq_true_eq, decide_eq_false_iff_not] at h9; omega) | exact absurd h9 (by decide)
                                  · try (exfalso; omega)
                                    all_goals
                                      refine tl_skip rfl rfl rfl rfl ?_
                                      refine tl_skip rfl rfl rfl rfl ?_
                                      refine tl_skip rfl rfl rfl rfl ?_
                                      refine tl_want rfl rfl rfl (oj_val (y_pickf (fe_t rfl) fe_c) ?_)
                                      refine tl_step rfl (oj_val (y_pickf (fe_t rfl) (fe_t rfl)) ?_)
                                      refine tl_step rfl (oj_val (y_assign (fe_t rfl)) ?_)
                                      refine tl_nil ?_
                                      apply tx_back1 (_)
                                      · exact (cov_cons (by first | rfl | exact v_int (by omega) | exact v_bool (by simp [*])) (cov_nil))
                                      · repeat (first | exact over_nil | refine over_put rfl ?_ | refine over_drop rfl ?_)
                                      · exact fun w h => h.pick [0, 1, 2, 3, 4, 5, 6, 7] _ rfl (by decide)
                                      · refine ⟨fun h9 => ?_, fun h9 => ?_⟩ <;> first | omega | (simp only [decide_eq_true_eq, decide_eq_false_iff_not] at h9; omega) | exact absurd h9 (by decide)
                          · try (exfalso; omega)
                            all_goals
                              refine tl_skip rfl rfl rfl rfl ?_
                              refine tl_skip rfl rfl rfl rfl ?_
                              refine tl_skip rfl rfl rfl rfl ?_
                              refine tl_want rfl rfl rfl (oj_val (y_pickf (fe_t rfl) fe_c) ?_)
                              refine tl_step rfl (oj_val (y_pickf (fe_t rfl) (fe_t rfl)) ?_)
                              refine tl_step rfl (oj_val (y_move (fe_t rfl)) ?_)
                              refine tl_want rfl rfl rfl (oj_val (y_fieldAddr (td := 3) Tryd.underlying52 rfl rfl Tryd.sizeOf3 (o' := 0) rfl (fe_t rfl)) ?_)
                              refine tl_want rfl rfl rfl (oj_val (y_ldb 2 Tryd.isAgg3 (fe_t rfl) rfl rfl) ?_)
                              refine tl_want rfl rfl rfl (oj_val (y_eq (fe_t rfl) fe_c) ?_)
                              refine tl_want rfl rfl rfl (oj_val (y_move (fe_t rfl)) ?_)
                              refine tl_splitp (d := 160) rfl (fun hq31 => ?_) (fun hq32 => ?_)
                              · try (exfalso; omega)
                                all_goals
                                  refine tl_want rfl rfl rfl (oj_val (y_fieldAddr (td := 3) Tryd.underlying52 rfl rfl Tryd.sizeOf3 (o' := 1) rfl (fe_t rfl)) ?_)
                                  refine tl_want rfl rfl rfl (oj_val (y_ldb 2 Tryd.isAgg3 (fe_t rfl) rfl rfl) ?_)
                                  refine tl_want rfl rfl rfl (oj_val (y_gtr (fe_t rfl) fe_c) ?_)
                                  refine tl_want rfl rfl rfl (oj_val (y_pickt (fe_t rfl) (fe_t rfl)) ?_)
                                  refine tl_step rfl (oj_val (y_pickf (fe_t rfl) (fe_t rfl)) ?_)
                                  refine tl_step rfl (oj_val (y_assign (fe_t rfl)) ?_)
                                  refine tl_nil ?_
                                  apply tx_back1 (_)
                                  · exact (cov_cons (by first | rfl | exact v_int (by omega) | exact v_bool (by simp [*])) (cov_nil))
                                  · repeat (first | exact over_nil | refine over_put rfl ?_ | refine over_drop rfl ?_)
                                  · exact fun w h => h.pick [0, 1, 2, 3, 4, 5, 6, 7] _ rfl (by decide)
                                  · refine ⟨fun h9 => ?_, fun h9 => ?_⟩ <;> first | omega | (simp only [decide_eq_true_eq, decide_eq_false_iff_not] at h9; omega) | exact absurd h9 (by decide)
                              · try (exfalso; omega)
                                all_goals
                                  refine tl_skip rfl rfl rfl rfl ?_
                                  refine tl_skip rfl rfl rfl rfl ?_
                                  refine tl_skip rfl rfl rfl rfl ?_
                                  refine tl_want rfl rfl rfl (oj_val (y_pickf (fe_t rfl) fe_c) ?_)
                                  refine tl_step rfl (oj_val (y_pickf (fe_t rfl) (fe_t rfl)) ?_)
                                  refine tl_step rfl (oj_val (y_assign (fe_t rfl)) ?_)
                                  refine tl_nil ?_
                                  apply tx_back1 (_)
                                  · exact (cov_cons (by first | rfl | exact v_int (by omega) | exact v_bool (by simp [*])) (cov_nil))
                                  · repeat (first | exact over_nil | refine over_put rfl ?_ | refine over_drop rfl ?_)
                                  · exact fun w h => h.pick [0, 1, 2, 3, 4, 5, 6, 7] _ rfl (by decide)
                                  · refine ⟨fun h9 => ?_, fun h9 => ?_⟩ <;> first | omega | (simp only [decide_eq_true_eq, decide_eq_false_iff_not] at h9; omega) | exact absurd h9 (by decide)
                · intro p hp
                  obtain ⟨hpt127, hpf127⟩ := hp
                  refine tr_cond (fe_t rfl) (fun hq33 => ?_) (fun hq34 => ?_)
                  · try (exfalso; omega)
                    all_goals
                      have hK127 := hpt127 hq33
                      refine tr_region ?_
                      refine tl_step rfl (oj_val (y_fieldAddr (td := 25) Tryd.underlying49 rfl rfl Tryd.sizeOf25 (o' := 0) rfl (fe_t rfl)) ?_)
                      refine tl_step rfl (oj_store1 0 Tryd.sizeOf25 (fe_t rfl) fe_c rfl rfl rfl rfl (?_))
                      refine tl_nil ?_
                      refine tx_in ?_
                      refine tx_then ?_
                      have hdo : does s (l[k]'(by omega)).1 (l[k]'(by omega)).2 = (s, 2, []) := does_r (by omega) (by omega)
                      refine tr_region ?_
                      refine tl_step rfl (oj_val (y_move (fe_t rfl)) ?_)
                      refine tl_step rfl (oj_val (y_ldbA 0 Tryd.isAgg49 Tryd.sizeOf49 (fe_t rfl) rfl rfl rfl) ?_)
                      refine tl_step rfl (oj_slice1 Tryd.underlying38 Tryd.sizeOf49 Tryd.zeroValue49 (fe_t rfl) (by decide) rfl (fun b2 => ?_))
                      refine tl_step rfl (oj_append (i := 4) (s := 2) (z := (.agg #[.int .i64 0, .slice none 0 0])) (bytes := 32) Tryd.underlying38 (by kernel_rfl) (fe_t rfl) (fe_t rfl) rfl (rdl_blk 0 rfl) rfl (by decide) (by first | exact oneI | exact oneF (fun _ => rfl) | exact fun u hu => List.all_eq_true.1 (show List.all _ (fun x => x.oneCell') = true from rfl) u hu | (intro u hu; revert u hu; simp [Value.oneCell'])) (by decide) ⟨by omega, by decide⟩ (fun Aa2 ca2 hca2 => ?_))
                      refine tl_step rfl (oj_val (y_assign (fe_t rfl)) ?_)
                      refine tl_nil ?_
                      refine tx_in ?_
                      refine tx_then ?_
                      refine tr_subPush (vs' := (ans ++ [(⟨2, none, 0, []⟩ : PA)]).map PA.v) 2 5 rfl rfl rfl (by rw [List.map_append, List.map_cons, List.map_nil]; rfl) ?_
                      refine tr_region ?_
                      refine tl_step rfl (oj_val (y_inc (fe_t rfl) fe_c (by omega)) ?_)
                      refine tl_step rfl (oj_val (y_move (fe_t rfl)) ?_)
                      refine tl_nil ?_
                      apply tx_back5 (k + 1) (s) (ans ++ [(⟨2, none, 0, []⟩ : PA)]) ((⟨_, _, _, _⟩ : Vs)) ((⟨_, _, _, _⟩ : Vs))
                      · exact (cov_cons (by first | rfl | exact v_int (by omega) | exact v_bool (by simp [*])) (cov_cons (by first | rfl | exact v_int (by omega) | exact v_bool (by simp [*])) (cov_nil)))
                      · repeat (first | exact over_nil | refine over_put rfl ?_ | refine over_drop rfl ?_)
                      · exact fun w h => h.pick [4, 5, 6, 7, 8] _ rfl (by decide)
                      · refine ⟨⟨by omega, ?_, ?_, ?_, by dsimp only; omega, ?_, ?_⟩, by omega⟩
                        · have h1 := run_next hrun (by omega) (⟨2, none, 0, []⟩ : PA) (by rw [hdo]; rfl)
                          rw [hdo] at h1
                          exact h1
                        · first | exact hgn | exact hhn | (dsimp only; simp; omega)
                        · first | exact hgx | exact hhx | (dsimp only; rw [hhx]; simp [cI, zc])
                        · dsimp only
                          rw [hqx, List.flatMap_append]
                          first | (simp [cP, zc]; done) | (simp [cP, zc]; omega)
                        · first | exact hsd | exact hdn
                  · try (exfalso; omega)
                    all_goals
                      have hK127 := hpf127 hq34
                      refine tr_cut1 [167, 168, 169, 170, 171, 172, 173, 174, 175, 176, 177, 178, 179, 180, 181, 182, 183, 184, 185, 186, 187, 188] (fun (p : Bool) => [(167, .bool p)]) 0 (fun (p : Bool) => []) (fun (p : Bool) => (p = true → ((l[k]'(by omega)).1 = 1 ∧ (s.zs.length = 100 ∨ 60000 < tot s.zs + (l[k]'(by omega)).2))) ∧ (p = false → ¬ (((l[k]'(by omega)).1 = 1 ∧ (s.zs.length = 100 ∨ 60000 < tot s.zs + (l[k]'(by omega)).2))))) ?_ ?_
                      · refine tb_draw 22 (sel _ [0, 1, 2, 3, 4, 5, 6, 7]) (fun w h => h.sel _ rfl (by decide)) rfl ?_
                        refine tb_float (i := 0) rfl (by kernel_rfl) rfl (wants_none rfl) (yq_of (y_fieldAddr (td := 3) Tryd.underlying52 rfl rfl Tryd.sizeOf3 (o' := 0) rfl (fe_t rfl))) ?_
                        refine tb_float (i := 1) rfl (by kernel_rfl) rfl (wants_none rfl) (yq_of (y_ldb 2 Tryd.isAgg3 (fe_t rfl) rfl rfl)) ?_
                        refine tb_float (i := 2) rfl (by kernel_rfl) rfl (wants_none rfl) (yq_of (y_eq (fe_t rfl) fe_c)) ?_
                        refine tb_float (i := 3) rfl (by kernel_rfl) rfl (wants_none rfl) (yq_of (y_move (fe_t rfl))) ?_
                        refine tb_splitp (d := 171) rfl (fun hq35 => ?_) (fun hq36 => ?_)
                        · try (exfalso; omega)
                          all_goals
                            refine tb_float (i := 4) rfl (by kernel_rfl) rfl (wants_t rfl rfl rfl) (yq_of (y_move (fe_t rfl))) ?_
                            refine tb_float (i := 5) rfl (by kernel_rfl) rfl (wants_t rfl rfl rfl) (yq_of (y_nilCheck (fe_t rfl))) ?_
                            refine tb_float (i := 6) rfl (by kernel_rfl) rfl (wants_t rfl rfl rfl) (yq_of (y_fieldAddr (td := 39) Tryd.underlying41 rfl rfl Tryd.sizeOf39 (o' := 0) rfl (fe_t rfl))) ?_
                            refine tb_float (i := 7) rfl (by kernel_rfl) rfl (wants_t rfl rfl rfl) (yq_of (y_ldb 6 Tryd.isAgg39 (fe_t rfl) rfl rfl)) ?_
                            refine tb_float (i := 8) rfl (by kernel_rfl) rfl (wants_t rfl rfl rfl) (yq_of (y_len Tryd.underlying39 (fe_t rfl))) ?_
                            refine tb_float (i := 9) rfl (by kernel_rfl) rfl (wants_t rfl rfl rfl) (yq_of (y_eq (fe_t rfl) fe_c)) ?_
                            refine tb_float (i := 10) rfl (by kernel_rfl) rfl (wants_t rfl rfl rfl) (yq_of (y_move (fe_t rfl))) ?_
                            refine tb_splitp (d := 178) rfl (fun hq37 => ?_) (fun hq38 => ?_)
                            · try (exfalso; omega)
                              all_goals
                                refine tb_skip (i := 11) rfl (by kernel_rfl) rfl (wants_f rfl rfl rfl rfl) ?_
                                refine tb_skip (i := 12) rfl (by kernel_rfl) rfl (wants_f rfl rfl rfl rfl) ?_
                                refine tb_skip (i := 13) rfl (by kernel_rfl) rfl (wants_f rfl rfl rfl rfl) ?_
                                refine tb_skip (i := 14) rfl (by kernel_rfl) rfl (wants_f rfl rfl rfl rfl) ?_
                                refine tb_skip (i := 15) rfl (by kernel_rfl) rfl (wants_f rfl rfl rfl rfl) ?_
                                refine tb_skip (i := 16) rfl (by kernel_rfl) rfl (wants_f rfl rfl rfl rfl) ?_
                                refine tb_skip (i := 17) rfl (by kernel_rfl) rfl (wants_f rfl rfl rfl rfl) ?_
                                refine tb_skip (i := 18) rfl (by kernel_rfl) rfl (wants_f rfl rfl rfl rfl) ?_
                                refine tb_float (i := 19) rfl (by kernel_rfl) rfl (wants_t rfl rfl rfl) (yq_of (y_pickt (fe_t rfl) fe_c)) ?_
                                refine tb_float (i := 20) rfl (by kernel_rfl) rfl (wants_none rfl) (yq_of (y_pickt (fe_t rfl) (fe_t rfl))) ?_
                                refine tb_float (i := 21) rfl (by kernel_rfl) rfl (wants_none rfl) (yq_of (y_assign (fe_t rfl))) ?_
                                refine tb_done (by kernel_rfl) ?_
                                apply tx_back1 (_)
                                · exact (cov_cons (by first | rfl | exact v_int (by omega) | exact v_bool (by simp [*])) (cov_nil))
                                · repeat (first | exact over_nil | refine over_put rfl ?_ | refine over_drop rfl ?_)
                                · exact fun w h => h.pick [0, 1, 2, 3, 4, 5, 6, 7] _ rfl (by decide)
                                · refine ⟨fun h9 => ?_, fun h9 => ?_⟩ <;> first | omega | (simp only [decide_eq_true_eq, decide_eq_false_iff_not] at h9; omega) | exact absurd h9 (by decide)
                            · try (exfalso; omega)
                              all_goals
                                refine tb_float (i := 11) rfl (by kernel_rfl) rfl (wants_t rfl rfl rfl) (yq_of (y_move (fe_t rfl))) ?_
                                refine tb_float (i := 12) rfl (by kernel_rfl) rfl (wants_t rfl rfl rfl) (yq_of (y_nilCheck (fe_t rfl))) ?_
                                refine tb_float (i := 13) rfl (by kernel_rfl) rfl (wants_t rfl rfl rfl) (yq_of (y_ldbA 6 Tryd.isAgg41 Tryd.sizeOf41 (fe_t rfl) rfl rfl rfl)) ?_
                                refine tb_float (i := 14) rfl (by kernel_rfl) rfl (wants_t rfl rfl rfl) (yq_call Tryd.call71 fe_f (fel_cons (fe_t rfl) fel_nil) (fun w' hS => hbytesE h.A h.n h.c s.zs 100 60000 s.drops w' (rd_vec 5 rfl hS) hhx (by omega) (by omega) hgp.2.1)) ?_
                                refine tb_float (i := 15) rfl (by kernel_rfl) rfl (wants_t rfl rfl rfl) (yq_of (y_fieldAddr (td := 3) Tryd.underlying52 rfl rfl Tryd.sizeOf3 (o' := 1) rfl (fe_t rfl))) ?_
                                refine tb_float (i := 16) rfl (by kernel_rfl) rfl (wants_t rfl rfl rfl) (yq_of (y_ldb 2 Tryd.isAgg3 (fe_t rfl) rfl rfl)) ?_
                                refine tb_float (i := 17) rfl (by kernel_rfl) rfl (wants_t rfl rfl rfl) (yq_of (y_add (fe_t rfl) (fe_t rfl) (by omega))) ?_
                                refine tb_float (i := 18) rfl (by kernel_rfl) rfl (wants_t rfl rfl rfl) (yq_of (y_gtr (fe_t rfl) fe_c)) ?_
                                refine tb_float (i := 19) rfl (by kernel_rfl) rfl (wants_t rfl rfl rfl) (yq_of (y_pickf (fe_t rfl) (fe_t rfl))) ?_
                                refine tb_float (i := 20) rfl (by kernel_rfl) rfl (wants_none rfl) (yq_of (y_pickt (fe_t rfl) (fe_t rfl))) ?_
                                refine tb_float (i := 21) rfl (by kernel_rfl) rfl (wants_none rfl) (yq_of (y_assign (fe_t rfl))) ?_
                                refine tb_done (by kernel_rfl) ?_
                                apply tx_back1 (_)
                                · exact (cov_cons (by first | rfl | exact v_int (by omega) | exact v_bool (by simp [*])) (cov_nil))
                                · repeat (first | exact over_nil | refine over_put rfl ?_ | refine over_drop rfl ?_)
                                · exact fun w h => h.pick [0, 1, 2, 3, 4, 5, 6, 7] _ rfl (by decide)
                                · refine ⟨fun h9 => ?_, fun h9 => ?_⟩ <;> first | omega | (simp only [decide_eq_true_eq, decide_eq_false_iff_not] at h9; omega) | exact absurd h9 (by decide)
                        · try (exfalso; omega)
                          all_goals
                            refine tb_skip (i := 4) rfl (by kernel_rfl) rfl (wants_f rfl rfl rfl rfl) ?_
                            refine tb_skip (i := 5) rfl (by kernel_rfl) rfl (wants_f rfl rfl rfl rfl) ?_
                            refine tb_skip (i := 6) rfl (by kernel_rfl) rfl (wants_f rfl rfl rfl rfl) ?_
                            refine tb_skip (i := 7) rfl (by kernel_rfl) rfl (wants_f rfl rfl rfl rfl) ?_
                            refine tb_skip (i := 8) rfl (by kernel_rfl) rfl (wants_f rfl rfl rfl rfl) ?_
                            refine tb_skip (i := 9) rfl (by kernel_rfl) rfl (wants_f rfl rfl rfl rfl) ?_
                            refine tb_skip (i := 10) rfl (by kernel_rfl) rfl (wants_f rfl rfl rfl rfl) ?_
                            refine tb_skip (i := 11) rfl (by kernel_rfl) rfl (wants_undef rfl rfl rfl) ?_
                            refine tb_skip (i := 12) rfl (by kernel_rfl) rfl (wants_undef rfl rfl rfl) ?_
                            refine tb_skip (i := 13) rfl (by kernel_rfl) rfl (wants_undef rfl rfl rfl) ?_
                            refine tb_skip (i := 14) rfl (by kernel_rfl) rfl (wants_undef rfl rfl rfl) ?_
                            refine tb_skip (i := 15) rfl (by kernel_rfl) rfl (wants_undef rfl rfl rfl) ?_
                            refine tb_skip (i := 16) rfl (by kernel_rfl) rfl (wants_undef rfl rfl rfl) ?_
                            refine tb_skip (i := 17) rfl (by kernel_rfl) rfl (wants_undef rfl rfl rfl) ?_
                            refine tb_skip (i := 18) rfl (by kernel_rfl) rfl (wants_undef rfl rfl rfl) ?_
                            refine tb_skip (i := 19) rfl (by kernel_rfl) rfl (wants_f rfl rfl rfl rfl) ?_
                            refine tb_float (i := 20) rfl (by kernel_rfl) rfl (wants_none rfl) (yq_of (y_pickf (fe_t rfl) fe_c)) ?_
                            refine tb_float (i := 21) rfl (by kernel_rfl) rfl (wants_none rfl) (yq_of (y_assign (fe_t rfl))) ?_
                            refine tb_done (by kernel_rfl) ?_
                            apply tx_back1 (_)
                            · exact (cov_cons (by first | rfl | exact v_int (by omega) | exact v_bool (by simp [*])) (cov_nil))
                            · repeat (first | exact over_nil | refine over_put rfl ?_ | refine over_drop rfl ?_)
                            · exact fun w h => h.pick [0, 1, 2, 3, 4, 5, 6, 7] _ rfl (by decide)
                            · refine ⟨fun h9 => ?_, fun h9 => ?_⟩ <;> first | omega | (simp only [decide_eq_true_eq, decide_eq_false_iff_not] at h9; omega) | exact absurd h9 (by decide)
                      · intro p hp
                        obtain ⟨hpt167, hpf167⟩ := hp
                        refine tr_cond (fe_t rfl) (fun hq39 => ?_) (fun hq40 => ?_)
                        · try (exfalso; omega)
                          all_goals
                            have hK167 := hpt167 hq39
                            refine tr_seq ?_
                            refine tr_region ?_
                            refine tl_step rfl (oj_val (y_fieldAddr (td := 25) Tryd.underlying49 rfl rfl Tryd.sizeOf25 (o' := 0) rfl (fe_t rfl)) ?_)
                            refine tl_step rfl (oj_store1 0 Tryd.sizeOf25 (fe_t rfl) fe_c rfl rfl rfl rfl (?_))
                            refine tl_nil ?_
                            refine tx_then ?_
                            refine tr_region ?_
                            refine tl_step rfl (oj_val (y_move (fe_t rfl)) ?_)
                            refine tl_step rfl (oj_val (y_nilCheck (fe_t rfl)) ?_)
                            refine tl_step rfl (oj_val (y_fieldAddr (td := 3) Tryd.underlying41 rfl rfl Tryd.sizeOf3 (o' := 3) rfl (fe_t rfl)) ?_)
                            refine tl_step rfl (oj_val (y_ldb 6 Tryd.isAgg3 (fe_t rfl) rfl rfl) ?_)
                            refine tl_step rfl (oj_val (y_add (fe_t rfl) fe_c (by omega)) ?_)
                            refine tl_step rfl (oj_val (y_nilCheck (fe_t rfl)) ?_)
                            refine tl_step rfl (oj_val (y_fieldAddr (td := 3) Tryd.underlying41 rfl rfl Tryd.sizeOf3 (o' := 3) rfl (fe_t rfl)) ?_)
                            refine tl_step rfl (oj_store1 6 Tryd.sizeOf3 (fe_t rfl) (fe_t rfl) rfl rfl rfl rfl (?_))
                            refine tl_nil ?_
                            refine tx_in ?_
                            refine tx_then ?_
                            have hdo : does s (l[k]'(by omega)).1 (l[k]'(by omega)).2 = ((⟨s.zs, s.drops + 1, s.b, s.sent⟩ : Pc), 4, []) := does_d (by omega) (by omega) (by omega) (by omega)
                            refine tr_region ?_
                            refine tl_step rfl (oj_val (y_move (fe_t rfl)) ?_)
                            refine tl_step rfl (oj_val (y_ldbA 0 Tryd.isAgg49 Tryd.sizeOf49 (fe_t rfl) rfl rfl rfl) ?_)
                            refine tl_step rfl (oj_slice1 Tryd.underlying38 Tryd.sizeOf49 Tryd.zeroValue49 (fe_t rfl) (by decide) rfl (fun b3 => ?_))
                            refine tl_step rfl (oj_append (i := 4) (s := 2) (z := (.agg #[.int .i64 0, .slice none 0 0])) (bytes := 32) Tryd.underlying38 (by kernel_rfl) (fe_t rfl) (fe_t rfl) rfl (rdl_blk 0 rfl) rfl (by decide) (by first | exact oneI | exact oneF (fun _ => rfl) | exact fun u hu => List.all_eq_true.1 (show List.all _ (fun x => x.oneCell') = true from rfl) u hu | (intro u hu; revert u hu; simp [Value.oneCell'])) (by decide) ⟨by omega, by decide⟩ (fun Aa3 ca3 hca3 => ?_))
                            refine tl_step rfl (oj_val (y_assign (fe_t rfl)) ?_)
                            refine tl_nil ?_
                            refine tx_in ?_
                            refine tx_then ?_
                            refine tr_subPush (vs' := (ans ++ [(⟨4, none, 0, []⟩ : PA)]).map PA.v) 2 5 rfl rfl rfl (by rw [List.map_append, List.map_cons, List.map_nil]; rfl) ?_
                            refine tr_region ?_
                            refine tl_step rfl (oj_val (y_inc (fe_t rfl) fe_c (by omega)) ?_)
                            refine tl_step rfl (oj_val (y_move (fe_t rfl)) ?_)
                            refine tl_nil ?_
                            apply tx_back5 (k + 1) ((⟨s.zs, s.drops + 1, s.b, s.sent⟩ : Pc)) (ans ++ [(⟨4, none, 0, []⟩ : PA)]) ((⟨_, _, _, _⟩ : Vs)) ((⟨_, _, _, _⟩ : Vs))
                            · exact (cov_cons (by first | rfl | exact v_int (by omega) | exact v_bool (by simp [*])) (cov_cons (by first | rfl | exact v_int (by omega) | exact v_bool (by simp [*])) (cov_nil)))
                            · repeat (first | exact over_nil | refine over_put rfl ?_ | refine over_drop rfl ?_)
                            · exact fun w h => h.pick [4, 5, 6, 7, 8] _ rfl (by decide)
                            · refine ⟨⟨by omega, ?_, ?_, ?_, by dsimp only; omega, ?_, ?_⟩, by omega⟩
                              · have h1 := run_next hrun (by omega) (⟨4, none, 0, []⟩ : PA) (by rw [hdo]; rfl)
                                rw [hdo] at h1
                                exact h1
                              · first | exact hgn | exact hhn | (dsimp only; simp; omega)
                              · first | exact hgx | exact hhx | (dsimp only; rw [hhx]; simp [cI, zc])
                              · dsimp only
                                rw [hqx, List.flatMap_append]
                                first | (simp [cP, zc]; done) | (simp [cP, zc]; omega)
                              · first | exact hsd | exact hdn
                        · try (exfalso; omega)
                          all_goals
                            have hK167 := hpf167 hq40
                            refine tr_seq ?_
                            refine tr_region ?_
                            refine tl_step rfl (oj_val (y_fieldAddr (td := 3) Tryd.underlying52 rfl rfl Tryd.sizeOf3 (o' := 0) rfl (fe_t rfl)) ?_)
                            refine tl_step rfl (oj_val (y_ldb 2 Tryd.isAgg3 (fe_t rfl) rfl rfl) ?_)
                            refine tl_step rfl (oj_val (y_eq (fe_t rfl) fe_c) ?_)
                            refine tl_step rfl (oj_val (y_assign (fe_t rfl)) ?_)
                            refine tl_nil ?_
                            refine tx_then ?_
                            refine tr_condp (fe_t rfl) (fun hq41 => ?_) (fun hq42 => ?_)
                            · try (exfalso; omega)
                              all_goals
                                refine tb_draw 8 (sel _ [0, 1, 2, 3, 4, 7]) (fun w h => h.sel _ rfl (by decide)) rfl ?_
                                refine tb_float (i := 0) rfl (by kernel_rfl) rfl (wants_none rfl) (yq_of (y_move (fe_t rfl))) ?_
                                refine tb_float (i := 1) rfl (by kernel_rfl) rfl (wants_none rfl) (yq_of (y_move (fe_t rfl))) ?_
                                refine tb_float (i := 2) rfl (by kernel_rfl) rfl (wants_none rfl) (yq_of (y_nilCheck (fe_t rfl))) ?_
                                refine tb_float (i := 3) rfl (by kernel_rfl) rfl (wants_none rfl) (yq_of (y_fieldAddr (td := 39) Tryd.underlying41 rfl rfl Tryd.sizeOf39 (o' := 0) rfl (fe_t rfl))) ?_
                                refine tb_float1 (i := 4) rfl (by kernel_rfl) (by kernel_rfl) rfl (wants_none rfl) (yq_of (y_ldb 6 Tryd.isAgg39 (fe_t rfl) rfl rfl)) ?_
                                refine tb_float (i := 5) rfl (by kernel_rfl) rfl (wants_none rfl) (yq_of (y_fieldAddr (td := 3) Tryd.underlying52 rfl rfl Tryd.sizeOf3 (o' := 1) rfl (fe_t rfl))) ?_
                                refine tb_float (i := 6) rfl (by kernel_rfl) rfl (wants_none rfl) (yq_of (y_ldb 2 Tryd.isAgg3 (fe_t rfl) rfl rfl)) ?_
                                refine tb_one1 (i := 7) rfl (by kernel_rfl) (by kernel_rfl) (wants_none rfl) (oj_slice1 Tryd.underlying39 Tryd.sizeOf3 Tryd.zeroValue3 (fe_t rfl) (by decide) rfl (fun b4 => ⟨fun w h => h.pick [1, 2, 3, 4, 5, 6, 7, 8] _ rfl (by decide), ?_⟩))
                                refine tb_one2 (i := 8) rfl (by kernel_rfl) (by kernel_rfl) (wants_none rfl) (oj_append (i := 6) (s := 1) (z := (.int .i64 0)) (bytes := 8) Tryd.underlying39 (by kernel_rfl) (fe_t rfl) (fe_t rfl) rfl (rdl_blk 0 rfl) rfl (by decide) (by first | exact oneI | exact oneF (fun _ => rfl) | exact fun u hu => List.all_eq_true.1 (show List.all _ (fun x => x.oneCell') = true from rfl) u hu | (intro u hu; revert u hu; simp [Value.oneCell'])) (by decide) ⟨by omega, by decide⟩ (fun Aa4 ca4 hca4 => ⟨fun w h => h.pick [1, 2, 3, 4, 5, 8] _ rfl (by decide), ?_⟩))
                                refine tb_float (i := 9) rfl (by kernel_rfl) rfl (wants_none rfl) (yq_of (y_nilCheck (fe_t rfl))) ?_
                                refine tb_float (i := 10) rfl (by kernel_rfl) rfl (wants_none rfl) (yq_of (y_fieldAddr (td := 39) Tryd.underlying41 rfl rfl Tryd.sizeOf39 (o' := 0) rfl (fe_t rfl))) ?_
                                refine tb_one2 (i := 11) rfl (by kernel_rfl) (by kernel_rfl) (wants_none rfl) (oj_store1 7 Tryd.sizeOf39 (fe_t rfl) (fe_t rfl) rfl rfl rfl rfl (⟨fun w h => h.pick [1, 2, 3, 4, 5, 8] _ rfl (by decide), ?_⟩))
                                refine tb_done (by kernel_rfl) ?_
                                refine tx_in ?_
                                refine tx_then ?_
                                have hdo : does s (l[k]'(by omega)).1 (l[k]'(by omega)).2 = ((⟨s.zs ++ [(l[k]'(by omega)).2], s.drops, s.b, s.sent⟩ : Pc), 0, []) := does_i (by omega) (by omega) (by omega) (by omega)
                                refine tr_region ?_
                                refine tl_step rfl (oj_val (y_move (fe_t rfl)) ?_)
                                refine tl_step rfl (oj_val (y_ldbA 1 Tryd.isAgg49 Tryd.sizeOf49 (fe_t rfl) rfl rfl rfl) ?_)
                                refine tl_step rfl (oj_slice1 Tryd.underlying38 Tryd.sizeOf49 Tryd.zeroValue49 (fe_t rfl) (by decide) rfl (fun b5 => ?_))
                                refine tl_step rfl (oj_append (i := 5) (s := 2) (z := (.agg #[.int .i64 0, .slice none 0 0])) (bytes := 32) Tryd.underlying38 (by kernel_rfl) (fe_t rfl) (fe_t rfl) rfl (rdl_blk 0 rfl) rfl (by decide) (by first | exact oneI | exact oneF (fun _ => rfl) | exact fun u hu => List.all_eq_true.1 (show List.all _ (fun x => x.oneCell') = true from rfl) u hu | (intro u hu; revert u hu; simp [Value.oneCell'])) (by decide) ⟨by omega, by decide⟩ (fun Aa5 ca5 hca5 => ?_))
                                refine tl_step rfl (oj_val (y_assign (fe_t rfl)) ?_)
                                refine tl_nil ?_
                                refine tx_in ?_
                                refine tx_then ?_
                                refine tr_subPush (vs' := (ans ++ [(⟨0, none, 0, []⟩ : PA)]).map PA.v) 3 6 rfl rfl rfl (by rw [List.map_append, List.map_cons, List.map_nil]; rfl) ?_
                                refine tr_region ?_
                                refine tl_step rfl (oj_val (y_inc (fe_t rfl) fe_c (by omega)) ?_)
                                refine tl_step rfl (oj_val (y_move (fe_t rfl)) ?_)
                                refine tl_nil ?_
                                apply tx_back5 (k + 1) ((⟨s.zs ++ [(l[k]'(by omega)).2], s.drops, s.b, s.sent⟩ : Pc)) (ans ++ [(⟨0, none, 0, []⟩ : PA)]) ((⟨_, _, _, _⟩ : Vs)) ((⟨_, _, _, _⟩ : Vs))
                                · exact (cov_cons (by first | rfl | exact v_int (by omega) | exact v_bool (by simp [*])) (cov_cons (by first | rfl | exact v_int (by omega) | exact v_bool (by simp [*])) (cov_nil)))
                                · repeat (first | exact over_nil | refine over_put rfl ?_ | refine over_drop rfl ?_)
                                · exact fun w h => h.pick [5, 6, 7, 8, 9] _ rfl (by decide)
                                · refine ⟨⟨by omega, ?_, ?_, ?_, by dsimp only; omega, ?_, ?_⟩, by omega⟩
                                  · have h1 := run_next hrun (by omega) (⟨0, none, 0, []⟩ : PA) (by rw [hdo]; rfl)
                                    rw [hdo] at h1
                                    exact h1
                                  · first | exact hgn | exact hhn | (dsimp only; simp; omega)
                                  · first | exact hgx | exact hhx | (dsimp only; rw [hhx]; simp [cI, zc])
                                  · dsimp only
                                    rw [hqx, List.flatMap_append]
                                    first | (simp [cP, zc]; done) | (simp [cP, zc]; omega)
                                  · first | exact hsd | exact hdn
                            · try (exfalso; omega)
                              all_goals
                                refine tr_seq ?_
                                refine tr_region ?_
                                refine tl_step rfl (oj_val (y_fieldAddr (td := 3) Tryd.underlying52 rfl rfl Tryd.sizeOf3 (o' := 0) rfl (fe_t rfl)) ?_)
                                refine tl_step rfl (oj_val (y_ldb 2 Tryd.isAgg3 (fe_t rfl) rfl rfl) ?_)
                                refine tl_step rfl (oj_val (y_eq (fe_t rfl) fe_c) ?_)
                                refine tl_step rfl (oj_val (y_assign (fe_t rfl)) ?_)
                                refine tl_nil ?_
                                refine tx_then ?_
                                refine tr_condp (fe_t rfl) (fun hq43 => ?_) (fun hq44 => ?_)
                                · try (exfalso; omega)
                                  all_goals
                                    refine tr_seq ?_
                                    refine tr_region ?_
                                    refine tl_step rfl (oj_val (y_fieldAddr (td := 43) Tryd.underlying45 rfl rfl Tryd.sizeOf43 (o' := 4) rfl (fe_t rfl)) ?_)
                                    refine tl_step rfl (oj_val (y_fieldAddr (td := 3) Tryd.underlying43 rfl rfl Tryd.sizeOf3 (o' := 8) rfl (fe_t rfl)) ?_)
                                    refine tl_step rfl (oj_val (y_ldb 6 Tryd.isAgg3 (fe_t rfl) rfl rfl) ?_)
                                    refine tl_step rfl (oj_val (y_fieldAddr (td := 3) Tryd.underlying52 rfl rfl Tryd.sizeOf3 (o' := 1) rfl (fe_t rfl)) ?_)
                                    refine tl_step rfl (oj_val (y_ldb 2 Tryd.isAgg3 (fe_t rfl) rfl rfl) ?_)
                                    refine tl_step rfl (oj_val (y_add (fe_t rfl) (fe_t rfl) (by omega)) ?_)
                                    refine tl_step rfl (oj_val (y_assign (fe_t rfl)) ?_)
                                    refine tl_nil ?_
                                    refine tx_then ?_
                                    refine tr_seq ?_
                                    refine tr_seq ?_
                                    refine tr_region ?_
                                    refine tl_step rfl (oj_val (y_move (fe_t rfl)) ?_)
                                    refine tl_step rfl (oj_val (y_gtr (fe_t rfl) fe_c) ?_)
                                    refine tl_nil ?_
                                    refine tx_then ?_
                                    refine tr_condp (fe_t rfl) (fun hq45 => ?_) (fun hq46 => ?_)
                                    · try (exfalso; omega)
                                      all_goals
                                        refine tr_region ?_
                                        refine tl_step rfl (oj_val (y_assign fe_c) ?_)
                                        refine tl_nil ?_
                                        refine tx_then ?_
                                        refine tr_region ?_
                                        refine tl_step rfl (oj_val (y_fieldAddr (td := 43) Tryd.underlying45 rfl rfl Tryd.sizeOf43 (o' := 4) rfl (fe_t rfl)) ?_)
                                        refine tl_step rfl (oj_val (y_ldbA 6 Tryd.isAgg43 Tryd.sizeOf43 (fe_t rfl) rfl rfl rfl) ?_)
                                        refine tl_step rfl (oj_val (y_move (fe_t rfl)) ?_)
                                        refine tl_step rfl (oj_callv Tryd.call72 fe_f (fel_cons (fe_t rfl) (fel_cons (fe_t rfl) fel_nil)) (fun w' hS => ilevelE s.b _ w' hgk.b (by omega) (by omega)) ?_)
                                        refine tl_step rfl (oj_val (y_move (fe_t rfl)) ?_)
                                        refine tl_step rfl (oj_val (y_fieldAddr (td := 43) Tryd.underlying45 rfl rfl Tryd.sizeOf43 (o' := 4) rfl (fe_t rfl)) ?_)
                                        refine tl_step rfl (oj_val (y_fieldAddr (td := 3) Tryd.underlying43 rfl rfl Tryd.sizeOf3 (o' := 7) rfl (fe_t rfl)) ?_)
                                        refine tl_step rfl (oj_store1 6 Tryd.sizeOf3 (fe_t rfl) (fe_t rfl) rfl rfl rfl rfl (?_))
                                        refine tl_step rfl (oj_val (y_fieldAddr (td := 43) Tryd.underlying45 rfl rfl Tryd.sizeOf43 (o' := 4) rfl (fe_t rfl)) ?_)
                                        refine tl_step rfl (oj_val (y_fieldAddr (td := 3) Tryd.underlying43 rfl rfl Tryd.sizeOf3 (o' := 8) rfl (fe_t rfl)) ?_)
                                        refine tl_step rfl (oj_store1 6 Tryd.sizeOf3 (fe_t rfl) (fe_t rfl) rfl rfl rfl rfl (?_))
                                        refine tl_nil ?_
                                        refine tx_in ?_
                                        refine tx_then ?_
                                        have hdo : does s (l[k]'(by omega)).1 (l[k]'(by omega)).2 = ((⟨s.zs, s.drops, tick s.b 1099511627776, s.sent⟩ : Pc), 0, []) := does_t (by omega) (by omega) (by omega) (by omega)
                                        refine tr_region ?_
                                        refine tl_step rfl (oj_val (y_move (fe_t rfl)) ?_)
                                        refine tl_step rfl (oj_val (y_ldbA 0 Tryd.isAgg49 Tryd.sizeOf49 (fe_t rfl) rfl rfl rfl) ?_)
                                        refine tl_step rfl (oj_slice1 Tryd.underlying38 Tryd.sizeOf49 Tryd.zeroValue49 (fe_t rfl) (by decide) rfl (fun b6 => ?_))
                                        refine tl_step rfl (oj_append (i := 4) (s := 2) (z := (.agg #[.int .i64 0, .slice none 0 0])) (bytes := 32) Tryd.underlying38 (by kernel_rfl) (fe_t rfl) (fe_t rfl) rfl (rdl_blk 0 rfl) rfl (by decide) (by first | exact oneI | exact oneF (fun _ => rfl) | exact fun u hu => List.all_eq_true.1 (show List.all _ (fun x => x.oneCell') = true from rfl) u hu | (intro u hu; revert u hu; simp [Value.oneCell'])) (by decide) ⟨by omega, by decide⟩ (fun Aa6 ca6 hca6 => ?_))
                                        refine tl_step rfl (oj_val (y_assign (fe_t rfl)) ?_)
                                        refine tl_nil ?_
                                        refine tx_in ?_
                                        refine tx_then ?_
                                        refine tr_subPush (vs' := (ans ++ [(⟨0, none, 0, []⟩ : PA)]).map PA.v) 2 5 rfl rfl rfl (by rw [List.map_append, List.map_cons, List.map_nil]; rfl) ?_
                                        refine tr_region ?_
                                        refine tl_step rfl (oj_val (y_inc (fe_t rfl) fe_c (by omega)) ?_)
                                        refine tl_step rfl (oj_val (y_move (fe_t rfl)) ?_)
                                        refine tl_nil ?_
                                        apply tx_back5 (k + 1) ((⟨s.zs, s.drops, tick s.b 1099511627776, s.sent⟩ : Pc)) (ans ++ [(⟨0, none, 0, []⟩ : PA)]) ((⟨_, _, _, _⟩ : Vs)) ((⟨_, _, _, _⟩ : Vs))
                                        · exact (cov_cons (by first | rfl | exact v_int (by omega) | exact v_bool (by simp [*])) (cov_cons (by first | rfl | exact v_int (by omega) | exact v_bool (by simp [*])) (cov_nil)))
                                        · repeat (first | exact over_nil | refine over_put rfl ?_ | refine over_drop rfl ?_)
                                        · exact fun w h => h.pick [4, 5, 6, 7, 8] _ rfl (by decide)
                                        · refine ⟨⟨by omega, ?_, ?_, ?_, by dsimp only; omega, ?_, ?_⟩, by omega⟩
                                          · have h1 := run_next hrun (by omega) (⟨0, none, 0, []⟩ : PA) (by rw [hdo]; rfl)
                                            rw [hdo] at h1
                                            exact h1
                                          · first | exact hgn | exact hhn | (dsimp only; simp; omega)
                                          · first | exact hgx | exact hhx | (dsimp only; rw [hhx]; simp [cI, zc])
                                          · dsimp only
                                            rw [hqx, List.flatMap_append]
                                            first | (simp [cP, zc]; done) | (simp [cP, zc]; omega)
                                          · first | exact hsd | exact hdn
                                    · try (exfalso; omega)
                                      all_goals
                                        refine tr_skip ?_
                                        refine tx_then ?_
                                        refine tr_region ?_
                                        refine tl_step rfl (oj_val (y_fieldAddr (td := 43) Tryd.underlying45 rfl rfl Tryd.sizeOf43 (o' := 4) rfl (fe_t rfl)) ?_)
                                        refine tl_step rfl (oj_val (y_ldbA 6 Tryd.isAgg43 Tryd.sizeOf43 (fe_t rfl) rfl rfl rfl) ?_)
                                        refine tl_step rfl (oj_val (y_move (fe_t rfl)) ?_)
                                        refine tl_step rfl (oj_callv Tryd.call72 fe_f (fel_cons (fe_t rfl) (fel_cons (fe_t rfl) fel_nil)) (fun w' hS => ilevelE s.b _ w' hgk.b (by omega) (by omega)) ?_)
                                        refine tl_step rfl (oj_val (y_move (fe_t rfl)) ?_)
                                        refine tl_step rfl (oj_val (y_fieldAddr (td := 43) Tryd.underlying45 rfl rfl Tryd.sizeOf43 (o' := 4) rfl (fe_t rfl)) ?_)
                                        refine tl_step rfl (oj_val (y_fieldAddr (td := 3) Tryd.underlying43 rfl rfl Tryd.sizeOf3 (o' := 7) rfl (fe_t rfl)) ?_)
                                        refine tl_step rfl (oj_store1 6 Tryd.sizeOf3 (fe_t rfl) (fe_t rfl) rfl rfl rfl rfl (?_))
                                        refine tl_step rfl (oj_val (y_fieldAddr (td := 43) Tryd.underlying45 rfl rfl Tryd.sizeOf43 (o' := 4) rfl (fe_t rfl)) ?_)
                                        refine tl_step rfl (oj_val (y_fieldAddr (td := 3) Tryd.underlying43 rfl rfl Tryd.sizeOf3 (o' := 8) rfl (fe_t rfl)) ?_)
                                        refine tl_step rfl (oj_store1 6 Tryd.sizeOf3 (fe_t rfl) (fe_t rfl) rfl rfl rfl rfl (?_))
                                        refine tl_nil ?_
                                        refine tx_in ?_
                                        refine tx_then ?_
                                        have hdo : does s (l[k]'(by omega)).1 (l[k]'(by omega)).2 = ((⟨s.zs, s.drops, tick s.b (s.b.at0 + (l[k]'(by omega)).2), s.sent⟩ : Pc), 0, []) := does_t (by omega) (by omega) (by omega) (by omega)
                                        refine tr_region ?_
                                        refine tl_step rfl (oj_val (y_move (fe_t rfl)) ?_)
                                        refine tl_step rfl (oj_val (y_ldbA 0 Tryd.isAgg49 Tryd.sizeOf49 (fe_t rfl) rfl rfl rfl) ?_)
                                        refine tl_step rfl (oj_slice1 Tryd.underlying38 Tryd.sizeOf49 Tryd.zeroValue49 (fe_t rfl) (by decide) rfl (fun b7 => ?_))
                                        refine tl_step rfl (oj_append (i := 4) (s := 2) (z := (.agg #[.int .i64 0, .slice none 0 0])) (bytes := 32) Tryd.underlying38 (by kernel_rfl) (fe_t rfl) (fe_t rfl) rfl (rdl_blk 0 rfl) rfl (by decide) (by first | exact oneI | exact oneF (fun _ => rfl) | exact fun u hu => List.all_eq_true.1 (show List.all _ (fun x => x.oneCell') = true from rfl) u hu | (intro u hu; revert u hu; simp [Value.oneCell'])) (by decide) ⟨by omega, by decide⟩ (fun Aa7 ca7 hca7 => ?_))
                                        refine tl_step rfl (oj_val (y_assign (fe_t rfl)) ?_)
                                        refine tl_nil ?_
                                        refine tx_in ?_
                                        refine tx_then ?_
                                        refine tr_subPush (vs' := (ans ++ [(⟨0, none, 0, []⟩ : PA)]).map PA.v) 2 5 rfl rfl rfl (by rw [List.map_append, List.map_cons, List.map_nil]; rfl) ?_
                                        refine tr_region ?_
                                        refine tl_step rfl (oj_val (y_inc (fe_t rfl) fe_c (by omega)) ?_)
                                        refine tl_step rfl (oj_val (y_move (fe_t rfl)) ?_)
                                        refine tl_nil ?_
                                        apply tx_back5 (k + 1) ((⟨s.zs, s.drops, tick s.b (s.b.at0 + (l[k]'(by omega)).2), s.sent⟩ : Pc)) (ans ++ [(⟨0, none, 0, []⟩ : PA)]) ((⟨_, _, _, _⟩ : Vs)) ((⟨_, _, _, _⟩ : Vs))
                                        · exact (cov_cons (by first | rfl | exact v_int (by omega) | exact v_bool (by simp [*])) (cov_cons (by first | rfl | exact v_int (by omega) | exact v_bool (by simp [*])) (cov_nil)))
                                        · repeat (first | exact over_nil | refine over_put rfl ?_ | refine over_drop rfl ?_)
                                        · exact fun w h => h.pick [4, 5, 6, 7, 8] _ rfl (by decide)
                                        · refine ⟨⟨by omega, ?_, ?_, ?_, by dsimp only; omega, ?_, ?_⟩, by omega⟩
                                          · have h1 := run_next hrun (by omega) (⟨0, none, 0, []⟩ : PA) (by rw [hdo]; rfl)
                                            rw [hdo] at h1
                                            exact h1
                                          · first | exact hgn | exact hhn | (dsimp only; simp; omega)
                                          · first | exact hgx | exact hhx | (dsimp only; rw [hhx]; simp [cI, zc])
                                          · dsimp only
                                            rw [hqx, List.flatMap_append]
                                            first | (simp [cP, zc]; done) | (simp [cP, zc]; omega)
                                          · first | exact hsd | exact hdn
                                · try (exfalso; omega)
                                  all_goals
                                    refine tr_seq ?_
                                    refine tr_region ?_
                                    refine tl_step rfl (oj_val (y_fieldAddr (td := 3) Tryd.underlying52 rfl rfl Tryd.sizeOf3 (o' := 1) rfl (fe_t rfl)) ?_)
                                    refine tl_step rfl (oj_val (y_ldb 2 Tryd.isAgg3 (fe_t rfl) rfl rfl) ?_)
                                    refine tl_step rfl (oj_val (y_assign (fe_t rfl)) ?_)
                                    refine tl_nil ?_
                                    refine tx_then ?_
                                    refine tr_block ?_
                                    refine tr_loop5 [19, 20, 48, 49, 50, 51, 52, 53, 54, 55, 56, 57, 58, 59, 60, 61, 62, 63, 64, 65, 66, 67, 68, 69, 70, 71, 72, 73, 74, 75, 76, 77, 78, 79, 80, 81, 82, 83, 84, 85, 86, 87, 88, 89, 90, 91, 92, 93, 94, 95, 96, 97, 98, 99, 100, 101, 102, 103, 104, 105, 106, 107, 108, 109, 110, 111, 112, 113, 114, 115, 116] (fun (j : Nat) (ro : Int) (u : Pc) (g : Vs) (z : Vs) => [(19, .int .i64 ro)]) 0 (fun (j : Nat) (ro : Int) (u : Pc) (g : Vs) (z : Vs) => [(6, blk pb [.slice g.A g.n g.c, (.int .i64 100), (.int .i64 60000), (.int .i64 u.drops), (.int .i64 u.b.num), (.int .i64 u.b.den), (.int .i64 u.b.burst), (.int .i64 u.b.level), (.int .i64 u.b.at0), (.int .i64 u.sent)]), (5, vec 3 1 (.slice g.A g.n g.c) g.n g.xs), (1, vec 3 1 (.slice z.A z.n z.c) z.n z.xs), (0, blk ab [(.int .i64 0), .slice z.A z.n z.c])]) (fun (j : Nat) (ro : Int) (u : Pc) (g : Vs) (z : Vs) => Way k s (l[k]'(by omega)).2 ro j u ∧ g.n = u.zs.length ∧ g.xs = cI u.zs ∧ z.n = j ∧ z.xs = cI (s.zs.take j)) (fun (j : Nat) (ro : Int) (u : Pc) (g : Vs) (z : Vs) => s.zs.length - j) (0) ((l[k]'(by omega)).2) (s) (h) (⟨none, 0, 0, []⟩ : Vs) (cov_cons (by first | rfl | exact v_int (by omega) | exact v_bool (by simp [*])) (cov_nil)) (fun w h => h) ?_ ?_
                                    · try dsimp only
                                      exact ⟨Way.zero hgk _, hhn, hhx, rfl, by simp [cI]⟩
                                    intro j ro u g z hp
                                    obtain ⟨hway, hgn, hgx, hzn, hzx⟩ := hp
                                    obtain ⟨hub, huq, hud, hul, hjl, hul2, hus, ht0, ht1, hro, hden⟩ := hway.facts hgk
                                    have hubp := bparts hub
                                    have hdn : u.b.den = den := hden.trans hsd
                                    have hlt : (s.zs.take j).length = j := by rw [List.length_take]; omega
                                    refine tr_seq ?_
                                    refine tr_seq ?_
                                    refine tb_draw 30 (sel _ [0, 1, 2, 3, 4, 5, 6, 7]) (fun w h => h.sel _ rfl (by decide)) rfl ?_
                                    refine tb_float (i := 0) rfl (by kernel_rfl) rfl (wants_none rfl) (yq_of (y_move (fe_t rfl))) ?_
                                    refine tb_float (i := 1) rfl (by kernel_rfl) rfl (wants_none rfl) (yq_of (y_nilCheck (fe_t rfl))) ?_
                                    refine tb_float (i := 2) rfl (by kernel_rfl) rfl (wants_none rfl) (yq_of (y_fieldAddr (td := 39) Tryd.underlying41 rfl rfl Tryd.sizeOf39 (o' := 0) rfl (fe_t rfl))) ?_
                                    refine tb_float (i := 3) rfl (by kernel_rfl) rfl (wants_none rfl) (yq_of (y_ldb 6 Tryd.isAgg39 (fe_t rfl) rfl rfl)) ?_
                                    refine tb_float (i := 4) rfl (by kernel_rfl) rfl (wants_none rfl) (yq_of (y_len Tryd.underlying39 (fe_t rfl))) ?_
                                    refine tb_float (i := 5) rfl (by kernel_rfl) rfl (wants_none rfl) (yq_of (y_gtr (fe_t rfl) fe_c)) ?_
                                    refine tb_float (i := 6) rfl (by kernel_rfl) rfl (wants_none rfl) (yq_of (y_move (fe_t rfl))) ?_
                                    refine tb_splitp (d := 54) rfl (fun hq47 => ?_) (fun hq48 => ?_)
                                    · try (exfalso; omega)
                                      all_goals
                                        obtain ⟨hj, hz0, hz1, hz2⟩ := pop_head hgk hway.u (by omega)
                                        have hmu := prod_bd (sb := u.zs.headD 0) (by omega) (by omega) hubp.2.1.1 hubp.2.1.2
                                        rw [hdn] at hmu
                                        refine tb_float (i := 7) rfl (by kernel_rfl) rfl (wants_t rfl rfl rfl) (yq_of (y_move (fe_t rfl))) ?_
                                        refine tb_float (i := 8) rfl (by kernel_rfl) rfl (wants_t rfl rfl rfl) (yq_of (y_nilCheck (fe_t rfl))) ?_
                                        refine tb_float (i := 9) rfl (by kernel_rfl) rfl (wants_t rfl rfl rfl) (yq_of (y_fieldAddr (td := 39) Tryd.underlying41 rfl rfl Tryd.sizeOf39 (o' := 0) rfl (fe_t rfl))) ?_
                                        refine tb_float (i := 10) rfl (by kernel_rfl) rfl (wants_t rfl rfl rfl) (yq_of (y_ldb 6 Tryd.isAgg39 (fe_t rfl) rfl rfl)) ?_
                                        refine tb_float (i := 11) rfl (by kernel_rfl) rfl (wants_t rfl rfl rfl) (yq_of (y_indexI (m := 0) Tryd.underlying39 Tryd.sizeOf3 (fe_t rfl) fe_c (rdl_vec 5 rfl) (by rw [hgx]; simp [cI]; omega) (by decide) (by decide) (by omega) rfl)) ?_
                                        refine tb_float (i := 12) rfl (by kernel_rfl) rfl (wants_t rfl rfl rfl) (yq_of (y_ld (v := (.int .i64 (u.zs.headD 0))) Tryd.isAgg3 (fe_t rfl) (rdl_vec 5 rfl) (by rw [hgx]; exact hd0 (by omega)))) ?_
                                        refine tb_float (i := 13) rfl (by kernel_rfl) rfl (wants_t rfl rfl rfl) (yq_of (y_move (fe_t rfl))) ?_
                                        refine tb_float (i := 14) rfl (by kernel_rfl) rfl (wants_t rfl rfl rfl) (yq_of (y_leq (fe_t rfl) (fe_t rfl))) ?_
                                        refine tb_float (i := 15) rfl (by kernel_rfl) rfl (wants_none rfl) (yq_of (y_pickt (fe_t rfl) (fe_t rfl))) ?_
                                        refine tb_float (i := 16) rfl (by kernel_rfl) rfl (wants_none rfl) (yq_of (y_move (fe_t rfl))) ?_
                                        refine tb_splitp (d := 64) rfl (fun hq49 => ?_) (fun hq50 => ?_)
                                        · try (exfalso; omega)
                                          all_goals
                                            refine tb_float (i := 17) rfl (by kernel_rfl) rfl (wants_t rfl rfl rfl) (yq_of (y_move (fe_t rfl))) ?_
                                            refine tb_float (i := 18) rfl (by kernel_rfl) rfl (wants_t rfl rfl rfl) (yq_of (y_nilCheck (fe_t rfl))) ?_
                                            refine tb_float (i := 19) rfl (by kernel_rfl) rfl (wants_t rfl rfl rfl) (yq_of (y_fieldAddr (td := 39) Tryd.underlying41 rfl rfl Tryd.sizeOf39 (o' := 0) rfl (fe_t rfl))) ?_
                                            refine tb_float (i := 20) rfl (by kernel_rfl) rfl (wants_t rfl rfl rfl) (yq_of (y_ldb 6 Tryd.isAgg39 (fe_t rfl) rfl rfl)) ?_
                                            refine tb_float (i := 21) rfl (by kernel_rfl) rfl (wants_t rfl rfl rfl) (yq_of (y_indexI (m := 0) Tryd.underlying39 Tryd.sizeOf3 (fe_t rfl) fe_c (rdl_vec 5 rfl) (by rw [hgx]; simp [cI]; omega) (by decide) (by decide) (by omega) rfl)) ?_
                                            refine tb_float (i := 22) rfl (by kernel_rfl) rfl (wants_t rfl rfl rfl) (yq_of (y_ld (v := (.int .i64 (u.zs.headD 0))) Tryd.isAgg3 (fe_t rfl) (rdl_vec 5 rfl) (by rw [hgx]; exact hd0 (by omega)))) ?_
                                            refine tb_float (i := 23) rfl (by kernel_rfl) rfl (wants_t rfl rfl rfl) (yq_of (y_move (fe_t rfl))) ?_
                                            refine tb_float (i := 24) rfl (by kernel_rfl) rfl (wants_t rfl rfl rfl) (yq_of (y_mul (fe_t rfl) (fe_t rfl) (by omega))) ?_
                                            refine tb_float (i := 25) rfl (by kernel_rfl) rfl (wants_t rfl rfl rfl) (yq_of (y_fieldAddr (td := 43) Tryd.underlying45 rfl rfl Tryd.sizeOf43 (o' := 4) rfl (fe_t rfl))) ?_
                                            refine tb_float (i := 26) rfl (by kernel_rfl) rfl (wants_t rfl rfl rfl) (yq_of (y_fieldAddr (td := 3) Tryd.underlying43 rfl rfl Tryd.sizeOf3 (o' := 7) rfl (fe_t rfl))) ?_
                                            refine tb_float (i := 27) rfl (by kernel_rfl) rfl (wants_t rfl rfl rfl) (yq_of (y_ldb 6 Tryd.isAgg3 (fe_t rfl) rfl rfl)) ?_
                                            refine tb_float (i := 28) rfl (by kernel_rfl) rfl (wants_t rfl rfl rfl) (yq_of (y_leq (fe_t rfl) (fe_t rfl))) ?_
                                            refine tb_float (i := 29) rfl (by kernel_rfl) rfl (wants_none rfl) (yq_of (y_pickt (fe_t rfl) (fe_t rfl))) ?_
                                            refine tb_done (by kernel_rfl) ?_
                                            refine tx_then ?_
                                            refine tr_condp (fe_t rfl) (fun hq51 => ?_) (fun hq52 => ?_)
                                            · try (exfalso; omega)
                                              all_goals
                                                refine tr_skip ?_
                                                refine tx_then ?_
                                                refine tr_block ?_
                                                refine tr_seq ?_
                                                refine tr_region ?_
                                                refine tl_step rfl (oj_val (y_move (fe_t rfl)) ?_)
                                                refine tl_step rfl (oj_val (y_nilCheck (fe_t rfl)) ?_)
                                                refine tl_step rfl (oj_val (y_fieldAddr (td := 39) Tryd.underlying41 rfl rfl Tryd.sizeOf39 (o' := 0) rfl (fe_t rfl)) ?_)
                                                refine tl_step rfl (oj_val (y_ldb 6 Tryd.isAgg39 (fe_t rfl) rfl rfl) ?_)
                                                refine tl_step rfl (oj_val (y_indexI (m := 0) Tryd.underlying39 Tryd.sizeOf3 (fe_t rfl) fe_c (rdl_vec 5 rfl) (by rw [hgx]; simp [cI]; omega) (by decide) (by decide) (by omega) rfl) ?_)
                                                refine tl_step rfl (oj_val (y_ld (v := (.int .i64 (u.zs.headD 0))) Tryd.isAgg3 (fe_t rfl) (rdl_vec 5 rfl) (by rw [hgx]; exact hd0 (by omega))) ?_)
                                                refine tl_step rfl (oj_val (y_assign (fe_t rfl)) ?_)
                                                refine tl_nil ?_
                                                refine tx_then ?_
                                                refine tr_seq ?_
                                                refine tr_region ?_
                                                refine tl_step rfl (oj_val (y_move (fe_t rfl)) ?_)
                                                refine tl_step rfl (oj_slice0 Tryd.underlying39 Tryd.sizeOf3 (fun g1 => ?_))
                                                refine tl_step rfl (oj_val (y_move (fe_t rfl)) ?_)
                                                refine tl_step rfl (oj_val (y_nilCheck (fe_t rfl)) ?_)
                                                refine tl_step rfl (oj_val (y_fieldAddr (td := 39) Tryd.underlying41 rfl rfl Tryd.sizeOf39 (o' := 0) rfl (fe_t rfl)) ?_)
                                                refine tl_step rfl (oj_val (y_ldb 7 Tryd.isAgg39 (fe_t rfl) rfl rfl) ?_)
                                                refine tl_step rfl (oj_val (y_cutL (l := 1) Tryd.underlying39 Tryd.sizeOf3 (fe_t rfl) fe_c (by omega)) ?_)
                                                refine tl_step rfl (oj_appg (i := 0) (s := 1) (z := (.int .i64 0)) (bytes := 8) Tryd.underlying39 (by kernel_rfl) (fe_t rfl) (fe_t rfl) rfl (rdl_cut1 6 rfl hgx hgn (by omega)) (by simp [cI]; omega) (by decide) (by first | exact oneI | exact oneF (fun _ => rfl) | exact fun u hu => List.all_eq_true.1 (show List.all _ (fun x => x.oneCell') = true from rfl) u hu | (intro u hu; revert u hu; simp [Value.oneCell'])) ⟨by omega, by decide⟩ (fun Aa8 ca8 hca8 => ?_))
                                                refine tl_step rfl (oj_val (y_nilCheck (fe_t rfl)) ?_)
                                                refine tl_step rfl (oj_val (y_fieldAddr (td := 39) Tryd.underlying41 rfl rfl Tryd.sizeOf39 (o' := 0) rfl (fe_t rfl)) ?_)
                                                refine tl_step rfl (oj_store1 7 Tryd.sizeOf39 (fe_t rfl) (fe_t rfl) rfl rfl rfl rfl (?_))
                                                refine tl_nil ?_
                                                refine tx_then ?_
                                                refine tr_seq ?_
                                                refine tr_region ?_
                                                refine tl_step rfl (oj_val (y_move (fe_t rfl)) ?_)
                                                refine tl_step rfl (oj_val (y_move (fe_t rfl)) ?_)
                                                refine tl_step rfl (oj_val (y_sub (fe_t rfl) (fe_t rfl) (by omega)) ?_)
                                                refine tl_step rfl (oj_val (y_assign (fe_t rfl)) ?_)
                                                refine tl_nil ?_
                                                refine tx_then ?_
                                                refine tr_seq ?_
                                                refine tr_region ?_
                                                refine tl_step rfl (oj_val (y_fieldAddr (td := 43) Tryd.underlying45 rfl rfl Tryd.sizeOf43 (o' := 4) rfl (fe_t rfl)) ?_)
                                                refine tl_step rfl (oj_val (y_fieldAddr (td := 3) Tryd.underlying43 rfl rfl Tryd.sizeOf3 (o' := 7) rfl (fe_t rfl)) ?_)
                                                refine tl_step rfl (oj_val (y_ldb 7 Tryd.isAgg3 (fe_t rfl) rfl rfl) ?_)
                                                refine tl_step rfl (oj_val (y_move (fe_t rfl)) ?_)
                                                refine tl_step rfl (oj_val (y_move (fe_t rfl)) ?_)
                                                refine tl_step rfl (oj_val (y_mul (fe_t rfl) (fe_t rfl) (by omega)) ?_)
                                                refine tl_step rfl (oj_val (y_sub (fe_t rfl) (fe_t rfl) (by omega)) ?_)
                                                refine tl_step rfl (oj_val (y_fieldAddr (td := 43) Tryd.underlying45 rfl rfl Tryd.sizeOf43 (o' := 4) rfl (fe_t rfl)) ?_)
                                                refine tl_step rfl (oj_val (y_fieldAddr (td := 3) Tryd.underlying43 rfl rfl Tryd.sizeOf3 (o' := 7) rfl (fe_t rfl)) ?_)
                                                refine tl_step rfl (oj_store1 7 Tryd.sizeOf3 (fe_t rfl) (fe_t rfl) rfl rfl rfl rfl (?_))
                                                refine tl_nil ?_
                                                refine tx_then ?_
                                                refine tr_seq ?_
                                                refine tr_as (r' := blk pb [.slice Aa8 (0 + (g.n - 1)) ca8, (.int .i64 100), (.int .i64 60000), (.int .i64 u.drops), (.int .i64 ((lvl u.b (u.b.level - u.zs.headD 0 * u.b.den)).num)), (.int .i64 ((lvl u.b (u.b.level - u.zs.headD 0 * u.b.den)).den)), (.int .i64 ((lvl u.b (u.b.level - u.zs.headD 0 * u.b.den)).burst)), (.int .i64 ((lvl u.b (u.b.level - u.zs.headD 0 * u.b.den)).level)), (.int .i64 ((lvl u.b (u.b.level - u.zs.headD 0 * u.b.den)).at0)), (.int .i64 u.sent)]) 7 rfl (by simp only [lvl]; rw [hdn] <;> rfl) ?_
                                                refine tr_region ?_
                                                refine tl_step rfl (oj_val (y_fieldAddr (td := 3) Tryd.underlying45 rfl rfl Tryd.sizeOf3 (o' := 9) rfl (fe_t rfl)) ?_)
                                                refine tl_step rfl (oj_val (y_ldb 7 Tryd.isAgg3 (fe_t rfl) rfl rfl) ?_)
                                                refine tl_step rfl (oj_val (y_move (fe_t rfl)) ?_)
                                                refine tl_step rfl (oj_val (y_add (fe_t rfl) (fe_t rfl) (by omega)) ?_)
                                                refine tl_step rfl (oj_val (y_fieldAddr (td := 3) Tryd.underlying45 rfl rfl Tryd.sizeOf3 (o' := 9) rfl (fe_t rfl)) ?_)
                                                refine tl_step rfl (oj_store1 7 Tryd.sizeOf3 (fe_t rfl) (fe_t rfl) rfl rfl rfl rfl (?_))
                                                refine tl_nil ?_
                                                refine tx_then ?_
                                                refine tr_region ?_
                                                refine tl_step rfl (oj_val (y_fieldAddr (td := 39) Tryd.underlying49 rfl rfl Tryd.sizeOf39 (o' := 1) rfl (fe_t rfl)) ?_)
                                                refine tl_step rfl (oj_val (y_ldb 1 Tryd.isAgg39 (fe_t rfl) rfl rfl) ?_)
                                                refine tl_step rfl (oj_val (y_move (fe_t rfl)) ?_)
                                                refine tl_step rfl (oj_slice1 Tryd.underlying39 Tryd.sizeOf3 Tryd.zeroValue3 (fe_t rfl) (by decide) rfl (fun b8 => ?_))
                                                refine tl_step rfl (oj_append (i := 3) (s := 1) (z := (.int .i64 0)) (bytes := 8) Tryd.underlying39 (by kernel_rfl) (fe_t rfl) (fe_t rfl) rfl (rdl_blk 0 rfl) rfl (by decide) (by first | exact oneI | exact oneF (fun _ => rfl) | exact fun u hu => List.all_eq_true.1 (show List.all _ (fun x => x.oneCell') = true from rfl) u hu | (intro u hu; revert u hu; simp [Value.oneCell'])) (by decide) ⟨by omega, by decide⟩ (fun Aa9 ca9 hca9 => ?_))
                                                refine tl_step rfl (oj_val (y_fieldAddr (td := 39) Tryd.underlying49 rfl rfl Tryd.sizeOf39 (o' := 1) rfl (fe_t rfl)) ?_)
                                                refine tl_step rfl (oj_store1 2 Tryd.sizeOf39 (fe_t rfl) (fe_t rfl) rfl rfl rfl rfl (?_))
                                                refine tl_nil ?_
                                                refine tx_in ?_
                                                apply tx_back5 (j + 1) (ro - u.zs.headD 0) ((⟨u.zs.tail, u.drops, lvl u.b (u.b.level - u.zs.headD 0 * u.b.den), u.sent + u.zs.headD 0⟩ : Pc)) ((⟨_, _, _, _⟩ : Vs)) ((⟨_, _, _, _⟩ : Vs))
                                                · exact (cov_cons (by first | rfl | exact v_int (by omega) | exact v_bool (by simp [*])) (cov_nil))
                                                · repeat (first | exact over_nil | refine over_put rfl ?_ | refine over_drop rfl ?_)
                                                · exact fun w h => h.pick [2, 3, 4, 5, 6, 1, 8, 9] _ rfl (by decide)
                                                · refine ⟨⟨hway.next hgk (by omega) (by omega) (by rw [hdn]; omega), ?_, ?_, by dsimp only; omega, ?_⟩, by omega⟩
                                                  · dsimp only
                                                    first | (simp; done) | (simp; omega)
                                                  · dsimp only
                                                    first | rfl | (simp; done)
                                                  · dsimp only
                                                    rw [hzx, List.take_succ_eq_append_getElem hj, hz0]
                                                    simp [cI, zc]
                                            · try (exfalso; omega)
                                              all_goals
                                                refine tr_exit ?_
                                                refine tx_then_exit ?_
                                                refine tx_then_exit ?_
                                                refine tx_in_exit ?_
                                                refine tx_in ?_
                                                refine tx_then ?_
                                                have hdo : does s (l[k]'(by omega)).1 (l[k]'(by omega)).2 = (u, 0, (s.zs.take j)) := does_p (by omega) (by omega) (by omega) (hway.stop hgk (by first | exact fun hl => by omega | exact fun hl => .inl (by omega) | exact fun hl => .inr (by omega) | exact fun hl => .inr (by rw [hdn]; omega))) hway.u
                                                refine tr_region ?_
                                                refine tl_step rfl (oj_val (y_move (fe_t rfl)) ?_)
                                                refine tl_step rfl (oj_val (y_ldbA 0 Tryd.isAgg49 Tryd.sizeOf49 (fe_t rfl) rfl rfl rfl) ?_)
                                                refine tl_step rfl (oj_slice1 Tryd.underlying38 Tryd.sizeOf49 Tryd.zeroValue49 (fe_t rfl) (by decide) rfl (fun b9 => ?_))
                                                refine tl_step rfl (oj_append (i := 4) (s := 2) (z := (.agg #[.int .i64 0, .slice none 0 0])) (bytes := 32) Tryd.underlying38 (by kernel_rfl) (fe_t rfl) (fe_t rfl) rfl (rdl_blk 0 rfl) rfl (by decide) (by first | exact oneI | exact oneF (fun _ => rfl) | exact fun u hu => List.all_eq_true.1 (show List.all _ (fun x => x.oneCell') = true from rfl) u hu | (intro u hu; revert u hu; simp [Value.oneCell'])) (by decide) ⟨by omega, by decide⟩ (fun Aa10 ca10 hca10 => ?_))
                                                refine tl_step rfl (oj_val (y_assign (fe_t rfl)) ?_)
                                                refine tl_nil ?_
                                                refine tx_in ?_
                                                refine tx_then ?_
                                                refine tr_subPush (vs' := (ans ++ [(⟨0, z.A, z.c, (s.zs.take j)⟩ : PA)]).map PA.v) 2 5 rfl rfl rfl (by rw [List.map_append, List.map_cons, List.map_nil]; simp only [PA.v]; rw [hzx, hzn, hlt]) ?_
                                                refine tr_region ?_
                                                refine tl_step rfl (oj_val (y_inc (fe_t rfl) fe_c (by omega)) ?_)
                                                refine tl_step rfl (oj_val (y_move (fe_t rfl)) ?_)
                                                refine tl_nil ?_
                                                apply tx_back5 (k + 1) (u) (ans ++ [(⟨0, z.A, z.c, (s.zs.take j)⟩ : PA)]) ((⟨_, _, _, _⟩ : Vs)) ((⟨_, _, _, _⟩ : Vs))
                                                · exact (cov_cons (by first | rfl | exact v_int (by omega) | exact v_bool (by simp [*])) (cov_cons (by first | rfl | exact v_int (by omega) | exact v_bool (by simp [*])) (cov_nil)))
                                                · repeat (first | exact over_nil | refine over_put rfl ?_ | refine over_drop rfl ?_)
                                                · exact fun w h => h.pick [4, 5, 6, 7, 8] _ rfl (by decide)
                                                · refine ⟨⟨by omega, ?_, ?_, ?_, by dsimp only; omega, ?_, ?_⟩, by omega⟩
                                                  · have h1 := run_next hrun (by omega) (⟨0, z.A, z.c, (s.zs.take j)⟩ : PA) (by rw [hdo]; rfl)
                                                    rw [hdo] at h1
                                                    exact h1
                                                  · first | exact hgn | exact hhn | (dsimp only; simp; omega)
                                                  · first | exact hgx | exact hhx | (dsimp only; rw [hhx]; simp [cI, zc])
                                                  · dsimp only
                                                    rw [hqx, List.flatMap_append]
                                                    first | (simp [cP, zc]; done) | (simp [cP, zc]; omega)
                                                  · first | exact hsd | exact hdn
                                        · try (exfalso; omega)
                                          all_goals
                                            refine tb_skip (i := 17) rfl (by kernel_rfl) rfl (wants_f rfl rfl rfl rfl) ?_
                                            refine tb_skip (i := 18) rfl (by kernel_rfl) rfl (wants_f rfl rfl rfl rfl) ?_
                                            refine tb_skip (i := 19) rfl (by kernel_rfl) rfl (wants_f rfl rfl rfl rfl) ?_
                                            refine tb_skip (i := 20) rfl (by kernel_rfl) rfl (wants_f rfl rfl rfl rfl) ?_
                                            refine tb_skip (i := 21) rfl (by kernel_rfl) rfl (wants_f rfl rfl rfl rfl) ?_
                                            refine tb_skip (i := 22) rfl (by kernel_rfl) rfl (wants_f rfl rfl rfl rfl) ?_
                                            refine tb_skip (i := 23) rfl (by kernel_rfl) rfl (wants_f rfl rfl rfl rfl) ?_
                                            refine tb_skip (i := 24) rfl (by kernel_rfl) rfl (wants_f rfl rfl rfl rfl) ?_
                                            refine tb_skip (i := 25) rfl (by kernel_rfl) rfl (wants_f rfl rfl rfl rfl) ?_
                                            refine tb_skip (i := 26) rfl (by kernel_rfl) rfl (wants_f rfl rfl rfl rfl) ?_
                                            refine tb_skip (i := 27) rfl (by kernel_rfl) rfl (wants_f rfl rfl rfl rfl) ?_
                                            refine tb_skip (i := 28) rfl (by kernel_rfl) rfl (wants_f rfl rfl rfl rfl) ?_
                                            refine tb_float (i := 29) rfl (by kernel_rfl) rfl (wants_none rfl) (yq_of (y_pickf (fe_t rfl) fe_c)) ?_
                                            refine tb_done (by kernel_rfl) ?_
                                            refine tx_then ?_
                                            refine tr_condf (fe_t rfl) ?_
                                            refine tr_exit ?_
                                            refine tx_then_exit ?_
                                            refine tx_then_exit ?_
                                            refine tx_in_exit ?_
                                            refine tx_in ?_
                                            refine tx_then ?_
                                            have hdo : does s (l[k]'(by omega)).1 (l[k]'(by omega)).2 = (u, 0, (s.zs.take j)) := does_p (by omega) (by omega) (by omega) (hway.stop hgk (by first | exact fun hl => by omega | exact fun hl => .inl (by omega) | exact fun hl => .inr (by omega) | exact fun hl => .inr (by rw [hdn]; omega))) hway.u
                                            refine tr_region ?_
                                            refine tl_step rfl (oj_val (y_move (fe_t rfl)) ?_)
                                            refine tl_step rfl (oj_val (y_ldbA 0 Tryd.isAgg49 Tryd.sizeOf49 (fe_t rfl) rfl rfl rfl) ?_)
                                            refine tl_step rfl (oj_slice1 Tryd.underlying38 Tryd.sizeOf49 Tryd.zeroValue49 (fe_t rfl) (by decide) rfl (fun b10 => ?_))
                                            refine tl_step rfl (oj_append (i := 4) (s := 2) (z := (.agg #[.int .i64 0, .slice none 0 0])) (bytes := 32) Tryd.underlying38 (by kernel_rfl) (fe_t rfl) (fe_t rfl) rfl (rdl_blk 0 rfl) rfl (by decide) (by first | exact oneI | exact oneF (fun _ => rfl) | exact fun u hu => List.all_eq_true.1 (show List.all _ (fun x => x.oneCell') = true from rfl) u hu | (intro u hu; revert u hu; simp [Value.oneCell'])) (by decide) ⟨by omega, by decide⟩ (fun Aa11 ca11 hca11 => ?_))
                                            refine tl_step rfl (oj_val (y_assign (fe_t rfl)) ?_)
                                            refine tl_nil ?_
                                            refine tx_in ?_
                                            refine tx_then ?_
                                            refine tr_subPush (vs' := (ans ++ [(⟨0, z.A, z.c, (s.zs.take j)⟩ : PA)]).map PA.v) 2 5 rfl rfl rfl (by rw [List.map_append, List.map_cons, List.map_nil]; simp only [PA.v]; rw [hzx, hzn, hlt]) ?_
                                            refine tr_region ?_
                                            refine tl_step rfl (oj_val (y_inc (fe_t rfl) fe_c (by omega)) ?_)
                                            refine tl_step rfl (oj_val (y_move (fe_t rfl)) ?_)
                                            refine tl_nil ?_
                                            apply tx_back5 (k + 1) (u) (ans ++ [(⟨0, z.A, z.c, (s.zs.take j)⟩ : PA)]) ((⟨_, _, _, _⟩ : Vs)) ((⟨_, _, _, _⟩ : Vs))
                                            · exact (cov_cons (by first | rfl | exact v_int (by omega) | exact v_bool (by simp [*])) (cov_cons (by first | rfl | exact v_int (by omega) | exact v_bool (by simp [*])) (cov_nil)))
                                            · repeat (first | exact over_nil | refine over_put rfl ?_ | refine over_drop rfl ?_)
                                            · exact fun w h => h.pick [4, 5, 6, 7, 8] _ rfl (by decide)
                                            · refine ⟨⟨by omega, ?_, ?_, ?_, by dsimp only; omega, ?_, ?_⟩, by omega⟩
                                              · have h1 := run_next hrun (by omega) (⟨0, z.A, z.c, (s.zs.take j)⟩ : PA) (by rw [hdo]; rfl)
                                                rw [hdo] at h1
                                                exact h1
                                              · first | exact hgn | exact hhn | (dsimp only; simp; omega)
                                              · first | exact hgx | exact hhx | (dsimp only; rw [hhx]; simp [cI, zc])
                                              · dsimp only
                                                rw [hqx, List.flatMap_append]
                                                first | (simp [cP, zc]; done) | (simp [cP, zc]; omega)
                                              · first | exact hsd | exact hdn
                                    · try (exfalso; omega)
                                      all_goals
                                        refine tb_skip (i := 7) rfl (by kernel_rfl) rfl (wants_f rfl rfl rfl rfl) ?_
                                        refine tb_skip (i := 8) rfl (by kernel_rfl) rfl (wants_f rfl rfl rfl rfl) ?_
                                        refine tb_skip (i := 9) rfl (by kernel_rfl) rfl (wants_f rfl rfl rfl rfl) ?_
                                        refine tb_skip (i := 10) rfl (by kernel_rfl) rfl (wants_f rfl rfl rfl rfl) ?_
                                        refine tb_skip (i := 11) rfl (by kernel_rfl) rfl (wants_f rfl rfl rfl rfl) ?_
                                        refine tb_skip (i := 12) rfl (by kernel_rfl) rfl (wants_f rfl rfl rfl rfl) ?_
                                        refine tb_skip (i := 13) rfl (by kernel_rfl) rfl (wants_f rfl rfl rfl rfl) ?_
                                        refine tb_skip (i := 14) rfl (by kernel_rfl) rfl (wants_f rfl rfl rfl rfl) ?_
                                        refine tb_float (i := 15) rfl (by kernel_rfl) rfl (wants_none rfl) (yq_of (y_pickf (fe_t rfl) fe_c)) ?_
                                        refine tb_float (i := 16) rfl (by kernel_rfl) rfl (wants_none rfl) (yq_of (y_move (fe_t rfl))) ?_
                                        refine tb_skip (i := 17) rfl (by kernel_rfl) rfl (wants_f rfl rfl rfl rfl) ?_
                                        refine tb_skip (i := 18) rfl (by kernel_rfl) rfl (wants_f rfl rfl rfl rfl) ?_
                                        refine tb_skip (i := 19) rfl (by kernel_rfl) rfl (wants_f rfl rfl rfl rfl) ?_
                                        refine tb_skip (i := 20) rfl (by kernel_rfl) rfl (wants_f rfl rfl rfl rfl) ?_
                                        refine tb_skip (i := 21) rfl (by kernel_rfl) rfl (wants_f rfl rfl rfl rfl) ?_
                                        refine tb_skip (i := 22) rfl (by kernel_rfl) rfl (wants_f rfl rfl rfl rfl) ?_
                                        refine tb_skip (i := 23) rfl (by kernel_rfl) rfl (wants_f rfl rfl rfl rfl) ?_
                                        refine tb_skip (i := 24) rfl (by kernel_rfl) rfl (wants_f rfl rfl rfl rfl) ?_
                                        refine tb_skip (i := 25) rfl (by kernel_rfl) rfl (wants_f rfl rfl rfl rfl) ?_
                                        refine tb_skip (i := 26) rfl (by kernel_rfl) rfl (wants_f rfl rfl rfl rfl) ?_
                                        refine tb_skip (i := 27) rfl (by kernel_rfl) rfl (wants_f rfl rfl rfl rfl) ?_
                                        refine tb_skip (i := 28) rfl (by kernel_rfl) rfl (wants_f rfl rfl rfl rfl) ?_
                                        refine tb_float (i := 29) rfl (by kernel_rfl) rfl (wants_none rfl) (yq_of (y_pickf (fe_t rfl) fe_c)) ?_
                                        refine tb_done (by kernel_rfl) ?_
                                        refine tx_then ?_
                                        refine tr_condf (fe_t rfl) ?_
                                        refine tr_exit ?_
                                        refine tx_then_exit ?_
                                        refine tx_then_exit ?_
                                        refine tx_in_exit ?_
                                        refine tx_in ?_
                                        refine tx_then ?_
                                        have hdo : does s (l[k]'(by omega)).1 (l[k]'(by omega)).2 = (u, 0, (s.zs.take j)) := does_p (by omega) (by omega) (by omega) (hway.stop hgk (by first | exact fun hl => by omega | exact fun hl => .inl (by omega) | exact fun hl => .inr (by omega) | exact fun hl => .inr (by rw [hdn]; omega))) hway.u
                                        refine tr_region ?_
                                        refine tl_step rfl (oj_val (y_move (fe_t rfl)) ?_)
                                        refine tl_step rfl (oj_val (y_ldbA 0 Tryd.isAgg49 Tryd.sizeOf49 (fe_t rfl) rfl rfl rfl) ?_)
                                        refine tl_step rfl (oj_slice1 Tryd.underlying38 Tryd.sizeOf49 Tryd.zeroValue49 (fe_t rfl) (by decide) rfl (fun b11 => ?_))
                                        refine tl_step rfl (oj_append (i := 4) (s := 2) (z := (.agg #[.int .i64 0, .slice none 0 0])) (bytes := 32) Tryd.underlying38 (by kernel_rfl) (fe_t rfl) (fe_t rfl) rfl (rdl_blk 0 rfl) rfl (by decide) (by first | exact oneI | exact oneF (fun _ => rfl) | exact fun u hu => List.all_eq_true.1 (show List.all _ (fun x => x.oneCell') = true from rfl) u hu | (intro u hu; revert u hu; simp [Value.oneCell'])) (by decide) ⟨by omega, by decide⟩ (fun Aa12 ca12 hca12 => ?_))
                                        refine tl_step rfl (oj_val (y_assign (fe_t rfl)) ?_)
                                        refine tl_nil ?_
                                        refine tx_in ?_
                                        refine tx_then ?_
                                        refine tr_subPush (vs' := (ans ++ [(⟨0, z.A, z.c, (s.zs.take j)⟩ : PA)]).map PA.v) 2 5 rfl rfl rfl (by rw [List.map_append, List.map_cons, List.map_nil]; simp only [PA.v]; rw [hzx, hzn, hlt]) ?_
                                        refine tr_region ?_
                                        refine tl_step rfl (oj_val (y_inc (fe_t rfl) fe_c (by omega)) ?_)
                                        refine tl_step rfl (oj_val (y_move (fe_t rfl)) ?_)
                                        refine tl_nil ?_
                                        apply tx_back5 (k + 1) (u) (ans ++ [(⟨0, z.A, z.c, (s.zs.take j)⟩ : PA)]) ((⟨_, _, _, _⟩ : Vs)) ((⟨_, _, _, _⟩ : Vs))
                                        · exact (cov_cons (by first | rfl | exact v_int (by omega) | exact v_bool (by simp [*])) (cov_cons (by first | rfl | exact v_int (by omega) | exact v_bool (by simp [*])) (cov_nil)))
                                        · repeat (first | exact over_nil | refine over_put rfl ?_ | refine over_drop rfl ?_)
                                        · exact fun w h => h.pick [4, 5, 6, 7, 8] _ rfl (by decide)
                                        · refine ⟨⟨by omega, ?_, ?_, ?_, by dsimp only; omega, ?_, ?_⟩, by omega⟩
                                          · have h1 := run_next hrun (by omega) (⟨0, z.A, z.c, (s.zs.take j)⟩ : PA) (by rw [hdo]; rfl)
                                            rw [hdo] at h1
                                            exact h1
                                          · first | exact hgn | exact hhn | (dsimp only; simp; omega)
                                          · first | exact hgx | exact hhx | (dsimp only; rw [hhx]; simp [cI, zc])
                                          · dsimp only
                                            rw [hqx, List.flatMap_append]
                                            first | (simp [cP, zc]; done) | (simp [cP, zc]; omega)
                                          · first | exact hsd | exact hdn
      · try (exfalso; omega)
        all_goals
          refine tr_exit ?_
          refine tx_then_exit ?_
          refine tx_then_exit ?_
          refine tx_in_exit ?_
          refine tx_then ?_
          refine tr_seq ?_
          refine tb_draw 3 (sel _ [0, 1, 2, 3]) (fun w h => h.sel _ rfl (by decide)) rfl ?_
          refine tb_float (i := 0) rfl (by kernel_rfl) rfl (wants_none rfl) (yq_of (y_move (fe_t rfl))) ?_
          refine tb_float (i := 1) rfl (by kernel_rfl) rfl (wants_none rfl) (yq_of (y_ldbA 3 Tryd.isAgg45 Tryd.sizeOf45 (fe_t rfl) rfl rfl rfl)) ?_
          refine tb_float (i := 2) rfl (by kernel_rfl) rfl (wants_none rfl) (yq_of (y_assign (fe_t rfl))) ?_
          refine tb_one2 (i := 3) rfl (by kernel_rfl) (by kernel_rfl) (wants_none rfl) (oj_storeW 4 Tryd.sizeOf45 (fe_t rfl) (fe_t rfl) rfl rfl rfl rfl rfl (⟨fun w h => h.pick [0, 1, 2, 3] _ rfl (by decide), ?_⟩))
          refine tb_float (i := 4) rfl (by kernel_rfl) rfl (wants_none rfl) (yq_of (y_assign fe_c)) ?_
          refine tb_done (by kernel_rfl) ?_
          refine tx_then ?_
          refine tr_ret ?_
          refine tx_ret (res3 Tryd.results44 (rok_t rfl) (rok_b 4 Tryd.isAgg45 Tryd.sizeOf45 rfl rfl rfl) (rok_t rfl)) (fun w' hS => ?_)
          have hrn := run_end hrun (by omega)
          exact ⟨(s, ans, h, q), ⟨hrn, hhn, hhx, by dsimp only; omega, hqx, by dsimp only; omega⟩, rfl, hS.pick [2, 0, 1] _ rfl (by decide)⟩

set_option maxRecDepth 100000 in
set_option maxHeartbeats 4000000 in
theorem yplay_bad (num den burst : Int) (A : Option Addr) (n c : Nat) (w : World) (hg : okb num den burst = false) :
    Calls Tryd.prog 44 #[(.int .i64 num), (.int .i64 den), (.int .i64 burst), .slice A n c] w fun e w' => e = .returned (.tuple #[.slice none 0 0, .agg #[.slice none 0 0, (.int .i64 0), (.int .i64 0), (.int .i64 0), (.int .i64 0), (.int .i64 0), (.int .i64 0), (.int .i64 0), (.int .i64 0), (.int .i64 0)], (.int .i64 2)]) ∧ St w w' [] := by
  refine calls_tr Tryd.func44 Tryd.ntmps44 rfl rfl (St.refl _) ?_
  refine tr_seq ?_
  refine tr_region ?_
  refine tl_step rfl (oj_val (y_assign fe_c) ?_)
  refine tl_step rfl (oj_alloc Tryd.zeroValue45 (fun rb => ?_))
  refine tl_step rfl (oj_val (y_assign fe_c) ?_)
  refine tl_nil ?_
  refine tx_then ?_
  refine tr_seq ?_
  refine tr_seq ?_
  refine tr_region ?_
  refine tl_step rfl (oj_val (y_move (fe_t rfl)) ?_)
  refine tl_step rfl (oj_val (y_move (fe_t rfl)) ?_)
  refine tl_step rfl (oj_val (y_move (fe_t rfl)) ?_)
  refine tl_step rfl (oj_callv Tryd.call70 fe_f (fel_cons (fe_t rfl) (fel_cons (fe_t rfl) (fel_cons (fe_t rfl) fel_nil))) (fun w' hS => ywrong_any num den burst w') ?_)
  refine tl_step rfl (oj_val (y_assign (fe_t rfl)) ?_)
  refine tl_nil ?_
  refine tx_then ?_
  refine tr_seq ?_
  refine tr_region ?_
  refine tl_step rfl (oj_val (y_move (fe_t rfl)) ?_)
  refine tl_step rfl (oj_val (y_neq (fe_t rfl) fe_c) ?_)
  refine tl_nil ?_
  refine tx_then ?_
  refine tr_condp (fe_t rfl) (fun hq1 => ?_) (fun hq2 => ?_)
  · try (exfalso; omega)
    all_goals
      refine tr_seq ?_
      refine tr_region ?_
      refine tl_step rfl (oj_val (y_build (is := []) (vs := []) (cs := [.slice none 0 0, .int .i64 0, .int .i64 0, .int .i64 0, .int .i64 0, .int .i64 0, .int .i64 0, .int .i64 0, .int .i64 0, .int .i64 0]) rfl fel_nil (by kernel_rfl)) ?_)
      refine tl_step rfl (oj_val (y_move (fe_t rfl)) ?_)
      refine tl_step rfl (oj_val (y_assign fe_c) ?_)
      refine tl_step rfl (oj_storeW 0 Tryd.sizeOf45 (fe_t rfl) (fe_t rfl) rfl rfl rfl rfl rfl (?_))
      refine tl_step rfl (oj_val (y_assign (fe_t rfl)) ?_)
      refine tl_nil ?_
      refine tx_then ?_
      refine tr_ret ?_
      refine tx_then_ret ?_
      refine tx_ret (res3 Tryd.results44 (rok_t rfl) (rok_b 0 Tryd.isAgg45 Tryd.sizeOf45 rfl rfl rfl) (rok_t rfl)) (fun w' hS => ?_)
      exact ⟨by rw [hg]; rfl, hS.pick [] _ rfl (by decide)⟩
  · exact absurd hq2 (by rw [hg]; decide)

end Go.Proofs.YtfcpmcdlgkfolaaDoor.Pace
