/- Walks: Play. -/
import Derived.Test.YtpknjfeiiaopgaaHpF
import Derived.Test.YtpknjfeiiaopgaaHpS
namespace Go.Proofs.Ytpknjfeiiaopgaa.Heap
open Go.RowKit Go.Proofs.Ytpknjfeiiaopgaa.E Go.Proofs.Ytpknjfeiiaopgaa.Big

set_option maxRecDepth 100000 in
set_option maxHeartbeats 400000 in
theorem clipE (A : Option Addr) (n c : Nat) (hc : n ≤ c) (w : World) :
    Calls Try.prog 64 #[.slice A n c] w fun e w' => e = .returned (.slice A n n) ∧ St w w' [] := by
  refine calls_tr Try.func64 Try.ntmps64 rfl rfl (St.refl _) ?_
  refine tr_seq ?_
  refine tr_region ?_
  refine tl_step rfl (oj_val (y_assign fe_c) ?_)
  refine tl_nil ?_
  refine tx_then ?_
  refine tr_seq ?_
  refine tr_region ?_
  refine tl_step rfl (oj_val (y_move (fe_t rfl)) ?_)
  refine tl_step rfl (oj_val (y_move (fe_t rfl)) ?_)
  refine tl_step rfl (oj_val (y_len Try.underlying27 (fe_t rfl)) ?_)
  refine tl_step rfl (oj_val (y_move (fe_t rfl)) ?_)
  refine tl_step rfl (oj_val (y_len Try.underlying27 (fe_t rfl)) ?_)
  refine tl_step rfl (oj_val (y_cutM Try.underlying27 Try.sizeOf3 (fe_t rfl) (fe_t rfl) (fe_t rfl) hc) ?_)
  refine tl_step rfl (oj_val (y_assign (fe_t rfl)) ?_)
  refine tl_nil ?_
  refine tx_then ?_
  refine tr_ret ?_
  refine tx_ret (res1 Try.results64 (rok_t rfl)) (fun w' hS => ?_)
  exact ⟨rfl, hS.pick [] _ rfl (by decide)⟩

set_option maxRecDepth 100000 in
set_option maxHeartbeats 8000000 in
theorem playE (A : Option Addr) (n c : Nat) (os : List Op4) (w : World) (hr : Rd w A (os.flatMap c4)) (hn : os.length = n) (hm : n ≤ 4398046511103) :
    Calls Try.prog 22 #[.slice A n c] w fun e w' => ∃ r : PR, PRok n (run os) r ∧ e = .returned (.tuple #[.slice r.e.A r.e.n r.e.c, .slice r.p.A r.p.n r.p.c, .slice r.d.A r.d.n r.k]) ∧ St w w' [vec 29 1 (.slice r.e.A r.e.n r.e.c) r.e.n r.e.xs, vec 3 1 (.slice r.p.A r.p.n r.p.c) r.p.n r.p.xs, vec 3 1 (.slice r.d.A r.d.n r.d.c) r.d.n r.d.xs] := by
  refine calls_tr Try.func22 Try.ntmps22 rfl rfl (St.refl _) ?_
  refine tr_seq ?_
  refine tr_region ?_
  refine tl_step rfl (oj_val (y_assign fe_c) ?_)
  refine tl_step rfl (oj_val (y_assign fe_c) ?_)
  refine tl_step rfl (oj_val (y_assign fe_c) ?_)
  refine tl_nil ?_
  refine tx_then ?_
  refine tr_seq ?_
  refine tr_region ?_
  refine tl_step rfl (oj_makeMap (fun b_mp => ?_))
  refine tl_step rfl (oj_val ((fun {u0} hx hb => y_build (is := [1]) (vs := [u0]) (cs := [.slice none 0 0, u0]) rfl hx hb) (fel_cons (fe_t rfl) fel_nil) (by kernel_rfl)) ?_)
  refine tl_step rfl (oj_box (fe_t rfl) (fun hb => ?_))
  refine tl_step rfl (oj_val (y_assign (fe_t rfl)) ?_)
  refine tl_nil ?_
  refine tx_then ?_
  refine tr_seq ?_
  refine tr_region ?_
  refine tl_step rfl (oj_val (y_assign fe_c) ?_)
  refine tl_nil ?_
  refine tx_then ?_
  refine tr_seq ?_
  refine tr_region ?_
  refine tl_step rfl (oj_val (y_assign fe_c) ?_)
  refine tl_step rfl (oj_val (y_assign fe_c) ?_)
  refine tl_nil ?_
  refine tx_then ?_
  refine tr_seq ?_
  refine tr_seq ?_
  refine tr_region ?_
  refine tl_step rfl (oj_val (y_move (fe_t rfl)) ?_)
  refine tl_step rfl (oj_val (y_len Try.underlying46 (fe_t rfl)) ?_)
  refine tl_step rfl (oj_val (y_move fe_c) ?_)
  refine tl_nil ?_
  refine tx_then ?_
  refine tr_block ?_
  refine tr_add (r := vec 125 3 (.slice none 0 0) 0 []) vec_nil rfl ?_
  refine tr_add (r := vec 29 1 (.slice none 0 0) 0 []) vec_nil rfl ?_
  refine tr_add (r := vec 3 1 (.slice none 0 0) 0 []) vec_nil rfl ?_
  refine tr_loop5 [6, 7, 10, 11, 12, 18, 19, 20, 21, 22, 23, 24, 25, 26, 27, 28, 29, 30, 31, 32, 33, 34, 35, 36, 37, 38, 39, 40, 41, 42, 43] (fun (i : Nat) (s : Rn) (z : Hd) (e1 : Vs) (p1 : Vs) => [(18, .int .i64 (i : Int)), (6, .slice e1.A e1.n e1.c), (7, .slice p1.A p1.n p1.c)]) 0 (fun (i : Nat) (s : Rn) (z : Hd) (e1 : Vs) (p1 : Vs) => [(3, blk hb [.slice z.A z.n z.c, .map (some b_mp)]), (2, vec 125 3 (.slice z.A z.n z.c) z.n (z.l.flatMap cI3)), (4, mpR b_mp z.m []), (1, vec 29 1 (.slice e1.A e1.n e1.c) e1.n e1.xs), (0, vec 3 1 (.slice p1.A p1.n p1.c) p1.n p1.xs)]) (fun (i : Nat) (s : Rn) (z : Hd) (e1 : Vs) (p1 : Vs) => i ≤ n ∧ s = run (os.take i) ∧ Gd z.n z.l z.m s.f ∧ z.n ≤ i ∧ (e1.n = i ∧ s.errs.length = i) ∧ e1.xs = cI s.errs ∧ p1.n = s.pops.length ∧ p1.xs = cI s.pops ∧ p1.n ≤ i) (fun (i : Nat) (s : Rn) (z : Hd) (e1 : Vs) (p1 : Vs) => n - i) (0) ((⟨fun _ => none, [], []⟩ : Rn)) ((⟨none, 0, 0, [], []⟩ : Hd)) (⟨none, 0, 0, []⟩ : Vs) (⟨none, 0, 0, []⟩ : Vs) (cov_cons (by first | rfl | exact v_int (by omega) | exact v_bool (by simp [*])) (cov_cons (by first | rfl | exact v_int (by omega) | exact v_bool (by simp [*])) (cov_cons (by first | rfl | exact v_int (by omega) | exact v_bool (by simp [*])) (cov_nil)))) (fun w h => h) ?_ ?_
  · try dsimp only
    exact ⟨by omega, rfl, Gd.nil, Nat.le_refl _, ⟨rfl, rfl⟩, rfl, rfl, rfl, Nat.le_refl _⟩
  intro i s z e1 p1 hp
  obtain ⟨hi, hs, hg, hzi, ⟨hen, hel⟩, hex, hpn, hpx, hpi⟩ := hp
  refine tr_seq ?_
  refine tr_region ?_
  refine tl_step rfl (oj_val (y_lss (fe_t rfl) (fe_t rfl)) ?_)
  refine tl_nil ?_
  refine tx_then ?_
  refine tr_seq ?_
  refine tr_condp (fe_t rfl) (fun hq1 => ?_) (fun hq2 => ?_)
  · try (exfalso; omega)
    all_goals
      refine tr_skip ?_
      refine tx_then ?_
      refine tr_seq ?_
      refine tr_block ?_
      refine tr_seq ?_
      refine tr_region ?_
      refine tl_step rfl (oj_val (y_index Try.underlying46 Try.sizeOf121 (fe_t rfl) (fe_t rfl) (rdl_out hr) (by rw [flat_len hc4]; omega) (by decide) (by omega) rfl) ?_)
      refine tl_step rfl (oj_val (y_ldA (cs := c4 (os.getD i o0)) Try.isAgg121 Try.sizeOf121 (fe_t rfl) (rdl_out hr) rfl (by decide) (flatGA (d := o0) hc4 (by omega))) ?_)
      refine tl_step rfl (oj_alloc Try.zeroValue121 (fun bo => ?_))
      refine tl_step rfl (oj_storeW 0 Try.sizeOf121 (fe_t rfl) (fe_t rfl) rfl rfl rfl rfl rfl (?_))
      refine tl_nil ?_
      refine tx_then ?_
      refine tr_seq ?_
      refine tr_region ?_
      refine tl_step rfl (oj_val (y_move (fe_t rfl)) ?_)
      refine tl_step rfl (oj_val (y_ldbA 0 Try.isAgg121 Try.sizeOf121 (fe_t rfl) rfl rfl rfl) ?_)
      refine tl_step rfl (oj_call2 Try.call62 fe_f (fel_cons (fe_t rfl) (fel_cons (fe_t rfl) fel_nil)) (fun w' hS => doE (os.getD i o0) hg (hS.pick [4, 3, 5, 0, 1, 2] [_, _, _, _, _, _] rfl (by decide)) (by omega)) (fun r1 hr1 => ?_))
      refine tl_step rfl (oj_val (y_move (fe_t rfl)) ?_)
      refine tl_step rfl (oj_val (y_extract (fe_t rfl) rfl) ?_)
      refine tl_step rfl (oj_val (y_extract (fe_t rfl) rfl) ?_)
      refine tl_step rfl (oj_val (y_assign (fe_t rfl)) ?_)
      refine tl_step rfl (oj_val (y_assign (fe_t rfl)) ?_)
      refine tl_nil ?_
      refine tx_then ?_
      refine tr_seq ?_
      refine tr_region ?_
      refine tl_step rfl (oj_val (y_move (fe_t rfl)) ?_)
      refine tl_step rfl (oj_val (y_move (fe_t rfl)) ?_)
      refine tl_step rfl (oj_slice1 Try.underlying47 Try.sizeOf29 Try.zeroValue29 (fe_t rfl) (by decide) rfl (fun b1 => ?_))
      refine tl_step rfl (oj_appendB (i := 6) (s := 1) (z := (.int .i64 0)) (bytes := 8) Try.underlying47 (by kernel_rfl) (fe_t rfl) (fe_t rfl) rfl (rdl_blk 0 rfl) rfl (by decide) (by first | exact oneI | exact oneF (fun _ => rfl) | exact fun u hu => List.all_eq_true.1 (show List.all _ (fun x => x.oneCell') = true from rfl) u hu | (intro u hu; revert u hu; simp [Value.oneCell'])) (by decide) ⟨by omega, by decide⟩ (fun Aa1 ca1 hca1 => ?_))
      refine tl_step rfl (oj_val (y_assign (fe_t rfl)) ?_)
      refine tl_nil ?_
      refine tx_then ?_
      refine tr_seq ?_
      refine tr_region ?_
      refine tl_step rfl (oj_val (y_move (fe_t rfl)) ?_)
      refine tl_step rfl (oj_val (y_eq (fe_t rfl) fe_c) ?_)
      refine tl_step rfl (oj_val (y_move (fe_t rfl)) ?_)
      refine tl_splitp (d := 34) rfl (fun hq3 => ?_) (fun hq4 => ?_)
      · try (exfalso; omega)
        all_goals
          refine tl_want rfl rfl rfl (oj_val (y_fieldAddr (td := 3) Try.underlying121 rfl rfl Try.sizeOf3 (o' := 0) rfl (fe_t rfl)) ?_)
          refine tl_want rfl rfl rfl (oj_val (y_ldb 4 Try.isAgg3 (fe_t rfl) rfl rfl) ?_)
          refine tl_want rfl rfl rfl (oj_val (y_eq (fe_t rfl) fe_c) ?_)
          refine tl_step rfl (oj_val (y_pickt (fe_t rfl) (fe_t rfl)) ?_)
          refine tl_nil ?_
          refine tx_then ?_
          refine tr_condp (fe_t rfl) (fun hq5 => ?_) (fun hq6 => ?_)
          · try (exfalso; omega)
            all_goals
              refine tr_region ?_
              refine tl_step rfl (oj_val (y_move (fe_t rfl)) ?_)
              refine tl_step rfl (oj_val (y_move (fe_t rfl)) ?_)
              refine tl_step rfl (oj_slice1 Try.underlying27 Try.sizeOf3 Try.zeroValue3 (fe_t rfl) (by decide) rfl (fun b2 => ?_))
              refine tl_step rfl (oj_appendB (i := 6) (s := 1) (z := (.int .i64 0)) (bytes := 8) Try.underlying27 (by kernel_rfl) (fe_t rfl) (fe_t rfl) rfl (rdl_blk 0 rfl) rfl (by decide) (by first | exact oneI | exact oneF (fun _ => rfl) | exact fun u hu => List.all_eq_true.1 (show List.all _ (fun x => x.oneCell') = true from rfl) u hu | (intro u hu; revert u hu; simp [Value.oneCell'])) (by decide) ⟨by omega, by decide⟩ (fun Aa2 ca2 hca2 => ?_))
              refine tl_step rfl (oj_val (y_assign (fe_t rfl)) ?_)
              refine tl_nil ?_
              refine tx_in ?_
              refine tx_then ?_
              refine tr_region ?_
              refine tl_step rfl (oj_val (y_inc (fe_t rfl) fe_c (by omega)) ?_)
              refine tl_step rfl (oj_val (y_move (fe_t rfl)) ?_)
              refine tl_nil ?_
              apply tx_back5 (i + 1) (go s (os.getD i o0)) (r1) ((⟨_, _, _, _⟩ : Vs)) ((⟨_, _, _, _⟩ : Vs))
              · exact (cov_cons (by first | rfl | exact v_int (by omega) | exact v_bool (by simp [*])) (cov_cons (by first | rfl | exact v_int (by omega) | exact v_bool (by simp [*])) (cov_cons (by first | rfl | exact v_int (by omega) | exact v_bool (by simp [*])) (cov_nil))))
              · repeat (first | exact over_nil | refine over_put rfl ?_ | refine over_drop rfl ?_)
              · exact fun w h => h.pick [6, 7, 3, 2, 4] _ rfl (by decide)
              · exact ⟨⟨by omega, by rw [hs]; exact (run_next (by omega)).symm, hr1.1, by have := hr1.2; omega, ⟨by dsimp only; omega, by rw [go_errs]; simp; omega⟩, by rw [go_errs, ← cI_app, ← hex]; rfl, by rw [go_pops (by assumption) (by assumption)]; simp; omega, by rw [go_pops (by assumption) (by assumption), ← cI_app, ← hpx]; rfl, by dsimp only; omega⟩, by omega⟩
          · try (exfalso; omega)
            all_goals
              refine tr_skip ?_
              refine tx_in ?_
              refine tx_then ?_
              refine tr_region ?_
              refine tl_step rfl (oj_val (y_inc (fe_t rfl) fe_c (by omega)) ?_)
              refine tl_step rfl (oj_val (y_move (fe_t rfl)) ?_)
              refine tl_nil ?_
              apply tx_back5 (i + 1) (go s (os.getD i o0)) (r1) ((⟨_, _, _, _⟩ : Vs)) ((⟨_, _, _, _⟩ : Vs))
              · exact (cov_cons (by first | rfl | exact v_int (by omega) | exact v_bool (by simp [*])) (cov_cons (by first | rfl | exact v_int (by omega) | exact v_bool (by simp [*])) (cov_cons (by first | rfl | exact v_int (by omega) | exact v_bool (by simp [*])) (cov_nil))))
              · repeat (first | exact over_nil | refine over_put rfl ?_ | refine over_drop rfl ?_)
              · exact fun w h => h.pick [5, 6, 2, 1, 3] _ rfl (by decide)
              · exact ⟨⟨by omega, by rw [hs]; exact (run_next (by omega)).symm, hr1.1, by have := hr1.2; omega, ⟨by dsimp only; omega, by rw [go_errs]; simp; omega⟩, by rw [go_errs, ← cI_app, ← hex]; rfl, by rw [go_stay (fun h9 => by first | exact absurd h9.1 (by assumption) | exact absurd h9.2 (by assumption))]; exact hpn, by rw [go_stay (fun h9 => by first | exact absurd h9.1 (by assumption) | exact absurd h9.2 (by assumption))]; exact hpx, by dsimp only; omega⟩, by omega⟩
      · try (exfalso; omega)
        all_goals
          refine tl_skip rfl rfl rfl rfl ?_
          refine tl_skip rfl rfl rfl rfl ?_
          refine tl_skip rfl rfl rfl rfl ?_
          refine tl_step rfl (oj_val (y_pickf (fe_t rfl) fe_c) ?_)
          refine tl_nil ?_
          refine tx_then ?_
          refine tr_condf (fe_t rfl) ?_
          refine tr_skip ?_
          refine tx_in ?_
          refine tx_then ?_
          refine tr_region ?_
          refine tl_step rfl (oj_val (y_inc (fe_t rfl) fe_c (by omega)) ?_)
          refine tl_step rfl (oj_val (y_move (fe_t rfl)) ?_)
          refine tl_nil ?_
          apply tx_back5 (i + 1) (go s (os.getD i o0)) (r1) ((⟨_, _, _, _⟩ : Vs)) ((⟨_, _, _, _⟩ : Vs))
          · exact (cov_cons (by first | rfl | exact v_int (by omega) | exact v_bool (by simp [*])) (cov_cons (by first | rfl | exact v_int (by omega) | exact v_bool (by simp [*])) (cov_cons (by first | rfl | exact v_int (by omega) | exact v_bool (by simp [*])) (cov_nil))))
          · repeat (first | exact over_nil | refine over_put rfl ?_ | refine over_drop rfl ?_)
          · exact fun w h => h.pick [5, 6, 2, 1, 3] _ rfl (by decide)
          · exact ⟨⟨by omega, by rw [hs]; exact (run_next (by omega)).symm, hr1.1, by have := hr1.2; omega, ⟨by dsimp only; omega, by rw [go_errs]; simp; omega⟩, by rw [go_errs, ← cI_app, ← hex]; rfl, by rw [go_stay (fun h9 => by first | exact absurd h9.1 (by assumption) | exact absurd h9.2 (by assumption))]; exact hpn, by rw [go_stay (fun h9 => by first | exact absurd h9.1 (by assumption) | exact absurd h9.2 (by assumption))]; exact hpx, by dsimp only; omega⟩, by omega⟩
  · try (exfalso; omega)
    all_goals
      refine tr_exit ?_
      refine tx_then_exit ?_
      refine tx_then_exit ?_
      refine tx_in_exit ?_
      refine tx_then ?_
      refine tr_seq ?_
      refine tr_block ?_
      refine tr_add (r := vec 3 1 (.slice none 0 0) 0 []) vec_nil rfl ?_
      refine tr_loop8 [8, 44, 45, 46, 47, 48, 49, 50, 51, 52, 53, 54, 55] (fun (f1 : Tb) (A2 : Option Addr) (n2 : Nat) (c2 : Nat) (l2 : List I3) (m2 : Mp) (L : List Int) (d1 : Vs) => [(8, .slice d1.A d1.n d1.c)]) 0 (fun (f1 : Tb) (A2 : Option Addr) (n2 : Nat) (c2 : Nat) (l2 : List I3) (m2 : Mp) (L : List Int) (d1 : Vs) => [(4, blk hb [.slice A2 n2 c2, .map (some b_mp)]), (3, vec 125 3 (.slice A2 n2 c2) n2 (l2.flatMap cI3)), (5, mpR b_mp m2 []), (0, vec 3 1 (.slice d1.A d1.n d1.c) d1.n d1.xs)]) (fun (f1 : Tb) (A2 : Option Addr) (n2 : Nat) (c2 : Nat) (l2 : List I3) (m2 : Mp) (L : List Int) (d1 : Vs) => Gd n2 l2 m2 f1 ∧ Half s.f f1 L ∧ L.length + n2 ≤ n ∧ d1.n = L.length ∧ d1.xs = cI L) (fun (f1 : Tb) (A2 : Option Addr) (n2 : Nat) (c2 : Nat) (l2 : List I3) (m2 : Mp) (L : List Int) (d1 : Vs) => n2) (s.f) (z.A) (z.n) (z.c) (z.l) (z.m) ([]) (⟨none, 0, 0, []⟩ : Vs) (cov_cons (by first | rfl | exact v_int (by omega) | exact v_bool (by simp [*])) (cov_nil)) (fun w h => h) ?_ ?_
      · try dsimp only
        exact ⟨hg, Half.nil _, by simp; omega, rfl, rfl⟩
      intro f1 A2 n2 c2 l2 m2 L d1 hp
      obtain ⟨hg2, hhf, hdl, hdn, hdx⟩ := hp
      refine tr_seq ?_
      refine tr_seq ?_
      refine tr_region ?_
      refine tl_step rfl (oj_val (y_move (fe_t rfl)) ?_)
      refine tl_step rfl (oj_val (y_nilCheck (fe_t rfl)) ?_)
      refine tl_step rfl (oj_val (y_fieldAddr (td := 114) Try.underlying116 rfl rfl Try.sizeOf114 (o' := 0) rfl (fe_t rfl)) ?_)
      refine tl_step rfl (oj_val (y_ldb 4 Try.isAgg114 (fe_t rfl) rfl rfl) ?_)
      refine tl_step rfl (oj_val (y_len Try.underlying114 (fe_t rfl)) ?_)
      refine tl_step rfl (oj_val (y_gtr (fe_t rfl) fe_c) ?_)
      refine tl_nil ?_
      refine tx_then ?_
      refine tr_condp (fe_t rfl) (fun hq7 => ?_) (fun hq8 => ?_)
      · try (exfalso; omega)
        all_goals
          obtain ⟨n', rfl⟩ : ∃ n', n2 = n' + 1 := ⟨n2 - 1, by omega⟩
          refine tr_skip ?_
          refine tx_then ?_
          refine tr_block ?_
          refine tr_region ?_
          refine tl_step rfl (oj_val (y_move (fe_t rfl)) ?_)
          refine tl_step rfl (oj_val (y_move (fe_t rfl)) ?_)
          refine tl_step rfl (oj_call2 Try.call63 fe_f (fel_cons (fe_t rfl) (fel_cons (fe_c (v := (.int .i64 (((0 : Nat) : Int))))) fel_nil)) (fun w' hS => takeE hg2.len hg2.inj hg2.map (hS.pick [4, 3, 5, 0, 1, 2] [_, _, _, _, _, _] rfl (by decide)) (k := 0) (by omega) hg2.hp (by omega)) (fun q13 hq13 => ?_))
          refine tl_step rfl (oj_val (y_field1 (f := _) (td := 3) Try.underlying125 rfl rfl Try.isAgg3 (fe_t rfl) rfl) ?_)
          refine tl_step rfl (oj_slice1 Try.underlying27 Try.sizeOf3 Try.zeroValue3 (fe_t rfl) (by decide) rfl (fun b3 => ?_))
          refine tl_step rfl (oj_appendB (i := 4) (s := 1) (z := (.int .i64 0)) (bytes := 8) Try.underlying27 (by kernel_rfl) (fe_t rfl) (fe_t rfl) rfl (rdl_blk 0 rfl) rfl (by decide) (by first | exact oneI | exact oneF (fun _ => rfl) | exact fun u hu => List.all_eq_true.1 (show List.all _ (fun x => x.oneCell') = true from rfl) u hu | (intro u hu; revert u hu; simp [Value.oneCell'])) (by decide) ⟨by omega, by decide⟩ (fun Aa3 ca3 hca3 => ?_))
          refine tl_step rfl (oj_val (y_assign (fe_t rfl)) ?_)
          refine tl_nil ?_
          refine tx_in ?_
          apply tx_back8 (upd f1 (gl l2 0).1 none) (A2) (n') (c2) (q13.1) (q13.2) (L ++ [(gl l2 0).1]) ((⟨_, _, _, _⟩ : Vs))
          · exact (cov_cons (by first | rfl | exact v_int (by omega) | exact v_bool (by simp [*])) (cov_nil))
          · repeat (first | exact over_nil | refine over_put rfl ?_ | refine over_drop rfl ?_)
          · exact fun w h => h.pick [4, 5, 6, 2, 1, 3] _ rfl (by decide)
          · exact ⟨⟨hg2.cut (by omega) hq13, hhf.next (hg2.min (by omega)), by simp; omega, by simp; omega, by rw [← cI_app, ← hdx]; rfl⟩, by omega⟩
      · try (exfalso; omega)
        all_goals
          refine tr_exit ?_
          refine tx_then_exit ?_
          refine tx_then_exit ?_
          refine tx_in_exit ?_
          refine tx_then ?_
          refine tr_seq ?_
          obtain rfl : i = n := by omega
          refine tr_pure (vec_cap 0 rfl) (fun hdc => ?_)
          refine tr_region ?_
          refine tl_step rfl (oj_val (y_move (fe_t rfl)) ?_)
          refine tl_step rfl (oj_val (y_move (fe_t rfl)) ?_)
          refine tl_step rfl (oj_val (y_move (fe_t rfl)) ?_)
          refine tl_step rfl (oj_callv Try.call64 fe_f (fel_cons (fe_t rfl) fel_nil) (fun w' hS => clipE _ _ _ hdc w') ?_)
          refine tl_step rfl (oj_val (y_assign (fe_t rfl)) ?_)
          refine tl_step rfl (oj_val (y_assign (fe_t rfl)) ?_)
          refine tl_step rfl (oj_val (y_assign (fe_t rfl)) ?_)
          refine tl_nil ?_
          refine tx_then ?_
          refine tr_ret ?_
          refine tx_ret (res3 Try.results22 (rok_t rfl) (rok_t rfl) (rok_t rfl)) (fun w' hS => ?_)
          have hst : s = run os := by rw [hs, List.take_of_length_le (by omega)]
          exact ⟨⟨e1, p1, d1, d1.n, L⟩, ⟨⟨hen, hst ▸ hel⟩, hst ▸ hex, ⟨hst ▸ hpn, hpi⟩, hst ▸ hpx, ⟨hdn, by dsimp only; omega⟩, hdx, hst ▸ hhf.fin (hg2.emp.2 (by omega))⟩, rfl, hS.pick [2, 1, 0] _ rfl (by decide)⟩

end Go.Proofs.Ytpknjfeiiaopgaa.Heap
