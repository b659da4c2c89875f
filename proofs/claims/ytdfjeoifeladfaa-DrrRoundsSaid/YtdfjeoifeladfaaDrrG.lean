/- Walks: the reference's NRounds. -/
import Derived.Test.YtdfjeoifeladfaaDrrG0
namespace Go.Proofs.Ytdfjeoifeladfaa.Drr
open Go.RowKit Go.Proofs.Ytdfjeoifeladfaa.E

set_option maxRecDepth 100000 in
set_option maxHeartbeats 4000000 in
theorem nrounds_any (A B C : Option Addr) (n m l c d cc : Nat) (ts : List Int) (hs0 : List Value) (fs : List (List Int)) (ys : List Int) (R : Int) (s0 : Tm) (w : World) (hr : Rd w A (ts.map (.int .i64))) (hn : ts.length = n) (hR : RdR w B hs0 fs) (hm : fs.length = m) (hy : Rd w C (ys.map (.int .i64))) (hl : ys.length = l) (hnm : n = m) (hnl : n = l) (h16 : n ≤ 16) (hst0 : st0 ys = s0) (hG0 : Good ts fs ts.length s0) (hR0 : 0 ≤ R) (hR1 : R ≤ 400)
    (hf4 : ∀ k (h : k < fs.length), fs[k].length ≤ 400) (hA : ∀ r k (h : k < fs.length), (it ts fs ts.length s0 r).A k ≤ fs[k].length) (hSl : ∀ r, r ≤ 401 → (it ts fs ts.length s0 r).S.length ≤ 400 * 16 * 401) :
    Calls Try.prog 33 #[.slice A n c, .slice B m d, .slice C l cc, (.int .i64 R)] w (NRoundsP w hs0 fs (it ts fs ts.length s0 R.toNat) (it ts fs ts.length s0 R.toNat).S (lsOf fs ts.length (it ts fs ts.length s0 R.toNat)) (ysOf ts.length (it ts fs ts.length s0 R.toNat))) := by
  refine calls_tr Try.func33 Try.ntmps33 rfl rfl (St.refl _) ?_
  refine tr_seq ?_
  refine tr_region ?_
  refine tl_step rfl (oj_val (y_assign fe_c) ?_)
  refine tl_step rfl (oj_val (y_assign fe_c) ?_)
  refine tl_step rfl (oj_val (y_assign fe_c) ?_)
  refine tl_nil ?_
  refine tx_then ?_
  refine tr_seq ?_
  refine tr_region ?_
  refine tl_step rfl (oj_val (y_assign fe_c) ?_)
  refine tl_nil ?_
  refine tx_then ?_
  refine tr_seq ?_
  refine tr_region ?_
  refine tl_step rfl (oj_val (y_move (fe_t rfl)) ?_)
  refine tl_step rfl (oj_val (y_len Try.underlying53 (fe_t rfl)) ?_)
  refine tl_step rfl (oj_make (z := (.int .i64 0)) (bytes := 8) Try.underlying31 (by kernel_rfl) (fe_t rfl) (fe_t rfl) rfl ⟨by omega, by decide⟩ (fun g1 => ?_))
  refine tl_step rfl (oj_val (y_assign (fe_t rfl)) ?_)
  refine tl_nil ?_
  refine tx_then ?_
  refine tr_seq ?_
  refine tr_region ?_
  refine tl_step rfl (oj_slice0 Try.underlying31 Try.sizeOf3 (fun g2 => ?_))
  refine tl_step rfl (oj_val (y_move (fe_t rfl)) ?_)
  refine tl_step rfl (oj_appg (i := 0) (s := 1) (z := (.int .i64 0)) (bytes := 8) Try.underlying31 (by kernel_rfl) (fe_t rfl) (fe_t rfl) rfl (rdl_out hy) (by first | (simp; done) | (simp; omega)) (by decide) (by first | exact oneI | exact oneF (fun _ => rfl) | exact fun u hu => List.all_eq_true.1 (show List.all _ (fun x => x.oneCell') = true from rfl) u hu | (intro u hu; revert u hu; simp [Value.oneCell'])) ⟨by omega, by decide⟩ (fun Aa1 ca1 hca1 => ?_))
  refine tl_step rfl (oj_val (y_assign (fe_t rfl)) ?_)
  refine tl_nil ?_
  refine tx_then ?_
  refine tr_seq ?_
  refine tr_seq ?_
  have hs0S : s0.S = [] := by rw [← hst0]; rfl
  refine tr_region ?_
  refine tl_step rfl (oj_val (y_move (fe_t rfl)) ?_)
  refine tl_step rfl (oj_val (y_move fe_c) ?_)
  refine tl_nil ?_
  refine tx_then ?_
  refine tr_block ?_
  refine tr_add (r := vec 64 2 (.slice none 0 0) 0 []) vec_nil rfl ?_
  refine tr_loop4 [11, 14, 15, 26, 27, 28, 29, 30, 31, 32, 33, 34, 35, 36, 37, 38, 39, 40, 41, 42, 43, 44, 45, 46, 47, 48, 49, 50, 51, 52, 53, 54, 55, 56, 57, 58, 59, 60, 61, 62, 63, 64, 65, 66, 67, 68, 69, 70, 71, 72, 73, 74, 75, 76, 77, 78, 79, 80, 81, 82, 83, 84, 85, 86, 87, 88, 89, 90, 91, 92, 93, 94, 95, 96, 97, 98, 99, 100, 101, 102, 103, 104, 105, 106, 107, 108] (fun (r : Nat) (ax : List Value) (yx : List Value) (s1 : Vs) => [(26, .int .i64 (r : Int)), (11, .slice s1.A s1.n s1.c)]) 0 (fun (r : Nat) (ax : List Value) (yx : List Value) (s1 : Vs) => [(2, vec 3 1 (.slice (some ⟨g1, 0, none⟩) m m) m ax), (1, vec 3 1 (.slice Aa1 (0 + l) ca1) (0 + l) yx), (0, vec 64 2 (.slice s1.A s1.n s1.c) s1.n s1.xs)]) (fun (r : Nat) (ax : List Value) (yx : List Value) (s1 : Vs) => (r : Int) ≤ R ∧ ax = (List.range ts.length).map (fA (it ts fs ts.length s0 r)) ∧ yx = (List.range ts.length).map (fY (it ts fs ts.length s0 r)) ∧ s1.n = (it ts fs ts.length s0 r).S.length ∧ s1.xs = (it ts fs ts.length s0 r).S.flatMap c2) (fun (r : Nat) (ax : List Value) (yx : List Value) (s1 : Vs) => (R - r).toNat) (0) (_) (_) (⟨none, 0, 0, []⟩ : Vs) (cov_cons (by first | rfl | exact v_int (by omega) | exact v_bool (by simp [*])) (cov_cons (by first | rfl | exact v_int (by omega) | exact v_bool (by simp [*])) (cov_nil))) (fun w h => h) ?_ ?_
  · try dsimp only
    refine ⟨hR0, ?_, ?_, by rw [it, hs0S]; rfl, by rw [it, hs0S]; rfl⟩
    · rw [it, ← hst0, show m = ts.length by omega]
      apply List.ext_getElem <;> simp [fA, st0]
    · rw [it, ← hst0, ← cI_ys, show ts.length = ys.length by omega, ys_start]
      simp [cI]
  intro r ax yx s1 hp
  obtain ⟨hrR, hax, hyx, hs1n, hs1x⟩ := hp
  refine tr_seq ?_
  refine tr_region ?_
  refine tl_step rfl (oj_val (y_lss (fe_t rfl) (fe_t rfl)) ?_)
  refine tl_nil ?_
  refine tx_then ?_
  refine tr_seq ?_
  refine tr_condp (fe_t rfl) (fun hq1 => ?_) (fun hq2 => ?_)
  · refine tr_skip ?_
    refine tx_then ?_
    refine tr_seq ?_
    refine tr_block ?_
    refine tr_seq ?_
    refine tr_region ?_
    refine tl_step rfl (oj_val (y_move (fe_t rfl)) ?_)
    refine tl_step rfl (oj_val (y_len Try.underlying53 (fe_t rfl)) ?_)
    refine tl_step rfl (oj_val (y_move fe_c) ?_)
    refine tl_nil ?_
    refine tx_then ?_
    refine tr_block ?_
    obtain ⟨T, hT⟩ : ∃ T, it ts fs ts.length s0 r = T := ⟨_, rfl⟩
    have hG := hG0.it r
    rw [hT] at hG
    have hAle := hA r
    rw [hT] at hAle
    refine tr_loop4 [11, 14, 15, 30, 31, 32, 33, 34, 35, 36, 37, 38, 39, 40, 41, 42, 43, 44, 45, 46, 47, 48, 49, 50, 51, 52, 53, 54, 55, 56, 57, 58, 59, 60, 61, 62, 63, 64, 65, 66, 67, 68, 69, 70, 71, 72, 73, 74, 75, 76, 77, 78, 79, 80, 81, 82, 83, 84, 85, 86, 87, 88, 89, 90, 91, 92, 93, 94, 95, 96, 97, 98, 99, 100, 101, 102, 103, 104, 105, 106, 107] (fun (k : Nat) (ax : List Value) (yx : List Value) (s1 : Vs) => [(30, .int .i64 (k : Int)), (11, .slice s1.A s1.n s1.c)]) 0 (fun (k : Nat) (ax : List Value) (yx : List Value) (s1 : Vs) => [(2, vec 3 1 (.slice (some ⟨g1, 0, none⟩) m m) m ax), (1, vec 3 1 (.slice Aa1 (0 + l) ca1) (0 + l) yx), (0, vec 64 2 (.slice s1.A s1.n s1.c) s1.n s1.xs)]) (fun (k : Nat) (ax : List Value) (yx : List Value) (s1 : Vs) => k ≤ m ∧ ax = mix (fA T) (fA (nx ts fs ts.length T)) ts.length k ∧ yx = mix (fY T) (fY (nx ts fs ts.length T)) ts.length k ∧ s1.n = (T.S ++ (List.range k).flatMap (sent1 ts fs T)).length ∧ s1.xs = (T.S ++ (List.range k).flatMap (sent1 ts fs T)).flatMap c2) (fun (k : Nat) (ax : List Value) (yx : List Value) (s1 : Vs) => m - k) (0) (_) (_) (⟨_, _, _, _⟩ : Vs) (cov_cons (by first | rfl | exact v_int (by omega) | exact v_bool (by simp [*])) (cov_cons (by first | rfl | exact v_int (by omega) | exact v_bool (by simp [*])) (cov_nil))) (fun w h => h) ?_ ?_
    · try dsimp only
      exact ⟨by omega, by rw [hax, hT, mix_zero], by rw [hyx, hT, mix_zero], by rw [hs1n, hT]; simp, by rw [hs1x, hT]; simp⟩
    intro k ax yx s1 hp
    obtain ⟨hk, hax, hyx, hs1n, hs1x⟩ := hp
    refine tr_seq ?_
    refine tr_region ?_
    refine tl_step rfl (oj_val (y_lss (fe_t rfl) (fe_t rfl)) ?_)
    refine tl_nil ?_
    refine tx_then ?_
    refine tr_seq ?_
    refine tr_condp (fe_t rfl) (fun hq3 => ?_) (fun hq4 => ?_)
    · refine tr_skip ?_
      refine tx_then ?_
      refine tr_seq ?_
      refine tr_block ?_
      refine tr_seq ?_
      have hkn : k < fs.length := by omega
      obtain ⟨Bk, ck, hk1, hk2, hk3⟩ := hR.row k hkn
      obtain ⟨t0, t1, hz1, hno⟩ := hG.row k (by omega)
      have hyk := hG.may k (by omega)
      have hfk : fs.getD k [] = fs[k] := by simp [List.getD_eq_getElem?_getD, hkn]
      have htk : ts.getD k 0 = ts[k]'(by omega) := by simp [List.getD_eq_getElem?_getD, show k < ts.length by omega]
      have hmm : nxm ts T k = T.Y k + ts[k]'(by omega) := by rw [nxm, htk]
      rw [htk] at t0 t1
      have hrest : rest fs T k = fs[k].drop (T.A k) := by rw [rest, hfk]
      have hrl : (rest fs T k).length = fs[k].length - T.A k := by rw [hrest, List.length_drop]
      have hAk : T.A k ≤ fs[k].length := hAle k hkn
      have hf4k := hf4 k hkn
      have hSk : (T.S ++ (List.range k).flatMap (sent1 ts fs T)).length ≤ 400 * 16 * 401 + 400 * 16 := by
        have h1 := hSl r (by omega)
        have h2 := sents_len hG k (by omega)
        rw [hT] at h1
        rw [List.length_append]
        omega
      refine tr_region ?_
      refine tl_step rfl (oj_val (y_move (fe_t rfl)) ?_)
      refine tl_step rfl (oj_val (y_index Try.underlying53 Try.sizeOf31 (fe_t rfl) (fe_t rfl) (rdl_out hR.hd) (by have := hR.len; omega) (by decide) (by omega) (Nat.mul_one _)) ?_)
      refine tl_step rfl (oj_val (y_ld Try.isAgg31 (fe_t rfl) (rdl_out hR.hd) (getH (by have := hR.len; omega) hk1)) ?_)
      refine tl_step rfl (oj_val (y_assign (fe_t rfl)) ?_)
      refine tl_step rfl (oj_val (y_assign (fe_t rfl)) ?_)
      refine tl_nil ?_
      refine tx_then ?_
      refine tr_seq ?_
      refine tr_draww 1 [1, 0, 2] rfl rfl (by decide) rfl ?_
      refine ta_float (i := 0) rfl (by kernel_rfl) (wants_none rfl) (yq_of (y_move (fe_t rfl))) ?_
      refine ta_float (i := 1) rfl (by kernel_rfl) (wants_none rfl) (yq_of (y_move (fe_t rfl))) ?_
      refine ta_float (i := 2) rfl (by kernel_rfl) (wants_none rfl) (yq_of (y_indexR Try.underlying31 Try.sizeOf3 (fe_t rfl) (fe_t rfl) (rch_w 0 rfl (by omega)) (by omega) (Nat.mul_one _))) ?_
      refine ta_float (i := 4) rfl (by kernel_rfl) (wants_none rfl) (yq_of (y_move (fe_t rfl))) ?_
      refine ta_float (i := 5) rfl (by kernel_rfl) (wants_none rfl) (yq_of (y_move (fe_t rfl))) ?_
      refine ta_float (i := 6) rfl (by kernel_rfl) (wants_none rfl) (yq_of (y_index Try.underlying31 Try.sizeOf3 (fe_t rfl) (fe_t rfl) (rdl_out hr) (by first | (simp; done) | (simp; omega)) (by decide) (by omega) (Nat.mul_one _))) ?_
      refine ta_float (i := 7) rfl (by kernel_rfl) (wants_none rfl) (yq_of (y_ld Try.isAgg3 (fe_t rfl) (rdl_out hr) (getI (by omega)))) ?_
      refine ta_one (i := 3) rfl (by kernel_rfl) (wants_none rfl) (oj_val (y_ld (v := .int .i64 (T.Y k)) Try.isAgg3 (fe_t rfl) (rdl_vec 1 rfl) (by rw [hyx]; exact mix_get (by omega))) (⟨fun w h => (h.weak (i := 1) rfl).pick [1, 0, 2] _ rfl (by decide), ?_⟩))
      refine ta_float (i := 8) rfl (by kernel_rfl) (wants_none rfl) (yq_of (y_add (fe_t rfl) (fe_t rfl) (by omega))) ?_
      refine ta_float (i := 9) rfl (by kernel_rfl) (wants_none rfl) (yq_of (y_indexR Try.underlying31 Try.sizeOf3 (fe_t rfl) (fe_t rfl) (rch_w 0 rfl (by omega)) (by omega) (Nat.mul_one _))) ?_
      refine ta_one (i := 10) rfl (by kernel_rfl) (wants_none rfl) (oj_storeE1 (i := 1) Try.sizeOf3 (fe_t rfl) (fe_t rfl) rfl rfl rfl (by omega) (⟨fun w h => (h.weak (i := 1) rfl).pick [1, 0, 2] _ rfl (by decide), ?_⟩))
      refine ta_done (by kernel_rfl) ?_
      refine tx_then ?_
      refine tr_seq ?_
      refine tr_block ?_
      refine tr_loop4 [11, 45, 46, 47, 48, 49, 50, 51, 52, 53, 54, 55, 56, 57, 58, 59, 60, 61, 62, 63, 64, 65, 66, 67, 68, 69, 70, 71, 72, 73, 74, 75, 76, 77, 78, 79, 80, 81, 82, 83, 84, 85, 86, 87, 88, 89, 90, 91, 92, 93, 94, 95, 96] (fun (j : Nat) (ax : List Value) (yx : List Value) (s1 : Vs) => [(11, .slice s1.A s1.n s1.c)]) 0 (fun (j : Nat) (ax : List Value) (yx : List Value) (s1 : Vs) => [(2, vec 3 1 (.slice (some ⟨g1, 0, none⟩) m m) m ax), (1, vec 3 1 (.slice Aa1 (0 + l) ca1) (0 + l) yx), (0, vec 64 2 (.slice s1.A s1.n s1.c) s1.n s1.xs)]) (fun (j : Nat) (ax : List Value) (yx : List Value) (s1 : Vs) => j ≤ (rest fs T k).length ∧ ax = (mix (fA T) (fA (nx ts fs ts.length T)) ts.length k).set k (.int .i64 ((T.A k + j : Nat) : Int)) ∧ yx = (mix (fY T) (fY (nx ts fs ts.length T)) ts.length k).set k (.int .i64 (nxm ts T k - tot ((rest fs T k).take j))) ∧ (0 ≤ nxm ts T k - tot ((rest fs T k).take j) ∧ nxm ts T k - tot ((rest fs T k).take j) ≤ nxm ts T k) ∧ (∀ i, i < j → ∀ (hi : i < (rest fs T k).length), (rest fs T k)[i] ≤ nxm ts T k - tot ((rest fs T k).take i)) ∧ s1.n = (T.S ++ (List.range k).flatMap (sent1 ts fs T)).length + j ∧ s1.xs = (T.S ++ (List.range k).flatMap (sent1 ts fs T) ++ ((rest fs T k).take j).map fun x => ((k : Int), x)).flatMap c2) (fun (j : Nat) (ax : List Value) (yx : List Value) (s1 : Vs) => (rest fs T k).length - j) (0) (_) (_) (⟨_, _, _, _⟩ : Vs) (cov_cons (by first | rfl | exact v_int (by omega) | exact v_bool (by simp [*])) (cov_nil)) (fun w h => h) ?_ ?_
      · try dsimp only
        refine ⟨by omega, by rw [hax]; exact (mix_self (by omega)).symm, by rw [hyx, hmm]; simp [tot], by simp [tot]; omega, fun i h => by omega, by omega, by rw [hs1x]; simp⟩
      intro j ax yx s1 hp
      obtain ⟨hj, hax, hyx, ⟨hq0, hq1⟩, hall, hs1n, hs1x⟩ := hp
      refine tr_seq ?_
      refine tr_seq ?_
      refine tr_draw (sel _ [0, 1, 2]) (fun w h => h.sel _ rfl (by decide)) rfl ?_
      refine ta_float (i := 0) rfl (by kernel_rfl) (wants_none rfl) (yq_of (y_move (fe_t rfl))) ?_
      refine ta_float (i := 1) rfl (by kernel_rfl) (wants_none rfl) (yq_of (y_move (fe_t rfl))) ?_
      refine ta_float (i := 2) rfl (by kernel_rfl) (wants_none rfl) (yq_of (y_index Try.underlying31 Try.sizeOf3 (fe_t rfl) (fe_t rfl) (rdl_vec 2 rfl) (by first | (rw [hax, mix_len]; omega) | (rw [hax, List.length_set, mix_len]; omega) | (rw [hax]; simp; done) | (rw [hax]; simp; omega)) (by decide) (by omega) (Nat.mul_one _))) ?_
      refine ta_float (i := 3) rfl (by kernel_rfl) (wants_none rfl) (yq_of (y_ld (v := .int .i64 ((T.A k + j : Nat) : Int)) Try.isAgg3 (fe_t rfl) (rdl_vec 2 rfl) (by rw [hax]; exact set_get (by rw [mix_len]; omega)))) ?_
      refine ta_float (i := 4) rfl (by kernel_rfl) (wants_none rfl) (yq_of (y_move (fe_t rfl))) ?_
      refine ta_float (i := 5) rfl (by kernel_rfl) (wants_none rfl) (yq_of (y_len Try.underlying31 (fe_t rfl))) ?_
      refine ta_float (i := 6) rfl (by kernel_rfl) (wants_none rfl) (yq_of (y_lss (fe_t rfl) (fe_t rfl))) ?_
      refine ta_float (i := 7) rfl (by kernel_rfl) (wants_none rfl) (yq_of (y_move (fe_t rfl))) ?_
      refine ta_splitp (d := 52) rfl (fun hq5 => ?_) (fun hq6 => ?_)
      · have hjr : j < (rest fs T k).length := by omega
        have hge : (rest fs T k)[j] = fs[k][T.A k + j]'(by omega) := by simp only [hrest, List.getElem_drop]
        have hok := nok_iff.1 (List.all_eq_true.1 hno _ (List.getElem_mem hjr))
        have htt := tot_take hjr
        refine ta_float (i := 8) rfl (by kernel_rfl) (wants_t rfl rfl rfl) (yq_of (y_move (fe_t rfl))) ?_
        refine ta_float (i := 9) rfl (by kernel_rfl) (wants_t rfl rfl rfl) (yq_of (y_move (fe_t rfl))) ?_
        refine ta_float (i := 10) rfl (by kernel_rfl) (wants_t rfl rfl rfl) (yq_of (y_index Try.underlying31 Try.sizeOf3 (fe_t rfl) (fe_t rfl) (rdl_vec 1 rfl) (by first | (rw [hyx, mix_len]; omega) | (rw [hyx, List.length_set, mix_len]; omega)) (by decide) (by omega) (Nat.mul_one _))) ?_
        refine ta_float (i := 11) rfl (by kernel_rfl) (wants_t rfl rfl rfl) (yq_of (y_ld (v := .int .i64 (nxm ts T k - tot ((rest fs T k).take j))) Try.isAgg3 (fe_t rfl) (rdl_vec 1 rfl) (by rw [hyx]; exact set_get (by rw [mix_len]; omega)))) ?_
        refine ta_float (i := 12) rfl (by kernel_rfl) (wants_t rfl rfl rfl) (yq_of (y_move (fe_t rfl))) ?_
        refine ta_float (i := 13) rfl (by kernel_rfl) (wants_t rfl rfl rfl) (yq_of (y_move (fe_t rfl))) ?_
        refine ta_float (i := 14) rfl (by kernel_rfl) (wants_t rfl rfl rfl) (yq_of (y_move (fe_t rfl))) ?_
        refine ta_float (i := 15) rfl (by kernel_rfl) (wants_t rfl rfl rfl) (yq_of (y_index Try.underlying31 Try.sizeOf3 (fe_t rfl) (fe_t rfl) (rdl_vec 2 rfl) (by first | (rw [hax, mix_len]; omega) | (rw [hax, List.length_set, mix_len]; omega) | (rw [hax]; simp; done) | (rw [hax]; simp; omega)) (by decide) (by omega) (Nat.mul_one _))) ?_
        refine ta_float (i := 16) rfl (by kernel_rfl) (wants_t rfl rfl rfl) (yq_of (y_ld (v := .int .i64 ((T.A k + j : Nat) : Int)) Try.isAgg3 (fe_t rfl) (rdl_vec 2 rfl) (by rw [hax]; exact set_get (by rw [mix_len]; omega)))) ?_
        refine ta_float (i := 17) rfl (by kernel_rfl) (wants_t rfl rfl rfl) (yq_of (y_index Try.underlying31 Try.sizeOf3 (fe_t rfl) (fe_t rfl) (rdl_out hk3) (by first | (simp; done) | (simp; omega)) (by decide) (by omega) (Nat.mul_one _))) ?_
        refine ta_float (i := 18) rfl (by kernel_rfl) (wants_t rfl rfl rfl) (yq_of (y_ld Try.isAgg3 (fe_t rfl) (rdl_out hk3) (getI (by omega)))) ?_
        refine ta_float (i := 19) rfl (by kernel_rfl) (wants_t rfl rfl rfl) (yq_of (y_geq (fe_t rfl) (fe_t rfl))) ?_
        refine ta_float (i := 20) rfl (by kernel_rfl) (wants_none rfl) (yq_of (y_pickt (fe_t rfl) (fe_t rfl))) ?_
        refine ta_done (by kernel_rfl) ?_
        refine tx_then ?_
        refine tr_condp (fe_t rfl) (fun hq7 => ?_) (fun hq8 => ?_)
        · refine tr_skip ?_
          refine tx_then ?_
          refine tr_block ?_
          refine tr_seq ?_
          refine tr_region ?_
          refine tl_step rfl (oj_val (y_move (fe_t rfl)) ?_)
          refine tl_step rfl (oj_val (y_move (fe_t rfl)) ?_)
          refine tl_step rfl (oj_val (y_move (fe_t rfl)) ?_)
          refine tl_step rfl (oj_val (y_move (fe_t rfl)) ?_)
          refine tl_step rfl (oj_val (y_move (fe_t rfl)) ?_)
          refine tl_step rfl (oj_val (y_index Try.underlying31 Try.sizeOf3 (fe_t rfl) (fe_t rfl) (rdl_vec 2 rfl) (by first | (rw [hax, mix_len]; omega) | (rw [hax, List.length_set, mix_len]; omega) | (rw [hax]; simp; done) | (rw [hax]; simp; omega)) (by decide) (by omega) (Nat.mul_one _)) ?_)
          refine tl_step rfl (oj_val (y_ld (v := .int .i64 ((T.A k + j : Nat) : Int)) Try.isAgg3 (fe_t rfl) (rdl_vec 2 rfl) (by rw [hax]; exact set_get (by rw [mix_len]; omega))) ?_)
          refine tl_step rfl (oj_val (y_index Try.underlying31 Try.sizeOf3 (fe_t rfl) (fe_t rfl) (rdl_out hk3) (by first | (simp; done) | (simp; omega)) (by decide) (by omega) (Nat.mul_one _)) ?_)
          refine tl_step rfl (oj_val (y_ld Try.isAgg3 (fe_t rfl) (rdl_out hk3) (getI (by omega))) ?_)
          refine tl_step rfl (oj_val ((fun {u0 u1} hx hb => y_build (is := [0, 1]) (vs := [u0, u1]) (cs := [u0, u1]) rfl hx hb) (fel_cons (fe_t rfl) (fel_cons (fe_t rfl) fel_nil)) (by kernel_rfl)) ?_)
          refine tl_step rfl (oj_slice1 Try.underlying54 Try.sizeOf64 Try.zeroValue64 (fe_t rfl) (by decide) rfl (fun b1 => ?_))
          refine tl_step rfl (oj_append (i := 1) (s := 2) (z := (.agg #[.int .i64 0, .int .i64 0])) (bytes := 16) Try.underlying54 (by kernel_rfl) (fe_t rfl) (fe_t rfl) rfl (rdl_blk 0 rfl) rfl (by decide) (by first | exact oneI | exact oneF (fun _ => rfl) | exact fun u hu => List.all_eq_true.1 (show List.all _ (fun x => x.oneCell') = true from rfl) u hu | (intro u hu; revert u hu; simp [Value.oneCell'])) (by decide) ⟨by omega, by decide⟩ (fun Aa2 ca2 hca2 => ?_))
          refine tl_step rfl (oj_val (y_assign (fe_t rfl)) ?_)
          refine tl_nil ?_
          refine tx_then ?_
          refine tr_seq ?_
          refine tr_draww 2 [2, 0, 1, 3] rfl rfl (by decide) rfl ?_
          refine ta_float (i := 0) rfl (by kernel_rfl) (wants_none rfl) (yq_of (y_move (fe_t rfl))) ?_
          refine ta_float (i := 1) rfl (by kernel_rfl) (wants_none rfl) (yq_of (y_move (fe_t rfl))) ?_
          refine ta_float (i := 2) rfl (by kernel_rfl) (wants_none rfl) (yq_of (y_indexR Try.underlying31 Try.sizeOf3 (fe_t rfl) (fe_t rfl) (rch_w 0 rfl (by omega)) (by omega) (Nat.mul_one _))) ?_
          refine ta_float (i := 4) rfl (by kernel_rfl) (wants_none rfl) (yq_of (y_move (fe_t rfl))) ?_
          refine ta_float (i := 5) rfl (by kernel_rfl) (wants_none rfl) (yq_of (y_move (fe_t rfl))) ?_
          refine ta_float (i := 6) rfl (by kernel_rfl) (wants_none rfl) (yq_of (y_move (fe_t rfl))) ?_
          refine ta_float (i := 7) rfl (by kernel_rfl) (wants_none rfl) (yq_of (y_index Try.underlying31 Try.sizeOf3 (fe_t rfl) (fe_t rfl) (rdl_vec 3 rfl) (by first | (rw [hax, mix_len]; omega) | (rw [hax, List.length_set, mix_len]; omega) | (rw [hax]; simp; done) | (rw [hax]; simp; omega)) (by decide) (by omega) (Nat.mul_one _))) ?_
          refine ta_float (i := 8) rfl (by kernel_rfl) (wants_none rfl) (yq_of (y_ld (v := .int .i64 ((T.A k + j : Nat) : Int)) Try.isAgg3 (fe_t rfl) (rdl_vec 3 rfl) (by rw [hax]; exact set_get (by rw [mix_len]; omega)))) ?_
          refine ta_float (i := 9) rfl (by kernel_rfl) (wants_none rfl) (yq_of (y_index Try.underlying31 Try.sizeOf3 (fe_t rfl) (fe_t rfl) (rdl_out hk3) (by first | (simp; done) | (simp; omega)) (by decide) (by omega) (Nat.mul_one _))) ?_
          refine ta_float (i := 10) rfl (by kernel_rfl) (wants_none rfl) (yq_of (y_ld Try.isAgg3 (fe_t rfl) (rdl_out hk3) (getI (by omega)))) ?_
          refine ta_one (i := 3) rfl (by kernel_rfl) (wants_none rfl) (oj_val (y_ld (v := .int .i64 (nxm ts T k - tot ((rest fs T k).take j))) Try.isAgg3 (fe_t rfl) (rdl_vec 2 rfl) (by rw [hyx]; exact set_get (by rw [mix_len]; omega))) (⟨fun w h => (h.weak (i := 2) rfl).pick [2, 0, 1, 3] _ rfl (by decide), ?_⟩))
          refine ta_float (i := 11) rfl (by kernel_rfl) (wants_none rfl) (yq_of (y_sub (fe_t rfl) (fe_t rfl) (by omega))) ?_
          refine ta_float (i := 12) rfl (by kernel_rfl) (wants_none rfl) (yq_of (y_indexR Try.underlying31 Try.sizeOf3 (fe_t rfl) (fe_t rfl) (rch_w 0 rfl (by omega)) (by omega) (Nat.mul_one _))) ?_
          refine ta_one (i := 13) rfl (by kernel_rfl) (wants_none rfl) (oj_storeE1 (i := 2) Try.sizeOf3 (fe_t rfl) (fe_t rfl) rfl rfl rfl (by omega) (⟨fun w h => (h.weak (i := 2) rfl).pick [2, 0, 1, 3] _ rfl (by decide), ?_⟩))
          refine ta_done (by kernel_rfl) ?_
          refine tx_then ?_
          refine tr_region ?_
          refine tl_step rfl (oj_val (y_move (fe_t rfl)) ?_)
          refine tl_step rfl (oj_val (y_move (fe_t rfl)) ?_)
          refine tl_step rfl (oj_val (y_index Try.underlying31 Try.sizeOf3 (fe_t rfl) (fe_t rfl) (rdl_vec 3 rfl) (by first | (rw [hax, mix_len]; omega) | (rw [hax, List.length_set, mix_len]; omega) | (rw [hax]; simp; done) | (rw [hax]; simp; omega)) (by decide) (by omega) (Nat.mul_one _)) ?_)
          refine tl_step rfl (oj_val (y_ld (v := .int .i64 ((T.A k + j : Nat) : Int)) Try.isAgg3 (fe_t rfl) (rdl_vec 3 rfl) (by rw [hax]; exact set_get (by rw [mix_len]; omega))) ?_)
          refine tl_step rfl (oj_val (y_inc (fe_t rfl) fe_c (by omega)) ?_)
          refine tl_step rfl (oj_val (y_index Try.underlying31 Try.sizeOf3 (fe_t rfl) (fe_t rfl) (rdl_vec 3 rfl) (by first | (rw [hax, mix_len]; omega) | (rw [hax, List.length_set, mix_len]; omega) | (rw [hax]; simp; done) | (rw [hax]; simp; omega)) (by decide) (by omega) (Nat.mul_one _)) ?_)
          refine tl_step rfl (oj_storeE1 (i := 3) Try.sizeOf3 (fe_t rfl) (fe_t rfl) rfl rfl rfl (by omega) (?_))
          refine tl_nil ?_
          refine tx_in ?_
          apply tx_back4 (j + 1) (_) (_) ((⟨_, _, _, _⟩ : Vs))
          · exact (cov_cons (by first | rfl | exact v_int (by omega) | exact v_bool (by simp [*])) (cov_nil))
          · repeat (first | exact over_nil | refine over_put rfl ?_ | refine over_drop rfl ?_)
          · exact fun w h => h.pick [1, 2, 3] _ rfl (by decide)
          · have htt2 : nxm ts T k - tot ((rest fs T k).take (j + 1)) = nxm ts T k - tot ((rest fs T k).take j) - fs[k][T.A k + j]'(by omega) := by rw [htt, hge]; omega
            refine ⟨⟨by omega, by rw [hax, List.set_set]; rfl, by rw [hyx, List.set_set, htt2], by omega, fun i h1 h2 => ?_, by dsimp only; omega, ?_⟩, by omega⟩
            · by_cases h3 : i < j
              · exact hall i h3 h2
              · obtain rfl : i = j := by omega
                rw [hge]; omega
            · dsimp only
              rw [hs1x, List.take_succ_eq_append_getElem hjr, List.map_append, ← List.append_assoc, List.flatMap_append, hge]
              simp [zc, c2]
        · refine tr_exit ?_
          refine tx_then_exit ?_
          refine tx_then_exit ?_
          refine tx_in_exit ?_
          refine tx_then ?_
          refine tr_seq ?_
          refine tr_region ?_
          refine tl_step rfl (oj_val (y_move (fe_t rfl)) ?_)
          refine tl_step rfl (oj_val (y_move (fe_t rfl)) ?_)
          refine tl_step rfl (oj_val (y_index Try.underlying31 Try.sizeOf3 (fe_t rfl) (fe_t rfl) (rdl_vec 2 rfl) (by first | (rw [hax, mix_len]; omega) | (rw [hax, List.length_set, mix_len]; omega) | (rw [hax]; simp; done) | (rw [hax]; simp; omega)) (by decide) (by omega) (Nat.mul_one _)) ?_)
          refine tl_step rfl (oj_val (y_ld (v := .int .i64 ((T.A k + j : Nat) : Int)) Try.isAgg3 (fe_t rfl) (rdl_vec 2 rfl) (by rw [hax]; exact set_get (by rw [mix_len]; omega))) ?_)
          refine tl_step rfl (oj_val (y_move (fe_t rfl)) ?_)
          refine tl_step rfl (oj_val (y_len Try.underlying31 (fe_t rfl)) ?_)
          refine tl_step rfl (oj_val (y_eq (fe_t rfl) (fe_t rfl)) ?_)
          refine tl_nil ?_
          refine tx_then ?_
          refine tr_condp (fe_t rfl) (fun hq9 => ?_) (fun hq10 => ?_)
          · exfalso; omega
          · refine tr_skip ?_
            refine tx_in ?_
            refine tx_then ?_
            refine tr_region ?_
            refine tl_step rfl (oj_val (y_inc (fe_t rfl) fe_c (by omega)) ?_)
            refine tl_step rfl (oj_val (y_move (fe_t rfl)) ?_)
            refine tl_nil ?_
            apply tx_back4 (k + 1) (_) (_) ((⟨_, _, _, _⟩ : Vs))
            · exact (cov_cons (by first | rfl | exact v_int (by omega) | exact v_bool (by simp [*])) (cov_cons (by first | rfl | exact v_int (by omega) | exact v_bool (by simp [*])) (cov_nil)))
            · repeat (first | exact over_nil | refine over_put rfl ?_ | refine over_drop rfl ?_)
            · exact fun w h => h.pick [0, 1, 2] _ rfl (by decide)
            · have hgr := gr_at (nxm ts T k) (rest fs T k) j hj (fun i h1 h2 => hall i h1 h2) (.inr ⟨hjr, by omega⟩)
              have hmay : may (nxm ts T k) (rest fs T k) = nxm ts T k - tot ((rest fs T k).take j) := by rw [may, hgr, if_neg (by simp only; omega)]
              refine ⟨⟨by omega, by rw [hax, done_A (by omega) hgr], by rw [hyx, done_Y (by omega) hmay], ?_, by rw [hs1x, done_S hgr]⟩, by omega⟩
              rw [done_S hgr, List.length_append]
              simp only [List.length_map, List.length_take]
              omega
      · refine ta_skip (i := 8) rfl (by kernel_rfl) (wants_f rfl rfl rfl rfl) ?_
        refine ta_skip (i := 9) rfl (by kernel_rfl) (wants_f rfl rfl rfl rfl) ?_
        refine ta_skip (i := 10) rfl (by kernel_rfl) (wants_f rfl rfl rfl rfl) ?_
        refine ta_skip (i := 11) rfl (by kernel_rfl) (wants_f rfl rfl rfl rfl) ?_
        refine ta_skip (i := 12) rfl (by kernel_rfl) (wants_f rfl rfl rfl rfl) ?_
        refine ta_skip (i := 13) rfl (by kernel_rfl) (wants_f rfl rfl rfl rfl) ?_
        refine ta_skip (i := 14) rfl (by kernel_rfl) (wants_f rfl rfl rfl rfl) ?_
        refine ta_skip (i := 15) rfl (by kernel_rfl) (wants_f rfl rfl rfl rfl) ?_
        refine ta_skip (i := 16) rfl (by kernel_rfl) (wants_f rfl rfl rfl rfl) ?_
        refine ta_skip (i := 17) rfl (by kernel_rfl) (wants_f rfl rfl rfl rfl) ?_
        refine ta_skip (i := 18) rfl (by kernel_rfl) (wants_f rfl rfl rfl rfl) ?_
        refine ta_skip (i := 19) rfl (by kernel_rfl) (wants_f rfl rfl rfl rfl) ?_
        refine ta_float (i := 20) rfl (by kernel_rfl) (wants_none rfl) (yq_of (y_pickf (fe_t rfl) fe_c)) ?_
        refine ta_done (by kernel_rfl) ?_
        refine tx_then ?_
        refine tr_condf (fe_t rfl) ?_
        refine tr_exit ?_
        refine tx_then_exit ?_
        refine tx_then_exit ?_
        refine tx_in_exit ?_
        refine tx_then ?_
        refine tr_seq ?_
        refine tr_region ?_
        refine tl_step rfl (oj_val (y_move (fe_t rfl)) ?_)
        refine tl_step rfl (oj_val (y_move (fe_t rfl)) ?_)
        refine tl_step rfl (oj_val (y_index Try.underlying31 Try.sizeOf3 (fe_t rfl) (fe_t rfl) (rdl_vec 2 rfl) (by first | (rw [hax, mix_len]; omega) | (rw [hax, List.length_set, mix_len]; omega) | (rw [hax]; simp; done) | (rw [hax]; simp; omega)) (by decide) (by omega) (Nat.mul_one _)) ?_)
        refine tl_step rfl (oj_val (y_ld (v := .int .i64 ((T.A k + j : Nat) : Int)) Try.isAgg3 (fe_t rfl) (rdl_vec 2 rfl) (by rw [hax]; exact set_get (by rw [mix_len]; omega))) ?_)
        refine tl_step rfl (oj_val (y_move (fe_t rfl)) ?_)
        refine tl_step rfl (oj_val (y_len Try.underlying31 (fe_t rfl)) ?_)
        refine tl_step rfl (oj_val (y_eq (fe_t rfl) (fe_t rfl)) ?_)
        refine tl_nil ?_
        refine tx_then ?_
        refine tr_condp (fe_t rfl) (fun hq11 => ?_) (fun hq12 => ?_)
        · refine tr_region ?_
          refine tl_step rfl (oj_val (y_move (fe_t rfl)) ?_)
          refine tl_step rfl (oj_val (y_move (fe_t rfl)) ?_)
          refine tl_step rfl (oj_val (y_index Try.underlying31 Try.sizeOf3 (fe_t rfl) (fe_t rfl) (rdl_vec 1 rfl) (by first | (rw [hyx, mix_len]; omega) | (rw [hyx, List.length_set, mix_len]; omega)) (by decide) (by omega) (Nat.mul_one _)) ?_)
          refine tl_step rfl (oj_storeE1 (i := 1) Try.sizeOf3 (fe_t rfl) fe_c rfl rfl rfl (by omega) (?_))
          refine tl_nil ?_
          refine tx_in ?_
          refine tx_then ?_
          refine tr_region ?_
          refine tl_step rfl (oj_val (y_inc (fe_t rfl) fe_c (by omega)) ?_)
          refine tl_step rfl (oj_val (y_move (fe_t rfl)) ?_)
          refine tl_nil ?_
          apply tx_back4 (k + 1) (_) (_) ((⟨_, _, _, _⟩ : Vs))
          · exact (cov_cons (by first | rfl | exact v_int (by omega) | exact v_bool (by simp [*])) (cov_cons (by first | rfl | exact v_int (by omega) | exact v_bool (by simp [*])) (cov_nil)))
          · repeat (first | exact over_nil | refine over_put rfl ?_ | refine over_drop rfl ?_)
          · exact fun w h => h.pick [0, 1, 2] _ rfl (by decide)
          · have hjl : j = (rest fs T k).length := by omega
            have hgr := gr_at (nxm ts T k) (rest fs T k) j hj (fun i h1 h2 => hall i h1 h2) (.inl hjl)
            have hmay : may (nxm ts T k) (rest fs T k) = 0 := by rw [may, if_pos (by rw [hgr]; exact hjl)]
            refine ⟨⟨by omega, by rw [hax, done_A (by omega) hgr], by rw [hyx, List.set_set, done_Y (by omega) hmay], ?_, by rw [hs1x, done_S hgr]⟩, by omega⟩
            rw [done_S hgr, List.length_append]
            simp only [List.length_map, List.length_take]
            omega
        · exfalso; omega
    · refine tr_exit ?_
      refine tx_then_exit ?_
      refine tx_then_exit ?_
      refine tx_in_exit ?_
      refine tx_in ?_
      refine tx_then ?_
      refine tr_region ?_
      refine tl_step rfl (oj_val (y_inc (fe_t rfl) fe_c (by omega)) ?_)
      refine tl_step rfl (oj_val (y_move (fe_t rfl)) ?_)
      refine tl_nil ?_
      apply tx_back4 (r + 1) (_) (_) ((⟨_, _, _, _⟩ : Vs))
      · exact (cov_cons (by first | rfl | exact v_int (by omega) | exact v_bool (by simp [*])) (cov_cons (by first | rfl | exact v_int (by omega) | exact v_bool (by simp [*])) (cov_nil)))
      · repeat (first | exact over_nil | refine over_put rfl ?_ | refine over_drop rfl ?_)
      · exact fun w h => h.pick [0, 1, 2] _ rfl (by decide)
      · obtain rfl : k = ts.length := by omega
        rw [mix_all] at hax hyx
        refine ⟨⟨by omega, by rw [hax, it, hT], by rw [hyx, it, hT], by rw [it, hT]; exact hs1n, by rw [it, hT]; exact hs1x⟩, by omega⟩
  · refine tr_exit ?_
    refine tx_then_exit ?_
    refine tx_then_exit ?_
    refine tx_in_exit ?_
    refine tx_then ?_
    refine tr_seq ?_
    refine tr_region ?_
    refine tl_step rfl (oj_val (y_assign fe_c) ?_)
    refine tl_nil ?_
    refine tx_then ?_
    refine tr_seq ?_
    refine tr_seq ?_
    refine tr_region ?_
    refine tl_step rfl (oj_val (y_move (fe_t rfl)) ?_)
    refine tl_step rfl (oj_val (y_len Try.underlying53 (fe_t rfl)) ?_)
    refine tl_step rfl (oj_val (y_move fe_c) ?_)
    refine tl_nil ?_
    refine tx_then ?_
    refine tr_block ?_
    obtain ⟨T, hT⟩ : ∃ T, it ts fs ts.length s0 r = T := ⟨_, rfl⟩
    rw [hT] at hax hyx hs1n hs1x
    have hAle := hA r
    rw [hT] at hAle
    refine tr_add (r := vec 31 1 (.slice none 0 0) 0 []) vec_nil rfl ?_
    refine tr_loop2 [16, 17, 18, 111, 112, 113, 114, 115, 116, 117, 118, 119, 120, 121, 122, 123, 124, 125] (fun (k : Nat) (s2 : Vs) => [(111, .int .i64 (k : Int)), (16, .slice s2.A s2.n s2.c)]) 0 (fun (k : Nat) (s2 : Vs) => [(0, vec 31 1 (.slice s2.A s2.n s2.c) s2.n s2.xs)]) (fun (k : Nat) (s2 : Vs) => k ≤ m ∧ (s2.n = k ∧ s2.xs.length = k) ∧ ∀ i (h : i < s2.xs.length), Cutd hs0 fs T i s2.xs[i]) (fun (k : Nat) (s2 : Vs) => m - k) (0) (⟨none, 0, 0, []⟩ : Vs) (cov_cons (by first | rfl | exact v_int (by omega) | exact v_bool (by simp [*])) (cov_cons (by first | rfl | exact v_int (by omega) | exact v_bool (by simp [*])) (cov_nil))) (fun w h => h) ?_ ?_
    · try dsimp only
      simp
    intro k s2 hp
    obtain ⟨hk, ⟨hs2n, hs2l⟩, hs2⟩ := hp
    refine tr_seq ?_
    refine tr_region ?_
    refine tl_step rfl (oj_val (y_lss (fe_t rfl) (fe_t rfl)) ?_)
    refine tl_nil ?_
    refine tx_then ?_
    refine tr_seq ?_
    refine tr_condp (fe_t rfl) (fun hq13 => ?_) (fun hq14 => ?_)
    · refine tr_skip ?_
      refine tx_then ?_
      refine tr_seq ?_
      refine tr_block ?_
      refine tr_seq ?_
      have hkn : k < fs.length := by omega
      obtain ⟨Bk, ck, hk1, hk2, hk3⟩ := hR.row k hkn
      have hAk : T.A k ≤ fs[k].length := hAle k hkn
      have hdrop := rd_dropI (l := T.A k) hk3 rfl hAk hk2
      refine tr_region ?_
      refine tl_step rfl (oj_val (y_move (fe_t rfl)) ?_)
      refine tl_step rfl (oj_val (y_index Try.underlying53 Try.sizeOf31 (fe_t rfl) (fe_t rfl) (rdl_out hR.hd) (by have := hR.len; omega) (by decide) (by omega) (Nat.mul_one _)) ?_)
      refine tl_step rfl (oj_val (y_ld Try.isAgg31 (fe_t rfl) (rdl_out hR.hd) (getH (by have := hR.len; omega) hk1)) ?_)
      refine tl_step rfl (oj_val (y_assign (fe_t rfl)) ?_)
      refine tl_step rfl (oj_val (y_assign (fe_t rfl)) ?_)
      refine tl_nil ?_
      refine tx_then ?_
      refine tr_region ?_
      refine tl_step rfl (oj_val (y_move (fe_t rfl)) ?_)
      refine tl_step rfl (oj_val (y_move (fe_t rfl)) ?_)
      refine tl_step rfl (oj_val (y_move (fe_t rfl)) ?_)
      refine tl_step rfl (oj_val (y_move (fe_t rfl)) ?_)
      refine tl_step rfl (oj_val (y_index Try.underlying31 Try.sizeOf3 (fe_t rfl) (fe_t rfl) (rdl_vec 3 rfl) (by first | (rw [hax, mix_len]; omega) | (rw [hax, List.length_set, mix_len]; omega) | (rw [hax]; simp; done) | (rw [hax]; simp; omega)) (by decide) (by omega) (Nat.mul_one _)) ?_)
      refine tl_step rfl (oj_val (y_ld (v := .int .i64 ((T.A k : Nat) : Int)) Try.isAgg3 (fe_t rfl) (rdl_vec 3 rfl) (by rw [hax]; simp only [List.getElem?_map, List.getElem?_range (show k < ts.length by omega), Option.map_some, fA])) ?_)
      refine tl_step rfl (oj_val (y_cutL Try.underlying31 Try.sizeOf3 (fe_t rfl) (fe_t rfl) (by omega)) ?_)
      refine tl_step rfl (oj_slice1 Try.underlying53 Try.sizeOf31 Try.zeroValue31 (fe_t rfl) (by decide) rfl (fun b2 => ?_))
      refine tl_step rfl (oj_append (i := 1) (s := 1) (z := (.slice none 0 0)) (bytes := 24) Try.underlying53 (by kernel_rfl) (fe_t rfl) (fe_t rfl) rfl (rdl_blk 0 rfl) rfl (by decide) (by first | exact oneI | exact oneF (fun _ => rfl) | exact fun u hu => List.all_eq_true.1 (show List.all _ (fun x => x.oneCell') = true from rfl) u hu | (intro u hu; revert u hu; simp [Value.oneCell'])) (by decide) ⟨by omega, by decide⟩ (fun Aa3 ca3 hca3 => ?_))
      refine tl_step rfl (oj_val (y_assign (fe_t rfl)) ?_)
      refine tl_nil ?_
      refine tx_in ?_
      refine tx_then ?_
      refine tr_region ?_
      refine tl_step rfl (oj_val (y_inc (fe_t rfl) fe_c (by omega)) ?_)
      refine tl_step rfl (oj_val (y_move (fe_t rfl)) ?_)
      refine tl_nil ?_
      apply tx_back2 (k + 1) ((⟨_, _, _, _⟩ : Vs))
      · exact (cov_cons (by first | rfl | exact v_int (by omega) | exact v_bool (by simp [*])) (cov_cons (by first | rfl | exact v_int (by omega) | exact v_bool (by simp [*])) (cov_nil)))
      · repeat (first | exact over_nil | refine over_put rfl ?_ | refine over_drop rfl ?_)
      · exact fun w h => h.pick [1, 2, 3, 4] _ rfl (by decide)
      · refine ⟨⟨by omega, ⟨by dsimp only; omega, by simp [hs2l, zc]⟩, fun i hi => ?_⟩, by omega⟩
        dsimp only at hi ⊢
        rw [List.getElem_append]
        split
        · exact hs2 i (by assumption)
        · obtain rfl : i = k := by simp [zc] at hi; omega
          have hfk : fs.getD i [] = fs[i] := by simp [List.getD_eq_getElem?_getD, hkn]
          simp only [hs2l, Nat.sub_self]
          refine ⟨Bk, ck, ?_, by rw [hfk]; exact hk2, by rw [hfk]; simp [zc]⟩
          rw [hfk]
          exact getH (by have := hR.len; omega) hk1
    · refine tr_exit ?_
      refine tx_then_exit ?_
      refine tx_then_exit ?_
      refine tx_in_exit ?_
      refine tx_then ?_
      refine tr_seq ?_
      refine tr_region ?_
      refine tl_step rfl (oj_val (y_move (fe_t rfl)) ?_)
      refine tl_step rfl (oj_val (y_move (fe_t rfl)) ?_)
      refine tl_step rfl (oj_val (y_move (fe_t rfl)) ?_)
      refine tl_step rfl (oj_val (y_assign (fe_t rfl)) ?_)
      refine tl_step rfl (oj_val (y_assign (fe_t rfl)) ?_)
      refine tl_step rfl (oj_val (y_assign (fe_t rfl)) ?_)
      refine tl_nil ?_
      refine tx_then ?_
      refine tr_ret ?_
      refine tx_ret (res3 Try.results33 (rok_t rfl) (rok_t rfl) (rok_t rfl)) (fun w' hS => ?_)
      obtain rfl : r = R.toNat := by omega
      obtain rfl : k = ts.length := by omega
      have e1 := OwnV.rd (hS.holds 1 _ rfl)
      have e2 := OwnV.rd (hS.holds 0 _ rfl)
      have e3 := OwnV.rd (hS.holds 2 _ rfl)
      rw [hT]
      have hyl : (ysOf ts.length T).length = ts.length := by simp [ysOf]
      have hll : (lsOf fs ts.length T).length = ts.length := by simp [lsOf]
      obtain ⟨A1, n1, q1, x1⟩ := s1
      obtain ⟨A2, n2, q2, x2⟩ := s2
      dsimp only at hs1n hs1x hs2n hs2l hs2 e1 e2
      rw [← cI_ys] at hyx
      have hL : 0 + l = ts.length := by omega
      rw [hL] at e3
      simp only [hL] at hS
      subst hs1n hs1x hs2n hyx
      refine ⟨⟨A1, q1, A2, q2, Aa1, ca1, x2⟩, ⟨⟨e1.2.1, by simp only [hll]; exact e2.2.1, by simp only [hyl]; exact e3.2.1⟩, by simp only [hll, hs2l], fun i h' => hs2 i h'⟩, by simp only [hyl, hll, hL], ?_⟩
      · simp only [hyl, hll]
        exact hS.pick [1, 0, 2] _ rfl (by decide)

end Go.Proofs.Ytdfjeoifeladfaa.Drr
