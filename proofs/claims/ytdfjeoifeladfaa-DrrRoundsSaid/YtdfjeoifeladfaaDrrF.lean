/- Walks: drr.Rounds. -/
import Derived.Test.YtdfjeoifeladfaaDrrE
import Derived.Test.YtdfjeoifeladfaaDrrO
namespace Go.Proofs.Ytdfjeoifeladfaa.Drr
open Go.RowKit Go.Proofs.Ytdfjeoifeladfaa.E

/-- The answer of many rounds. -/
def roundsM (ts : List Int) (fs : List (List Int)) (R : Int) : Int × List (Int × Int) × List (List Int) × List Int :=
  if wrongE ts fs ≠ 0 then (wrongE ts fs, [], [], []) else if R < 0 ∨ 400 < R then (2, [], [], []) else
  (0, (it ts fs ts.length (st0 (List.replicate ts.length 0)) R.toNat).S, lsOf fs ts.length (it ts fs ts.length (st0 (List.replicate ts.length 0)) R.toNat), ysOf ts.length (it ts fs ts.length (st0 (List.replicate ts.length 0)) R.toNat))

set_option maxRecDepth 100000 in
set_option maxHeartbeats 4000000 in
theorem rounds_any (A B : Option Addr) (n m c d : Nat) (ts : List Int) (hs0 : List Value) (fs : List (List Int)) (R : Int) (w : World) (hr : Rd w A (ts.map (.int .i64))) (hn : ts.length = n) (hR : RdR w B hs0 fs) (hm : fs.length = m) (hn2 : n ≤ 140737488355328) (hm2 : m ≤ 140737488355328) (hrow : ∀ r ∈ fs, r.length ≤ 140737488355328) :
    Calls Try.prog 36 #[.slice A n c, .slice B m d, (.int .i64 R)] w (RoundP w (roundsM ts fs R)) := by
  refine calls_tr Try.func36 Try.ntmps36 rfl rfl (St.refl _) ?_
  refine tr_seq ?_
  refine tr_region ?_
  refine tl_step rfl (oj_val (y_assign fe_c) ?_)
  refine tl_step rfl (oj_val (y_assign fe_c) ?_)
  refine tl_step rfl (oj_val (y_assign fe_c) ?_)
  refine tl_step rfl (oj_val (y_assign fe_c) ?_)
  refine tl_nil ?_
  refine tx_then ?_
  refine tr_seq ?_
  refine tr_seq ?_
  refine tr_region ?_
  refine tl_step rfl (oj_val (y_move (fe_t rfl)) ?_)
  refine tl_step rfl (oj_val (y_move (fe_t rfl)) ?_)
  refine tl_step rfl (oj_callv Try.call30 fe_f (fel_cons (fe_t rfl) (fel_cons (fe_t rfl) fel_nil)) (fun w' hS => of_eq (wrong_any A B n m c d ts hs0 fs w' (Rd.below hr hS.below) hn (hR.below hS.below) hm hn2 hm2 hrow)) ?_)
  refine tl_step rfl (oj_val (y_assign (fe_t rfl)) ?_)
  refine tl_nil ?_
  refine tx_then ?_
  refine tr_seq ?_
  refine tr_region ?_
  refine tl_step rfl (oj_val (y_move (fe_t rfl)) ?_)
  refine tl_step rfl (oj_val (y_neq (fe_t rfl) fe_c) ?_)
  refine tl_nil ?_
  refine tx_then ?_
  refine tr_condp (fe_t rfl) (fun h1 => ?_) (fun h2 => ?_)
  · refine tr_seq ?_
    refine tr_region ?_
    refine tl_step rfl (oj_val (y_move (fe_t rfl)) ?_)
    refine tl_step rfl (oj_val (y_assign fe_c) ?_)
    refine tl_step rfl (oj_val (y_assign fe_c) ?_)
    refine tl_step rfl (oj_val (y_assign fe_c) ?_)
    refine tl_step rfl (oj_val (y_assign (fe_t rfl)) ?_)
    refine tl_nil ?_
    refine tx_then ?_
    refine tr_ret ?_
    refine tx_then_ret ?_
    refine tx_ret (res4 Try.results36 (rok_t rfl) (rok_t rfl) (rok_t rfl) (rok_t rfl)) (fun w' hS => ?_)
    exact round_nil (by first | (rw [roundsM, if_pos (by assumption)]) | (rw [roundsM, if_neg (by omega), if_pos (by omega)])) (hS.pick [] _ rfl (by decide))
  · have hw0 : wrongE ts fs = 0 := by omega
    obtain ⟨glen, h16, g3⟩ := wrong_zero hw0
    obtain ⟨s0, hs0e⟩ : ∃ s0, st0 (List.replicate ts.length 0) = s0 := ⟨_, rfl⟩
    have hG0 : Good ts fs ts.length s0 := by rw [← hs0e]; exact good_start hw0 (by simp) (fun j hj => by simp)
    refine tr_skip ?_
    refine tx_then ?_
    refine tr_seq ?_
    refine tr_seq ?_
    refine tr_region ?_
    refine tl_step rfl (oj_val (y_move (fe_t rfl)) ?_)
    refine tl_step rfl (oj_val (y_lss (fe_t rfl) fe_c) ?_)
    refine tl_step rfl (oj_val (y_move (fe_t rfl)) ?_)
    refine tl_splitp (d := 29) rfl (fun h3 => ?_) (fun h4 => ?_)
    · refine tl_skip rfl rfl rfl rfl ?_
      refine tl_skip rfl rfl rfl rfl ?_
      refine tl_step rfl (oj_val (y_pickt (fe_t rfl) fe_c) ?_)
      refine tl_nil ?_
      refine tx_then ?_
      refine tr_condt (fe_t rfl) ?_
      refine tr_seq ?_
      refine tr_region ?_
      refine tl_step rfl (oj_val (y_assign fe_c) ?_)
      refine tl_step rfl (oj_val (y_assign fe_c) ?_)
      refine tl_step rfl (oj_val (y_assign fe_c) ?_)
      refine tl_step rfl (oj_val (y_assign fe_c) ?_)
      refine tl_nil ?_
      refine tx_then ?_
      refine tr_ret ?_
      refine tx_then_ret ?_
      refine tx_ret (res4 Try.results36 (rok_t rfl) (rok_t rfl) (rok_t rfl) (rok_t rfl)) (fun w' hS => ?_)
      exact round_nil (by first | (rw [roundsM, if_pos (by assumption)]) | (rw [roundsM, if_neg (by omega), if_pos (by omega)])) (hS.pick [] _ rfl (by decide))
    · refine tl_want rfl rfl rfl (oj_val (y_move (fe_t rfl)) ?_)
      refine tl_want rfl rfl rfl (oj_val (y_gtr (fe_t rfl) fe_c) ?_)
      refine tl_step rfl (oj_val (y_pickf (fe_t rfl) (fe_t rfl)) ?_)
      refine tl_nil ?_
      refine tx_then ?_
      refine tr_condp (fe_t rfl) (fun h5 => ?_) (fun h6 => ?_)
      · refine tr_seq ?_
        refine tr_region ?_
        refine tl_step rfl (oj_val (y_assign fe_c) ?_)
        refine tl_step rfl (oj_val (y_assign fe_c) ?_)
        refine tl_step rfl (oj_val (y_assign fe_c) ?_)
        refine tl_step rfl (oj_val (y_assign fe_c) ?_)
        refine tl_nil ?_
        refine tx_then ?_
        refine tr_ret ?_
        refine tx_then_ret ?_
        refine tx_ret (res4 Try.results36 (rok_t rfl) (rok_t rfl) (rok_t rfl) (rok_t rfl)) (fun w' hS => ?_)
        exact round_nil (by first | (rw [roundsM, if_pos (by assumption)]) | (rw [roundsM, if_neg (by omega), if_pos (by omega)])) (hS.pick [] _ rfl (by decide))
      · refine tr_skip ?_
        refine tx_then ?_
        refine tr_seq ?_
        refine tr_region ?_
        refine tl_step rfl (oj_val (y_assign fe_c) ?_)
        refine tl_nil ?_
        refine tx_then ?_
        refine tr_seq ?_
        refine tr_draw (sel _ []) (fun w h => h.sel _ rfl (by decide)) rfl ?_
        refine ta_float (i := 0) rfl (by kernel_rfl) (wants_none rfl) (yq_of (y_move (fe_t rfl))) ?_
        refine ta_float (i := 1) rfl (by kernel_rfl) (wants_none rfl) (yq_of (y_move (fe_t rfl))) ?_
        refine ta_float (i := 2) rfl (by kernel_rfl) (wants_none rfl) (yq_of (y_len Try.underlying31 (fe_t rfl))) ?_
        refine ta_float (i := 4) rfl (by kernel_rfl) (wants_none rfl) (yq_of (y_assign (fe_t rfl))) ?_
        refine ta_one (i := 3) rfl (by kernel_rfl) (wants_none rfl) (oj_make (z := (.int .i64 0)) (bytes := 8) Try.underlying31 (by kernel_rfl) (fe_t rfl) (fe_t rfl) rfl ⟨by omega, by decide⟩ (fun g1 => ⟨fun w h => h.pick [] _ rfl (by decide), ?_⟩))
        refine ta_float (i := 5) rfl (by kernel_rfl) (wants_none rfl) (yq_of (y_assign (fe_t rfl))) ?_
        refine ta_done (by kernel_rfl) ?_
        refine tx_then ?_
        refine tr_seq ?_
        refine tr_seq ?_
        refine tr_region ?_
        refine tl_step rfl (oj_val (y_move (fe_t rfl)) ?_)
        refine tl_step rfl (oj_val (y_move fe_c) ?_)
        refine tl_nil ?_
        refine tx_then ?_
        refine tr_block ?_
        refine tr_add (r := emp) emp_holds rfl ?_
        refine tr_add (r := emp) emp_holds rfl ?_
        refine tr_add (r := vec 64 2 (.slice none 0 0) 0 []) vec_nil rfl ?_
        refine tr_loop10 [6, 7, 8, 9, 11, 12, 13, 14, 15, 16, 17, 38, 39, 40, 41, 42, 43, 44, 45, 46, 47, 48, 49, 50, 51, 52, 53, 54, 55, 56, 57] (fun (r : Nat) (s1 : Vs) (LB : Option Addr) (ln : Nat) (lc : Nat) (hs : List Value) (ls : List (List Int)) (X1 : Res) (X2 : Res) (s3 : Vs) => [(38, .int .i64 (r : Int)), (11, .slice s1.A s1.n s1.c), (12, .slice LB ln lc), (13, .slice s3.A s3.n s3.c)]) 0 (fun (r : Nat) (s1 : Vs) (LB : Option Addr) (ln : Nat) (lc : Nat) (hs : List Value) (ls : List (List Int)) (X1 : Res) (X2 : Res) (s3 : Vs) => [(0, vec 64 2 (.slice s1.A s1.n s1.c) s1.n s1.xs), (1, X1), (2, X2), (3, vec 3 1 (.slice s3.A s3.n s3.c) s3.n s3.xs)]) (fun (r : Nat) (s1 : Vs) (LB : Option Addr) (ln : Nat) (lc : Nat) (hs : List Value) (ls : List (List Int)) (X1 : Res) (X2 : Res) (s3 : Vs) => (r : Int) ≤ R ∧ (s1.n = (it ts fs ts.length s0 r).S.length ∧ s1.xs = (it ts fs ts.length s0 r).S.flatMap c2) ∧ ls.length = ln ∧ ls = lsOf fs ts.length (it ts fs ts.length s0 r) ∧ (∀ w', Below w.heap.size w w' → X1.holds w' → X2.holds w' → RdR w' LB hs ls) ∧ (s3.n = ts.length ∧ s3.xs = cI (ysOf ts.length (it ts fs ts.length s0 r)))) (fun (r : Nat) (s1 : Vs) (LB : Option Addr) (ln : Nat) (lc : Nat) (hs : List Value) (ls : List (List Int)) (X1 : Res) (X2 : Res) (s3 : Vs) => (R - r).toNat) (0) (⟨none, 0, 0, []⟩ : Vs) (B) (m) (d) (hs0) (fs) (emp) (emp) (⟨_, _, _, _⟩ : Vs) (cov_cons (by first | rfl | exact v_int (by omega) | exact v_bool (by simp [*])) (cov_cons (by first | rfl | exact v_int (by omega) | exact v_bool (by simp [*])) (cov_cons (by first | rfl | exact v_int (by omega) | exact v_bool (by simp [*])) (cov_cons (by first | rfl | exact v_int (by omega) | exact v_bool (by simp [*])) (cov_nil))))) (fun w h => h) ?_ ?_
        · try dsimp only
          refine ⟨by omega, ⟨?_, ?_⟩, hm, ?_, fun w' hb _ _ => hR.below hb, hn.symm, ?_⟩
          · rw [← hs0e]; rfl
          · rw [← hs0e]; rfl
          · have := ls_start (fs := fs) (ys := List.replicate ts.length 0)
            rw [← glen] at this
            rw [← hs0e, it]
            exact this.symm
          · have := ys_start (ys := List.replicate ts.length 0)
            rw [List.length_replicate] at this
            rw [← hs0e, it, this, ← hn]
            simp [cI]
        intro r s1 LB ln lc hs ls X1 X2 s3 hp
        obtain ⟨hrR, ⟨hs1n, hs1x⟩, hln, hls, hX, hs3n, hs3x⟩ := hp
        refine tr_seq ?_
        refine tr_region ?_
        refine tl_step rfl (oj_val (y_lss (fe_t rfl) (fe_t rfl)) ?_)
        refine tl_nil ?_
        refine tx_then ?_
        refine tr_seq ?_
        refine tr_condp (fe_t rfl) (fun h7 => ?_) (fun h8 => ?_)
        · refine tr_skip ?_
          refine tx_then ?_
          refine tr_seq ?_
          refine tr_block ?_
          refine tr_seq ?_
          have hlsn : ls.length = n := by rw [hls]; simp [lsOf]; omega
          have hG := hG0.it r
          have hSl : (it ts fs ts.length s0 (r + 1)).S.length ≤ 400 * 16 * 401 := Nat.le_trans (S_len hG0 (by rw [← hs0e]; rfl) (r + 1)) (Nat.mul_le_mul (Nat.mul_le_mul_left _ h16) (by omega))
          have hSe : (it ts fs ts.length s0 (r + 1)).S = (it ts fs ts.length s0 r).S ++ (List.range ts.length).flatMap (sent1 ts fs (it ts fs ts.length s0 r)) := rfl
          have hSle := congrArg List.length hSe
          rw [List.length_append] at hSle
          refine tr_region ?_
          refine tl_step rfl (oj_val (y_move (fe_t rfl)) ?_)
          refine tl_step rfl (oj_val (y_move (fe_t rfl)) ?_)
          refine tl_step rfl (oj_val (y_move (fe_t rfl)) ?_)
          refine tl_step rfl (oj_call Try.call28 fe_f (fel_cons (fe_t rfl) (fel_cons (fe_t rfl) (fel_cons (fe_t rfl) fel_nil))) (fun w' hS => by
          have hd := OwnV.rd (hS.holds 3 _ rfl)
          have := round_any A LB s3.A n ln s3.n c lc s3.c ts hs ls (ysOf ts.length (it ts fs ts.length s0 r)) w' (Rd.below hr hS.below) hn (hX w' hS.below (hS.holds 1 _ rfl) (hS.holds 2 _ rfl)) hln (by have h3 := hd.2.2; rw [hs3x] at h3; exact h3) (by simp [ysOf]; omega) hn2 (by omega) (by omega) (fun r hr => by
            obtain ⟨i, hi, rfl⟩ := List.mem_iff_getElem.1 hr
            have := (hG.row i (by omega)).2.2.1
            have e : ls[i] = rest fs (it ts fs ts.length s0 r) i := by
              have : ls[i] = ls.getD i [] := by simp [List.getD_eq_getElem?_getD, hi]
              rw [this, hls, ls_get (by omega)]
            rw [e]; omega)
          rw [hls, hG.round h16] at this
          dsimp only [RoundP] at this
          exact this) (fun q hq => ?_))
          refine tl_step rfl (oj_val (y_move (fe_t rfl)) ?_)
          refine tl_step rfl (oj_val (y_extract (fe_t rfl) rfl) ?_)
          refine tl_step rfl (oj_val (y_extract (fe_t rfl) rfl) ?_)
          refine tl_step rfl (oj_val (y_extract (fe_t rfl) rfl) ?_)
          refine tl_step rfl (oj_val (y_extract (fe_t rfl) rfl) ?_)
          refine tl_step rfl (oj_val (y_assign (fe_t rfl)) ?_)
          refine tl_step rfl (oj_val (y_assign (fe_t rfl)) ?_)
          refine tl_step rfl (oj_val (y_assign (fe_t rfl)) ?_)
          refine tl_step rfl (oj_val (y_assign (fe_t rfl)) ?_)
          refine tl_nil ?_
          refine tx_then ?_
          refine tr_seq ?_
          refine tr_seq ?_
          refine tr_region ?_
          refine tl_step rfl (oj_val (y_move (fe_t rfl)) ?_)
          refine tl_step rfl (oj_val (y_neq (fe_t rfl) fe_c) ?_)
          refine tl_nil ?_
          refine tx_then ?_
          refine tr_condp (fe_t rfl) (fun h9 => ?_) (fun h10 => ?_)
          · exact absurd rfl h9
          · refine tr_skip ?_
            refine tx_then ?_
            refine tr_region ?_
            refine tl_step rfl (oj_val (y_move (fe_t rfl)) ?_)
            refine tl_step rfl (oj_val (y_move (fe_t rfl)) ?_)
            refine tl_step rfl (oj_appg (i := 4) (s := 2) (z := (.agg #[.int .i64 0, .int .i64 0])) (bytes := 16) Try.underlying54 (by kernel_rfl) (fe_t rfl) (fe_t rfl) rfl (rdl_vec 0 rfl) (lenF (fun _ => rfl) rfl) (by decide) (by first | exact oneI | exact oneF (fun _ => rfl) | exact fun u hu => List.all_eq_true.1 (show List.all _ (fun x => x.oneCell') = true from rfl) u hu | (intro u hu; revert u hu; simp [Value.oneCell'])) ⟨by omega, by decide⟩ (fun Aa1 ca1 hca1 => ?_))
            refine tl_step rfl (oj_val (y_move (fe_t rfl)) ?_)
            refine tl_step rfl (oj_val (y_move (fe_t rfl)) ?_)
            refine tl_step rfl (oj_val (y_assign (fe_t rfl)) ?_)
            refine tl_step rfl (oj_val (y_assign (fe_t rfl)) ?_)
            refine tl_step rfl (oj_val (y_assign (fe_t rfl)) ?_)
            refine tl_nil ?_
            refine tx_in ?_
            refine tx_then ?_
            refine tr_region ?_
            refine tl_step rfl (oj_val (y_inc (fe_t rfl) fe_c (by omega)) ?_)
            refine tl_step rfl (oj_val (y_move (fe_t rfl)) ?_)
            refine tl_nil ?_
            apply tx_back10 (r + 1) ((⟨_, _, _, _⟩ : Vs)) (_) (_) (_) (q.hs) (lsOf fs ts.length (it ts fs ts.length s0 (r + 1))) (_) (_) ((⟨_, _, _, _⟩ : Vs))
            · exact (cov_cons (by first | rfl | exact v_int (by omega) | exact v_bool (by simp [*])) (cov_cons (by first | rfl | exact v_int (by omega) | exact v_bool (by simp [*])) (cov_cons (by first | rfl | exact v_int (by omega) | exact v_bool (by simp [*])) (cov_cons (by first | rfl | exact v_int (by omega) | exact v_bool (by simp [*])) (cov_nil)))))
            · repeat (first | exact over_nil | refine over_put rfl ?_ | refine over_drop rfl ?_)
            · exact fun w h => h.pick [4, 1, 2, 3] _ rfl (by decide)
            · refine ⟨⟨by omega, ⟨by dsimp only; omega, by dsimp only; rw [hs1x, hSe, List.flatMap_append]⟩, rfl, rfl, fun w' _ h1 h2 => rdr_own h1 h2, by simp [ysOf], rfl⟩, by omega⟩
        · refine tr_exit ?_
          refine tx_then_exit ?_
          refine tx_then_exit ?_
          refine tx_in_exit ?_
          refine tx_then ?_
          refine tr_seq ?_
          have hlsn : ls.length = n := by rw [hls]; simp [lsOf]; omega
          refine tr_region ?_
          refine tl_step rfl (oj_val (y_assign fe_c) ?_)
          refine tl_nil ?_
          refine tx_then ?_
          refine tr_seq ?_
          refine tr_seq ?_
          refine tr_region ?_
          refine tl_step rfl (oj_val (y_move (fe_t rfl)) ?_)
          refine tl_step rfl (oj_val (y_len Try.underlying53 (fe_t rfl)) ?_)
          refine tl_step rfl (oj_val (y_move fe_c) ?_)
          refine tl_nil ?_
          refine tx_then ?_
          refine tr_block ?_
          have hlen : ∀ i (h : i < ls.length), ls[i].length ≤ 400 := fun i hi => by
            have := ((hG0.it r).row i (by omega)).2.2.1
            have e : ls[i] = rest fs (it ts fs ts.length s0 r) i := by
              have : ls[i] = ls.getD i [] := by simp [List.getD_eq_getElem?_getD, hi]
              rw [this, hls, ls_get (by omega)]
            rw [e]; omega
          refine tr_add (r := E.rows 3 1 [] []) rows_nil rfl ?_
          refine tr_add (r := vec 31 1 (.slice none 0 0) 0 []) vec_nil rfl ?_
          refine tr_loop3 [18, 20, 60, 61, 62, 63, 64, 65, 66, 67, 68, 69, 70] (fun (k : Nat) (s2 : Vs) (xss : List (List Value)) => [(60, .int .i64 (k : Int)), (18, .slice s2.A s2.n s2.c)]) 0 (fun (k : Nat) (s2 : Vs) (xss : List (List Value)) => [(0, vec 31 1 (.slice s2.A s2.n s2.c) s2.n s2.xs), (1, E.rows 3 1 s2.xs xss)]) (fun (k : Nat) (s2 : Vs) (xss : List (List Value)) => k ≤ ls.length ∧ s2.n = k ∧ xss = (ls.take k).map cI) (fun (k : Nat) (s2 : Vs) (xss : List (List Value)) => ls.length - k) (0) (⟨none, 0, 0, []⟩ : Vs) ([]) (cov_cons (by first | rfl | exact v_int (by omega) | exact v_bool (by simp [*])) (cov_cons (by first | rfl | exact v_int (by omega) | exact v_bool (by simp [*])) (cov_nil))) (fun w h => h) ?_ ?_
          · try dsimp only
            simp
          intro k s2 xss hp
          obtain ⟨hk, hs2n, hxss⟩ := hp
          refine tr_seq ?_
          refine tr_region ?_
          refine tl_step rfl (oj_val (y_lss (fe_t rfl) (fe_t rfl)) ?_)
          refine tl_nil ?_
          refine tx_then ?_
          refine tr_seq ?_
          refine tr_condp (fe_t rfl) (fun h11 => ?_) (fun h12 => ?_)
          · refine tr_skip ?_
            refine tx_then ?_
            refine tr_seq ?_
            refine tr_block ?_
            refine tr_seq ?_
            refine tr_pure (φ := Hdr hs ls) (fun w' hS => (hX w' hS.below (hS.holds 3 _ rfl) (hS.holds 4 _ rfl)).hdr) (fun hh => ?_)
            have hkl : k < ls.length := by omega
            have hhl := hh.1
            obtain ⟨Bk, ck, hk1, hk2⟩ := hh.2 k hkl (by omega)
            have hlk := hlen k hkl
            refine tr_region ?_
            refine tl_step rfl (oj_val (y_index Try.underlying53 Try.sizeOf31 (fe_t rfl) (fe_t rfl) (fun w' hS => (hX w' hS.below (hS.holds 3 _ rfl) (hS.holds 4 _ rfl)).hd) (by omega) (by decide) (by omega) (Nat.mul_one _)) ?_)
            refine tl_step rfl (oj_val (y_ld Try.isAgg31 (fe_t rfl) (fun w' hS => (hX w' hS.below (hS.holds 3 _ rfl) (hS.holds 4 _ rfl)).hd) (getH (by omega) hk1)) ?_)
            refine tl_step rfl (oj_val (y_assign (fe_t rfl)) ?_)
            refine tl_nil ?_
            refine tx_then ?_
            refine tr_region ?_
            refine tl_step rfl (oj_val (y_move (fe_t rfl)) ?_)
            refine tl_step rfl (oj_slice0 Try.underlying31 Try.sizeOf3 (fun g2 => ?_))
            refine tl_step rfl (oj_val (y_move (fe_t rfl)) ?_)
            refine tl_step rfl (oj_appg (i := 0) (s := 1) (z := (.int .i64 0)) (bytes := 8) Try.underlying31 (by kernel_rfl) (fe_t rfl) (fe_t rfl) rfl (fun w' hS => (hX w' hS.below (hS.holds 4 _ rfl) (hS.holds 5 _ rfl)).rd (i := k) (by omega) (by omega) hk1) (by first | (simp; done) | (simp; omega)) (by decide) (by first | exact oneI | exact oneF (fun _ => rfl) | exact fun u hu => List.all_eq_true.1 (show List.all _ (fun x => x.oneCell') = true from rfl) u hu | (intro u hu; revert u hu; simp [Value.oneCell'])) ⟨by omega, by decide⟩ (fun Aa2 ca2 hca2 => ?_))
            refine tl_step rfl (oj_slice1 Try.underlying53 Try.sizeOf31 Try.zeroValue31 (fe_t rfl) (by decide) rfl (fun b1 => ?_))
            refine tl_step rfl (oj_append (i := 2) (s := 1) (z := (.slice none 0 0)) (bytes := 24) Try.underlying53 (by kernel_rfl) (fe_t rfl) (fe_t rfl) rfl (rdl_blk 0 rfl) rfl (by decide) (by first | exact oneI | exact oneF (fun _ => rfl) | exact fun u hu => List.all_eq_true.1 (show List.all _ (fun x => x.oneCell') = true from rfl) u hu | (intro u hu; revert u hu; simp [Value.oneCell'])) (by decide) ⟨by omega, by decide⟩ (fun Aa3 ca3 hca3 => ?_))
            refine tl_step rfl (oj_val (y_assign (fe_t rfl)) ?_)
            refine tl_nil ?_
            refine tx_in ?_
            refine tx_then ?_
            refine tr_absorb 1 3 rfl rfl rfl ?_
            refine tr_region ?_
            refine tl_step rfl (oj_val (y_inc (fe_t rfl) fe_c (by omega)) ?_)
            refine tl_step rfl (oj_val (y_move (fe_t rfl)) ?_)
            refine tl_nil ?_
            apply tx_back3 (k + 1) ((⟨_, _, _, _⟩ : Vs)) (_)
            · exact (cov_cons (by first | rfl | exact v_int (by omega) | exact v_bool (by simp [*])) (cov_cons (by first | rfl | exact v_int (by omega) | exact v_bool (by simp [*])) (cov_nil)))
            · repeat (first | exact over_nil | refine over_put rfl ?_ | refine over_drop rfl ?_)
            · exact fun w h => h.pick [2, 3, 4, 5, 6, 7] _ rfl (by decide)
            · refine ⟨⟨by omega, by dsimp only; omega, ?_⟩, by omega⟩
              rw [hxss, List.take_succ_eq_append_getElem hkl, List.map_append]
              rfl
          · refine tr_exit ?_
            refine tx_then_exit ?_
            refine tx_then_exit ?_
            refine tx_in_exit ?_
            refine tx_then ?_
            refine tr_seq ?_
            refine tr_region ?_
            refine tl_step rfl (oj_val (y_move (fe_t rfl)) ?_)
            refine tl_step rfl (oj_val (y_move (fe_t rfl)) ?_)
            refine tl_step rfl (oj_val (y_move (fe_t rfl)) ?_)
            refine tl_step rfl (oj_val (y_assign (fe_t rfl)) ?_)
            refine tl_step rfl (oj_val (y_assign (fe_t rfl)) ?_)
            refine tl_step rfl (oj_val (y_assign (fe_t rfl)) ?_)
            refine tl_step rfl (oj_val (y_assign fe_c) ?_)
            refine tl_nil ?_
            refine tx_then ?_
            refine tr_ret ?_
            refine tx_ret (res4 Try.results36 (rok_t rfl) (rok_t rfl) (rok_t rfl) (rok_t rfl)) (fun w' hS => ?_)
            have e1 := OwnV.rd (hS.holds 2 _ rfl)
            have e2 := OwnV.rd (hS.holds 0 _ rfl)
            have e3 := OwnV.rd (hS.holds 5 _ rfl)
            obtain rfl : r = R.toNat := by omega
            have hR2 : roundsM ts fs R = (0, (it ts fs ts.length s0 R.toNat).S, ls, ysOf ts.length (it ts fs ts.length s0 R.toNat)) := by
              rw [roundsM, if_neg (by omega), if_neg (by omega), hs0e, hls]
            rw [hR2]
            have hyl : (ysOf ts.length (it ts fs ts.length s0 R.toNat)).length = ts.length := by simp [ysOf]
            obtain rfl : k = ls.length := by omega
            obtain ⟨A1, n1, q1, x1⟩ := s1
            obtain ⟨A2, n2, q2, x2⟩ := s2
            obtain ⟨A3, n3, q3, x3⟩ := s3
            dsimp only at hs1n hs1x hs3n hs3x hs2n
            subst hs1n hs1x hs3n hs3x hs2n hxss
            rw [List.take_length] at hS
            refine ⟨⟨A1, q1, A2, q2, A3, q3, x2⟩, ⟨e1.2.1, e2.2.1, by simp only [hyl]; exact e3.2.1⟩, by simp only [hyl], ?_⟩
            simp only [hyl]
            exact hS.pick [2, 0, 1, 5] _ rfl (by decide)

end Go.Proofs.Ytdfjeoifeladfaa.Drr
