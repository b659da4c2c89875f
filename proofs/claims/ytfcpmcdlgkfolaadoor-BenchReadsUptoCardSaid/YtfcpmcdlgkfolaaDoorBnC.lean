/- Walks: another line. -/
import Derived.Test.YtfcpmcdlgkfolaaDoorBnB
namespace Go.Proofs.YtfcpmcdlgkfolaaDoor.Bn
open Go.RowKit Go.Lib Go.Proofs.YtfcpmcdlgkfolaaDoor.E

set_option maxRecDepth 100000 in
set_option maxHeartbeats 2000000 in
theorem lineE {w0 w : World} {T : List Res} {b : Nat} {s : Sc} {z : Vs} (hw : Gw w0) (hS : St w0 w (blk b (cSc s (.slice z.A z.n z.c)) :: vec 52 2 (.slice z.A z.n z.c) z.n z.xs :: T)) (hz : OpsIs z s.ops) (l : List UInt8) (hl : l.length < 4294967281) {k : Nat} (hk : k ≠ 0) (hn : s.ops.length ≤ 1000000000) :
    Calls Tryd.prog 40 #[str l, .pointer (some ⟨b, 0, none⟩)] w fun e w' => ∃ q : Bool × Sc × Vs, (OpsIs q.2.2 q.2.1.ops ∧ read k s l = if q.1 = true then some q.2.1 else none) ∧ e = .returned (.bool q.1) ∧ St w0 w' (blk b (cSc q.2.1 (.slice q.2.2.A q.2.2.n q.2.2.c)) :: vec 52 2 (.slice q.2.2.A q.2.2.n q.2.2.c) q.2.2.n q.2.2.xs :: T) := by
  refine calls_tr Tryd.func40 Tryd.ntmps40 rfl rfl hS ?_
  refine tr_seq ?_
  refine tr_region ?_
  refine tl_step rfl (oj_val (y_assign fe_c) ?_)
  refine tl_nil ?_
  refine tx_then ?_
  refine tr_seq ?_
  refine tr_region ?_
  refine tl_step rfl (oj_val (y_move (fe_t rfl)) ?_)
  refine tl_step rfl (oj_call Tryd.call41 fe_f (fel_cons (fe_t rfl) (fel_cons fe_c fel_nil)) (fun w' hS => cutE (hw.st hS) l 32 hl) (fun c1 hc1 => ?_))
  refine tl_step rfl (oj_val (y_move (fe_t rfl)) ?_)
  refine tl_step rfl (oj_val (y_extract (fe_t rfl) rfl) ?_)
  refine tl_step rfl (oj_val (y_extract (fe_t rfl) rfl) ?_)
  refine tl_step rfl (oj_val (y_extract (fe_t rfl) rfl) ?_)
  refine tl_step rfl (oj_val (y_assign (fe_t rfl)) ?_)
  refine tl_step rfl (oj_val (y_assign (fe_t rfl)) ?_)
  refine tl_step rfl (oj_val (y_assign (fe_t rfl)) ?_)
  refine tl_nil ?_
  refine tx_then ?_
  refine tr_seq ?_
  refine tr_region ?_
  refine tl_step rfl (oj_val (y_move (fe_t rfl)) ?_)
  refine tl_step rfl (oj_call Tryd.call68 fe_f (fel_cons (fe_t rfl) fel_nil) (fun w' hS => numberE (hw.st hS) c1.2.1 (cut_len hc1 hl)) (fun n2 hn2 => ?_))
  refine tl_step rfl (oj_val (y_move (fe_t rfl)) ?_)
  refine tl_step rfl (oj_val (y_extract (fe_t rfl) rfl) ?_)
  refine tl_step rfl (oj_val (y_extract (fe_t rfl) rfl) ?_)
  refine tl_step rfl (oj_val (y_assign (fe_t rfl)) ?_)
  refine tl_step rfl (oj_val (y_assign (fe_t rfl)) ?_)
  refine tl_nil ?_
  refine tx_then ?_
  refine tr_seq ?_
  refine tr_seq ?_
  refine tr_region ?_
  refine tl_step rfl (oj_call Tryd.call36 fe_f fel_nil (fun w' hS => wordsE w') (fun r3 hr3 => ?_))
  refine tl_step rfl (oj_val (y_len Tryd.underlying32 (fe_t rfl)) ?_)
  refine tl_step rfl (oj_val (y_move fe_c) ?_)
  refine tl_nil ?_
  refine tx_then ?_
  refine tr_block ?_
  refine tr_loop1 [4, 10, 11, 25, 26, 27, 28, 29, 30, 31, 32, 33, 34, 35, 36, 37, 38, 39, 40, 41, 42, 43, 44, 45, 46, 47, 48, 49] (fun (i : Nat) => [(25, .int .i64 (i : Int))]) 0 (fun (i : Nat) => []) (fun (i : Nat) => i ≤ 3 ∧ (n2.2 = true → ∀ j, j < i → ¬ kwds.getD j [] = c1.1)) (fun (i : Nat) => 3 - i) (0) (cov_cons (by first | rfl | exact v_int (by omega) | exact v_bool (by simp [*])) (cov_nil)) (fun w h => h) ?_ ?_
  · try dsimp only
    exact ⟨by omega, fun _ j h => by omega⟩
  intro i hp
  obtain ⟨hi, hno⟩ := hp
  refine tr_seq ?_
  refine tr_region ?_
  refine tl_step rfl (oj_val (y_lss (fe_t rfl) (fe_t rfl)) ?_)
  refine tl_nil ?_
  refine tx_then ?_
  refine tr_seq ?_
  refine tr_condp (fe_t rfl) (fun hq1 => ?_) (fun hq2 => ?_)
  · refine tr_skip ?_
    refine tx_then ?_
    refine tr_seq ?_
    refine tr_block ?_
    refine tr_seq ?_
    refine tr_region ?_
    refine tl_step rfl (oj_val (y_move (fe_t rfl)) ?_)
    refine tl_step rfl (oj_val (y_index Tryd.underlying32 Tryd.sizeOf9 (fe_t rfl) (fe_t rfl) (rdl_vec 0 rfl) (by rw [hr3.2, hr3.1]; rfl) (by decide) (by omega) (Nat.mul_one _)) ?_)
    refine tl_step rfl (oj_val (y_ld Tryd.isAgg9 (fe_t rfl) (rdl_vec 0 rfl) (by rw [hr3.2]; exact getS (ws := kwds) (show i < 3 by omega))) ?_)
    refine tl_step rfl (oj_val (y_assign (fe_t rfl)) ?_)
    refine tl_step rfl (oj_val (y_assign (fe_t rfl)) ?_)
    refine tl_nil ?_
    refine tx_then ?_
    refine tr_seq ?_
    refine tr_region ?_
    refine tl_step rfl (oj_val (y_move (fe_t rfl)) ?_)
    refine tl_step rfl (oj_val (y_move (fe_t rfl)) ?_)
    refine tl_split (d := 31) rfl (fun hq3 => ?_) (fun hq4 => ?_)
    · refine tl_want rfl rfl rfl (oj_val (y_move (fe_t rfl)) ?_)
      refine tl_want rfl rfl rfl (oj_val (y_move (fe_t rfl)) ?_)
      refine tl_want rfl rfl rfl (oj_val (y_eqs (fe_t rfl) (fe_t rfl)) ?_)
      refine tl_step rfl (oj_val (y_pickt (fe_t rfl) (fe_t rfl)) ?_)
      refine tl_nil ?_
      refine tx_then ?_
      refine tr_condp (fe_t rfl) (fun hq5 => ?_) (fun hq6 => ?_)
      · refine tr_seq ?_
        have hT : n2.2 = true := ‹n2.2 = true›
        have hE : kwds.getD i [] = c1.1 := ‹_›
        refine tr_region ?_
        refine tl_step rfl (oj_val (y_move (fe_t rfl)) ?_)
        refine tl_step rfl (oj_val (y_move (fe_t rfl)) ?_)
        refine tl_step rfl (oj_val (y_nilCheck (fe_t rfl)) ?_)
        refine tl_step rfl (oj_val (y_fieldAddr (td := 22) Tryd.underlying24 rfl rfl Tryd.sizeOf22 (o' := 3) rfl (fe_t rfl)) ?_)
        refine tl_step rfl (oj_val (y_ldb 1 Tryd.isAgg22 (fe_t rfl) rfl rfl) ?_)
        refine tl_step rfl (oj_val (y_move (fe_t rfl)) ?_)
        refine tl_step rfl (oj_val (y_add fe_c (fe_t rfl) (by omega)) ?_)
        refine tl_step rfl (oj_val (y_move (fe_t rfl)) ?_)
        refine tl_step rfl (oj_val ((fun {u0 u1} hx hb => y_build (is := [0, 1]) (vs := [u0, u1]) (cs := [u0, u1]) rfl hx hb) (fel_cons (fe_t rfl) (fel_cons (fe_t rfl) fel_nil)) (by kernel_rfl)) ?_)
        refine tl_step rfl (oj_slice1 Tryd.underlying22 Tryd.sizeOf52 Tryd.zeroValue52 (fe_t rfl) (by decide) rfl (fun b1 => ?_))
        refine tl_step rfl (oj_append (i := 3) (s := 2) (z := (.agg #[.int .i64 0, .int .i64 0])) (bytes := 16) Tryd.underlying22 (by kernel_rfl) (fe_t rfl) (fe_t rfl) rfl (rdl_blk 0 rfl) rfl (by decide) (by first | exact oneI | exact oneF (fun _ => rfl) | exact fun u hu => List.all_eq_true.1 (show List.all _ (fun x => x.oneCell') = true from rfl) u hu | (intro u hu; revert u hu; simp [Value.oneCell'])) (by decide) ⟨by rw [hz.1]; omega, by decide⟩ (fun Aa1 ca1 hca1 => ?_))
        refine tl_step rfl (oj_val (y_nilCheck (fe_t rfl)) ?_)
        refine tl_step rfl (oj_val (y_fieldAddr (td := 22) Tryd.underlying24 rfl rfl Tryd.sizeOf22 (o' := 3) rfl (fe_t rfl)) ?_)
        refine tl_step rfl (oj_store1 2 Tryd.sizeOf22 (fe_t rfl) (fe_t rfl) rfl rfl rfl rfl (?_))
        refine tl_nil ?_
        refine tx_then ?_
        refine tr_seq ?_
        refine tr_region ?_
        refine tl_step rfl (oj_val (y_assign fe_c) ?_)
        refine tl_nil ?_
        refine tx_then ?_
        refine tr_ret ?_
        refine tx_in_ret ?_
        refine tx_then_ret ?_
        refine tx_then_ret ?_
        refine tx_in_ret ?_
        refine tx_then_ret ?_
        refine tx_ret (res1 Tryd.results40 (rok_t rfl)) (fun w' hS => ?_)
        refine ⟨(true, { s with ops := s.ops ++ [(1 + i, val c1.2.1)] }, ⟨_, _, _, _⟩), ⟨⟨?_, ?_⟩, ?_⟩, rfl, pickT (l := [_, _, _, _]) hS [2, 3] rfl (by decide)⟩
        · dsimp only; rw [hz.1]; simp
        · dsimp only; rw [hz.2, hn2.2 hT, Int.add_comm]; simp [c2, Int.add_comm]; rfl
        · rw [line_ok hk hc1 (hn2.1.symm.trans hT), kw_at (by omega) hE, if_neg (by omega)]; rfl
      · refine tr_skip ?_
        refine tx_in ?_
        refine tx_then ?_
        refine tr_region ?_
        refine tl_step rfl (oj_val (y_inc (fe_t rfl) fe_c (by omega)) ?_)
        refine tl_step rfl (oj_val (y_move (fe_t rfl)) ?_)
        refine tl_nil ?_
        apply tx_back1 (i + 1)
        · exact (cov_cons (by first | rfl | exact v_int (by omega) | exact v_bool (by simp [*])) (cov_nil))
        · repeat (first | exact over_nil | refine over_put rfl ?_ | refine over_drop rfl ?_)
        · exact fun w h => h
        · refine ⟨⟨by omega, fun hb j hj => ?_⟩, by omega⟩
          rcases (show j < i ∨ j = i by omega) with hj | rfl
          · exact hno hb j hj
          · simp_all
    · refine tl_skip rfl rfl rfl rfl ?_
      refine tl_skip rfl rfl rfl rfl ?_
      refine tl_skip rfl rfl rfl rfl ?_
      refine tl_step rfl (oj_val (y_pickf (fe_t rfl) fe_c) ?_)
      refine tl_nil ?_
      refine tx_then ?_
      refine tr_condf (fe_t rfl) ?_
      refine tr_skip ?_
      refine tx_in ?_
      refine tx_then ?_
      refine tr_region ?_
      refine tl_step rfl (oj_val (y_inc (fe_t rfl) fe_c (by omega)) ?_)
      refine tl_step rfl (oj_val (y_move (fe_t rfl)) ?_)
      refine tl_nil ?_
      apply tx_back1 (i + 1)
      · exact (cov_cons (by first | rfl | exact v_int (by omega) | exact v_bool (by simp [*])) (cov_nil))
      · repeat (first | exact over_nil | refine over_put rfl ?_ | refine over_drop rfl ?_)
      · exact fun w h => h
      · refine ⟨⟨by omega, fun hb j hj => ?_⟩, by omega⟩
        rcases (show j < i ∨ j = i by omega) with hj | rfl
        · exact hno hb j hj
        · simp_all
  · refine tr_exit ?_
    refine tx_then_exit ?_
    refine tx_then_exit ?_
    refine tx_in_exit ?_
    refine tx_then ?_
    refine tr_seq ?_
    refine tr_region ?_
    refine tl_step rfl (oj_val (y_assign fe_c) ?_)
    refine tl_nil ?_
    refine tx_then ?_
    refine tr_ret ?_
    refine tx_ret (res1 Tryd.results40 (rok_t rfl)) (fun w' hS => ?_)
    refine ⟨(false, s, z), ⟨hz, ?_⟩, rfl, pickT (l := [_, _, _]) hS [1, 2] rfl (by decide)⟩
    obtain rfl : i = 3 := by omega
    cases hb : n2.2 with
    | false => exact line_no hk hc1 (hn2.1.symm.trans hb) s
    | true =>
      rw [line_ok hk hc1 (hn2.1.symm.trans hb), kw_no (fun j hj => hno hb j hj), if_pos rfl]; rfl

end Go.Proofs.YtfcpmcdlgkfolaaDoor.Bn
