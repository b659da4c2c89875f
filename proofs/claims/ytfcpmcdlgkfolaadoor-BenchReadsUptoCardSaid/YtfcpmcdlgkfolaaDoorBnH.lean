/- Walks: a script read once more. -/
import Derived.Test.YtfcpmcdlgkfolaaDoorBnG
namespace Go.Proofs.YtfcpmcdlgkfolaaDoor.Bn
open Go.RowKit Go.Lib Go.Proofs.YtfcpmcdlgkfolaaDoor.E

set_option maxRecDepth 100000 in
set_option maxHeartbeats 4000000 in
theorem zparseE (t : List UInt8) (hl : t.length ≤ 1000000000) (w : World) :
    Calls Tryd.prog 12 #[str t] w fun e w' => ∃ q : Nat × Sc × Vs × Nat, (OpsIs q.2.2.1 q.2.1.ops ∧ q.2.1.ops.length ≤ t.length ∧ ((q.2.2.2 = 0 ∧ q.1 = 0 ∧ parse t = (0, some q.2.1)) ∨ (q.2.2.2 = 1 ∧ q.2.1 = sc0 ∧ q.2.2.1.A = none ∧ parse t = (q.1, none)))) ∧ e = .returned (.tuple #[.agg (cSc q.2.1 (.slice q.2.2.1.A q.2.2.1.n q.2.2.1.c)).toArray, (.int .i64 ((q.1 : Int))), (.int .i64 ((q.2.2.2 : Int)))]) ∧ St w w' [vec 52 2 (.slice q.2.2.1.A q.2.2.1.n q.2.2.1.c) q.2.2.1.n q.2.2.1.xs] := by
  refine calls_tr Tryd.func12 Tryd.ntmps12 rfl rfl (St.refl _) ?_
  refine tr_seq ?_
  refine tr_region ?_
  refine tl_step rfl (oj_alloc Tryd.zeroValue24 (fun rb => ?_))
  refine tl_step rfl (oj_val (y_assign fe_c) ?_)
  refine tl_step rfl (oj_val (y_assign fe_c) ?_)
  refine tl_nil ?_
  refine tx_then ?_
  refine tr_seq ?_
  refine tr_region ?_
  refine tl_step rfl (oj_alloc Tryd.zeroValue24 (fun bs => ?_))
  refine tl_nil ?_
  refine tx_then ?_
  refine tr_seq ?_
  refine tr_region ?_
  refine tl_step rfl (oj_val (y_assign fe_c) ?_)
  refine tl_step rfl (oj_val (y_assign fe_c) ?_)
  refine tl_nil ?_
  refine tx_then ?_
  refine tr_seq ?_
  refine tr_seq ?_
  refine tr_region ?_
  refine tl_step rfl (oj_val (y_move (fe_t rfl)) ?_)
  refine tl_step rfl (oj_val (y_slen Tryd.underlying9 (fe_t rfl)) ?_)
  refine tl_step rfl (oj_val (y_move fe_c) ?_)
  refine tl_nil ?_
  refine tx_then ?_
  refine tr_block ?_
  refine tr_add (r := vec 52 2 (.slice none 0 0) 0 []) vec_nil rfl ?_
  refine tr_loop5 [3, 4, 6, 7, 8, 9, 10, 11, 12, 14, 15, 16, 19, 20, 21, 22, 23, 24, 25, 26, 27, 28, 29, 30, 31, 32, 33, 34, 35, 36, 37, 38, 39, 40, 41, 42, 43, 44, 45, 46, 47, 48, 49, 50, 51, 52, 53, 54, 55, 56, 57, 58, 59, 60, 61, 62, 63, 64, 65, 66, 67, 68, 69, 70, 71, 72, 73, 74, 75, 76, 77, 78, 79, 80, 81, 82, 83, 84, 85, 86, 87, 88, 89, 90, 91, 92, 93, 94, 95, 96, 97, 98, 99, 100, 101, 102, 103, 104, 105, 106, 107, 108, 109, 110, 111, 112, 113, 114, 115, 116, 117, 118] (fun (i : Nat) (k : Nat) (f : Nat) (s : Sc) (z : Vs) => [(19, .int .i64 (i : Int)), (6, .int .i64 (k : Int)), (7, .int .i64 (f : Int))]) 0 (fun (i : Nat) (k : Nat) (f : Nat) (s : Sc) (z : Vs) => [(1, blk bs (cSc s (.slice z.A z.n z.c))), (0, vec 52 2 (.slice z.A z.n z.c) z.n z.xs)]) (fun (i : Nat) (k : Nat) (f : Nat) (s : Sc) (z : Vs) => At t i k f s ∧ OpsIs z s.ops) (fun (i : Nat) (k : Nat) (f : Nat) (s : Sc) (z : Vs) => t.length - i) (0) (0) (0) (sc0) (⟨none, 0, 0, []⟩ : Vs) (cov_cons (by first | rfl | exact v_int (by omega) | exact v_bool (by simp [*])) (cov_cons (by first | rfl | exact v_int (by omega) | exact v_bool (by simp [*])) (cov_cons (by first | rfl | exact v_int (by omega) | exact v_bool (by simp [*])) (cov_nil)))) (fun w h => h) ?_ ?_
  · try dsimp only
    exact ⟨At.zero t, ⟨rfl, rfl⟩⟩
  intro i k f s z hp
  obtain ⟨hA, hz⟩ := hp
  have hAf := hA.hf
  have hAk := hA.hk
  have hAi := hA.hi
  have hAo := hA.ho
  have hz1 := hz.1
  refine tr_seq ?_
  refine tr_region ?_
  refine tl_step rfl (oj_val (y_lss (fe_t rfl) (fe_t rfl)) ?_)
  refine tl_nil ?_
  refine tx_then ?_
  refine tr_seq ?_
  refine tr_condp (fe_t rfl) (fun hq1 => ?_) (fun hq2 => ?_)
  · refine tr_skip ?_
    refine tx_then ?_
    refine tr_seq ?_
    refine tr_block ?_
    refine tr_seq ?_
    refine tr_region ?_
    refine tl_step rfl (oj_val (y_move (fe_t rfl)) ?_)
    refine tl_step rfl (oj_val (y_assign (fe_t rfl)) ?_)
    refine tl_nil ?_
    refine tx_then ?_
    refine tr_seq ?_
    refine tr_seq ?_
    refine tr_region ?_
    refine tl_step rfl (oj_val (y_move (fe_t rfl)) ?_)
    refine tl_step rfl (oj_val (y_move (fe_t rfl)) ?_)
    refine tl_step rfl (oj_val (y_sidx Tryd.underlying9 (fe_t rfl) (fe_t rfl) (by omega)) ?_)
    refine tl_step rfl (oj_val (y_neq (fe_t rfl) fe_c) ?_)
    refine tl_nil ?_
    refine tx_then ?_
    refine tr_condp (fe_t rfl) (fun hq3 => ?_) (fun hq4 => ?_)
    · refine tr_exit ?_
      refine tx_then_exit ?_
      refine tx_in_exit ?_
      refine tx_then ?_
      refine tr_region ?_
      refine tl_step rfl (oj_val (y_inc (fe_t rfl) fe_c (by omega)) ?_)
      refine tl_step rfl (oj_val (y_move (fe_t rfl)) ?_)
      refine tl_nil ?_
      apply tx_back5 (i + 1) (k) (f) (s) (z)
      · exact (cov_cons (by first | rfl | exact v_int (by omega) | exact v_bool (by simp [*])) (cov_cons (by first | rfl | exact v_int (by omega) | exact v_bool (by simp [*])) (cov_cons (by first | rfl | exact v_int (by omega) | exact v_bool (by simp [*])) (cov_nil))))
      · repeat (first | exact over_nil | refine over_put rfl ?_ | refine over_drop rfl ?_)
      · exact fun w h => h.pick [0, 1, 2] _ rfl (by decide)
      · exact ⟨⟨hA.skip (by omega) (fun e => ‹¬ ((t[i].toNat : Nat) : Int) = 10› (by rw [e]; rfl)), hz⟩, by omega⟩
    · refine tr_skip ?_
      refine tx_then ?_
      refine tr_seq ?_
      have hb10 : t[i] = 10 := UInt8.toNat_inj.1 (show t[i].toNat = (10 : UInt8).toNat by simp; omega)
      refine tr_region ?_
      refine tl_step rfl (oj_val (y_move (fe_t rfl)) ?_)
      refine tl_step rfl (oj_val (y_move (fe_t rfl)) ?_)
      refine tl_step rfl (oj_val (y_move (fe_t rfl)) ?_)
      refine tl_step rfl (oj_val (y_scut Tryd.underlying9 (fe_t rfl) (fe_t rfl) (fe_t rfl) (by omega) (by omega)) ?_)
      have hll : ((t.drop f).take (i - f)).length ≤ t.length := by simp; omega
      generalize hgl : (t.drop f).take (i - f) = l at hll ⊢
      refine tl_step rfl (oj_call Tryd.call42 fe_f (fel_cons (fe_t rfl) fel_nil) (fun w' hS => zwordsE l (by omega) w') (fun r1 hr1 => ?_))
      refine tl_step rfl (oj_val (y_assign (fe_t rfl)) ?_)
      refine tl_nil ?_
      refine tx_then ?_
      refine tr_seq ?_
      have hwp := List.length_pos_iff.2 (wds_ne 32 l)
      have hwl := wds_len 32 l
      have hwt : (wds 32 l).tail.length = (wds 32 l).length - 1 := List.length_tail
      have hrn := hr1.1
      refine tr_region ?_
      refine tl_step rfl (oj_makeMapS (fun b_mp1 => ?_))
      refine tl_step rfl (oj_mapLit 0 Tryd.underlying112 Tryd.underlying9 (fe_t rfl) fe_c fe_c rfl (by rfl) (?_))
      refine tl_step rfl (oj_mapLit 0 Tryd.underlying112 Tryd.underlying9 (fe_t rfl) fe_c fe_c rfl (by rfl) (?_))
      refine tl_step rfl (oj_mapLit 0 Tryd.underlying112 Tryd.underlying9 (fe_t rfl) fe_c fe_c rfl (by rfl) (?_))
      refine tl_step rfl (oj_val (y_move (fe_t rfl)) ?_)
      refine tl_step rfl (oj_val (y_move (fe_t rfl)) ?_)
      refine tl_step rfl (oj_val (y_indexI (m := 0) Tryd.underlying32 Tryd.sizeOf9 (fe_t rfl) fe_c (rdl_vec 1 rfl) (by rw [hr1.2, List.length_map, hr1.1, Nat.mul_one]) (by decide) (by decide) (by omega) rfl) ?_)
      refine tl_step rfl (oj_val (y_ld Tryd.isAgg9 (fe_t rfl) (rdl_vec 1 rfl) (by rw [hr1.2]; exact getS (ws := wds 32 l) (k := 0) hwp)) ?_)
      refine tl_step rfl (oj_val (y_to (y_lookupS 0 Tryd.underlying112 Tryd.underlying9 Tryd.zeroValue3 (fe_t rfl) (fe_t rfl) rfl) (kind_get _)) ?_)
      refine tl_step rfl (oj_val (y_assign (fe_t rfl)) ?_)
      refine tl_nil ?_
      refine tx_then ?_
      refine tr_seq ?_
      refine tr_region ?_
      refine tl_step rfl (oj_val (y_assign fe_c) ?_)
      refine tl_nil ?_
      refine tx_then ?_
      refine tr_seq ?_
      refine tr_region ?_
      refine tl_step rfl (oj_val (y_assign fe_c) ?_)
      refine tl_nil ?_
      refine tx_then ?_
      refine tr_seq ?_
      refine tr_seq ?_
      refine tr_region ?_
      refine tl_step rfl (oj_val (y_move (fe_t rfl)) ?_)
      refine tl_step rfl (oj_val (y_cutL (l := 1) Tryd.underlying32 Tryd.sizeOf9 (fe_t rfl) fe_c (by omega)) ?_)
      refine tl_step rfl (oj_val (y_len Tryd.underlying32 (fe_t rfl)) ?_)
      refine tl_step rfl (oj_val (y_move fe_c) ?_)
      refine tl_nil ?_
      refine tx_then ?_
      refine tr_block ?_
      refine tr_add (r := vec 3 1 (.slice none 0 0) 0 []) vec_nil rfl ?_
      refine tr_loop4 [11, 12, 14, 15, 16, 40, 41, 42, 43, 44, 45, 46, 47, 48, 49, 50, 51, 52, 53, 54, 55, 56, 57] (fun (j : Nat) (y : Vs) (p : Bool) (ns : List Int) => [(40, .int .i64 (j : Int)), (11, .slice y.A y.n y.c), (12, .bool p)]) 0 (fun (j : Nat) (y : Vs) (p : Bool) (ns : List Int) => [(0, vec 3 1 (.slice y.A y.n y.c) y.n y.xs)]) (fun (j : Nat) (y : Vs) (p : Bool) (ns : List Int) => j ≤ (wds 32 l).tail.length ∧ y.n = j ∧ ns.length = j ∧ y.xs = ns.map (.int .i64) ∧ NsIs l j p ns) (fun (j : Nat) (y : Vs) (p : Bool) (ns : List Int) => (wds 32 l).tail.length - j) (0) (⟨none, 0, 0, []⟩ : Vs) (true) ([]) (cov_cons (by first | rfl | exact v_int (by omega) | exact v_bool (by simp [*])) (cov_cons (by first | rfl | exact v_int (by omega) | exact v_bool (by simp [*])) (cov_cons (by first | rfl | exact v_int (by omega) | exact v_bool (by simp [*])) (cov_nil)))) (fun w h => h) ?_ ?_
      · try dsimp only
        exact ⟨by omega, rfl, rfl, rfl, NsIs.zero l⟩
      intro j y p ns hp
      obtain ⟨hj, hyn, hnl, hyx, hN⟩ := hp
      refine tr_seq ?_
      refine tr_region ?_
      refine tl_step rfl (oj_val (y_lss (fe_t rfl) (fe_t rfl)) ?_)
      refine tl_nil ?_
      refine tx_then ?_
      refine tr_seq ?_
      refine tr_condp (fe_t rfl) (fun hq5 => ?_) (fun hq6 => ?_)
      · refine tr_skip ?_
        refine tx_then ?_
        refine tr_seq ?_
        refine tr_block ?_
        refine tr_seq ?_
        refine tr_region ?_
        refine tl_step rfl (oj_val (y_index Tryd.underlying32 Tryd.sizeOf9 (fe_t rfl) (fe_t rfl) (rdl_cutS 2 rfl hr1.2 hr1.1 (by omega)) (by rw [List.length_map, List.length_tail]; omega) (by decide) (by omega) (Nat.mul_one _)) ?_)
        refine tl_step rfl (oj_val (y_ld Tryd.isAgg9 (fe_t rfl) (rdl_cutS 2 rfl hr1.2 hr1.1 (by omega)) (getS (ws := (wds 32 l).tail) (by omega))) ?_)
        refine tl_step rfl (oj_val (y_assign (fe_t rfl)) ?_)
        refine tl_nil ?_
        refine tx_then ?_
        refine tr_seq ?_
        refine tr_region ?_
        refine tl_step rfl (oj_val (y_move (fe_t rfl)) ?_)
        refine tl_step rfl (oj_call Tryd.call43 fe_f (fel_cons (fe_t rfl) fel_nil) (fun w' hS => znumberE ((wds 32 l).tail.getD j []) (by rw [tail_at]; have := wds_at (c := 32) (l := l) (j + 1); omega) w') (fun n2 hn2 => ?_))
        refine tl_step rfl (oj_val (y_move (fe_t rfl)) ?_)
        refine tl_step rfl (oj_val (y_extract (fe_t rfl) rfl) ?_)
        refine tl_step rfl (oj_val (y_extract (fe_t rfl) rfl) ?_)
        refine tl_step rfl (oj_val (y_assign (fe_t rfl)) ?_)
        refine tl_step rfl (oj_val (y_assign (fe_t rfl)) ?_)
        refine tl_nil ?_
        refine tx_then ?_
        refine tr_region ?_
        refine tl_step rfl (oj_val (y_move (fe_t rfl)) ?_)
        refine tl_step rfl (oj_val (y_move (fe_t rfl)) ?_)
        refine tl_step rfl (oj_slice1 Tryd.underlying39 Tryd.sizeOf3 Tryd.zeroValue3 (fe_t rfl) (by decide) rfl (fun b1 => ?_))
        refine tl_step rfl (oj_append (i := 1) (s := 1) (z := (.int .i64 0)) (bytes := 8) Tryd.underlying39 (by kernel_rfl) (fe_t rfl) (fe_t rfl) rfl (rdl_blk 0 rfl) rfl (by decide) (by first | exact oneI | exact oneF (fun _ => rfl) | exact fun u hu => List.all_eq_true.1 (show List.all _ (fun x => x.oneCell') = true from rfl) u hu | (intro u hu; revert u hu; simp [Value.oneCell'])) (by decide) ⟨by omega, by decide⟩ (fun Aa1 ca1 hca1 => ?_))
        refine tl_step rfl (oj_val (y_move (fe_t rfl)) ?_)
        refine tl_step rfl (oj_val (y_move (fe_t rfl)) ?_)
        refine tl_split (d := 54) rfl (fun hq7 => ?_) (fun hq8 => ?_)
        · refine tl_want rfl rfl rfl (oj_val (y_move (fe_t rfl)) ?_)
          refine tl_step rfl (oj_val (y_pickt (fe_t rfl) (fe_t rfl)) ?_)
          refine tl_step rfl (oj_val (y_assign (fe_t rfl)) ?_)
          refine tl_step rfl (oj_val (y_assign (fe_t rfl)) ?_)
          refine tl_nil ?_
          refine tx_in ?_
          refine tx_then ?_
          refine tr_region ?_
          refine tl_step rfl (oj_val (y_inc (fe_t rfl) fe_c (by omega)) ?_)
          refine tl_step rfl (oj_val (y_move (fe_t rfl)) ?_)
          refine tl_nil ?_
          apply tx_back4 (j + 1) ((⟨_, _, _, _⟩ : Vs)) (_) (ns ++ [n2.1])
          · exact (cov_cons (by first | rfl | exact v_int (by omega) | exact v_bool (by simp [*])) (cov_cons (by first | rfl | exact v_int (by omega) | exact v_bool (by simp [*])) (cov_cons (by first | rfl | exact v_int (by omega) | exact v_bool (by simp [*])) (cov_nil))))
          · repeat (first | exact over_nil | refine over_put rfl ?_ | refine over_drop rfl ?_)
          · exact fun w h => h.pick [1, 2, 3, 4, 5, 6] _ rfl (by decide)
          · exact ⟨⟨by omega, by dsimp only; omega, by simp [hnl], by dsimp only; rw [hyx, List.map_append]; rfl, hN.next (by omega) hn2 (by simp [*])⟩, by omega⟩
        · refine tl_skip rfl rfl rfl rfl ?_
          refine tl_step rfl (oj_val (y_pickf (fe_t rfl) fe_c) ?_)
          refine tl_step rfl (oj_val (y_assign (fe_t rfl)) ?_)
          refine tl_step rfl (oj_val (y_assign (fe_t rfl)) ?_)
          refine tl_nil ?_
          refine tx_in ?_
          refine tx_then ?_
          refine tr_region ?_
          refine tl_step rfl (oj_val (y_inc (fe_t rfl) fe_c (by omega)) ?_)
          refine tl_step rfl (oj_val (y_move (fe_t rfl)) ?_)
          refine tl_nil ?_
          apply tx_back4 (j + 1) ((⟨_, _, _, _⟩ : Vs)) (_) (ns ++ [n2.1])
          · exact (cov_cons (by first | rfl | exact v_int (by omega) | exact v_bool (by simp [*])) (cov_cons (by first | rfl | exact v_int (by omega) | exact v_bool (by simp [*])) (cov_cons (by first | rfl | exact v_int (by omega) | exact v_bool (by simp [*])) (cov_nil))))
          · repeat (first | exact over_nil | refine over_put rfl ?_ | refine over_drop rfl ?_)
          · exact fun w h => h.pick [1, 2, 3, 4, 5, 6] _ rfl (by decide)
          · exact ⟨⟨by omega, by dsimp only; omega, by simp [hnl], by dsimp only; rw [hyx, List.map_append]; rfl, hN.next (by omega) hn2 (by simp [*])⟩, by omega⟩
      · refine tr_exit ?_
        refine tx_then_exit ?_
        refine tx_then_exit ?_
        refine tx_in_exit ?_
        refine tx_then ?_
        refine tr_seq ?_
        refine tr_block ?_
        refine tr_seq ?_
        have hall := hN.all (by omega)
        refine tr_region ?_
        refine tl_step rfl (oj_val (y_move (fe_t rfl)) ?_)
        refine tl_step rfl (oj_val (y_eq (fe_t rfl) fe_c) ?_)
        refine tl_step rfl (oj_val (y_move (fe_t rfl)) ?_)
        refine tl_splitp (d := 63) rfl (fun hq9 => ?_) (fun hq10 => ?_)
        · refine tl_want rfl rfl rfl (oj_val (y_move (fe_t rfl)) ?_)
          refine tl_step rfl (oj_val (y_pickt (fe_t rfl) (fe_t rfl)) ?_)
          refine tl_step rfl (oj_val (y_move (fe_t rfl)) ?_)
          refine tl_split (d := 66) rfl (fun hq11 => ?_) (fun hq12 => ?_)
          · refine tl_want rfl rfl rfl (oj_val (y_move (fe_t rfl)) ?_)
            refine tl_want rfl rfl rfl (oj_val (y_indexI (m := 0) Tryd.underlying32 Tryd.sizeOf9 (fe_t rfl) fe_c (rdl_vec 2 rfl) (by rw [hr1.2, List.length_map, hr1.1, Nat.mul_one]) (by decide) (by decide) (by omega) rfl) ?_)
            refine tl_want rfl rfl rfl (oj_val (y_ld Tryd.isAgg9 (fe_t rfl) (rdl_vec 2 rfl) (by rw [hr1.2]; exact getS (ws := wds 32 l) (k := 0) hwp)) ?_)
            refine tl_want rfl rfl rfl (oj_val (y_eqs (fe_t rfl) fe_c) ?_)
            refine tl_step rfl (oj_val (y_pickt (fe_t rfl) (fe_t rfl)) ?_)
            refine tl_step rfl (oj_val (y_move (fe_t rfl)) ?_)
            refine tl_splitp (d := 72) rfl (fun hq13 => ?_) (fun hq14 => ?_)
            · refine tl_want rfl rfl rfl (oj_val (y_move (fe_t rfl)) ?_)
              refine tl_want rfl rfl rfl (oj_val (y_len Tryd.underlying39 (fe_t rfl)) ?_)
              refine tl_want rfl rfl rfl (oj_val (y_eq (fe_t rfl) fe_c) ?_)
              refine tl_step rfl (oj_val (y_pickt (fe_t rfl) (fe_t rfl)) ?_)
              refine tl_step rfl (oj_val (y_assign (fe_t rfl)) ?_)
              refine tl_nil ?_
              refine tx_then ?_
              refine tr_condp (fe_t rfl) (fun hq15 => ?_) (fun hq16 => ?_)
              · obtain ⟨ms, hms1, hms2⟩ := hall.1 (by assumption)
                refine tb_draw 10 (sel _ [0, 1, 2, 3, 5]) (fun w h => h.sel _ rfl (by decide)) rfl ?_
                refine tb_float (i := 0) rfl (by kernel_rfl) rfl (wants_none rfl) (yq_of (y_move (fe_t rfl))) ?_
                refine tb_float (i := 1) rfl (by kernel_rfl) rfl (wants_none rfl) (yq_of (y_indexI (m := 0) Tryd.underlying39 Tryd.sizeOf3 (fe_t rfl) fe_c (rdl_vec 0 rfl) (by rw [hyx, List.length_map]; omega) (by decide) (by decide) (by omega) rfl)) ?_
                refine tb_float (i := 2) rfl (by kernel_rfl) rfl (wants_none rfl) (yq_of (y_ld Tryd.isAgg3 (fe_t rfl) (rdl_vec 0 rfl) (by rw [hyx]; exact getN hms2 (by omega)))) ?_
                refine tb_float (i := 3) rfl (by kernel_rfl) rfl (wants_none rfl) (yq_of (y_move (fe_t rfl))) ?_
                refine tb_float (i := 4) rfl (by kernel_rfl) rfl (wants_none rfl) (yq_of (y_indexI (m := 1) Tryd.underlying39 Tryd.sizeOf3 (fe_t rfl) fe_c (rdl_vec 0 rfl) (by rw [hyx, List.length_map]; omega) (by decide) (by decide) (by omega) rfl)) ?_
                refine tb_float (i := 5) rfl (by kernel_rfl) rfl (wants_none rfl) (yq_of (y_ld Tryd.isAgg3 (fe_t rfl) (rdl_vec 0 rfl) (by rw [hyx]; exact getN hms2 (by omega)))) ?_
                refine tb_float (i := 6) rfl (by kernel_rfl) rfl (wants_none rfl) (yq_of (y_move (fe_t rfl))) ?_
                refine tb_float (i := 7) rfl (by kernel_rfl) rfl (wants_none rfl) (yq_of (y_indexI (m := 2) Tryd.underlying39 Tryd.sizeOf3 (fe_t rfl) fe_c (rdl_vec 0 rfl) (by rw [hyx, List.length_map]; omega) (by decide) (by decide) (by omega) rfl)) ?_
                refine tb_float (i := 8) rfl (by kernel_rfl) rfl (wants_none rfl) (yq_of (y_ld Tryd.isAgg3 (fe_t rfl) (rdl_vec 0 rfl) (by rw [hyx]; exact getN hms2 (by omega)))) ?_
                refine tb_float (i := 9) rfl (by kernel_rfl) rfl (wants_none rfl) (yq_of (y_fieldAddr (td := 3) Tryd.underlying24 rfl rfl Tryd.sizeOf3 (o' := 0) rfl (fe_t rfl))) ?_
                refine tb_one2 (i := 10) rfl (by kernel_rfl) (by kernel_rfl) (wants_none rfl) (oj_store1 4 Tryd.sizeOf3 (fe_t rfl) (fe_t rfl) rfl rfl rfl rfl (⟨fun w h => h.pick [0, 1, 2, 3, 5] _ rfl (by decide), ?_⟩))
                refine tb_float (i := 11) rfl (by kernel_rfl) rfl (wants_none rfl) (yq_of (y_fieldAddr (td := 3) Tryd.underlying24 rfl rfl Tryd.sizeOf3 (o' := 1) rfl (fe_t rfl))) ?_
                refine tb_one2 (i := 12) rfl (by kernel_rfl) (by kernel_rfl) (wants_none rfl) (oj_store1 4 Tryd.sizeOf3 (fe_t rfl) (fe_t rfl) rfl rfl rfl rfl (⟨fun w h => h.pick [0, 1, 2, 3, 5] _ rfl (by decide), ?_⟩))
                refine tb_float (i := 13) rfl (by kernel_rfl) rfl (wants_none rfl) (yq_of (y_fieldAddr (td := 3) Tryd.underlying24 rfl rfl Tryd.sizeOf3 (o' := 2) rfl (fe_t rfl))) ?_
                refine tb_one2 (i := 14) rfl (by kernel_rfl) (by kernel_rfl) (wants_none rfl) (oj_store1 4 Tryd.sizeOf3 (fe_t rfl) (fe_t rfl) rfl rfl rfl rfl (⟨fun w h => h.pick [0, 1, 2, 3, 5] _ rfl (by decide), ?_⟩))
                refine tb_done (by kernel_rfl) ?_
                refine tx_in ?_
                refine tx_then ?_
                refine tr_region ?_
                refine tl_step rfl (oj_val (y_move (fe_t rfl)) ?_)
                refine tl_step rfl (oj_val (y_inc (fe_t rfl) fe_c (by omega)) ?_)
                refine tl_step rfl (oj_val (y_move (fe_t rfl)) ?_)
                refine tl_step rfl (oj_val (y_inc (fe_t rfl) fe_c (by omega)) ?_)
                refine tl_step rfl (oj_val (y_assign (fe_t rfl)) ?_)
                refine tl_step rfl (oj_val (y_assign (fe_t rfl)) ?_)
                refine tl_nil ?_
                refine tx_in ?_
                refine tx_then ?_
                refine tr_region ?_
                refine tl_step rfl (oj_val (y_inc (fe_t rfl) fe_c (by omega)) ?_)
                refine tl_step rfl (oj_val (y_move (fe_t rfl)) ?_)
                refine tl_nil ?_
                apply tx_back5 (i + 1) (k + 1) (i + 1) (⟨nAt ns 0, nAt ns 1, nAt ns 2, s.ops⟩) (z)
                · exact (cov_cons (by first | rfl | exact v_int (by omega) | exact v_bool (by simp [*])) (cov_cons (by first | rfl | exact v_int (by omega) | exact v_bool (by simp [*])) (cov_cons (by first | rfl | exact v_int (by omega) | exact v_bool (by simp [*])) (cov_nil))))
                · repeat (first | exact over_nil | refine over_put rfl ?_ | refine over_drop rfl ?_)
                · exact fun w h => h.pick [3, 4, 5] _ rfl (by decide)
                · exact ⟨⟨hA.next (by omega) hb10 (by rw [hgl]; exact rd_0ok ⟨ms, hms1, hms2⟩ (by omega) ‹_› (by omega)), hz⟩, by omega⟩
              · refine tr_seq ?_
                refine tr_region ?_
                refine tl_step rfl (oj_val (y_move (fe_t rfl)) ?_)
                refine tl_step rfl (oj_val (y_gtr (fe_t rfl) fe_c) ?_)
                refine tl_step rfl (oj_val (y_move (fe_t rfl)) ?_)
                refine tl_splitp (d := 92) rfl (fun hq17 => ?_) (fun hq18 => ?_)
                · exfalso; omega
                · refine tl_skip rfl rfl rfl rfl ?_
                  refine tl_step rfl (oj_val (y_pickf (fe_t rfl) fe_c) ?_)
                  refine tl_step rfl (oj_val (y_move (fe_t rfl)) ?_)
                  refine tl_skip rfl rfl rfl rfl ?_
                  refine tl_skip rfl rfl rfl rfl ?_
                  refine tl_step rfl (oj_val (y_pickf (fe_t rfl) fe_c) ?_)
                  refine tl_step rfl (oj_val (y_move (fe_t rfl)) ?_)
                  refine tl_skip rfl rfl rfl rfl ?_
                  refine tl_skip rfl rfl rfl rfl ?_
                  refine tl_skip rfl rfl rfl rfl ?_
                  refine tl_step rfl (oj_val (y_pickf (fe_t rfl) fe_c) ?_)
                  refine tl_step rfl (oj_val (y_assign (fe_t rfl)) ?_)
                  refine tl_nil ?_
                  refine tx_then ?_
                  refine tr_condf (fe_t rfl) ?_
                  refine tr_seq ?_
                  have hbad : read k s l = none := rd_0 (hall.1 (by assumption)) (by omega) (.inr (by omega))
                  refine tr_add (r := vec 52 2 (.slice none 0 0) 0 []) vec_nil rfl ?_
                  refine tr_region ?_
                  refine tl_step rfl (oj_val (y_build (is := []) (vs := []) (cs := [.int .i64 0, .int .i64 0, .int .i64 0, .slice none 0 0]) rfl fel_nil (by kernel_rfl)) ?_)
                  refine tl_step rfl (oj_val (y_move (fe_t rfl)) ?_)
                  refine tl_step rfl (oj_storeW 6 Tryd.sizeOf24 (fe_t rfl) (fe_t rfl) rfl rfl rfl rfl rfl (?_))
                  refine tl_step rfl (oj_val (y_assign (fe_t rfl)) ?_)
                  refine tl_step rfl (oj_val (y_assign fe_c) ?_)
                  refine tl_nil ?_
                  refine tx_then ?_
                  refine tr_ret ?_
                  refine tx_in_ret ?_
                  refine tx_then_ret ?_
                  refine tx_in_ret ?_
                  refine tx_then_ret ?_
                  refine tx_then_ret ?_
                  refine tx_in_ret ?_
                  refine tx_then_ret ?_
                  refine tx_ret (res3 Tryd.results12 (rok_b 6 Tryd.isAgg24 Tryd.sizeOf24 rfl rfl rfl) (rok_t rfl) (rok_t rfl)) (fun w' hS => ?_)
                  exact ⟨(k, sc0, ⟨none, 0, 0, []⟩, 1), ⟨⟨rfl, rfl⟩, Nat.zero_le _, .inr ⟨rfl, rfl, rfl, hA.bad (by omega) hb10 (by rw [hgl]; exact hbad)⟩⟩, rfl, hS.pick [0] _ rfl (by decide)⟩
            · refine tl_skip rfl rfl rfl rfl ?_
              refine tl_skip rfl rfl rfl rfl ?_
              refine tl_skip rfl rfl rfl rfl ?_
              refine tl_step rfl (oj_val (y_pickf (fe_t rfl) fe_c) ?_)
              refine tl_step rfl (oj_val (y_assign (fe_t rfl)) ?_)
              refine tl_nil ?_
              refine tx_then ?_
              refine tr_condf (fe_t rfl) ?_
              refine tr_seq ?_
              refine tr_region ?_
              refine tl_step rfl (oj_val (y_move (fe_t rfl)) ?_)
              refine tl_step rfl (oj_val (y_gtr (fe_t rfl) fe_c) ?_)
              refine tl_step rfl (oj_val (y_move (fe_t rfl)) ?_)
              refine tl_splitp (d := 92) rfl (fun hq19 => ?_) (fun hq20 => ?_)
              · exfalso; omega
              · refine tl_skip rfl rfl rfl rfl ?_
                refine tl_step rfl (oj_val (y_pickf (fe_t rfl) fe_c) ?_)
                refine tl_step rfl (oj_val (y_move (fe_t rfl)) ?_)
                refine tl_skip rfl rfl rfl rfl ?_
                refine tl_skip rfl rfl rfl rfl ?_
                refine tl_step rfl (oj_val (y_pickf (fe_t rfl) fe_c) ?_)
                refine tl_step rfl (oj_val (y_move (fe_t rfl)) ?_)
                refine tl_skip rfl rfl rfl rfl ?_
                refine tl_skip rfl rfl rfl rfl ?_
                refine tl_skip rfl rfl rfl rfl ?_
                refine tl_step rfl (oj_val (y_pickf (fe_t rfl) fe_c) ?_)
                refine tl_step rfl (oj_val (y_assign (fe_t rfl)) ?_)
                refine tl_nil ?_
                refine tx_then ?_
                refine tr_condf (fe_t rfl) ?_
                refine tr_seq ?_
                have hbad : read k s l = none := rd_0 (hall.1 (by assumption)) (by omega) (.inl (by assumption))
                refine tr_add (r := vec 52 2 (.slice none 0 0) 0 []) vec_nil rfl ?_
                refine tr_region ?_
                refine tl_step rfl (oj_val (y_build (is := []) (vs := []) (cs := [.int .i64 0, .int .i64 0, .int .i64 0, .slice none 0 0]) rfl fel_nil (by kernel_rfl)) ?_)
                refine tl_step rfl (oj_val (y_move (fe_t rfl)) ?_)
                refine tl_step rfl (oj_storeW 6 Tryd.sizeOf24 (fe_t rfl) (fe_t rfl) rfl rfl rfl rfl rfl (?_))
                refine tl_step rfl (oj_val (y_assign (fe_t rfl)) ?_)
                refine tl_step rfl (oj_val (y_assign fe_c) ?_)
                refine tl_nil ?_
                refine tx_then ?_
                refine tr_ret ?_
                refine tx_in_ret ?_
                refine tx_then_ret ?_
                refine tx_in_ret ?_
                refine tx_then_ret ?_
                refine tx_then_ret ?_
                refine tx_in_ret ?_
                refine tx_then_ret ?_
                refine tx_ret (res3 Tryd.results12 (rok_b 6 Tryd.isAgg24 Tryd.sizeOf24 rfl rfl rfl) (rok_t rfl) (rok_t rfl)) (fun w' hS => ?_)
                exact ⟨(k, sc0, ⟨none, 0, 0, []⟩, 1), ⟨⟨rfl, rfl⟩, Nat.zero_le _, .inr ⟨rfl, rfl, rfl, hA.bad (by omega) hb10 (by rw [hgl]; exact hbad)⟩⟩, rfl, hS.pick [0] _ rfl (by decide)⟩
          · refine tl_skip rfl rfl rfl rfl ?_
            refine tl_skip rfl rfl rfl rfl ?_
            refine tl_skip rfl rfl rfl rfl ?_
            refine tl_skip rfl rfl rfl rfl ?_
            refine tl_step rfl (oj_val (y_pickf (fe_t rfl) fe_c) ?_)
            refine tl_step rfl (oj_val (y_move (fe_t rfl)) ?_)
            refine tl_skip rfl rfl rfl rfl ?_
            refine tl_skip rfl rfl rfl rfl ?_
            refine tl_skip rfl rfl rfl rfl ?_
            refine tl_step rfl (oj_val (y_pickf (fe_t rfl) fe_c) ?_)
            refine tl_step rfl (oj_val (y_assign (fe_t rfl)) ?_)
            refine tl_nil ?_
            refine tx_then ?_
            refine tr_condf (fe_t rfl) ?_
            refine tr_seq ?_
            refine tr_region ?_
            refine tl_step rfl (oj_val (y_move (fe_t rfl)) ?_)
            refine tl_step rfl (oj_val (y_gtr (fe_t rfl) fe_c) ?_)
            refine tl_step rfl (oj_val (y_move (fe_t rfl)) ?_)
            refine tl_splitp (d := 92) rfl (fun hq21 => ?_) (fun hq22 => ?_)
            · exfalso; omega
            · refine tl_skip rfl rfl rfl rfl ?_
              refine tl_step rfl (oj_val (y_pickf (fe_t rfl) fe_c) ?_)
              refine tl_step rfl (oj_val (y_move (fe_t rfl)) ?_)
              refine tl_skip rfl rfl rfl rfl ?_
              refine tl_skip rfl rfl rfl rfl ?_
              refine tl_step rfl (oj_val (y_pickf (fe_t rfl) fe_c) ?_)
              refine tl_step rfl (oj_val (y_move (fe_t rfl)) ?_)
              refine tl_skip rfl rfl rfl rfl ?_
              refine tl_skip rfl rfl rfl rfl ?_
              refine tl_skip rfl rfl rfl rfl ?_
              refine tl_step rfl (oj_val (y_pickf (fe_t rfl) fe_c) ?_)
              refine tl_step rfl (oj_val (y_assign (fe_t rfl)) ?_)
              refine tl_nil ?_
              refine tx_then ?_
              refine tr_condf (fe_t rfl) ?_
              refine tr_seq ?_
              have hbad : read k s l = none := rd_no hall.2 (by assumption)
              refine tr_add (r := vec 52 2 (.slice none 0 0) 0 []) vec_nil rfl ?_
              refine tr_region ?_
              refine tl_step rfl (oj_val (y_build (is := []) (vs := []) (cs := [.int .i64 0, .int .i64 0, .int .i64 0, .slice none 0 0]) rfl fel_nil (by kernel_rfl)) ?_)
              refine tl_step rfl (oj_val (y_move (fe_t rfl)) ?_)
              refine tl_step rfl (oj_storeW 6 Tryd.sizeOf24 (fe_t rfl) (fe_t rfl) rfl rfl rfl rfl rfl (?_))
              refine tl_step rfl (oj_val (y_assign (fe_t rfl)) ?_)
              refine tl_step rfl (oj_val (y_assign fe_c) ?_)
              refine tl_nil ?_
              refine tx_then ?_
              refine tr_ret ?_
              refine tx_in_ret ?_
              refine tx_then_ret ?_
              refine tx_in_ret ?_
              refine tx_then_ret ?_
              refine tx_then_ret ?_
              refine tx_in_ret ?_
              refine tx_then_ret ?_
              refine tx_ret (res3 Tryd.results12 (rok_b 6 Tryd.isAgg24 Tryd.sizeOf24 rfl rfl rfl) (rok_t rfl) (rok_t rfl)) (fun w' hS => ?_)
              exact ⟨(k, sc0, ⟨none, 0, 0, []⟩, 1), ⟨⟨rfl, rfl⟩, Nat.zero_le _, .inr ⟨rfl, rfl, rfl, hA.bad (by omega) hb10 (by rw [hgl]; exact hbad)⟩⟩, rfl, hS.pick [0] _ rfl (by decide)⟩
        · refine tl_skip rfl rfl rfl rfl ?_
          refine tl_step rfl (oj_val (y_pickf (fe_t rfl) fe_c) ?_)
          refine tl_step rfl (oj_val (y_move (fe_t rfl)) ?_)
          refine tl_skip rfl rfl rfl rfl ?_
          refine tl_skip rfl rfl rfl rfl ?_
          refine tl_skip rfl rfl rfl rfl ?_
          refine tl_skip rfl rfl rfl rfl ?_
          refine tl_step rfl (oj_val (y_pickf (fe_t rfl) fe_c) ?_)
          refine tl_step rfl (oj_val (y_move (fe_t rfl)) ?_)
          refine tl_skip rfl rfl rfl rfl ?_
          refine tl_skip rfl rfl rfl rfl ?_
          refine tl_skip rfl rfl rfl rfl ?_
          refine tl_step rfl (oj_val (y_pickf (fe_t rfl) fe_c) ?_)
          refine tl_step rfl (oj_val (y_assign (fe_t rfl)) ?_)
          refine tl_nil ?_
          refine tx_then ?_
          refine tr_condf (fe_t rfl) ?_
          refine tr_seq ?_
          refine tr_region ?_
          refine tl_step rfl (oj_val (y_move (fe_t rfl)) ?_)
          refine tl_step rfl (oj_val (y_gtr (fe_t rfl) fe_c) ?_)
          refine tl_step rfl (oj_val (y_move (fe_t rfl)) ?_)
          refine tl_splitp (d := 92) rfl (fun hq23 => ?_) (fun hq24 => ?_)
          · refine tl_want rfl rfl rfl (oj_val (y_move (fe_t rfl)) ?_)
            refine tl_step rfl (oj_val (y_pickt (fe_t rfl) (fe_t rfl)) ?_)
            refine tl_step rfl (oj_val (y_move (fe_t rfl)) ?_)
            refine tl_split (d := 95) rfl (fun hq25 => ?_) (fun hq26 => ?_)
            · refine tl_want rfl rfl rfl (oj_val (y_move (fe_t rfl)) ?_)
              refine tl_want rfl rfl rfl (oj_val (y_gtr (fe_t rfl) fe_c) ?_)
              refine tl_step rfl (oj_val (y_pickt (fe_t rfl) (fe_t rfl)) ?_)
              refine tl_step rfl (oj_val (y_move (fe_t rfl)) ?_)
              refine tl_splitp (d := 99) rfl (fun hq27 => ?_) (fun hq28 => ?_)
              · refine tl_want rfl rfl rfl (oj_val (y_move (fe_t rfl)) ?_)
                refine tl_want rfl rfl rfl (oj_val (y_len Tryd.underlying39 (fe_t rfl)) ?_)
                refine tl_want rfl rfl rfl (oj_val (y_eq (fe_t rfl) fe_c) ?_)
                refine tl_step rfl (oj_val (y_pickt (fe_t rfl) (fe_t rfl)) ?_)
                refine tl_step rfl (oj_val (y_assign (fe_t rfl)) ?_)
                refine tl_nil ?_
                refine tx_then ?_
                refine tr_condp (fe_t rfl) (fun hq29 => ?_) (fun hq30 => ?_)
                · obtain ⟨ms, hms1, hms2⟩ := hall.1 (by assumption)
                  refine tb_draw 8 (sel _ [0, 1, 2, 5]) (fun w h => h.sel _ rfl (by decide)) rfl ?_
                  refine tb_float (i := 0) rfl (by kernel_rfl) rfl (wants_none rfl) (yq_of (y_fieldAddr (td := 22) Tryd.underlying24 rfl rfl Tryd.sizeOf22 (o' := 3) rfl (fe_t rfl))) ?_
                  refine tb_float1 (i := 1) rfl (by kernel_rfl) (by kernel_rfl) rfl (wants_none rfl) (yq_of (y_ldb 4 Tryd.isAgg22 (fe_t rfl) rfl rfl)) ?_
                  refine tb_float (i := 2) rfl (by kernel_rfl) rfl (wants_none rfl) (yq_of (y_move (fe_t rfl))) ?_
                  refine tb_float (i := 3) rfl (by kernel_rfl) rfl (wants_none rfl) (yq_of (y_move (fe_t rfl))) ?_
                  refine tb_float (i := 4) rfl (by kernel_rfl) rfl (wants_none rfl) (yq_of (y_indexI (m := 0) Tryd.underlying39 Tryd.sizeOf3 (fe_t rfl) fe_c (rdl_vec 0 rfl) (by rw [hyx, List.length_map]; omega) (by decide) (by decide) (by omega) rfl)) ?_
                  refine tb_float (i := 5) rfl (by kernel_rfl) rfl (wants_none rfl) (yq_of (y_ld Tryd.isAgg3 (fe_t rfl) (rdl_vec 0 rfl) (by rw [hyx]; exact getN hms2 (by omega)))) ?_
                  refine tb_float (i := 6) rfl (by kernel_rfl) rfl (wants_none rfl) (yq_of ((fun {u0 u1} hx hb => y_build (is := [0, 1]) (vs := [u0, u1]) (cs := [u0, u1]) rfl hx hb) (fel_cons (fe_t rfl) (fel_cons (fe_t rfl) fel_nil)) (by kernel_rfl))) ?_
                  refine tb_one1 (i := 7) rfl (by kernel_rfl) (by kernel_rfl) (wants_none rfl) (oj_slice1 Tryd.underlying22 Tryd.sizeOf52 Tryd.zeroValue52 (fe_t rfl) (by decide) rfl (fun b2 => ⟨fun w h => h.pick [1, 2, 3, 4, 5, 6] _ rfl (by decide), ?_⟩))
                  refine tb_one2 (i := 8) rfl (by kernel_rfl) (by kernel_rfl) (wants_none rfl) (oj_append (i := 4) (s := 2) (z := (.agg #[.int .i64 0, .int .i64 0])) (bytes := 16) Tryd.underlying22 (by kernel_rfl) (fe_t rfl) (fe_t rfl) rfl (rdl_blk 0 rfl) rfl (by decide) (by first | exact oneI | exact oneF (fun _ => rfl) | exact fun u hu => List.all_eq_true.1 (show List.all _ (fun x => x.oneCell') = true from rfl) u hu | (intro u hu; revert u hu; simp [Value.oneCell'])) (by decide) ⟨by omega, by decide⟩ (fun Aa2 ca2 hca2 => ⟨fun w h => h.pick [1, 2, 3, 6] _ rfl (by decide), ?_⟩))
                  refine tb_float (i := 9) rfl (by kernel_rfl) rfl (wants_none rfl) (yq_of (y_fieldAddr (td := 22) Tryd.underlying24 rfl rfl Tryd.sizeOf22 (o' := 3) rfl (fe_t rfl))) ?_
                  refine tb_one2 (i := 10) rfl (by kernel_rfl) (by kernel_rfl) (wants_none rfl) (oj_store1 5 Tryd.sizeOf22 (fe_t rfl) (fe_t rfl) rfl rfl rfl rfl (⟨fun w h => h.pick [1, 2, 3, 6] _ rfl (by decide), ?_⟩))
                  refine tb_done (by kernel_rfl) ?_
                  refine tx_in ?_
                  refine tx_then ?_
                  refine tr_region ?_
                  refine tl_step rfl (oj_val (y_move (fe_t rfl)) ?_)
                  refine tl_step rfl (oj_val (y_inc (fe_t rfl) fe_c (by omega)) ?_)
                  refine tl_step rfl (oj_val (y_move (fe_t rfl)) ?_)
                  refine tl_step rfl (oj_val (y_inc (fe_t rfl) fe_c (by omega)) ?_)
                  refine tl_step rfl (oj_val (y_assign (fe_t rfl)) ?_)
                  refine tl_step rfl (oj_val (y_assign (fe_t rfl)) ?_)
                  refine tl_nil ?_
                  refine tx_in ?_
                  refine tx_then ?_
                  refine tr_region ?_
                  refine tl_step rfl (oj_val (y_inc (fe_t rfl) fe_c (by omega)) ?_)
                  refine tl_step rfl (oj_val (y_move (fe_t rfl)) ?_)
                  refine tl_nil ?_
                  apply tx_back5 (i + 1) (k + 1) (i + 1) ({ s with ops := s.ops ++ [(kindOf ((wds 32 l).getD 0 []), nAt ns 0)] }) ((⟨_, _, _, _⟩ : Vs))
                  · exact (cov_cons (by first | rfl | exact v_int (by omega) | exact v_bool (by simp [*])) (cov_cons (by first | rfl | exact v_int (by omega) | exact v_bool (by simp [*])) (cov_cons (by first | rfl | exact v_int (by omega) | exact v_bool (by simp [*])) (cov_nil))))
                  · repeat (first | exact over_nil | refine over_put rfl ?_ | refine over_drop rfl ?_)
                  · exact fun w h => h.pick [4, 5, 6] _ rfl (by decide)
                  · exact ⟨⟨hA.next (by omega) hb10 (by rw [hgl]; exact rd_1ok ⟨ms, hms1, hms2⟩ (by omega) (by omega) (by omega)), ⟨by dsimp only; rw [hz.1]; simp, by dsimp only; rw [hz.2]; simp [c2]; rfl⟩⟩, by omega⟩
                · refine tr_seq ?_
                  have hbad : read k s l = none := rd_1 (hall.1 (by assumption)) (by omega) (.inr (by omega))
                  refine tr_add (r := vec 52 2 (.slice none 0 0) 0 []) vec_nil rfl ?_
                  refine tr_region ?_
                  refine tl_step rfl (oj_val (y_build (is := []) (vs := []) (cs := [.int .i64 0, .int .i64 0, .int .i64 0, .slice none 0 0]) rfl fel_nil (by kernel_rfl)) ?_)
                  refine tl_step rfl (oj_val (y_move (fe_t rfl)) ?_)
                  refine tl_step rfl (oj_storeW 6 Tryd.sizeOf24 (fe_t rfl) (fe_t rfl) rfl rfl rfl rfl rfl (?_))
                  refine tl_step rfl (oj_val (y_assign (fe_t rfl)) ?_)
                  refine tl_step rfl (oj_val (y_assign fe_c) ?_)
                  refine tl_nil ?_
                  refine tx_then ?_
                  refine tr_ret ?_
                  refine tx_in_ret ?_
                  refine tx_then_ret ?_
                  refine tx_in_ret ?_
                  refine tx_then_ret ?_
                  refine tx_then_ret ?_
                  refine tx_in_ret ?_
                  refine tx_then_ret ?_
                  refine tx_ret (res3 Tryd.results12 (rok_b 6 Tryd.isAgg24 Tryd.sizeOf24 rfl rfl rfl) (rok_t rfl) (rok_t rfl)) (fun w' hS => ?_)
                  exact ⟨(k, sc0, ⟨none, 0, 0, []⟩, 1), ⟨⟨rfl, rfl⟩, Nat.zero_le _, .inr ⟨rfl, rfl, rfl, hA.bad (by omega) hb10 (by rw [hgl]; exact hbad)⟩⟩, rfl, hS.pick [0] _ rfl (by decide)⟩
              · refine tl_skip rfl rfl rfl rfl ?_
                refine tl_skip rfl rfl rfl rfl ?_
                refine tl_skip rfl rfl rfl rfl ?_
                refine tl_step rfl (oj_val (y_pickf (fe_t rfl) fe_c) ?_)
                refine tl_step rfl (oj_val (y_assign (fe_t rfl)) ?_)
                refine tl_nil ?_
                refine tx_then ?_
                refine tr_condf (fe_t rfl) ?_
                refine tr_seq ?_
                have hbad : read k s l = none := rd_1 (hall.1 (by assumption)) (by omega) (.inl (by omega))
                refine tr_add (r := vec 52 2 (.slice none 0 0) 0 []) vec_nil rfl ?_
                refine tr_region ?_
                refine tl_step rfl (oj_val (y_build (is := []) (vs := []) (cs := [.int .i64 0, .int .i64 0, .int .i64 0, .slice none 0 0]) rfl fel_nil (by kernel_rfl)) ?_)
                refine tl_step rfl (oj_val (y_move (fe_t rfl)) ?_)
                refine tl_step rfl (oj_storeW 6 Tryd.sizeOf24 (fe_t rfl) (fe_t rfl) rfl rfl rfl rfl rfl (?_))
                refine tl_step rfl (oj_val (y_assign (fe_t rfl)) ?_)
                refine tl_step rfl (oj_val (y_assign fe_c) ?_)
                refine tl_nil ?_
                refine tx_then ?_
                refine tr_ret ?_
                refine tx_in_ret ?_
                refine tx_then_ret ?_
                refine tx_in_ret ?_
                refine tx_then_ret ?_
                refine tx_then_ret ?_
                refine tx_in_ret ?_
                refine tx_then_ret ?_
                refine tx_ret (res3 Tryd.results12 (rok_b 6 Tryd.isAgg24 Tryd.sizeOf24 rfl rfl rfl) (rok_t rfl) (rok_t rfl)) (fun w' hS => ?_)
                exact ⟨(k, sc0, ⟨none, 0, 0, []⟩, 1), ⟨⟨rfl, rfl⟩, Nat.zero_le _, .inr ⟨rfl, rfl, rfl, hA.bad (by omega) hb10 (by rw [hgl]; exact hbad)⟩⟩, rfl, hS.pick [0] _ rfl (by decide)⟩
            · refine tl_skip rfl rfl rfl rfl ?_
              refine tl_skip rfl rfl rfl rfl ?_
              refine tl_step rfl (oj_val (y_pickf (fe_t rfl) fe_c) ?_)
              refine tl_step rfl (oj_val (y_move (fe_t rfl)) ?_)
              refine tl_skip rfl rfl rfl rfl ?_
              refine tl_skip rfl rfl rfl rfl ?_
              refine tl_skip rfl rfl rfl rfl ?_
              refine tl_step rfl (oj_val (y_pickf (fe_t rfl) fe_c) ?_)
              refine tl_step rfl (oj_val (y_assign (fe_t rfl)) ?_)
              refine tl_nil ?_
              refine tx_then ?_
              refine tr_condf (fe_t rfl) ?_
              refine tr_seq ?_
              have hbad : read k s l = none := rd_no hall.2 (by assumption)
              refine tr_add (r := vec 52 2 (.slice none 0 0) 0 []) vec_nil rfl ?_
              refine tr_region ?_
              refine tl_step rfl (oj_val (y_build (is := []) (vs := []) (cs := [.int .i64 0, .int .i64 0, .int .i64 0, .slice none 0 0]) rfl fel_nil (by kernel_rfl)) ?_)
              refine tl_step rfl (oj_val (y_move (fe_t rfl)) ?_)
              refine tl_step rfl (oj_storeW 6 Tryd.sizeOf24 (fe_t rfl) (fe_t rfl) rfl rfl rfl rfl rfl (?_))
              refine tl_step rfl (oj_val (y_assign (fe_t rfl)) ?_)
              refine tl_step rfl (oj_val (y_assign fe_c) ?_)
              refine tl_nil ?_
              refine tx_then ?_
              refine tr_ret ?_
              refine tx_in_ret ?_
              refine tx_then_ret ?_
              refine tx_in_ret ?_
              refine tx_then_ret ?_
              refine tx_then_ret ?_
              refine tx_in_ret ?_
              refine tx_then_ret ?_
              refine tx_ret (res3 Tryd.results12 (rok_b 6 Tryd.isAgg24 Tryd.sizeOf24 rfl rfl rfl) (rok_t rfl) (rok_t rfl)) (fun w' hS => ?_)
              exact ⟨(k, sc0, ⟨none, 0, 0, []⟩, 1), ⟨⟨rfl, rfl⟩, Nat.zero_le _, .inr ⟨rfl, rfl, rfl, hA.bad (by omega) hb10 (by rw [hgl]; exact hbad)⟩⟩, rfl, hS.pick [0] _ rfl (by decide)⟩
          · exfalso; omega
  · refine tr_exit ?_
    refine tx_then_exit ?_
    refine tx_then_exit ?_
    refine tx_in_exit ?_
    refine tx_then ?_
    refine tr_seq ?_
    refine tr_seq ?_
    refine tr_region ?_
    refine tl_step rfl (oj_val (y_move (fe_t rfl)) ?_)
    refine tl_step rfl (oj_val (y_move (fe_t rfl)) ?_)
    refine tl_step rfl (oj_val (y_slen Tryd.underlying9 (fe_t rfl)) ?_)
    refine tl_step rfl (oj_val (y_lss (fe_t rfl) (fe_t rfl)) ?_)
    refine tl_step rfl (oj_val (y_move (fe_t rfl)) ?_)
    refine tl_splitp (d := 123) rfl (fun hq31 => ?_) (fun hq32 => ?_)
    · refine tl_skip rfl rfl rfl rfl ?_
      refine tl_skip rfl rfl rfl rfl ?_
      refine tl_step rfl (oj_val (y_pickt (fe_t rfl) fe_c) ?_)
      refine tl_nil ?_
      refine tx_then ?_
      refine tr_condt (fe_t rfl) ?_
      refine tr_seq ?_
      refine tr_add (r := vec 52 2 (.slice none 0 0) 0 []) vec_nil rfl ?_
      refine tr_region ?_
      refine tl_step rfl (oj_val (y_build (is := []) (vs := []) (cs := [.int .i64 0, .int .i64 0, .int .i64 0, .slice none 0 0]) rfl fel_nil (by kernel_rfl)) ?_)
      refine tl_step rfl (oj_val (y_move (fe_t rfl)) ?_)
      refine tl_step rfl (oj_storeW 3 Tryd.sizeOf24 (fe_t rfl) (fe_t rfl) rfl rfl rfl rfl rfl (?_))
      refine tl_step rfl (oj_val (y_assign (fe_t rfl)) ?_)
      refine tl_step rfl (oj_val (y_assign fe_c) ?_)
      refine tl_nil ?_
      refine tx_then ?_
      refine tr_ret ?_
      refine tx_then_ret ?_
      refine tx_ret (res3 Tryd.results12 (rok_b 3 Tryd.isAgg24 Tryd.sizeOf24 rfl rfl rfl) (rok_t rfl) (rok_t rfl)) (fun w' hS => ?_)
      exact ⟨(k, sc0, ⟨none, 0, 0, []⟩, 1), ⟨⟨rfl, rfl⟩, Nat.zero_le _, .inr ⟨rfl, rfl, rfl, hA.short (by omega) (by omega)⟩⟩, rfl, hS.pick [0] _ rfl (by decide)⟩
    · refine tl_want rfl rfl rfl (oj_val (y_move (fe_t rfl)) ?_)
      refine tl_want rfl rfl rfl (oj_val (y_eq (fe_t rfl) fe_c) ?_)
      refine tl_step rfl (oj_val (y_pickf (fe_t rfl) (fe_t rfl)) ?_)
      refine tl_nil ?_
      refine tx_then ?_
      refine tr_condp (fe_t rfl) (fun hq33 => ?_) (fun hq34 => ?_)
      · refine tr_seq ?_
        refine tr_add (r := vec 52 2 (.slice none 0 0) 0 []) vec_nil rfl ?_
        refine tr_region ?_
        refine tl_step rfl (oj_val (y_build (is := []) (vs := []) (cs := [.int .i64 0, .int .i64 0, .int .i64 0, .slice none 0 0]) rfl fel_nil (by kernel_rfl)) ?_)
        refine tl_step rfl (oj_val (y_move (fe_t rfl)) ?_)
        refine tl_step rfl (oj_storeW 3 Tryd.sizeOf24 (fe_t rfl) (fe_t rfl) rfl rfl rfl rfl rfl (?_))
        refine tl_step rfl (oj_val (y_assign (fe_t rfl)) ?_)
        refine tl_step rfl (oj_val (y_assign fe_c) ?_)
        refine tl_nil ?_
        refine tx_then ?_
        refine tr_ret ?_
        refine tx_then_ret ?_
        refine tx_ret (res3 Tryd.results12 (rok_b 3 Tryd.isAgg24 Tryd.sizeOf24 rfl rfl rfl) (rok_t rfl) (rok_t rfl)) (fun w' hS => ?_)
        exact ⟨(k, sc0, ⟨none, 0, 0, []⟩, 1), ⟨⟨rfl, rfl⟩, Nat.zero_le _, .inr ⟨rfl, rfl, rfl, hA.short (by omega) (by omega)⟩⟩, rfl, hS.pick [0] _ rfl (by decide)⟩
      · refine tr_skip ?_
        refine tx_then ?_
        refine tr_seq ?_
        refine tr_region ?_
        refine tl_step rfl (oj_val (y_ldbA 1 Tryd.isAgg24 Tryd.sizeOf24 (fe_t rfl) rfl rfl rfl) ?_)
        refine tl_step rfl (oj_storeW 2 Tryd.sizeOf24 (fe_t rfl) (fe_t rfl) rfl rfl rfl rfl rfl (?_))
        refine tl_step rfl (oj_val (y_assign fe_c) ?_)
        refine tl_step rfl (oj_val (y_assign fe_c) ?_)
        refine tl_nil ?_
        refine tx_then ?_
        refine tr_ret ?_
        refine tx_ret (res3 Tryd.results12 (rok_b 2 Tryd.isAgg24 Tryd.sizeOf24 rfl rfl rfl) (rok_t rfl) (rok_t rfl)) (fun w' hS => ?_)
        have h1 := hA.ho
        have h2 := hA.hk
        have h3 := hA.hi
        exact ⟨(0, s, z, 0), ⟨hz, show s.ops.length ≤ t.length by omega, .inl ⟨rfl, rfl, hA.whole (by omega) (by omega) (by omega)⟩⟩, rfl, hS.pick [0] _ rfl (by decide)⟩

end Go.Proofs.YtfcpmcdlgkfolaaDoor.Bn
