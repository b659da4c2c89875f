/- Walks: a text is what it says. -/
import Derived.Test.YtfcpmcdlgkfolaaDoorBnTx
namespace Go.Proofs.YtfcpmcdlgkfolaaDoor.Bn
open Go.RowKit Go.Lib Go.Proofs.YtfcpmcdlgkfolaaDoor.E Go.Proofs.YtfcpmcdlgkfolaaDoor.Pace Go.Proofs.YtfcpmcdlgkfolaaDoor.Bucket

theorem getKI {ops : List (Nat × Nat)} {k : Nat} (h : k < ops.length) : ((opsI ops).flatMap c2i)[k * 2 + 0]? = some (.int .i64 (((ops[k].1 : Nat) : Int))) := by
  have := getF (c := c2i) (s := 2) (l := opsI ops) (j := k) (fun _ => rfl) (by rw [opsI_len]; exact h) 0 _ rfl
  rw [this]
  simp [opsI]

set_option maxRecDepth 100000 in
set_option maxHeartbeats 4000000 in
theorem toptext_err {w : World} (hw : Gw w) (a b c : Int) (ops : List (Int × Int)) (A : Option Addr) (n m : Nat) (hr : Rd w A (ops.flatMap c2i)) (hn : ops.length = n) (hm : n ≤ 100000000) (hx : ¬ (prR [a, b, c] ops).2 = 0) :
    Calls Tryd.prog 5 #[.agg #[(.int .i64 a), (.int .i64 b), (.int .i64 c), .slice A n m]] w fun e w' => e = .returned (.bool true) ∧ St w w' [] := by
  refine calls_tr Tryd.func5 Tryd.ntmps5 rfl rfl (St.refl _) ?_
  refine tr_seq ?_
  refine tr_region ?_
  refine tl_step rfl (oj_box (fe_t rfl) (fun b1 => ?_))
  refine tl_step rfl (oj_val (y_assign fe_c) ?_)
  refine tl_nil ?_
  refine tx_then ?_
  refine tr_seq ?_
  refine tr_seq ?_
  refine tr_region ?_
  refine tl_step rfl (oj_callv Tryd.call17 fe_f fel_nil (fun w' hS => aliveE (hw.st hS)) ?_)
  refine tl_step rfl (oj_val (y_not (fe_t rfl)) ?_)
  refine tl_nil ?_
  refine tx_then ?_
  refine tr_condf (fe_t rfl) ?_
  refine tr_skip ?_
  refine tx_then ?_
  refine tr_seq ?_
  refine tr_region ?_
  refine tl_step rfl (oj_val (y_ldbA 0 Tryd.isAgg24 Tryd.sizeOf24 (fe_t rfl) rfl rfl rfl) ?_)
  refine tl_step rfl (oj_callv Tryd.call9 fe_f (fel_cons (fe_t rfl) fel_nil) (fun w' hS => printE (hw.st hS) a b c ops A n m (Rd.below hr hS.below) hn (by omega)) ?_)
  refine tl_step rfl (oj_val (y_move (fe_t rfl)) ?_)
  refine tl_step rfl (oj_val (y_extract (fe_t rfl) rfl) ?_)
  refine tl_step rfl (oj_val (y_extract (fe_t rfl) rfl) ?_)
  refine tl_step rfl (oj_val (y_assign (fe_t rfl)) ?_)
  refine tl_step rfl (oj_val (y_assign (fe_t rfl)) ?_)
  refine tl_nil ?_
  refine tx_then ?_
  refine tr_seq ?_
  refine tr_seq ?_
  refine tr_region ?_
  refine tl_step rfl (oj_val (y_move (fe_t rfl)) ?_)
  refine tl_step rfl (oj_val (y_neq (fe_t rfl) fe_c) ?_)
  refine tl_nil ?_
  refine tx_then ?_
  refine tr_condp (fe_t rfl) (fun hq1 => ?_) (fun hq2 => ?_)
  · try (exfalso; omega)
    all_goals
      refine tr_seq ?_
      refine tr_region ?_
      refine tl_step rfl (oj_val (y_move (fe_t rfl)) ?_)
      refine tl_step rfl (oj_val (y_eqs (fe_t rfl) fe_c) ?_)
      refine tl_step rfl (oj_val (y_assign (fe_t rfl)) ?_)
      refine tl_nil ?_
      refine tx_then ?_
      refine tr_ret ?_
      refine tx_then_ret ?_
      refine tx_ret (res1 Tryd.results5 (rok_t rfl)) (fun w' hS => ?_)
      rw [pr_err hx]
      exact ⟨ret_bool (by simp), hS.pick [] _ rfl (by decide)⟩
  · exact absurd (Classical.not_not.1 hq2) hx

set_option maxRecDepth 100000 in
set_option maxHeartbeats 4000000 in
theorem toptext_no {w : World} (hw : Gw w) {s : Sc} (A : Option Addr) (n m : Nat) (hr : Rd w A ((opsI s.ops).flatMap c2i)) (hn : (opsI s.ops).length = n) (hm : n ≤ 1048576) (hx : (prR [(s.num : Int), (s.den : Int), (s.burst : Int)] (opsI s.ops)).2 = 0) (hpp : parse (prR [(s.num : Int), (s.den : Int), (s.burst : Int)] (opsI s.ops)).1 = (0, some s)) (hk : okb s.num s.den s.burst = false) :
    Calls Tryd.prog 5 #[.agg #[(.int .i64 ((s.num : Int))), (.int .i64 ((s.den : Int))), (.int .i64 ((s.burst : Int))), .slice A n m]] w fun e w' => e = .returned (.bool true) ∧ St w w' [] := by
  have hT := pr_TOk hpp (by rw [← opsI_len]; omega)
  have hnl : s.ops.length = n := by rw [← opsI_len]; exact hn
  have hr2 : Rd w A (s.ops.flatMap c2) := by rw [ops_I]; exact hr
  refine calls_tr Tryd.func5 Tryd.ntmps5 rfl rfl (St.refl _) ?_
  refine tr_seq ?_
  refine tr_region ?_
  refine tl_step rfl (oj_box (fe_t rfl) (fun b1 => ?_))
  refine tl_step rfl (oj_val (y_assign fe_c) ?_)
  refine tl_nil ?_
  refine tx_then ?_
  refine tr_seq ?_
  refine tr_seq ?_
  refine tr_region ?_
  refine tl_step rfl (oj_callv Tryd.call17 fe_f fel_nil (fun w' hS => aliveE (hw.st hS)) ?_)
  refine tl_step rfl (oj_val (y_not (fe_t rfl)) ?_)
  refine tl_nil ?_
  refine tx_then ?_
  refine tr_condf (fe_t rfl) ?_
  refine tr_skip ?_
  refine tx_then ?_
  refine tr_seq ?_
  refine tr_region ?_
  refine tl_step rfl (oj_val (y_ldbA 0 Tryd.isAgg24 Tryd.sizeOf24 (fe_t rfl) rfl rfl rfl) ?_)
  refine tl_step rfl (oj_callv Tryd.call9 fe_f (fel_cons (fe_t rfl) fel_nil) (fun w' hS => printE (hw.st hS) s.num s.den s.burst (opsI s.ops) A n m (Rd.below hr hS.below) hn (by omega)) ?_)
  refine tl_step rfl (oj_val (y_move (fe_t rfl)) ?_)
  refine tl_step rfl (oj_val (y_extract (fe_t rfl) rfl) ?_)
  refine tl_step rfl (oj_val (y_extract (fe_t rfl) rfl) ?_)
  refine tl_step rfl (oj_val (y_assign (fe_t rfl)) ?_)
  refine tl_step rfl (oj_val (y_assign (fe_t rfl)) ?_)
  refine tl_nil ?_
  refine tx_then ?_
  refine tr_seq ?_
  refine tr_seq ?_
  refine tr_region ?_
  refine tl_step rfl (oj_val (y_move (fe_t rfl)) ?_)
  refine tl_step rfl (oj_val (y_neq (fe_t rfl) fe_c) ?_)
  refine tl_nil ?_
  refine tx_then ?_
  refine tr_condp (fe_t rfl) (fun hq1 => ?_) (fun hq2 => ?_)
  · exact absurd hx hq1
  · try (exfalso; omega)
    all_goals
      refine tr_skip ?_
      refine tx_then ?_
      refine tr_seq ?_
      refine tr_region ?_
      refine tl_step rfl (oj_val (y_move (fe_t rfl)) ?_)
      refine tl_step rfl (oj_call Tryd.call14 fe_f (fel_cons (fe_t rfl) fel_nil) (fun w' hS => tellE (hw.st hS) (prR [(s.num : Int), (s.den : Int), (s.burst : Int)] (opsI s.ops)).1 hT) (fun r0 hr0 => ?_))
      refine tl_step rfl (oj_val (y_move (fe_t rfl)) ?_)
      refine tl_step rfl (oj_val (y_extract (fe_t rfl) rfl) ?_)
      refine tl_step rfl (oj_val (y_extract (fe_t rfl) rfl) ?_)
      refine tl_step rfl (oj_val (y_assign (fe_t rfl)) ?_)
      refine tl_step rfl (oj_val (y_assign (fe_t rfl)) ?_)
      refine tl_nil ?_
      refine tx_then ?_
      refine tr_seq ?_
      refine tr_region ?_
      refine tl_step rfl (oj_val (y_fieldAddr (td := 3) Tryd.underlying24 rfl rfl Tryd.sizeOf3 (o' := 0) rfl (fe_t rfl)) ?_)
      refine tl_step rfl (oj_val (y_ldb 1 Tryd.isAgg3 (fe_t rfl) rfl rfl) ?_)
      refine tl_step rfl (oj_val (y_fieldAddr (td := 3) Tryd.underlying24 rfl rfl Tryd.sizeOf3 (o' := 1) rfl (fe_t rfl)) ?_)
      refine tl_step rfl (oj_val (y_ldb 1 Tryd.isAgg3 (fe_t rfl) rfl rfl) ?_)
      refine tl_step rfl (oj_val (y_fieldAddr (td := 3) Tryd.underlying24 rfl rfl Tryd.sizeOf3 (o' := 2) rfl (fe_t rfl)) ?_)
      refine tl_step rfl (oj_val (y_ldb 1 Tryd.isAgg3 (fe_t rfl) rfl rfl) ?_)
      refine tl_step rfl (oj_val (y_fieldAddr (td := 22) Tryd.underlying24 rfl rfl Tryd.sizeOf22 (o' := 3) rfl (fe_t rfl)) ?_)
      refine tl_step rfl (oj_val (y_ldb 1 Tryd.isAgg22 (fe_t rfl) rfl rfl) ?_)
      refine tl_step rfl (oj_callv Tryd.call18 fe_f (fel_cons (fe_t rfl) (fel_cons (fe_t rfl) (fel_cons (fe_t rfl) (fel_cons (fe_t rfl) fel_nil)))) (fun w' hS => play_bad s.num s.den s.burst _ _ _ w' hk) ?_)
      refine tl_step rfl (oj_val (y_move (fe_t rfl)) ?_)
      refine tl_step rfl (oj_val (y_extract (fe_t rfl) rfl) ?_)
      refine tl_step rfl (oj_val (y_extract (fe_t rfl) rfl) ?_)
      refine tl_step rfl (oj_val (y_extract (fe_t rfl) rfl) ?_)
      refine tl_step rfl (oj_alloc Tryd.zeroValue45 (fun b2 => ?_))
      refine tl_step rfl (oj_val (y_assign (fe_t rfl)) ?_)
      refine tl_step rfl (oj_storeW 0 Tryd.sizeOf45 (fe_t rfl) (fe_t rfl) rfl rfl rfl rfl rfl (?_))
      refine tl_step rfl (oj_val (y_assign (fe_t rfl)) ?_)
      refine tl_nil ?_
      refine tx_then ?_
      refine tr_seq ?_
      refine tr_seq ?_
      have hT2 := tell_no hpp hk
      refine tr_region ?_
      refine tl_step rfl (oj_val (y_move (fe_t rfl)) ?_)
      refine tl_step rfl (oj_val (y_move (fe_t rfl)) ?_)
      refine tl_step rfl (oj_val (y_neq (fe_t rfl) (fe_t rfl)) ?_)
      refine tl_step rfl (oj_val (y_move (fe_t rfl)) ?_)
      refine tl_splitp (d := 44) rfl (fun hq3 => ?_) (fun hq4 => ?_)
      · exact absurd (by rw [hT2]) hq3
      · try (exfalso; omega)
        all_goals
          refine tl_want rfl rfl rfl (oj_val (y_move (fe_t rfl)) ?_)
          refine tl_want rfl rfl rfl (oj_val (y_neq (fe_t rfl) fe_c) ?_)
          refine tl_step rfl (oj_val (y_pickf (fe_t rfl) (fe_t rfl)) ?_)
          refine tl_nil ?_
          refine tx_then ?_
          refine tr_condp (fe_t rfl) (fun hq5 => ?_) (fun hq6 => ?_)
          · try (exfalso; omega)
            all_goals
              refine tr_seq ?_
              refine tr_region ?_
              refine tl_step rfl (oj_val (y_move (fe_t rfl)) ?_)
              refine tl_step rfl (oj_val (y_move (fe_t rfl)) ?_)
              refine tl_step rfl (oj_val (y_eq (fe_t rfl) (fe_t rfl)) ?_)
              refine tl_step rfl (oj_val (y_move (fe_t rfl)) ?_)
              refine tl_splitp (d := 51) rfl (fun hq7 => ?_) (fun hq8 => ?_)
              · try (exfalso; omega)
                all_goals
                  refine tl_want rfl rfl rfl (oj_val (y_move (fe_t rfl)) ?_)
                  refine tl_want rfl rfl rfl (oj_val (y_len Tryd.underlying32 (fe_t rfl)) ?_)
                  refine tl_want rfl rfl rfl (oj_val (y_eq (fe_t rfl) fe_c) ?_)
                  refine tl_step rfl (oj_val (y_pickt (fe_t rfl) (fe_t rfl)) ?_)
                  refine tl_step rfl (oj_val (y_assign (fe_t rfl)) ?_)
                  refine tl_nil ?_
                  refine tx_then ?_
                  refine tr_ret ?_
                  refine tx_then_ret ?_
                  refine tx_ret (res1 Tryd.results5 (rok_t rfl)) (fun w' hS => ?_)
                  exact ⟨ret_bool (by rw [hr0.1, hT2]; rfl), hS.pick [] _ rfl (by decide)⟩
              · exact absurd (by rw [hT2]) hq8
          · exact absurd (by decide) hq6

set_option maxRecDepth 100000 in
set_option maxHeartbeats 4000000 in
theorem toptext_ok {w : World} (hw : Gw w) {s : Sc} (A : Option Addr) (n m : Nat) (hr : Rd w A ((opsI s.ops).flatMap c2i)) (hn : (opsI s.ops).length = n) (hm : n ≤ 1048576) (hx : (prR [(s.num : Int), (s.den : Int), (s.burst : Int)] (opsI s.ops)).2 = 0) (hpp : parse (prR [(s.num : Int), (s.den : Int), (s.burst : Int)] (opsI s.ops)).1 = (0, some s)) (hk : okb s.num s.den s.burst = true) :
    Calls Tryd.prog 5 #[.agg #[(.int .i64 ((s.num : Int))), (.int .i64 ((s.den : Int))), (.int .i64 ((s.burst : Int))), .slice A n m]] w fun e w' => e = .returned (.bool true) ∧ St w w' [] := by
  have hT := pr_TOk hpp (by rw [← opsI_len]; omega)
  have hnl : s.ops.length = n := by rw [← opsI_len]; exact hn
  have hr2 : Rd w A (s.ops.flatMap c2) := by rw [ops_I]; exact hr
  refine calls_tr Tryd.func5 Tryd.ntmps5 rfl rfl (St.refl _) ?_
  refine tr_seq ?_
  refine tr_region ?_
  refine tl_step rfl (oj_box (fe_t rfl) (fun b1 => ?_))
  refine tl_step rfl (oj_val (y_assign fe_c) ?_)
  refine tl_nil ?_
  refine tx_then ?_
  refine tr_seq ?_
  refine tr_seq ?_
  refine tr_region ?_
  refine tl_step rfl (oj_callv Tryd.call17 fe_f fel_nil (fun w' hS => aliveE (hw.st hS)) ?_)
  refine tl_step rfl (oj_val (y_not (fe_t rfl)) ?_)
  refine tl_nil ?_
  refine tx_then ?_
  refine tr_condf (fe_t rfl) ?_
  refine tr_skip ?_
  refine tx_then ?_
  refine tr_seq ?_
  refine tr_region ?_
  refine tl_step rfl (oj_val (y_ldbA 0 Tryd.isAgg24 Tryd.sizeOf24 (fe_t rfl) rfl rfl rfl) ?_)
  refine tl_step rfl (oj_callv Tryd.call9 fe_f (fel_cons (fe_t rfl) fel_nil) (fun w' hS => printE (hw.st hS) s.num s.den s.burst (opsI s.ops) A n m (Rd.below hr hS.below) hn (by omega)) ?_)
  refine tl_step rfl (oj_val (y_move (fe_t rfl)) ?_)
  refine tl_step rfl (oj_val (y_extract (fe_t rfl) rfl) ?_)
  refine tl_step rfl (oj_val (y_extract (fe_t rfl) rfl) ?_)
  refine tl_step rfl (oj_val (y_assign (fe_t rfl)) ?_)
  refine tl_step rfl (oj_val (y_assign (fe_t rfl)) ?_)
  refine tl_nil ?_
  refine tx_then ?_
  refine tr_seq ?_
  refine tr_seq ?_
  refine tr_region ?_
  refine tl_step rfl (oj_val (y_move (fe_t rfl)) ?_)
  refine tl_step rfl (oj_val (y_neq (fe_t rfl) fe_c) ?_)
  refine tl_nil ?_
  refine tx_then ?_
  refine tr_condp (fe_t rfl) (fun hq1 => ?_) (fun hq2 => ?_)
  · exact absurd hx hq1
  · try (exfalso; omega)
    all_goals
      refine tr_skip ?_
      refine tx_then ?_
      refine tr_seq ?_
      refine tr_region ?_
      refine tl_step rfl (oj_val (y_move (fe_t rfl)) ?_)
      refine tl_step rfl (oj_call Tryd.call14 fe_f (fel_cons (fe_t rfl) fel_nil) (fun w' hS => tellE (hw.st hS) (prR [(s.num : Int), (s.den : Int), (s.burst : Int)] (opsI s.ops)).1 hT) (fun r0 hr0 => ?_))
      refine tl_step rfl (oj_val (y_move (fe_t rfl)) ?_)
      refine tl_step rfl (oj_val (y_extract (fe_t rfl) rfl) ?_)
      refine tl_step rfl (oj_val (y_extract (fe_t rfl) rfl) ?_)
      refine tl_step rfl (oj_val (y_assign (fe_t rfl)) ?_)
      refine tl_step rfl (oj_val (y_assign (fe_t rfl)) ?_)
      refine tl_nil ?_
      refine tx_then ?_
      refine tr_seq ?_
      refine tr_region ?_
      refine tl_step rfl (oj_val (y_fieldAddr (td := 3) Tryd.underlying24 rfl rfl Tryd.sizeOf3 (o' := 0) rfl (fe_t rfl)) ?_)
      refine tl_step rfl (oj_val (y_ldb 1 Tryd.isAgg3 (fe_t rfl) rfl rfl) ?_)
      refine tl_step rfl (oj_val (y_fieldAddr (td := 3) Tryd.underlying24 rfl rfl Tryd.sizeOf3 (o' := 1) rfl (fe_t rfl)) ?_)
      refine tl_step rfl (oj_val (y_ldb 1 Tryd.isAgg3 (fe_t rfl) rfl rfl) ?_)
      refine tl_step rfl (oj_val (y_fieldAddr (td := 3) Tryd.underlying24 rfl rfl Tryd.sizeOf3 (o' := 2) rfl (fe_t rfl)) ?_)
      refine tl_step rfl (oj_val (y_ldb 1 Tryd.isAgg3 (fe_t rfl) rfl rfl) ?_)
      refine tl_step rfl (oj_val (y_fieldAddr (td := 22) Tryd.underlying24 rfl rfl Tryd.sizeOf22 (o' := 3) rfl (fe_t rfl)) ?_)
      refine tl_step rfl (oj_val (y_ldb 1 Tryd.isAgg22 (fe_t rfl) rfl rfl) ?_)
      refine tl_step rfl (oj_call Tryd.call18 fe_f (fel_cons (fe_t rfl) (fel_cons (fe_t rfl) (fel_cons (fe_t rfl) (fel_cons (fe_t rfl) fel_nil)))) (fun w' hS => playE s A n m w' (Rd.below hr2 hS.below) (by rw [← opsI_len]; exact hn) (by omega) hk) (fun q0 hq => ?_))
      refine tl_step rfl (oj_val (y_move (fe_t rfl)) ?_)
      refine tl_step rfl (oj_val (y_extract (fe_t rfl) rfl) ?_)
      refine tl_step rfl (oj_val (y_extract (fe_t rfl) rfl) ?_)
      refine tl_step rfl (oj_val (y_extract (fe_t rfl) rfl) ?_)
      refine tl_step rfl (oj_alloc Tryd.zeroValue45 (fun b2 => ?_))
      refine tl_step rfl (oj_val (y_assign (fe_t rfl)) ?_)
      refine tl_step rfl (oj_storeW 0 Tryd.sizeOf45 (fe_t rfl) (fe_t rfl) rfl rfl rfl rfl rfl (?_))
      refine tl_step rfl (oj_val (y_assign (fe_t rfl)) ?_)
      refine tl_nil ?_
      refine tx_then ?_
      refine tr_seq ?_
      refine tr_seq ?_
      obtain ⟨hT2, hTk, hTl⟩ := tell_at hpp hk hq
      have hT3 : (tell (prR [(s.num : Int), (s.den : Int), (s.burst : Int)] (opsI s.ops)).1).2 = 0 := by rw [tell_ok hpp hk hq]
      have hq_2 := hq.2.1
      have hq_4 := hq.2.2.2.1
      have hq_5 := hq.2.2.2.2.1
      have hq_6 := hq.2.2.2.2.2
      have hr1 := hr0.1
      have hzl := (hq.good hk).parts.1
      refine tr_region ?_
      refine tl_step rfl (oj_val (y_move (fe_t rfl)) ?_)
      refine tl_step rfl (oj_val (y_move (fe_t rfl)) ?_)
      refine tl_step rfl (oj_val (y_neq (fe_t rfl) (fe_t rfl)) ?_)
      refine tl_step rfl (oj_val (y_move (fe_t rfl)) ?_)
      refine tl_splitp (d := 44) rfl (fun hq3 => ?_) (fun hq4 => ?_)
      · exact absurd hT3 hq3
      · try (exfalso; omega)
        all_goals
          refine tl_want rfl rfl rfl (oj_val (y_move (fe_t rfl)) ?_)
          refine tl_want rfl rfl rfl (oj_val (y_neq (fe_t rfl) fe_c) ?_)
          refine tl_step rfl (oj_val (y_pickf (fe_t rfl) (fe_t rfl)) ?_)
          refine tl_nil ?_
          refine tx_then ?_
          refine tr_condp (fe_t rfl) (fun hq5 => ?_) (fun hq6 => ?_)
          · exact absurd (by decide) hq5
          · try (exfalso; omega)
            all_goals
              refine tr_skip ?_
              refine tx_then ?_
              refine tr_seq ?_
              refine tr_seq ?_
              refine tr_region ?_
              refine tl_step rfl (oj_val (y_move (fe_t rfl)) ?_)
              refine tl_step rfl (oj_val (y_len Tryd.underlying32 (fe_t rfl)) ?_)
              refine tl_step rfl (oj_val (y_move (fe_t rfl)) ?_)
              refine tl_step rfl (oj_val (y_len Tryd.underlying38 (fe_t rfl)) ?_)
              refine tl_step rfl (oj_val (y_inc (fe_t rfl) fe_c (by omega)) ?_)
              refine tl_step rfl (oj_val (y_neq (fe_t rfl) (fe_t rfl)) ?_)
              refine tl_step rfl (oj_val (y_move (fe_t rfl)) ?_)
              refine tl_splitp (d := 62) rfl (fun hq7 => ?_) (fun hq8 => ?_)
              · try (exfalso; omega)
                all_goals
                  refine tl_skip rfl rfl rfl rfl ?_
                  refine tl_skip rfl rfl rfl rfl ?_
                  refine tl_skip rfl rfl rfl rfl ?_
                  refine tl_skip rfl rfl rfl rfl ?_
                  refine tl_skip rfl rfl rfl rfl ?_
                  refine tl_skip rfl rfl rfl rfl ?_
                  refine tl_step rfl (oj_val (y_pickt (fe_t rfl) fe_c) ?_)
                  refine tl_nil ?_
                  refine tx_then ?_
                  refine tr_condt (fe_t rfl) ?_
                  refine tr_seq ?_
                  refine tr_region ?_
                  refine tl_step rfl (oj_val (y_assign fe_c) ?_)
                  refine tl_nil ?_
                  refine tx_then ?_
                  refine tr_ret ?_
                  refine tx_then_ret ?_
                  refine tx_ret (res1 Tryd.results5 (rok_t rfl)) (fun w' hS => ?_)
                  exact ⟨ret_bool (by rw [hq_4, hq_6, hTl, hq_2]; exact pre_left), hS.pick [] _ rfl (by decide)⟩
              · try (exfalso; omega)
                all_goals
                  refine tl_want rfl rfl rfl (oj_val (y_move (fe_t rfl)) ?_)
                  refine tl_want rfl rfl rfl (oj_val (y_len Tryd.underlying38 (fe_t rfl)) ?_)
                  refine tl_want rfl rfl rfl (oj_val (y_fieldAddr (td := 22) Tryd.underlying24 rfl rfl Tryd.sizeOf22 (o' := 3) rfl (fe_t rfl)) ?_)
                  refine tl_want rfl rfl rfl (oj_val (y_ldb 5 Tryd.isAgg22 (fe_t rfl) rfl rfl) ?_)
                  refine tl_want rfl rfl rfl (oj_val (y_len Tryd.underlying22 (fe_t rfl)) ?_)
                  refine tl_want rfl rfl rfl (oj_val (y_neq (fe_t rfl) (fe_t rfl)) ?_)
                  refine tl_step rfl (oj_val (y_pickf (fe_t rfl) (fe_t rfl)) ?_)
                  refine tl_nil ?_
                  refine tx_then ?_
                  refine tr_condp (fe_t rfl) (fun hq9 => ?_) (fun hq10 => ?_)
                  · try (exfalso; omega)
                    all_goals
                      refine tr_seq ?_
                      refine tr_region ?_
                      refine tl_step rfl (oj_val (y_assign fe_c) ?_)
                      refine tl_nil ?_
                      refine tx_then ?_
                      refine tr_ret ?_
                      refine tx_then_ret ?_
                      refine tx_ret (res1 Tryd.results5 (rok_t rfl)) (fun w' hS => ?_)
                      exact ⟨ret_bool (by rw [hq_4, hq_6, hTl, hq_2]; exact pre_left), hS.pick [] _ rfl (by decide)⟩
                  · try (exfalso; omega)
                    all_goals
                      refine tr_skip ?_
                      refine tx_then ?_
                      refine tr_seq ?_
                      refine tr_seq ?_
                      refine tr_region ?_
                      refine tl_step rfl (oj_val (y_move (fe_t rfl)) ?_)
                      refine tl_step rfl (oj_val (y_len Tryd.underlying38 (fe_t rfl)) ?_)
                      refine tl_step rfl (oj_val (y_move fe_c) ?_)
                      refine tl_nil ?_
                      refine tx_then ?_
                      refine tr_block ?_
                      refine tr_loop1 [2, 10, 11, 72, 73, 74, 75, 76, 77, 78, 79, 80, 81, 82, 83, 84, 85, 86, 87, 88, 89, 90, 91, 92, 93, 94, 95, 96, 97, 98, 99, 100, 101, 102, 103, 104, 105, 106] (fun (k : Nat) => [(72, .int .i64 (k : Int))]) 0 (fun (k : Nat) => []) (fun (k : Nat) => k ≤ s.ops.length) (fun (k : Nat) => s.ops.length - k) (0) (cov_cons (by first | rfl | exact v_int (by omega) | exact v_bool (by simp [*])) (cov_nil)) (fun w h => h) ?_ ?_
                      · try dsimp only
                        omega
                      intro k hp
                      have hk1 := hp
                      refine tr_seq ?_
                      refine tr_region ?_
                      refine tl_step rfl (oj_val (y_lss (fe_t rfl) (fe_t rfl)) ?_)
                      refine tl_nil ?_
                      refine tx_then ?_
                      refine tr_seq ?_
                      refine tr_condp (fe_t rfl) (fun hq11 => ?_) (fun hq12 => ?_)
                      · try (exfalso; omega)
                        all_goals
                          refine tr_skip ?_
                          refine tx_then ?_
                          refine tr_seq ?_
                          refine tr_block ?_
                          refine tr_seq ?_
                          refine tr_region ?_
                          refine tl_step rfl (oj_val (y_move (fe_t rfl)) ?_)
                          refine tl_step rfl (oj_val (y_index Tryd.underlying38 Tryd.sizeOf49 (fe_t rfl) (fe_t rfl) (rdl_vec 2 rfl) (by rw [hq_5, cP_len, hq_4]) (by decide) (by omega) rfl) ?_)
                          refine tl_step rfl (oj_val (y_ldA Tryd.isAgg49 Tryd.sizeOf49 (fe_t rfl) (rdl_vec 2 rfl) rfl (by decide) (by rw [hq_5]; exact flatGA (d := PA.nil) hcP (by omega))) ?_)
                          refine tl_step rfl (oj_alloc Tryd.zeroValue49 (fun b3 => ?_))
                          refine tl_step rfl (oj_val (y_assign (fe_t rfl)) ?_)
                          refine tl_step rfl (oj_storeW 0 Tryd.sizeOf49 (fe_t rfl) (fe_t rfl) rfl rfl rfl rfl rfl (?_))
                          refine tl_nil ?_
                          refine tx_then ?_
                          refine tr_seq ?_
                          have hTa := hTk k (by omega)
                          refine tb_draw 29 (sel _ [0, 1, 2, 3, 4, 5, 6]) (fun w h => h.sel _ rfl (by decide)) rfl ?_
                          refine tb_float (i := 0) rfl (by kernel_rfl) rfl (wants_none rfl) (yq_of (y_move (fe_t rfl))) ?_
                          refine tb_float (i := 1) rfl (by kernel_rfl) rfl (wants_none rfl) (yq_of (y_move (fe_t rfl))) ?_
                          refine tb_float (i := 2) rfl (by kernel_rfl) rfl (wants_none rfl) (yq_of (y_index Tryd.underlying32 Tryd.sizeOf9 (fe_t rfl) (fe_t rfl) (rdl_vec 5 rfl) (by rw [hr0.2, List.length_map, hr0.1, Nat.mul_one]) (by decide) (by omega) (Nat.mul_one _))) ?_
                          refine tb_float (i := 3) rfl (by kernel_rfl) rfl (wants_none rfl) (yq_of (y_ld Tryd.isAgg9 (fe_t rfl) (rdl_vec 5 rfl) (by rw [hr0.2]; exact getS (ws := (tell (prR [(s.num : Int), (s.den : Int), (s.burst : Int)] (opsI s.ops)).1).1) (by omega)))) ?_
                          refine tb_float (i := 4) rfl (by kernel_rfl) rfl (wants_none rfl) (yq_call Tryd.call19 fe_f (fel_cons (fe_t rfl) (fel_cons fe_c fel_nil)) (fun w' hS => prefixE _ _)) ?_
                          refine tb_float (i := 5) rfl (by kernel_rfl) rfl (wants_none rfl) (yq_of (y_fieldAddr (td := 25) Tryd.underlying49 rfl rfl Tryd.sizeOf25 (o' := 0) rfl (fe_t rfl))) ?_
                          refine tb_float (i := 6) rfl (by kernel_rfl) rfl (wants_none rfl) (yq_of (y_ldb 0 Tryd.isAgg25 (fe_t rfl) rfl rfl)) ?_
                          refine tb_float (i := 7) rfl (by kernel_rfl) rfl (wants_none rfl) (yq_of (y_neq (fe_t rfl) fe_c)) ?_
                          refine tb_float (i := 8) rfl (by kernel_rfl) rfl (wants_none rfl) (yq_of (y_neqb Tryd.underlying4 (fe_t rfl) (fe_t rfl))) ?_
                          refine tb_float (i := 9) rfl (by kernel_rfl) rfl (wants_none rfl) (yq_of (y_move (fe_t rfl))) ?_
                          refine tb_split (d := 86) rfl (fun hq13 => ?_) (fun hq14 => ?_)
                          · exact absurd hq13 (by rw [hTa]; erw [pre_err]; simp [PA.a])
                          · try (exfalso; omega)
                            all_goals
                              refine tb_float (i := 10) rfl (by kernel_rfl) rfl (wants_t rfl rfl rfl) (yq_of (y_move (fe_t rfl))) ?_
                              refine tb_float (i := 11) rfl (by kernel_rfl) rfl (wants_t rfl rfl rfl) (yq_of (y_move (fe_t rfl))) ?_
                              refine tb_float (i := 12) rfl (by kernel_rfl) rfl (wants_t rfl rfl rfl) (yq_of (y_index Tryd.underlying32 Tryd.sizeOf9 (fe_t rfl) (fe_t rfl) (rdl_vec 5 rfl) (by rw [hr0.2, List.length_map, hr0.1, Nat.mul_one]) (by decide) (by omega) (Nat.mul_one _))) ?_
                              refine tb_float (i := 13) rfl (by kernel_rfl) rfl (wants_t rfl rfl rfl) (yq_of (y_ld Tryd.isAgg9 (fe_t rfl) (rdl_vec 5 rfl) (by rw [hr0.2]; exact getS (ws := (tell (prR [(s.num : Int), (s.den : Int), (s.burst : Int)] (opsI s.ops)).1).1) (by omega)))) ?_
                              refine tb_float (i := 14) rfl (by kernel_rfl) rfl (wants_t rfl rfl rfl) (yq_call Tryd.call19 fe_f (fel_cons (fe_t rfl) (fel_cons fe_c fel_nil)) (fun w' hS => prefixE _ _)) ?_
                              refine tb_float (i := 15) rfl (by kernel_rfl) rfl (wants_t rfl rfl rfl) (yq_of (y_fieldAddr (td := 25) Tryd.underlying49 rfl rfl Tryd.sizeOf25 (o' := 0) rfl (fe_t rfl))) ?_
                              refine tb_float (i := 16) rfl (by kernel_rfl) rfl (wants_t rfl rfl rfl) (yq_of (y_ldb 0 Tryd.isAgg25 (fe_t rfl) rfl rfl)) ?_
                              refine tb_float (i := 17) rfl (by kernel_rfl) rfl (wants_t rfl rfl rfl) (yq_of (y_eq (fe_t rfl) fe_c)) ?_
                              refine tb_float (i := 18) rfl (by kernel_rfl) rfl (wants_t rfl rfl rfl) (yq_of (y_move (fe_t rfl))) ?_
                              refine tb_splitp (d := 95) rfl (fun hq15 => ?_) (fun hq16 => ?_)
                              · try (exfalso; omega)
                                all_goals
                                  refine tb_float (i := 19) rfl (by kernel_rfl) rfl (wants_t rfl rfl rfl) (yq_of (y_fieldAddr (td := 22) Tryd.underlying24 rfl rfl Tryd.sizeOf22 (o' := 3) rfl (fe_t rfl))) ?_
                                  refine tb_float (i := 20) rfl (by kernel_rfl) rfl (wants_t rfl rfl rfl) (yq_of (y_ldb 6 Tryd.isAgg22 (fe_t rfl) rfl rfl)) ?_
                                  refine tb_float (i := 21) rfl (by kernel_rfl) rfl (wants_t rfl rfl rfl) (yq_of (y_move (fe_t rfl))) ?_
                                  refine tb_float (i := 22) rfl (by kernel_rfl) rfl (wants_t rfl rfl rfl) (yq_of (y_index Tryd.underlying22 Tryd.sizeOf52 (fe_t rfl) (fe_t rfl) (rdl_out hr) (by rw [flat2_len, opsI_len]; omega) (by decide) (by omega) rfl)) ?_
                                  refine tb_float (i := 23) rfl (by kernel_rfl) rfl (wants_t rfl rfl rfl) (yq_of (y_fieldAddrE (td := 3) Tryd.underlying52 rfl rfl Tryd.sizeOf3 rfl (fe_t rfl) (rdl_out hr) (by rw [flat2_len, opsI_len]; omega))) ?_
                                  refine tb_float (i := 24) rfl (by kernel_rfl) rfl (wants_t rfl rfl rfl) (yq_of (y_ld Tryd.isAgg3 (fe_t rfl) (rdl_out hr) (getKI (by omega)))) ?_
                                  refine tb_float (i := 25) rfl (by kernel_rfl) rfl (wants_t rfl rfl rfl) (yq_of (y_eq (fe_t rfl) fe_c)) ?_
                                  refine tb_float (i := 26) rfl (by kernel_rfl) rfl (wants_t rfl rfl rfl) (yq_of (y_pickt (fe_t rfl) (fe_t rfl))) ?_
                                  refine tb_float (i := 27) rfl (by kernel_rfl) rfl (wants_t rfl rfl rfl) (yq_of (y_neqb Tryd.underlying4 (fe_t rfl) (fe_t rfl))) ?_
                                  refine tb_float (i := 28) rfl (by kernel_rfl) rfl (wants_none rfl) (yq_of (y_pickf (fe_t rfl) (fe_t rfl))) ?_
                                  refine tb_done (by kernel_rfl) ?_
                                  refine tx_then ?_
                                  refine tr_cond (fe_t rfl) (fun hq17 => ?_) (fun hq18 => ?_)
                                  · exact absurd hq17 (by rw [hTa]; erw [pre_sent]; simp_all [PA.a])
                                  · try (exfalso; omega)
                                    all_goals
                                      refine tr_skip ?_
                                      refine tx_in ?_
                                      refine tx_then ?_
                                      refine tr_region ?_
                                      refine tl_step rfl (oj_val (y_inc (fe_t rfl) fe_c (by omega)) ?_)
                                      refine tl_step rfl (oj_val (y_move (fe_t rfl)) ?_)
                                      refine tl_nil ?_
                                      apply tx_back1 (k + 1)
                                      · exact (cov_cons (by first | rfl | exact v_int (by omega) | exact v_bool (by simp [*])) (cov_nil))
                                      · repeat (first | exact over_nil | refine over_put rfl ?_ | refine over_drop rfl ?_)
                                      · exact fun w h => h.pick [1, 2, 3, 4, 5, 6] _ rfl (by decide)
                                      · exact ⟨by omega, by omega⟩
                              · try (exfalso; omega)
                                all_goals
                                  refine tb_skip (i := 19) rfl (by kernel_rfl) rfl (wants_f rfl rfl rfl rfl) ?_
                                  refine tb_skip (i := 20) rfl (by kernel_rfl) rfl (wants_f rfl rfl rfl rfl) ?_
                                  refine tb_skip (i := 21) rfl (by kernel_rfl) rfl (wants_f rfl rfl rfl rfl) ?_
                                  refine tb_skip (i := 22) rfl (by kernel_rfl) rfl (wants_f rfl rfl rfl rfl) ?_
                                  refine tb_skip (i := 23) rfl (by kernel_rfl) rfl (wants_f rfl rfl rfl rfl) ?_
                                  refine tb_skip (i := 24) rfl (by kernel_rfl) rfl (wants_f rfl rfl rfl rfl) ?_
                                  refine tb_skip (i := 25) rfl (by kernel_rfl) rfl (wants_f rfl rfl rfl rfl) ?_
                                  refine tb_float (i := 26) rfl (by kernel_rfl) rfl (wants_t rfl rfl rfl) (yq_of (y_pickf (fe_t rfl) fe_c)) ?_
                                  refine tb_float (i := 27) rfl (by kernel_rfl) rfl (wants_t rfl rfl rfl) (yq_of (y_neqb Tryd.underlying4 (fe_t rfl) (fe_t rfl))) ?_
                                  refine tb_float (i := 28) rfl (by kernel_rfl) rfl (wants_none rfl) (yq_of (y_pickf (fe_t rfl) (fe_t rfl))) ?_
                                  refine tb_done (by kernel_rfl) ?_
                                  refine tx_then ?_
                                  refine tr_cond (fe_t rfl) (fun hq19 => ?_) (fun hq20 => ?_)
                                  · exact absurd hq19 (by rw [hTa]; erw [pre_sent]; simp_all [PA.a])
                                  · try (exfalso; omega)
                                    all_goals
                                      refine tr_skip ?_
                                      refine tx_in ?_
                                      refine tx_then ?_
                                      refine tr_region ?_
                                      refine tl_step rfl (oj_val (y_inc (fe_t rfl) fe_c (by omega)) ?_)
                                      refine tl_step rfl (oj_val (y_move (fe_t rfl)) ?_)
                                      refine tl_nil ?_
                                      apply tx_back1 (k + 1)
                                      · exact (cov_cons (by first | rfl | exact v_int (by omega) | exact v_bool (by simp [*])) (cov_nil))
                                      · repeat (first | exact over_nil | refine over_put rfl ?_ | refine over_drop rfl ?_)
                                      · exact fun w h => h.pick [1, 2, 3, 4, 5, 6] _ rfl (by decide)
                                      · exact ⟨by omega, by omega⟩
                      · try (exfalso; omega)
                        all_goals
                          refine tr_exit ?_
                          refine tx_then_exit ?_
                          refine tx_then_exit ?_
                          refine tx_in_exit ?_
                          refine tx_then ?_
                          refine tr_seq ?_
                          refine tb_draw 14 (sel _ [0, 1, 2, 3, 4, 5]) (fun w h => h.sel _ rfl (by decide)) rfl ?_
                          refine tb_float (i := 0) rfl (by kernel_rfl) rfl (wants_none rfl) (yq_of (y_move (fe_t rfl))) ?_
                          refine tb_float (i := 1) rfl (by kernel_rfl) rfl (wants_none rfl) (yq_of (y_move (fe_t rfl))) ?_
                          refine tb_float (i := 2) rfl (by kernel_rfl) rfl (wants_none rfl) (yq_of (y_len Tryd.underlying38 (fe_t rfl))) ?_
                          refine tb_float (i := 3) rfl (by kernel_rfl) rfl (wants_none rfl) (yq_of (y_index Tryd.underlying32 Tryd.sizeOf9 (fe_t rfl) (fe_t rfl) (rdl_vec 4 rfl) (by rw [hr0.2, List.length_map, hr0.1, Nat.mul_one]) (by decide) (by omega) (Nat.mul_one _))) ?_
                          refine tb_float (i := 4) rfl (by kernel_rfl) rfl (wants_none rfl) (yq_of (y_ld Tryd.isAgg9 (fe_t rfl) (rdl_vec 4 rfl) (by rw [hr0.2]; exact getS (ws := (tell (prR [(s.num : Int), (s.den : Int), (s.burst : Int)] (opsI s.ops)).1).1) (by omega)))) ?_
                          refine tb_float (i := 5) rfl (by kernel_rfl) rfl (wants_none rfl) (yq_of (y_fieldAddr (td := 41) Tryd.underlying45 rfl rfl Tryd.sizeOf41 (o' := 0) rfl (fe_t rfl))) ?_
                          refine tb_float (i := 6) rfl (by kernel_rfl) rfl (wants_none rfl) (yq_of (y_fieldAddr (td := 39) Tryd.underlying41 rfl rfl Tryd.sizeOf39 (o' := 0) rfl (fe_t rfl))) ?_
                          refine tb_float (i := 7) rfl (by kernel_rfl) rfl (wants_none rfl) (yq_of (y_ldb 0 Tryd.isAgg39 (fe_t rfl) rfl rfl)) ?_
                          refine tb_float (i := 8) rfl (by kernel_rfl) rfl (wants_none rfl) (yq_of (y_len Tryd.underlying39 (fe_t rfl))) ?_
                          refine tb_float (i := 9) rfl (by kernel_rfl) rfl (wants_none rfl) (yq_call Tryd.call20 fe_f (fel_cons (fe_t rfl) fel_nil) (fun w' hS => itoaE (hw.st hS) _ (by omega) (by omega))) ?_
                          refine tb_float (i := 10) rfl (by kernel_rfl) rfl (wants_none rfl) (yq_of (y_cat fe_c (fe_t rfl) (by have := itoa_le (n := (q0.2.2.1.n : Int)) (by omega) (by omega); simp; omega))) ?_
                          refine tb_float (i := 11) rfl (by kernel_rfl) rfl (wants_none rfl) (yq_of (y_cat (fe_t rfl) fe_c (by have := itoa_le (n := (q0.2.2.1.n : Int)) (by omega) (by omega); simp; omega))) ?_
                          refine tb_float (i := 12) rfl (by kernel_rfl) rfl (wants_none rfl) (yq_call Tryd.call19 fe_f (fel_cons (fe_t rfl) (fel_cons (fe_t rfl) fel_nil)) (fun w' hS => prefixE _ _)) ?_
                          refine tb_float (i := 13) rfl (by kernel_rfl) rfl (wants_none rfl) (yq_of (y_assign (fe_t rfl))) ?_
                          refine tb_done (by kernel_rfl) ?_
                          refine tx_then ?_
                          refine tr_ret ?_
                          refine tx_ret (res1 Tryd.results5 (rok_t rfl)) (fun w' hS => ?_)
                          exact ⟨ret_bool (by rw [hq_4, hq_6, hTl, hq_2]; exact pre_left), hS.pick [] _ rfl (by decide)⟩

theorem text_walk {w : World} (hw : Gw w) (a b c : Int) (ops : List (Int × Int)) (A : Option Addr) (n m : Nat) (hr : Rd w A (ops.flatMap c2i)) (hn : ops.length = n) (hm : n ≤ 1048576) :
    Calls Tryd.prog 5 #[.agg #[(.int .i64 a), (.int .i64 b), (.int .i64 c), .slice A n m]] w fun e w' => e = .returned (.bool true) ∧ St w w' [] := by
  by_cases hx : (prR [a, b, c] ops).2 = 0
  · obtain ⟨s, ⟨rfl, rfl, rfl, rfl⟩, hp⟩ := pr_parse hx
    cases hk : okb s.num s.den s.burst with
    | true => exact toptext_ok hw A n m hr hn hm hx hp hk
    | false => exact toptext_no hw A n m hr hn hm hx hp hk
  · exact toptext_err hw a b c ops A n m hr hn (by omega) hx

end Go.Proofs.YtfcpmcdlgkfolaaDoor.Bn
