/- Walks: two scripts are one; the law. -/
import Derived.Test.YtfcpmcdlgkfolaaDoorBnV
namespace Go.Proofs.YtfcpmcdlgkfolaaDoor.Bn
open Go.RowKit Go.Lib Go.Proofs.YtfcpmcdlgkfolaaDoor.E

set_option maxRecDepth 100000 in
set_option maxHeartbeats 2000000 in
theorem sameE {s s2 : Sc} {A B : Option Addr} {n n2 c d : Nat} (w : World) (he : s = s2) (hA : Rd w A (s.ops.flatMap c2)) (hB : Rd w B (s2.ops.flatMap c2)) (hn : n = s.ops.length) (hn2 : n2 = s2.ops.length) (hm : n ≤ 1000000000) :
    Calls Tryd.prog 13 #[.agg (cSc s (.slice A n c)).toArray, .agg (cSc s2 (.slice B n2 d)).toArray] w fun e w' => e = .returned (.bool true) ∧ St w w' [] := by
  subst he
  obtain rfl : n = n2 := by omega
  refine calls_tr Tryd.func13 Tryd.ntmps13 rfl rfl (St.refl _) ?_
  refine tr_seq ?_
  refine tr_region ?_
  refine tl_step rfl (oj_box (fe_t rfl) (fun b1 => ?_))
  refine tl_step rfl (oj_box (fe_t rfl) (fun b2 => ?_))
  refine tl_step rfl (oj_val (y_assign fe_c) ?_)
  refine tl_nil ?_
  refine tx_then ?_
  refine tr_seq ?_
  refine tr_seq ?_
  refine tr_region ?_
  refine tl_step rfl (oj_val (y_fieldAddr (td := 22) Tryd.underlying24 rfl rfl Tryd.sizeOf22 (o' := 3) rfl (fe_t rfl)) ?_)
  refine tl_step rfl (oj_val (y_ldb 1 Tryd.isAgg22 (fe_t rfl) rfl rfl) ?_)
  refine tl_step rfl (oj_val (y_len Tryd.underlying22 (fe_t rfl)) ?_)
  refine tl_step rfl (oj_val (y_fieldAddr (td := 22) Tryd.underlying24 rfl rfl Tryd.sizeOf22 (o' := 3) rfl (fe_t rfl)) ?_)
  refine tl_step rfl (oj_val (y_ldb 0 Tryd.isAgg22 (fe_t rfl) rfl rfl) ?_)
  refine tl_step rfl (oj_val (y_len Tryd.underlying22 (fe_t rfl)) ?_)
  refine tl_step rfl (oj_val (y_neq (fe_t rfl) (fe_t rfl)) ?_)
  refine tl_nil ?_
  refine tx_then ?_
  refine tr_condp (fe_t rfl) (fun hq1 => ?_) (fun hq2 => ?_)
  · try (exfalso; omega)
    all_goals
      refine tr_seq ?_
      refine tr_region ?_
      refine tl_step rfl (oj_val (y_assign fe_c) ?_)
      refine tl_nil ?_
      refine tx_then ?_
      refine tr_ret ?_
      refine tx_then_ret ?_
      refine tx_ret (res1 Tryd.results13 (rok_t rfl)) (fun w' hS => ?_)
      exact ⟨ret_bool (by simp), hS.pick [] _ rfl (by decide)⟩
  · try (exfalso; omega)
    all_goals
      refine tr_skip ?_
      refine tx_then ?_
      refine tr_seq ?_
      refine tr_seq ?_
      refine tr_region ?_
      refine tl_step rfl (oj_val (y_fieldAddr (td := 22) Tryd.underlying24 rfl rfl Tryd.sizeOf22 (o' := 3) rfl (fe_t rfl)) ?_)
      refine tl_step rfl (oj_val (y_ldb 1 Tryd.isAgg22 (fe_t rfl) rfl rfl) ?_)
      refine tl_step rfl (oj_val (y_len Tryd.underlying22 (fe_t rfl)) ?_)
      refine tl_step rfl (oj_val (y_move fe_c) ?_)
      refine tl_nil ?_
      refine tx_then ?_
      refine tr_block ?_
      refine tr_loop1 [4, 5, 16, 17, 18, 19, 20, 21, 22, 23, 24, 25, 26, 27, 28, 29, 30] (fun (i : Nat) => [(16, .int .i64 (i : Int))]) 0 (fun (i : Nat) => []) (fun (i : Nat) => i ≤ n) (fun (i : Nat) => n - i) (0) (cov_cons (by first | rfl | exact v_int (by omega) | exact v_bool (by simp [*])) (cov_nil)) (fun w h => h) ?_ ?_
      · try dsimp only
        omega
      intro i hp
      have hi := hp
      refine tr_seq ?_
      refine tr_region ?_
      refine tl_step rfl (oj_val (y_lss (fe_t rfl) (fe_t rfl)) ?_)
      refine tl_nil ?_
      refine tx_then ?_
      refine tr_seq ?_
      refine tr_condp (fe_t rfl) (fun hq3 => ?_) (fun hq4 => ?_)
      · try (exfalso; omega)
        all_goals
          refine tr_skip ?_
          refine tx_then ?_
          refine tr_seq ?_
          refine tr_block ?_
          refine tr_seq ?_
          refine tr_region ?_
          refine tl_step rfl (oj_val (y_move (fe_t rfl)) ?_)
          refine tl_step rfl (oj_val (y_assign (fe_t rfl)) ?_)
          refine tl_nil ?_
          refine tx_then ?_
          refine tr_seq ?_
          refine tb_draw 11 (sel _ [0, 1]) (fun w h => h.sel _ rfl (by decide)) rfl ?_
          refine tb_float (i := 0) rfl (by kernel_rfl) rfl (wants_none rfl) (yq_of (y_fieldAddr (td := 22) Tryd.underlying24 rfl rfl Tryd.sizeOf22 (o' := 3) rfl (fe_t rfl))) ?_
          refine tb_float (i := 1) rfl (by kernel_rfl) rfl (wants_none rfl) (yq_of (y_ldb 1 Tryd.isAgg22 (fe_t rfl) rfl rfl)) ?_
          refine tb_float (i := 2) rfl (by kernel_rfl) rfl (wants_none rfl) (yq_of (y_move (fe_t rfl))) ?_
          refine tb_float (i := 3) rfl (by kernel_rfl) rfl (wants_none rfl) (yq_of (y_index Tryd.underlying22 Tryd.sizeOf52 (fe_t rfl) (fe_t rfl) (rdl_out hA) (by rw [c2_len]; omega) (by decide) (by omega) rfl)) ?_
          refine tb_float (i := 4) rfl (by kernel_rfl) rfl (wants_none rfl) (yq_of (y_ldA Tryd.isAgg52 Tryd.sizeOf52 (fe_t rfl) (rdl_out hA) rfl (by decide) (getF (c := c2) (l := s.ops) (fun _ => rfl) (by omega)))) ?_
          refine tb_float (i := 5) rfl (by kernel_rfl) rfl (wants_none rfl) (yq_of (y_fieldAddr (td := 22) Tryd.underlying24 rfl rfl Tryd.sizeOf22 (o' := 3) rfl (fe_t rfl))) ?_
          refine tb_float (i := 6) rfl (by kernel_rfl) rfl (wants_none rfl) (yq_of (y_ldb 0 Tryd.isAgg22 (fe_t rfl) rfl rfl)) ?_
          refine tb_float (i := 7) rfl (by kernel_rfl) rfl (wants_none rfl) (yq_of (y_move (fe_t rfl))) ?_
          refine tb_float (i := 8) rfl (by kernel_rfl) rfl (wants_none rfl) (yq_of (y_index Tryd.underlying22 Tryd.sizeOf52 (fe_t rfl) (fe_t rfl) (rdl_out hB) (by rw [c2_len]; omega) (by decide) (by omega) rfl)) ?_
          refine tb_float (i := 9) rfl (by kernel_rfl) rfl (wants_none rfl) (yq_of (y_ldA Tryd.isAgg52 Tryd.sizeOf52 (fe_t rfl) (rdl_out hB) rfl (by decide) (getF (c := c2) (l := s.ops) (fun _ => rfl) (by omega)))) ?_
          refine tb_float (i := 10) rfl (by kernel_rfl) rfl (wants_none rfl) (yq_of (y_binop (fe_t rfl) (fe_t rfl) (fun w => neq_op _ _ w))) ?_
          refine tb_done (by kernel_rfl) ?_
          refine tx_then ?_
          refine tr_condf (fe_t rfl) ?_
          refine tr_skip ?_
          refine tx_in ?_
          refine tx_then ?_
          refine tr_region ?_
          refine tl_step rfl (oj_val (y_inc (fe_t rfl) fe_c (by omega)) ?_)
          refine tl_step rfl (oj_val (y_move (fe_t rfl)) ?_)
          refine tl_nil ?_
          apply tx_back1 (i + 1)
          · exact (cov_cons (by first | rfl | exact v_int (by omega) | exact v_bool (by simp [*])) (cov_nil))
          · repeat (first | exact over_nil | refine over_put rfl ?_ | refine over_drop rfl ?_)
          · exact fun w h => h.pick [0, 1] _ rfl (by decide)
          · exact ⟨by omega, by omega⟩
      · try (exfalso; omega)
        all_goals
          refine tr_exit ?_
          refine tx_then_exit ?_
          refine tx_then_exit ?_
          refine tx_in_exit ?_
          refine tx_then ?_
          refine tr_seq ?_
          refine tr_region ?_
          refine tl_step rfl (oj_val (y_fieldAddr (td := 3) Tryd.underlying24 rfl rfl Tryd.sizeOf3 (o' := 0) rfl (fe_t rfl)) ?_)
          refine tl_step rfl (oj_val (y_ldb 1 Tryd.isAgg3 (fe_t rfl) rfl rfl) ?_)
          refine tl_step rfl (oj_val (y_fieldAddr (td := 3) Tryd.underlying24 rfl rfl Tryd.sizeOf3 (o' := 0) rfl (fe_t rfl)) ?_)
          refine tl_step rfl (oj_val (y_ldb 0 Tryd.isAgg3 (fe_t rfl) rfl rfl) ?_)
          refine tl_step rfl (oj_val (y_eq (fe_t rfl) (fe_t rfl)) ?_)
          refine tl_step rfl (oj_val (y_move (fe_t rfl)) ?_)
          refine tl_splitp (d := 36) rfl (fun hq5 => ?_) (fun hq6 => ?_)
          · try (exfalso; omega)
            all_goals
              refine tl_want rfl rfl rfl (oj_val (y_fieldAddr (td := 3) Tryd.underlying24 rfl rfl Tryd.sizeOf3 (o' := 1) rfl (fe_t rfl)) ?_)
              refine tl_want rfl rfl rfl (oj_val (y_ldb 1 Tryd.isAgg3 (fe_t rfl) rfl rfl) ?_)
              refine tl_want rfl rfl rfl (oj_val (y_fieldAddr (td := 3) Tryd.underlying24 rfl rfl Tryd.sizeOf3 (o' := 1) rfl (fe_t rfl)) ?_)
              refine tl_want rfl rfl rfl (oj_val (y_ldb 0 Tryd.isAgg3 (fe_t rfl) rfl rfl) ?_)
              refine tl_want rfl rfl rfl (oj_val (y_eq (fe_t rfl) (fe_t rfl)) ?_)
              refine tl_step rfl (oj_val (y_pickt (fe_t rfl) (fe_t rfl)) ?_)
              refine tl_step rfl (oj_val (y_move (fe_t rfl)) ?_)
              refine tl_splitp (d := 43) rfl (fun hq7 => ?_) (fun hq8 => ?_)
              · try (exfalso; omega)
                all_goals
                  refine tl_want rfl rfl rfl (oj_val (y_fieldAddr (td := 3) Tryd.underlying24 rfl rfl Tryd.sizeOf3 (o' := 2) rfl (fe_t rfl)) ?_)
                  refine tl_want rfl rfl rfl (oj_val (y_ldb 1 Tryd.isAgg3 (fe_t rfl) rfl rfl) ?_)
                  refine tl_want rfl rfl rfl (oj_val (y_fieldAddr (td := 3) Tryd.underlying24 rfl rfl Tryd.sizeOf3 (o' := 2) rfl (fe_t rfl)) ?_)
                  refine tl_want rfl rfl rfl (oj_val (y_ldb 0 Tryd.isAgg3 (fe_t rfl) rfl rfl) ?_)
                  refine tl_want rfl rfl rfl (oj_val (y_eq (fe_t rfl) (fe_t rfl)) ?_)
                  refine tl_step rfl (oj_val (y_pickt (fe_t rfl) (fe_t rfl)) ?_)
                  refine tl_step rfl (oj_val (y_assign (fe_t rfl)) ?_)
                  refine tl_nil ?_
                  refine tx_then ?_
                  refine tr_ret ?_
                  refine tx_ret (res1 Tryd.results13 (rok_t rfl)) (fun w' hS => ?_)
                  exact ⟨ret_bool (by simp), hS.pick [] _ rfl (by decide)⟩
              · try (exfalso; omega)
                all_goals
                  refine tl_skip rfl rfl rfl rfl ?_
                  refine tl_skip rfl rfl rfl rfl ?_
                  refine tl_skip rfl rfl rfl rfl ?_
                  refine tl_skip rfl rfl rfl rfl ?_
                  refine tl_skip rfl rfl rfl rfl ?_
                  refine tl_step rfl (oj_val (y_pickf (fe_t rfl) fe_c) ?_)
                  refine tl_step rfl (oj_val (y_assign (fe_t rfl)) ?_)
                  refine tl_nil ?_
                  refine tx_then ?_
                  refine tr_ret ?_
                  refine tx_ret (res1 Tryd.results13 (rok_t rfl)) (fun w' hS => ?_)
                  exact ⟨ret_bool (by simp), hS.pick [] _ rfl (by decide)⟩
          · try (exfalso; omega)
            all_goals
              refine tl_skip rfl rfl rfl rfl ?_
              refine tl_skip rfl rfl rfl rfl ?_
              refine tl_skip rfl rfl rfl rfl ?_
              refine tl_skip rfl rfl rfl rfl ?_
              refine tl_skip rfl rfl rfl rfl ?_
              refine tl_step rfl (oj_val (y_pickf (fe_t rfl) fe_c) ?_)
              refine tl_step rfl (oj_val (y_move (fe_t rfl)) ?_)
              refine tl_skip rfl rfl rfl rfl ?_
              refine tl_skip rfl rfl rfl rfl ?_
              refine tl_skip rfl rfl rfl rfl ?_
              refine tl_skip rfl rfl rfl rfl ?_
              refine tl_skip rfl rfl rfl rfl ?_
              refine tl_step rfl (oj_val (y_pickf (fe_t rfl) fe_c) ?_)
              refine tl_step rfl (oj_val (y_assign (fe_t rfl)) ?_)
              refine tl_nil ?_
              refine tx_then ?_
              refine tr_ret ?_
              refine tx_ret (res1 Tryd.results13 (rok_t rfl)) (fun w' hS => ?_)
              exact ⟨ret_bool (by simp), hS.pick [] _ rfl (by decide)⟩

set_option maxRecDepth 100000 in
set_option maxHeartbeats 2000000 in
theorem walk {w : World} (hw : Gw w) (a b c : Int) (ops : List (Int × Int)) (A : Option Addr) (n m : Nat) (hr : Rd w A (ops.flatMap c2i)) (hn : ops.length = n) (hm : n ≤ 100000000) (t : List UInt8) (hl : t.length ≤ 1000000000) :
    Calls Tryd.prog 3 #[.agg #[(.int .i64 a), (.int .i64 b), (.int .i64 c), .slice A n m], str t] w fun e w' => e = .returned (.bool true) ∧ St w w' [] := by
  refine calls_tr Tryd.func3 Tryd.ntmps3 rfl rfl (St.refl _) ?_
  refine tr_seq ?_
  refine tr_region ?_
  refine tl_step rfl (oj_box (fe_t rfl) (fun b1 => ?_))
  refine tl_step rfl (oj_val (y_assign fe_c) ?_)
  refine tl_nil ?_
  refine tx_then ?_
  refine tr_seq ?_
  refine tr_region ?_
  refine tl_step rfl (oj_val (y_ldbA 0 Tryd.isAgg24 Tryd.sizeOf24 (fe_t rfl) rfl rfl rfl) ?_)
  refine tl_step rfl (oj_callv Tryd.call9 fe_f (fel_cons (fe_t rfl) fel_nil) (fun w' hS => printE (hw.st hS) a b c ops A n m (Rd.below hr hS.below) hn hm) ?_)
  refine tl_step rfl (oj_val (y_move (fe_t rfl)) ?_)
  refine tl_step rfl (oj_val (y_extract (fe_t rfl) rfl) ?_)
  refine tl_step rfl (oj_val (y_extract (fe_t rfl) rfl) ?_)
  refine tl_step rfl (oj_val (y_assign (fe_t rfl)) ?_)
  refine tl_step rfl (oj_val (y_assign (fe_t rfl)) ?_)
  refine tl_nil ?_
  refine tx_then ?_
  refine tr_seq ?_
  refine tr_region ?_
  refine tl_step rfl (oj_val (y_ldbA 0 Tryd.isAgg24 Tryd.sizeOf24 (fe_t rfl) rfl rfl rfl) ?_)
  refine tl_step rfl (oj_callv Tryd.call10 fe_f (fel_cons (fe_t rfl) fel_nil) (fun w' hS => zprintE (hw.st hS) a b c ops A n m (Rd.below hr hS.below) hn hm) ?_)
  refine tl_step rfl (oj_val (y_move (fe_t rfl)) ?_)
  refine tl_step rfl (oj_val (y_extract (fe_t rfl) rfl) ?_)
  refine tl_step rfl (oj_val (y_extract (fe_t rfl) rfl) ?_)
  refine tl_step rfl (oj_val (y_assign (fe_t rfl)) ?_)
  refine tl_step rfl (oj_val (y_assign (fe_t rfl)) ?_)
  refine tl_nil ?_
  refine tx_then ?_
  refine tr_seq ?_
  refine tr_region ?_
  refine tl_step rfl (oj_val (y_move (fe_t rfl)) ?_)
  refine tl_step rfl (oj_call Tryd.call11 fe_f (fel_cons (fe_t rfl) fel_nil) (fun w' hS => parseE (hw.st hS) t hl) (fun p1 hp1 => ?_))
  refine tl_step rfl (oj_val (y_move (fe_t rfl)) ?_)
  refine tl_step rfl (oj_val (y_extract (fe_t rfl) rfl) ?_)
  refine tl_step rfl (oj_val (y_extract (fe_t rfl) rfl) ?_)
  refine tl_step rfl (oj_val (y_extract (fe_t rfl) rfl) ?_)
  refine tl_step rfl (oj_alloc Tryd.zeroValue24 (fun b2 => ?_))
  refine tl_step rfl (oj_storeW 0 Tryd.sizeOf24 (fe_t rfl) (fe_t rfl) rfl rfl rfl rfl rfl (?_))
  refine tl_step rfl (oj_val (y_assign (fe_t rfl)) ?_)
  refine tl_step rfl (oj_val (y_assign (fe_t rfl)) ?_)
  refine tl_nil ?_
  refine tx_then ?_
  refine tr_seq ?_
  refine tr_region ?_
  refine tl_step rfl (oj_val (y_move (fe_t rfl)) ?_)
  refine tl_step rfl (oj_call Tryd.call12 fe_f (fel_cons (fe_t rfl) fel_nil) (fun w' hS => zparseE t hl w') (fun p2 hp2 => ?_))
  refine tl_step rfl (oj_val (y_move (fe_t rfl)) ?_)
  refine tl_step rfl (oj_val (y_extract (fe_t rfl) rfl) ?_)
  refine tl_step rfl (oj_val (y_extract (fe_t rfl) rfl) ?_)
  refine tl_step rfl (oj_val (y_extract (fe_t rfl) rfl) ?_)
  refine tl_step rfl (oj_alloc Tryd.zeroValue24 (fun b3 => ?_))
  refine tl_step rfl (oj_storeW 0 Tryd.sizeOf24 (fe_t rfl) (fe_t rfl) rfl rfl rfl rfl rfl (?_))
  refine tl_step rfl (oj_val (y_assign (fe_t rfl)) ?_)
  refine tl_step rfl (oj_val (y_assign (fe_t rfl)) ?_)
  refine tl_nil ?_
  refine tx_then ?_
  refine tr_seq ?_
  have p1_ : PIs t p1 := hp1
  have p2_ : PIs t p2 := hp2
  have hE := same_parse p1_ p2_
  refine tr_region ?_
  refine tl_step rfl (oj_val (y_move (fe_t rfl)) ?_)
  refine tl_step rfl (oj_val (y_move (fe_t rfl)) ?_)
  refine tl_step rfl (oj_val (y_eq (fe_t rfl) (fe_t rfl)) ?_)
  refine tl_step rfl (oj_val (y_move (fe_t rfl)) ?_)
  refine tl_splitp (d := 40) rfl (fun hq1 => ?_) (fun hq2 => ?_)
  · refine tl_want rfl rfl rfl (oj_val (y_move (fe_t rfl)) ?_)
    refine tl_want rfl rfl rfl (oj_val (y_move (fe_t rfl)) ?_)
    refine tl_want rfl rfl rfl (oj_val (y_eqs (fe_t rfl) (fe_t rfl)) ?_)
    refine tl_step rfl (oj_val (y_pickt (fe_t rfl) (fe_t rfl)) ?_)
    refine tl_step rfl (oj_val (y_move (fe_t rfl)) ?_)
    refine tl_splitp (d := 45) rfl (fun hq3 => ?_) (fun hq4 => ?_)
    · refine tl_want rfl rfl rfl (oj_val (y_move (fe_t rfl)) ?_)
      refine tl_want rfl rfl rfl (oj_val (y_move (fe_t rfl)) ?_)
      refine tl_want rfl rfl rfl (oj_val (y_eq (fe_t rfl) (fe_t rfl)) ?_)
      refine tl_step rfl (oj_val (y_pickt (fe_t rfl) (fe_t rfl)) ?_)
      refine tl_step rfl (oj_val (y_move (fe_t rfl)) ?_)
      refine tl_splitp (d := 50) rfl (fun hq5 => ?_) (fun hq6 => ?_)
      · refine tl_want rfl rfl rfl (oj_val (y_move (fe_t rfl)) ?_)
        refine tl_want rfl rfl rfl (oj_val (y_move (fe_t rfl)) ?_)
        refine tl_want rfl rfl rfl (oj_val (y_eq (fe_t rfl) (fe_t rfl)) ?_)
        refine tl_step rfl (oj_val (y_pickt (fe_t rfl) (fe_t rfl)) ?_)
        refine tl_step rfl (oj_val (y_move (fe_t rfl)) ?_)
        refine tl_splitp (d := 55) rfl (fun hq7 => ?_) (fun hq8 => ?_)
        · refine tl_want rfl rfl rfl (oj_val (y_ldbA 2 Tryd.isAgg24 Tryd.sizeOf24 (fe_t rfl) rfl rfl rfl) ?_)
          refine tl_want rfl rfl rfl (oj_val (y_ldbA 0 Tryd.isAgg24 Tryd.sizeOf24 (fe_t rfl) rfl rfl rfl) ?_)
          refine tl_want rfl rfl rfl (oj_callv Tryd.call13 fe_f (fel_cons (fe_t rfl) (fel_cons (fe_t rfl) fel_nil)) (fun w' hS => sameE w' hE.2.1 (ops_rd hS 3 rfl p1_.1) (ops_rd hS 1 rfl p2_.1) p1_.1.1 p2_.1.1 (by have := p1_.1.1; have := p1_.2.1; omega)) ?_)
          refine tl_step rfl (oj_val (y_pickt (fe_t rfl) (fe_t rfl)) ?_)
          refine tl_step rfl (oj_val (y_assign (fe_t rfl)) ?_)
          refine tl_nil ?_
          refine tx_then ?_
          refine tr_ret ?_
          refine tx_ret (res1 Tryd.results3 (rok_t rfl)) (fun w' hS => ?_)
          exact ⟨rfl, hS.pick [] _ rfl (by decide)⟩
        · exact absurd (congrArg Int.ofNat hE.1) hq8
      · exact absurd (congrArg Int.ofNat hE.2.2) hq6
    · exact absurd rfl hq4
  · exact absurd rfl hq2

end Go.Proofs.YtfcpmcdlgkfolaaDoor.Bn
