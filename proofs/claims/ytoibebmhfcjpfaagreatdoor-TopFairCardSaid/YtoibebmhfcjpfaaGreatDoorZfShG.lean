/- share.Gets. -/
import Derived.Test.YtoibebmhfcjpfaaGreatDoorZfShL
namespace Go.Proofs.YtoibebmhfcjpfaaGreatDoor.Share
open Go.RowKit Go.Proofs.YtoibebmhfcjpfaaGreatDoor.E

def gL (all : Int) (w t : Nat → Int) (n : Nat) (S : Nat → Bool) (i : Nat) : List (Int × Int) := (List.range i).map (get1 all w t n S)
theorem gL_succ {all : Int} {w t : Nat → Int} {n i : Nat} {S : Nat → Bool} {v : Int × Int} (h : get1 all w t n S i = v) : gL all w t n S (i + 1) = gL all w t n S i ++ [v] := by simp [gL, List.range_succ, h]
theorem get1_t {all : Int} {w t : Nat → Int} {n i : Nat} {S : Nat → Bool} (h : S i = true) : get1 all w t n S i = (w i, 1) := by unfold get1; rw [if_pos h]
theorem get1_f {all : Int} {w t : Nat → Int} {n i : Nat} {S : Nat → Bool} (h : S i = false) : get1 all w t n S i = (t i * (lev all w t n S).1, (lev all w t n S).2) := by unfold get1; rw [if_neg (by rw [h]; decide)]
set_option maxRecDepth 100000 in
set_option maxHeartbeats 4000000 in
theorem gets_ok (A B : Option Addr) (n m c d : Nat) (ws ts : List Int) (w : World) (hw : Rd w A (ws.map (.int .i64))) (ht : Rd w B (ts.map (.int .i64))) (hwl : ws.length = n) (htl : ts.length = m) (hn : n ≤ 140737488355328) (hm : m ≤ 140737488355328) {all : Int} (hz : lw all ws ts = 0) :
    Calls Tryz.prog 8 #[(.int .i64 all), .slice A n c, .slice B m d] w fun e w' => ∃ r : Vs × (Nat → Bool), (Gd all (gI ws) (gI ts) n r.2 ∧ r.1.n = n ∧ r.1.xs = (gL all (gI ws) (gI ts) n r.2 n).flatMap c2) ∧ e = .returned (.tuple #[.slice r.1.A r.1.n r.1.c, (.int .i64 0)]) ∧ St w w' [vec 37 2 (.slice r.1.A r.1.n r.1.c) r.1.n r.1.xs] := by
  refine calls_tr Tryz.func8 Tryz.ntmps8 rfl rfl (St.refl _) ?_
  refine tr_seq ?_
  refine tr_region ?_
  refine tl_step rfl (oj_val (y_assign fe_c) ?_)
  refine tl_step rfl (oj_val (y_assign fe_c) ?_)
  refine tl_nil ?_
  refine tx_then ?_
  refine tr_seq ?_
  refine tr_region ?_
  refine tl_step rfl (oj_val (y_move (fe_t rfl)) ?_)
  refine tl_step rfl (oj_val (y_move (fe_t rfl)) ?_)
  refine tl_step rfl (oj_val (y_move (fe_t rfl)) ?_)
  refine tl_step rfl (oj_call Tryz.call14 fe_f (fel_cons (fe_t rfl) (fel_cons (fe_t rfl) (fel_cons (fe_t rfl) fel_nil))) (fun w' hS => level_ok A B n m c d ws ts w' (Rd.below hw hS.below) (Rd.below ht hS.below) hwl htl hn hm hz) (fun S hg => ?_))
  refine tl_step rfl (oj_val (y_move (fe_t rfl)) ?_)
  refine tl_step rfl (oj_val (y_extract (fe_t rfl) rfl) ?_)
  refine tl_step rfl (oj_val (y_extract (fe_t rfl) rfl) ?_)
  refine tl_step rfl (oj_alloc Tryz.zeroValue37 (fun fr => ?_))
  refine tl_step rfl (oj_storeW 0 Tryz.sizeOf37 (fe_t rfl) (fe_t rfl) rfl rfl rfl rfl rfl (?_))
  refine tl_step rfl (oj_val (y_assign (fe_t rfl)) ?_)
  refine tl_nil ?_
  refine tx_then ?_
  refine tr_seq ?_
  refine tr_seq ?_
  refine tr_region ?_
  refine tl_step rfl (oj_val (y_move (fe_t rfl)) ?_)
  refine tl_step rfl (oj_val (y_neq (fe_t rfl) fe_c) ?_)
  refine tl_nil ?_
  refine tx_then ?_
  refine tr_condp (fe_t rfl) (fun hq1 => ?_) (fun hq2 => ?_)
  · exfalso; omega
  · try (exfalso; omega)
    all_goals
      refine tr_skip ?_
      refine tx_then ?_
      refine tr_seq ?_
      have hlen := lw_len hz
      have hr := lw_rg hz (n := n) (by omega)
      have hn16 := hr.n16
      have hall := (lw_zero hz).1
      refine tr_region ?_
      refine tl_step rfl (oj_val (y_assign fe_c) ?_)
      refine tl_nil ?_
      refine tx_then ?_
      refine tr_seq ?_
      refine tr_seq ?_
      refine tr_region ?_
      refine tl_step rfl (oj_val (y_move (fe_t rfl)) ?_)
      refine tl_step rfl (oj_val (y_len Tryz.underlying22 (fe_t rfl)) ?_)
      refine tl_step rfl (oj_val (y_move fe_c) ?_)
      refine tl_nil ?_
      refine tx_then ?_
      refine tr_block ?_
      refine tr_add (r := vec 37 2 (.slice none 0 0) 0 []) vec_nil rfl ?_
      refine tr_loop2 [10, 11, 12, 25, 26, 27, 28, 29, 30, 31, 32, 33, 34, 35, 36, 37, 38, 39, 40, 41, 42, 43, 44, 45, 46, 47, 48, 49, 50, 51, 52, 53, 54, 55, 56, 57, 58, 59, 60, 61, 62, 63, 64, 65] (fun (i : Nat) (z1 : Vs) => [(25, .int .i64 (i : Int)), (10, .slice z1.A z1.n z1.c)]) 0 (fun (i : Nat) (z1 : Vs) => [(0, vec 37 2 (.slice z1.A z1.n z1.c) z1.n z1.xs)]) (fun (i : Nat) (z1 : Vs) => i ≤ n ∧ z1.n = i ∧ z1.xs = (gL all (gI ws) (gI ts) n S i).flatMap c2) (fun (i : Nat) (z1 : Vs) => n - i) (0) (⟨none, 0, 0, []⟩ : Vs) (cov_cons (by first | rfl | exact v_int (by omega) | exact v_bool (by simp [*])) (cov_cons (by first | rfl | exact v_int (by omega) | exact v_bool (by simp [*])) (cov_nil))) (fun w h => h) ?_ ?_
      · try dsimp only
        exact ⟨by omega, rfl, rfl⟩
      intro i z1 hp
      obtain ⟨hi, hzn, hzx⟩ := hp
      refine tr_seq ?_
      refine tr_region ?_
      refine tl_step rfl (oj_val (y_lss (fe_t rfl) (fe_t rfl)) ?_)
      refine tl_nil ?_
      refine tx_then ?_
      refine tr_seq ?_
      refine tr_condp (fe_t rfl) (fun hq3 => ?_) (fun hq4 => ?_)
      · try (exfalso; omega)
        all_goals
          refine tr_skip ?_
          refine tx_then ?_
          refine tr_seq ?_
          refine tr_block ?_
          refine tr_seq ?_
          refine tr_region ?_
          refine tl_step rfl (oj_val (y_move (fe_t rfl)) ?_)
          refine tl_step rfl (oj_val (y_index Tryz.underlying22 Tryz.sizeOf3 (fe_t rfl) (fe_t rfl) (rdl_out hw) (by simp; omega) (by decide) (by omega) (Nat.mul_one _)) ?_)
          refine tl_step rfl (oj_val (y_ld Tryz.isAgg3 (fe_t rfl) (rdl_out hw) (getg (zs := ws) (by omega))) ?_)
          refine tl_step rfl (oj_val (y_assign (fe_t rfl)) ?_)
          refine tl_step rfl (oj_val (y_assign (fe_t rfl)) ?_)
          refine tl_nil ?_
          refine tx_then ?_
          refine tr_seq ?_
          have hwi := hr.w i (by omega)
          have hti := hr.t i (by omega)
          have hlb := lev_bd hr hg hall.2
          have hp1 := mul_bd (a := gI ws i) (b := (lev all (gI ws) (gI ts) n S).2) hwi hlb.2
          have hp2 := mul_bd (a := gI ts i) (b := (lev all (gI ws) (gI ts) n S).1) (show 0 ≤ gI ts i ∧ gI ts i ≤ 1000 by omega) hlb.1
          refine tb_draw 17 (sel _ [0, 1]) (fun w h => h.sel _ rfl (by decide)) rfl ?_
          refine tb_float (i := 0) rfl (by kernel_rfl) rfl (wants_none rfl) (yq_of (y_fieldAddr (td := 3) Tryz.underlying37 rfl rfl Tryz.sizeOf3 (o' := 1) rfl (fe_t rfl))) ?_
          refine tb_float (i := 1) rfl (by kernel_rfl) rfl (wants_none rfl) (yq_of (y_ldb 1 Tryz.isAgg3 (fe_t rfl) rfl rfl)) ?_
          refine tb_float (i := 2) rfl (by kernel_rfl) rfl (wants_none rfl) (yq_of (y_eq (fe_t rfl) fe_c)) ?_
          refine tb_float (i := 3) rfl (by kernel_rfl) rfl (wants_none rfl) (yq_of (y_move (fe_t rfl))) ?_
          refine tb_splitp (d := 33) rfl (fun hq5 => ?_) (fun hq6 => ?_)
          · try (exfalso; omega)
            all_goals
              refine tb_skip (i := 4) rfl (by kernel_rfl) rfl (wants_f rfl rfl rfl rfl) ?_
              refine tb_skip (i := 5) rfl (by kernel_rfl) rfl (wants_f rfl rfl rfl rfl) ?_
              refine tb_skip (i := 6) rfl (by kernel_rfl) rfl (wants_f rfl rfl rfl rfl) ?_
              refine tb_skip (i := 7) rfl (by kernel_rfl) rfl (wants_f rfl rfl rfl rfl) ?_
              refine tb_skip (i := 8) rfl (by kernel_rfl) rfl (wants_f rfl rfl rfl rfl) ?_
              refine tb_skip (i := 9) rfl (by kernel_rfl) rfl (wants_f rfl rfl rfl rfl) ?_
              refine tb_skip (i := 10) rfl (by kernel_rfl) rfl (wants_f rfl rfl rfl rfl) ?_
              refine tb_skip (i := 11) rfl (by kernel_rfl) rfl (wants_f rfl rfl rfl rfl) ?_
              refine tb_skip (i := 12) rfl (by kernel_rfl) rfl (wants_f rfl rfl rfl rfl) ?_
              refine tb_skip (i := 13) rfl (by kernel_rfl) rfl (wants_f rfl rfl rfl rfl) ?_
              refine tb_skip (i := 14) rfl (by kernel_rfl) rfl (wants_f rfl rfl rfl rfl) ?_
              refine tb_skip (i := 15) rfl (by kernel_rfl) rfl (wants_f rfl rfl rfl rfl) ?_
              refine tb_float (i := 16) rfl (by kernel_rfl) rfl (wants_none rfl) (yq_of (y_pickt (fe_t rfl) fe_c)) ?_
              refine tb_done (by kernel_rfl) ?_
              refine tx_then ?_
              refine tr_condt (fe_t rfl) ?_
              refine tr_region ?_
              refine tl_step rfl (oj_val (y_move (fe_t rfl)) ?_)
              refine tl_step rfl (oj_val (y_move (fe_t rfl)) ?_)
              refine tl_step rfl (oj_val ((fun {u0 u1} hx hb => y_build (is := [0, 1]) (vs := [u0, u1]) (cs := [u0, u1]) rfl hx hb) (fel_cons (fe_t rfl) (fel_cons (fe_c (v := .int .i64 1)) fel_nil)) (by kernel_rfl)) ?_)
              refine tl_step rfl (oj_slice1 Tryz.underlying31 Tryz.sizeOf37 Tryz.zeroValue37 (fe_t rfl) (by decide) rfl (fun b1 => ?_))
              refine tl_step rfl (oj_append (i := 1) (s := 2) (z := (.agg #[.int .i64 0, .int .i64 0])) (bytes := 16) Tryz.underlying31 (by kernel_rfl) (fe_t rfl) (fe_t rfl) rfl (rdl_blk 0 rfl) rfl (by decide) (by first | exact oneI | exact oneF (fun _ => rfl) | exact fun u hu => List.all_eq_true.1 (show List.all _ (fun x => x.oneCell') = true from rfl) u hu | (intro u hu; revert u hu; simp [Value.oneCell'])) (by decide) ⟨by omega, by decide⟩ (fun Aa1 ca1 hca1 => ?_))
              refine tl_step rfl (oj_val (y_assign (fe_t rfl)) ?_)
              refine tl_nil ?_
              refine tx_in ?_
              refine tx_then ?_
              refine tr_region ?_
              refine tl_step rfl (oj_val (y_inc (fe_t rfl) fe_c (by omega)) ?_)
              refine tl_step rfl (oj_val (y_move (fe_t rfl)) ?_)
              refine tl_nil ?_
              apply tx_back2 (i + 1) ((⟨_, _, _, _⟩ : Vs))
              · exact (cov_cons (by first | rfl | exact v_int (by omega) | exact v_bool (by simp [*])) (cov_cons (by first | rfl | exact v_int (by omega) | exact v_bool (by simp [*])) (cov_nil)))
              · repeat (first | exact over_nil | refine over_put rfl ?_ | refine over_drop rfl ?_)
              · exact fun w h => h.pick [1, 2] _ rfl (by decide)
              · have hSi : S i = true := (get1_iff hr hg (by omega)).2 (by omega)
                exact ⟨⟨by omega, by dsimp only; omega, by rw [gL_succ (get1_t hSi), List.flatMap_append]; dsimp only; rw [hzx]; rfl⟩, by omega⟩
          · try (exfalso; omega)
            all_goals
              refine tb_float (i := 4) rfl (by kernel_rfl) rfl (wants_t rfl rfl rfl) (yq_of (y_move (fe_t rfl))) ?_
              refine tb_float (i := 5) rfl (by kernel_rfl) rfl (wants_t rfl rfl rfl) (yq_of (y_fieldAddr (td := 3) Tryz.underlying37 rfl rfl Tryz.sizeOf3 (o' := 1) rfl (fe_t rfl))) ?_
              refine tb_float (i := 6) rfl (by kernel_rfl) rfl (wants_t rfl rfl rfl) (yq_of (y_ldb 1 Tryz.isAgg3 (fe_t rfl) rfl rfl)) ?_
              refine tb_float (i := 7) rfl (by kernel_rfl) rfl (wants_t rfl rfl rfl) (yq_of (y_mul (fe_t rfl) (fe_t rfl) (by omega))) ?_
              refine tb_float (i := 8) rfl (by kernel_rfl) rfl (wants_t rfl rfl rfl) (yq_of (y_move (fe_t rfl))) ?_
              refine tb_float (i := 9) rfl (by kernel_rfl) rfl (wants_t rfl rfl rfl) (yq_of (y_move (fe_t rfl))) ?_
              refine tb_float (i := 10) rfl (by kernel_rfl) rfl (wants_t rfl rfl rfl) (yq_of (y_index Tryz.underlying22 Tryz.sizeOf3 (fe_t rfl) (fe_t rfl) (rdl_out ht) (by simp; omega) (by decide) (by omega) (Nat.mul_one _))) ?_
              refine tb_float (i := 11) rfl (by kernel_rfl) rfl (wants_t rfl rfl rfl) (yq_of (y_ld Tryz.isAgg3 (fe_t rfl) (rdl_out ht) (getg (zs := ts) (by omega)))) ?_
              refine tb_float (i := 12) rfl (by kernel_rfl) rfl (wants_t rfl rfl rfl) (yq_of (y_fieldAddr (td := 3) Tryz.underlying37 rfl rfl Tryz.sizeOf3 (o' := 0) rfl (fe_t rfl))) ?_
              refine tb_float (i := 13) rfl (by kernel_rfl) rfl (wants_t rfl rfl rfl) (yq_of (y_ldb 1 Tryz.isAgg3 (fe_t rfl) rfl rfl)) ?_
              refine tb_float (i := 14) rfl (by kernel_rfl) rfl (wants_t rfl rfl rfl) (yq_of (y_mul (fe_t rfl) (fe_t rfl) (by omega))) ?_
              refine tb_float (i := 15) rfl (by kernel_rfl) rfl (wants_t rfl rfl rfl) (yq_of (y_leq (fe_t rfl) (fe_t rfl))) ?_
              refine tb_float (i := 16) rfl (by kernel_rfl) rfl (wants_none rfl) (yq_of (y_pickf (fe_t rfl) (fe_t rfl))) ?_
              refine tb_done (by kernel_rfl) ?_
              refine tx_then ?_
              refine tr_condp (fe_t rfl) (fun hq7 => ?_) (fun hq8 => ?_)
              · try (exfalso; omega)
                all_goals
                  refine tr_region ?_
                  refine tl_step rfl (oj_val (y_move (fe_t rfl)) ?_)
                  refine tl_step rfl (oj_val (y_move (fe_t rfl)) ?_)
                  refine tl_step rfl (oj_val ((fun {u0 u1} hx hb => y_build (is := [0, 1]) (vs := [u0, u1]) (cs := [u0, u1]) rfl hx hb) (fel_cons (fe_t rfl) (fel_cons (fe_c (v := .int .i64 1)) fel_nil)) (by kernel_rfl)) ?_)
                  refine tl_step rfl (oj_slice1 Tryz.underlying31 Tryz.sizeOf37 Tryz.zeroValue37 (fe_t rfl) (by decide) rfl (fun b2 => ?_))
                  refine tl_step rfl (oj_append (i := 1) (s := 2) (z := (.agg #[.int .i64 0, .int .i64 0])) (bytes := 16) Tryz.underlying31 (by kernel_rfl) (fe_t rfl) (fe_t rfl) rfl (rdl_blk 0 rfl) rfl (by decide) (by first | exact oneI | exact oneF (fun _ => rfl) | exact fun u hu => List.all_eq_true.1 (show List.all _ (fun x => x.oneCell') = true from rfl) u hu | (intro u hu; revert u hu; simp [Value.oneCell'])) (by decide) ⟨by omega, by decide⟩ (fun Aa2 ca2 hca2 => ?_))
                  refine tl_step rfl (oj_val (y_assign (fe_t rfl)) ?_)
                  refine tl_nil ?_
                  refine tx_in ?_
                  refine tx_then ?_
                  refine tr_region ?_
                  refine tl_step rfl (oj_val (y_inc (fe_t rfl) fe_c (by omega)) ?_)
                  refine tl_step rfl (oj_val (y_move (fe_t rfl)) ?_)
                  refine tl_nil ?_
                  apply tx_back2 (i + 1) ((⟨_, _, _, _⟩ : Vs))
                  · exact (cov_cons (by first | rfl | exact v_int (by omega) | exact v_bool (by simp [*])) (cov_cons (by first | rfl | exact v_int (by omega) | exact v_bool (by simp [*])) (cov_nil)))
                  · repeat (first | exact over_nil | refine over_put rfl ?_ | refine over_drop rfl ?_)
                  · exact fun w h => h.pick [1, 2] _ rfl (by decide)
                  · have hSi : S i = true := (get1_iff hr hg (by omega)).2 (by omega)
                    exact ⟨⟨by omega, by dsimp only; omega, by rw [gL_succ (get1_t hSi), List.flatMap_append]; dsimp only; rw [hzx]; rfl⟩, by omega⟩
              · try (exfalso; omega)
                all_goals
                  refine tb_draw 12 (sel _ [1]) (fun w h => h.sel _ rfl (by decide)) rfl ?_
                  refine tb_float (i := 0) rfl (by kernel_rfl) rfl (wants_none rfl) (yq_of (y_move (fe_t rfl))) ?_
                  refine tb_float (i := 1) rfl (by kernel_rfl) rfl (wants_none rfl) (yq_of (y_move (fe_t rfl))) ?_
                  refine tb_float (i := 2) rfl (by kernel_rfl) rfl (wants_none rfl) (yq_of (y_move (fe_t rfl))) ?_
                  refine tb_float (i := 3) rfl (by kernel_rfl) rfl (wants_none rfl) (yq_of (y_index Tryz.underlying22 Tryz.sizeOf3 (fe_t rfl) (fe_t rfl) (rdl_out ht) (by simp; omega) (by decide) (by omega) (Nat.mul_one _))) ?_
                  refine tb_float (i := 4) rfl (by kernel_rfl) rfl (wants_none rfl) (yq_of (y_ld Tryz.isAgg3 (fe_t rfl) (rdl_out ht) (getg (zs := ts) (by omega)))) ?_
                  refine tb_float (i := 5) rfl (by kernel_rfl) rfl (wants_none rfl) (yq_of (y_fieldAddr (td := 3) Tryz.underlying37 rfl rfl Tryz.sizeOf3 (o' := 0) rfl (fe_t rfl))) ?_
                  refine tb_float (i := 6) rfl (by kernel_rfl) rfl (wants_none rfl) (yq_of (y_ldb 0 Tryz.isAgg3 (fe_t rfl) rfl rfl)) ?_
                  refine tb_float (i := 7) rfl (by kernel_rfl) rfl (wants_none rfl) (yq_of (y_mul (fe_t rfl) (fe_t rfl) (by omega))) ?_
                  refine tb_float (i := 8) rfl (by kernel_rfl) rfl (wants_none rfl) (yq_of (y_fieldAddr (td := 3) Tryz.underlying37 rfl rfl Tryz.sizeOf3 (o' := 1) rfl (fe_t rfl))) ?_
                  refine tb_float (i := 9) rfl (by kernel_rfl) rfl (wants_none rfl) (yq_of (y_ldb 0 Tryz.isAgg3 (fe_t rfl) rfl rfl)) ?_
                  refine tb_float (i := 10) rfl (by kernel_rfl) rfl (wants_none rfl) (yq_of ((fun {u0 u1} hx hb => y_build (is := [0, 1]) (vs := [u0, u1]) (cs := [u0, u1]) rfl hx hb) (fel_cons (fe_t rfl) (fel_cons (fe_t rfl) fel_nil)) (by kernel_rfl))) ?_
                  refine tb_one1 (i := 11) rfl (by kernel_rfl) (by kernel_rfl) (wants_none rfl) (oj_slice1 Tryz.underlying31 Tryz.sizeOf37 Tryz.zeroValue37 (fe_t rfl) (by decide) rfl (fun b3 => ⟨fun w h => h.pick [1, 2] _ rfl (by decide), ?_⟩))
                  refine tb_one2 (i := 12) rfl (by kernel_rfl) (by kernel_rfl) (wants_none rfl) (oj_append (i := 1) (s := 2) (z := (.agg #[.int .i64 0, .int .i64 0])) (bytes := 16) Tryz.underlying31 (by kernel_rfl) (fe_t rfl) (fe_t rfl) rfl (rdl_blk 0 rfl) rfl (by decide) (by first | exact oneI | exact oneF (fun _ => rfl) | exact fun u hu => List.all_eq_true.1 (show List.all _ (fun x => x.oneCell') = true from rfl) u hu | (intro u hu; revert u hu; simp [Value.oneCell'])) (by decide) ⟨by omega, by decide⟩ (fun Aa3 ca3 hca3 => ⟨fun w h => h.pick [2] _ rfl (by decide), ?_⟩))
                  refine tb_float (i := 13) rfl (by kernel_rfl) rfl (wants_none rfl) (yq_of (y_assign (fe_t rfl))) ?_
                  refine tb_done (by kernel_rfl) ?_
                  refine tx_in ?_
                  refine tx_then ?_
                  refine tr_region ?_
                  refine tl_step rfl (oj_val (y_inc (fe_t rfl) fe_c (by omega)) ?_)
                  refine tl_step rfl (oj_val (y_move (fe_t rfl)) ?_)
                  refine tl_nil ?_
                  apply tx_back2 (i + 1) ((⟨_, _, _, _⟩ : Vs))
                  · exact (cov_cons (by first | rfl | exact v_int (by omega) | exact v_bool (by simp [*])) (cov_cons (by first | rfl | exact v_int (by omega) | exact v_bool (by simp [*])) (cov_nil)))
                  · repeat (first | exact over_nil | refine over_put rfl ?_ | refine over_drop rfl ?_)
                  · exact fun w h => h.pick [1, 2] _ rfl (by decide)
                  · have hSi : S i = false := Bool.eq_false_iff.2 fun h => by have h1 := (get1_iff hr hg (by omega)).1 h; omega
                    exact ⟨⟨by omega, by dsimp only; omega, by rw [gL_succ (get1_f hSi), List.flatMap_append]; dsimp only; rw [hzx]; rfl⟩, by omega⟩
      · try (exfalso; omega)
        all_goals
          refine tr_exit ?_
          refine tx_then_exit ?_
          refine tx_then_exit ?_
          refine tx_in_exit ?_
          refine tx_then ?_
          refine tr_seq ?_
          refine tr_region ?_
          refine tl_step rfl (oj_val (y_move (fe_t rfl)) ?_)
          refine tl_step rfl (oj_val (y_assign (fe_t rfl)) ?_)
          refine tl_step rfl (oj_val (y_assign fe_c) ?_)
          refine tl_nil ?_
          refine tx_then ?_
          refine tr_ret ?_
          refine tx_ret (res2 Tryz.results8 (rok_t rfl) (rok_t rfl)) (fun w' hS => ?_)
          obtain rfl : n = i := by omega
          exact ⟨(z1, S), ⟨hg, hzn, hzx⟩, rfl, hS.pick [0] _ rfl (by decide)⟩

end Go.Proofs.YtoibebmhfcjpfaaGreatDoor.Share
