/- Walks: the sort, Order. -/
import Derived.Test.YtpknjfeiiaopgaaGpA
import Derived.Test.YtpknjfeiiaopgaaEF
import Derived.Test.YtpknjfeiiaopgaaFlO
import Derived.Test.YtpknjfeiiaopgaaEU
namespace Go.Proofs.Ytpknjfeiiaopgaa.Gps
open Go.RowKit Go.Proofs.Ytpknjfeiiaopgaa.E Go.Proofs.Ytpknjfeiiaopgaa.Big Go.Proofs.Ytpknjfeiiaopgaa.Frac

set_option maxRecDepth 100000 in
set_option maxHeartbeats 4000000 in
theorem cmpE {w0 w : World} {T : List Res} {be bw gd n m d : Nat} {B : Option Addr} {ze : Vs} {l : List Nat} {es ws : List Int} (hS : St w0 w (vec 3 1 (.slice (some ⟨gd, 0, none⟩) n n) n (cN l) :: blk be [.slice ze.A ze.n ze.c] :: blk bw [.slice B m d] :: vec 3 1 (.slice ze.A ze.n ze.c) ze.n ze.xs :: T)) (hw : Rd w0 B (ws.map (.int .i64))) (hwl : ws.length = n) (hmn : m = n) (hzn : ze.n = n) (hzx : ze.xs = cI es) (hel : es.length = n) (heb : ∀ k, k < n → 0 ≤ gI es k ∧ gI es k ≤ 16777216000) (hwb : ∀ k, k < n → 0 < gI ws k ∧ gI ws k ≤ 1000) {a b : Nat} (ha : a < n) (hb : b < n) :
    Calls Try.prog 74 #[(.int .i64 ((a : Int))), (.int .i64 ((b : Int))), P be, P bw] w fun e w' => ∃ _q : Unit, True ∧ e = .returned (.int .i64 (gI es a * gI ws b - gI es b * gI ws a)) ∧ St w0 w' (vec 3 1 (.slice (some ⟨gd, 0, none⟩) n n) n (cN l) :: blk be [.slice ze.A ze.n ze.c] :: blk bw [.slice B m d] :: vec 3 1 (.slice ze.A ze.n ze.c) ze.n ze.xs :: T) := by
  refine calls_tr Try.func74 Try.ntmps74 rfl rfl hS ?_
  refine tr_seq ?_
  refine tr_region ?_
  refine tl_step rfl (oj_val (y_assign fe_c) ?_)
  refine tl_nil ?_
  refine tx_then ?_
  refine tr_seq ?_
  have g1 := heb a ha
  have g2 := heb b hb
  have g3 := hwb a ha
  have g4 := hwb b hb
  have g5 := mul_in g1.1 g1.2 (Int.le_of_lt g4.1) g4.2
  have g6 := mul_in g2.1 g2.2 (Int.le_of_lt g3.1) g3.2
  refine tb_draw 20 (sel _ [0, 1, 2, 3]) (fun w h => h.sel _ rfl (by decide)) rfl ?_
  refine tb_float (i := 0) rfl (by kernel_rfl) rfl (wants_none rfl) (yq_of (y_ldb 1 Try.isAgg27 (fe_t rfl) rfl rfl)) ?_
  refine tb_float (i := 1) rfl (by kernel_rfl) rfl (wants_none rfl) (yq_of (y_move (fe_t rfl))) ?_
  refine tb_float (i := 2) rfl (by kernel_rfl) rfl (wants_none rfl) (yq_of (y_index Try.underlying27 Try.sizeOf3 (fe_t rfl) (fe_t rfl) (rdl_vec 3 rfl) (by rw [hzx]; simp [cI]; omega) (by decide) (by omega) (Nat.mul_one _))) ?_
  refine tb_float (i := 3) rfl (by kernel_rfl) rfl (wants_none rfl) (yq_of (y_ld Try.isAgg3 (fe_t rfl) (rdl_vec 3 rfl) (by rw [hzx]; exact getG (zs := es) (by omega)))) ?_
  refine tb_float (i := 4) rfl (by kernel_rfl) rfl (wants_none rfl) (yq_of (y_ldb 2 Try.isAgg27 (fe_t rfl) rfl rfl)) ?_
  refine tb_float (i := 5) rfl (by kernel_rfl) rfl (wants_none rfl) (yq_of (y_move (fe_t rfl))) ?_
  refine tb_float (i := 6) rfl (by kernel_rfl) rfl (wants_none rfl) (yq_of (y_index Try.underlying27 Try.sizeOf3 (fe_t rfl) (fe_t rfl) (rdl_out hw) (by simp; omega) (by decide) (by omega) (Nat.mul_one _))) ?_
  refine tb_float (i := 7) rfl (by kernel_rfl) rfl (wants_none rfl) (yq_of (y_ld Try.isAgg3 (fe_t rfl) (rdl_out hw) (getG (zs := ws) (by omega)))) ?_
  refine tb_float (i := 8) rfl (by kernel_rfl) rfl (wants_none rfl) (yq_of (y_mul (fe_t rfl) (fe_t rfl) (by omega))) ?_
  refine tb_float (i := 9) rfl (by kernel_rfl) rfl (wants_none rfl) (yq_of (y_ldb 1 Try.isAgg27 (fe_t rfl) rfl rfl)) ?_
  refine tb_float (i := 10) rfl (by kernel_rfl) rfl (wants_none rfl) (yq_of (y_move (fe_t rfl))) ?_
  refine tb_float (i := 11) rfl (by kernel_rfl) rfl (wants_none rfl) (yq_of (y_index Try.underlying27 Try.sizeOf3 (fe_t rfl) (fe_t rfl) (rdl_vec 3 rfl) (by rw [hzx]; simp [cI]; omega) (by decide) (by omega) (Nat.mul_one _))) ?_
  refine tb_float (i := 12) rfl (by kernel_rfl) rfl (wants_none rfl) (yq_of (y_ld Try.isAgg3 (fe_t rfl) (rdl_vec 3 rfl) (by rw [hzx]; exact getG (zs := es) (by omega)))) ?_
  refine tb_float (i := 13) rfl (by kernel_rfl) rfl (wants_none rfl) (yq_of (y_ldb 2 Try.isAgg27 (fe_t rfl) rfl rfl)) ?_
  refine tb_float (i := 14) rfl (by kernel_rfl) rfl (wants_none rfl) (yq_of (y_move (fe_t rfl))) ?_
  refine tb_float (i := 15) rfl (by kernel_rfl) rfl (wants_none rfl) (yq_of (y_index Try.underlying27 Try.sizeOf3 (fe_t rfl) (fe_t rfl) (rdl_out hw) (by simp; omega) (by decide) (by omega) (Nat.mul_one _))) ?_
  refine tb_float (i := 16) rfl (by kernel_rfl) rfl (wants_none rfl) (yq_of (y_ld Try.isAgg3 (fe_t rfl) (rdl_out hw) (getG (zs := ws) (by omega)))) ?_
  refine tb_float (i := 17) rfl (by kernel_rfl) rfl (wants_none rfl) (yq_of (y_mul (fe_t rfl) (fe_t rfl) (by omega))) ?_
  refine tb_float (i := 18) rfl (by kernel_rfl) rfl (wants_none rfl) (yq_of (y_sub (fe_t rfl) (fe_t rfl) (by omega))) ?_
  refine tb_float (i := 19) rfl (by kernel_rfl) rfl (wants_none rfl) (yq_of (y_assign (fe_t rfl))) ?_
  refine tb_done (by kernel_rfl) ?_
  refine tx_then ?_
  refine tr_ret ?_
  refine tx_ret (res1 Try.results74 (rok_t rfl)) (fun w' hS => ?_)
  have h1 := pickT (l := [_, _, _, _]) hS [0, 1, 2, 3] rfl (by decide)
  exact ⟨(), trivial, rfl, h1⟩

set_option maxRecDepth 100000 in
set_option maxHeartbeats 8000000 in
theorem insertE {w0 w : World} {T : List Res} {be bw gd n m d : Nat} {B : Option Addr} {ze : Vs} {es ws : List Int} (hS : St w0 w (vec 3 1 (.slice (some ⟨gd, 0, none⟩) n n) n (cN (List.range n)) :: blk be [.slice ze.A ze.n ze.c] :: blk bw [.slice B m d] :: vec 3 1 (.slice ze.A ze.n ze.c) ze.n ze.xs :: T)) (hw : Rd w0 B (ws.map (.int .i64))) (hwl : ws.length = n) (hmn : m = n) (hzn : ze.n = n) (hzx : ze.xs = cI es) (hel : es.length = n) (heb : ∀ k, k < n → 0 ≤ gI es k ∧ gI es k ≤ 16777216000) (hwb : ∀ k, k < n → 0 < gI ws k ∧ gI ws k ≤ 1000) (h16 : n ≤ 16) :
    Calls Try.prog 133 #[.slice (some ⟨gd, 0, none⟩) n n, (.int .i64 0), (.int .i64 ((n : Int))), .func (.func 74) #[] #[P be, P bw]] w fun e w' => ∃ q : List Nat, Srt (Lt (gI es) (gI ws)) n n q ∧ e = .returned (.tuple #[]) ∧ St w0 w' (vec 3 1 (.slice (some ⟨gd, 0, none⟩) n n) n (cN q) :: blk be [.slice ze.A ze.n ze.c] :: blk bw [.slice B m d] :: vec 3 1 (.slice ze.A ze.n ze.c) ze.n ze.xs :: T) := by
  refine calls_tr Try.func133 Try.ntmps133 rfl rfl hS ?_
  refine tr_seq ?_
  refine tr_region ?_
  refine tl_step rfl (oj_val (y_move (fe_t rfl)) ?_)
  refine tl_step rfl (oj_val (y_as (b := 1) (y_add (fe_t rfl) fe_c (by omega)) (by omega)) ?_)
  refine tl_step rfl (oj_val (y_assign (fe_t rfl)) ?_)
  refine tl_nil ?_
  refine tx_then ?_
  refine tr_block ?_
  refine tr_loop2 [8, 9, 12, 13, 14, 15, 16, 17, 18, 19, 20, 21, 22, 23, 24, 25, 26, 27, 28, 29, 30, 31, 32, 33, 34, 35, 36, 37, 38, 39, 40, 41, 42, 43, 44, 45, 46, 47, 48, 49, 50, 51, 52] (fun (i : Nat) (l1 : List Nat) => [(8, .int .i64 (i : Int))]) 0 (fun (i : Nat) (l1 : List Nat) => [(0, vec 3 1 (.slice (some ⟨gd, 0, none⟩) n n) n (cN l1))]) (fun (i : Nat) (l1 : List Nat) => Srt (Lt (gI es) (gI ws)) n i l1 ∧ 1 ≤ i ∧ (i ≤ n ∨ n = 0)) (fun (i : Nat) (l1 : List Nat) => n - i) (1) (List.range n) (cov_cons (by first | rfl | exact v_int (by omega) | exact v_bool (by simp [*])) (cov_nil)) (fun w h => h) ?_ ?_
  · try dsimp only
    exact ⟨Srt.one n, Nat.le_refl _, by omega⟩
  intro i l1 hp
  obtain ⟨hsr, hi1, hin2⟩ := hp
  have hl1 := hsr.len
  refine tr_seq ?_
  refine tr_seq ?_
  refine tr_region ?_
  refine tl_step rfl (oj_val (y_move (fe_t rfl)) ?_)
  refine tl_step rfl (oj_val (y_move (fe_t rfl)) ?_)
  refine tl_step rfl (oj_val (y_lss (fe_t rfl) (fe_t rfl)) ?_)
  refine tl_nil ?_
  refine tx_then ?_
  refine tr_condp (fe_t rfl) (fun hq1 => ?_) (fun hq2 => ?_)
  · try (exfalso; omega)
    all_goals
      refine tr_skip ?_
      refine tx_then ?_
      refine tr_seq ?_
      refine tr_block ?_
      refine tr_seq ?_
      refine tr_region ?_
      refine tl_step rfl (oj_val (y_move (fe_t rfl)) ?_)
      refine tl_step rfl (oj_val (y_assign (fe_t rfl)) ?_)
      refine tl_nil ?_
      refine tx_then ?_
      refine tr_block ?_
      refine tr_loop2 [9, 18, 19, 20, 21, 22, 23, 24, 25, 26, 27, 28, 29, 30, 31, 32, 33, 34, 35, 36, 37, 38, 39, 40, 41, 42, 43, 44, 45, 46, 47, 48, 49, 50, 51, 52] (fun (j : Nat) (l2 : List Nat) => [(9, .int .i64 (j : Int))]) 0 (fun (j : Nat) (l2 : List Nat) => [(0, vec 3 1 (.slice (some ⟨gd, 0, none⟩) n n) n (cN l2))]) (fun (j : Nat) (l2 : List Nat) => Ins (Lt (gI es) (gI ws)) n i j l2) (fun (j : Nat) (l2 : List Nat) => j) (i) (l1) (cov_cons (by first | rfl | exact v_int (by omega) | exact v_bool (by simp [*])) (cov_nil)) (fun w h => h) ?_ ?_
      · try dsimp only
        exact hsr.ins (by omega)
      intro j l2 hp
      have hin := hp
      have hl2 := hin.len
      have hji := hin.ji
      have hat := hin.at_
      refine tr_seq ?_
      refine tr_seq ?_
      refine tb_draw 17 (sel _ [0, 1, 2, 3]) (fun w h => h.sel _ rfl (by decide)) rfl ?_
      refine tb_float (i := 0) rfl (by kernel_rfl) rfl (wants_none rfl) (yq_of (y_move (fe_t rfl))) ?_
      refine tb_float (i := 1) rfl (by kernel_rfl) rfl (wants_none rfl) (yq_of (y_move (fe_t rfl))) ?_
      refine tb_float (i := 2) rfl (by kernel_rfl) rfl (wants_none rfl) (yq_of (y_gtr (fe_t rfl) (fe_t rfl))) ?_
      refine tb_float (i := 3) rfl (by kernel_rfl) rfl (wants_none rfl) (yq_of (y_move (fe_t rfl))) ?_
      refine tb_splitp (d := 21) rfl (fun hq3 => ?_) (fun hq4 => ?_)
      · try (exfalso; omega)
        all_goals
          refine tb_float (i := 4) rfl (by kernel_rfl) rfl (wants_t rfl rfl rfl) (yq_of (y_move (fe_t rfl))) ?_
          refine tb_float (i := 5) rfl (by kernel_rfl) rfl (wants_t rfl rfl rfl) (yq_of (y_move (fe_t rfl))) ?_
          refine tb_float (i := 6) rfl (by kernel_rfl) rfl (wants_t rfl rfl rfl) (yq_of (y_move (fe_t rfl))) ?_
          refine tb_float (i := 7) rfl (by kernel_rfl) rfl (wants_t rfl rfl rfl) (yq_of (y_index Try.underlying27 Try.sizeOf3 (fe_t rfl) (fe_t rfl) (rdl_vec 0 rfl) (by first | (rw [cN_len, hl2]; omega) | (rw [cN_len, hl1]; omega)) (by decide) (by omega) (Nat.mul_one _))) ?_
          refine tb_float (i := 8) rfl (by kernel_rfl) rfl (wants_t rfl rfl rfl) (yq_of (y_ld (v := (.int .i64 ((i : Int)))) Try.isAgg3 (fe_t rfl) (rdl_vec 0 rfl) (by rw [← hat]; exact getN (by omega)))) ?_
          refine tb_float (i := 9) rfl (by kernel_rfl) rfl (wants_t rfl rfl rfl) (yq_of (y_move (fe_t rfl))) ?_
          refine tb_float (i := 10) rfl (by kernel_rfl) rfl (wants_t rfl rfl rfl) (yq_of (y_move (fe_t rfl))) ?_
          refine tb_float (i := 11) rfl (by kernel_rfl) rfl (wants_t rfl rfl rfl) (yq_of (y_dec (fe_t rfl) fe_c (by omega))) ?_
          refine tb_float (i := 12) rfl (by kernel_rfl) rfl (wants_t rfl rfl rfl) (yq_of (y_index Try.underlying27 Try.sizeOf3 (fe_t rfl) (fe_t rfl) (rdl_vec 0 rfl) (by first | (rw [cN_len, hl2]; omega) | (rw [cN_len, hl1]; omega)) (by decide) (by omega) (Nat.mul_one _))) ?_
          refine tb_float (i := 13) rfl (by kernel_rfl) rfl (wants_t rfl rfl rfl) (yq_of (y_ld (v := (.int .i64 ((gN l2 (j - 1) : Int)))) Try.isAgg3 (fe_t rfl) (rdl_vec 0 rfl) (getN (by omega)))) ?_
          refine tb_one2 (i := 14) rfl (by kernel_rfl) (by kernel_rfl) (wants_t rfl rfl rfl) (oj_callF Try.call74 (fe_t rfl) (fel_cons (fe_t rfl) (fel_cons (fe_t rfl) fel_nil)) (fun w' hS => cmpE (pickT (l := [_, _, _, _]) hS [0, 1, 2, 3] rfl (by decide)) hw hwl hmn hzn hzx hel heb hwb (a := i) (b := gN l2 (j - 1)) (by omega) (by have := hin.prev (by omega); omega)) (fun _ _ => ⟨fun w h => h.pick [0, 1, 2, 3] _ rfl (by decide), ?_⟩))
          refine tb_float (i := 15) rfl (by kernel_rfl) rfl (wants_t rfl rfl rfl) (yq_of (y_lss (fe_t rfl) fe_c)) ?_
          refine tb_float (i := 16) rfl (by kernel_rfl) rfl (wants_none rfl) (yq_of (y_pickt (fe_t rfl) (fe_t rfl))) ?_
          refine tb_done (by kernel_rfl) ?_
          refine tx_then ?_
          refine tr_condp (fe_t rfl) (fun hq5 => ?_) (fun hq6 => ?_)
          · try (exfalso; omega)
            all_goals
              refine tr_skip ?_
              refine tx_then ?_
              refine tr_seq ?_
              refine tr_block ?_
              refine tb_draw1 15 [_, _, _, _] [_, _, _, _] (fun w h => h.pick [0, 1, 2, 3] _ rfl (by decide)) (fun w h => (h.weak (i := 0) rfl).pick [0, 1, 2, 3] _ rfl (by decide)) rfl ?_
              refine tb_float (i := 0) rfl (by kernel_rfl) rfl (wants_none rfl) (yq_of (y_move (fe_t rfl))) ?_
              refine tb_float (i := 1) rfl (by kernel_rfl) rfl (wants_none rfl) (yq_of (y_move (fe_t rfl))) ?_
              refine tb_float (i := 2) rfl (by kernel_rfl) rfl (wants_none rfl) (yq_of (y_move (fe_t rfl))) ?_
              refine tb_float (i := 3) rfl (by kernel_rfl) rfl (wants_none rfl) (yq_of (y_move (fe_t rfl))) ?_
              refine tb_float (i := 4) rfl (by kernel_rfl) rfl (wants_none rfl) (yq_of (y_dec (fe_t rfl) fe_c (by omega))) ?_
              refine tb_float (i := 5) rfl (by kernel_rfl) rfl (wants_none rfl) (yq_of (y_move (fe_t rfl))) ?_
              refine tb_float (i := 6) rfl (by kernel_rfl) rfl (wants_none rfl) (yq_of (y_move (fe_t rfl))) ?_
              refine tb_float (i := 7) rfl (by kernel_rfl) rfl (wants_none rfl) (yq_of (y_dec (fe_t rfl) fe_c (by omega))) ?_
              refine tb_float (i := 8) rfl (by kernel_rfl) rfl (wants_none rfl) (yq_of (y_indexR Try.underlying27 Try.sizeOf3 (fe_t rfl) (fe_t rfl) (rch_w 0 rfl (by omega)) (by omega) (Nat.mul_one _))) ?_
              refine tb_float1 (i := 9) rfl (by kernel_rfl) (by kernel_rfl) rfl (wants_none rfl) (yq_of (y_ld (v := (.int .i64 ((gN l2 (j - 1) : Int)))) Try.isAgg3 (fe_t rfl) (rdl_vec 0 rfl) (getN (by omega)))) ?_
              refine tb_float (i := 10) rfl (by kernel_rfl) rfl (wants_none rfl) (yq_of (y_move (fe_t rfl))) ?_
              refine tb_float (i := 11) rfl (by kernel_rfl) rfl (wants_none rfl) (yq_of (y_move (fe_t rfl))) ?_
              refine tb_float (i := 12) rfl (by kernel_rfl) rfl (wants_none rfl) (yq_of (y_indexR Try.underlying27 Try.sizeOf3 (fe_t rfl) (fe_t rfl) (rch_w 0 rfl (by omega)) (by omega) (Nat.mul_one _))) ?_
              refine tb_float1 (i := 13) rfl (by kernel_rfl) (by kernel_rfl) rfl (wants_none rfl) (yq_of (y_ld (v := (.int .i64 ((gN l2 j : Int)))) Try.isAgg3 (fe_t rfl) (rdl_vec 0 rfl) (getN (by omega)))) ?_
              refine tb_float (i := 14) rfl (by kernel_rfl) rfl (wants_none rfl) (yq_of (y_indexR Try.underlying27 Try.sizeOf3 (fe_t rfl) (fe_t rfl) (rch_w 0 rfl (by omega)) (by omega) (Nat.mul_one _))) ?_
              refine tb_one2 (i := 15) rfl (by kernel_rfl) (by kernel_rfl) (wants_none rfl) (oj_storeE1 (i := 0) Try.sizeOf3 (fe_t rfl) (fe_t rfl) rfl rfl rfl (by omega) (⟨fun w h => (h.weak (i := 0) rfl).pick [0, 1, 2, 3] _ rfl (by decide), ?_⟩))
              refine tb_float (i := 16) rfl (by kernel_rfl) rfl (wants_none rfl) (yq_of (y_indexR Try.underlying27 Try.sizeOf3 (fe_t rfl) (fe_t rfl) (rch_w 0 rfl (by omega)) (by omega) (Nat.mul_one _))) ?_
              refine tb_one2 (i := 17) rfl (by kernel_rfl) (by kernel_rfl) (wants_none rfl) (oj_storeE1 (i := 0) Try.sizeOf3 (fe_t rfl) (fe_t rfl) rfl rfl rfl (by omega) (⟨fun w h => (h.weak (i := 0) rfl).pick [0, 1, 2, 3] _ rfl (by decide), ?_⟩))
              refine tb_done (by kernel_rfl) ?_
              refine tx_in ?_
              refine tx_then ?_
              refine tr_as (r' := vec 3 1 (.slice (some ⟨gd, 0, none⟩) n n) n (cN ((l2.set j (gN l2 (j - 1))).set (j - 1) (gN l2 j)))) 0 rfl (congrArg (vec _ _ _ _) (by rw [cN_set, cN_set])) ?_
              refine tr_region ?_
              refine tl_step rfl (oj_val (y_move (fe_t rfl)) ?_)
              refine tl_step rfl (oj_val (y_dec (fe_t rfl) fe_c (by omega)) ?_)
              refine tl_step rfl (oj_val (y_assign (fe_t rfl)) ?_)
              refine tl_nil ?_
              apply tx_back2 (j - 1) ((l2.set j (gN l2 (j - 1))).set (j - 1) (gN l2 j))
              · exact (cov_cons (by first | rfl | exact v_int (by omega) | exact v_bool (by simp [*])) (cov_nil))
              · repeat (first | exact over_nil | refine over_put rfl ?_ | refine over_drop rfl ?_)
              · exact fun w h => h
              · exact ⟨hin.step (by omega) (lt_if (by assumption)), by omega⟩
          · try (exfalso; omega)
            all_goals
              refine tr_exit ?_
              refine tx_then_exit ?_
              refine tx_then_exit ?_
              refine tx_in_exit ?_
              refine tx_in ?_
              refine tx_then ?_
              have hsr2 := hin.done (fun a b c ha hb hc h1 h2 => Lt.trans (hwb a (by omega)).1 (hwb b (by omega)).1 (hwb c (by omega)).1 h1 h2) (fun h0 => by first | (exfalso; omega) | exact lt_of (by assumption) (hin.prev h0))
              refine tr_region ?_
              refine tl_step rfl (oj_val (y_move (fe_t rfl)) ?_)
              refine tl_step rfl (oj_val (y_inc (fe_t rfl) fe_c (by omega)) ?_)
              refine tl_step rfl (oj_val (y_assign (fe_t rfl)) ?_)
              refine tl_nil ?_
              apply tx_back2 (i + 1) (l2)
              · exact (cov_cons (by first | rfl | exact v_int (by omega) | exact v_bool (by simp [*])) (cov_nil))
              · repeat (first | exact over_nil | refine over_put rfl ?_ | refine over_drop rfl ?_)
              · exact fun w h => h
              · exact ⟨⟨hsr2, by omega, by omega⟩, by omega⟩
      · try (exfalso; omega)
        all_goals
          refine tb_skip (i := 4) rfl (by kernel_rfl) rfl (wants_f rfl rfl rfl rfl) ?_
          refine tb_skip (i := 5) rfl (by kernel_rfl) rfl (wants_f rfl rfl rfl rfl) ?_
          refine tb_skip (i := 6) rfl (by kernel_rfl) rfl (wants_f rfl rfl rfl rfl) ?_
          refine tb_skip (i := 7) rfl (by kernel_rfl) rfl (wants_f rfl rfl rfl rfl) ?_
          refine tb_skip (i := 8) rfl (by kernel_rfl) rfl (wants_f rfl rfl rfl rfl) ?_
          refine tb_skip (i := 9) rfl (by kernel_rfl) rfl (wants_f rfl rfl rfl rfl) ?_
          refine tb_skip (i := 10) rfl (by kernel_rfl) rfl (wants_f rfl rfl rfl rfl) ?_
          refine tb_skip (i := 11) rfl (by kernel_rfl) rfl (wants_f rfl rfl rfl rfl) ?_
          refine tb_skip (i := 12) rfl (by kernel_rfl) rfl (wants_f rfl rfl rfl rfl) ?_
          refine tb_skip (i := 13) rfl (by kernel_rfl) rfl (wants_f rfl rfl rfl rfl) ?_
          refine tb_skip (i := 14) rfl (by kernel_rfl) rfl (wants_f rfl rfl rfl rfl) ?_
          refine tb_skip (i := 15) rfl (by kernel_rfl) rfl (wants_f rfl rfl rfl rfl) ?_
          refine tb_float (i := 16) rfl (by kernel_rfl) rfl (wants_none rfl) (yq_of (y_pickf (fe_t rfl) fe_c)) ?_
          refine tb_done (by kernel_rfl) ?_
          refine tx_then ?_
          refine tr_condf (fe_t rfl) ?_
          refine tr_exit ?_
          refine tx_then_exit ?_
          refine tx_then_exit ?_
          refine tx_in_exit ?_
          refine tx_in ?_
          refine tx_then ?_
          have hsr2 := hin.done (fun a b c ha hb hc h1 h2 => Lt.trans (hwb a (by omega)).1 (hwb b (by omega)).1 (hwb c (by omega)).1 h1 h2) (fun h0 => by first | (exfalso; omega) | exact lt_of (by assumption) (hin.prev h0))
          refine tr_region ?_
          refine tl_step rfl (oj_val (y_move (fe_t rfl)) ?_)
          refine tl_step rfl (oj_val (y_inc (fe_t rfl) fe_c (by omega)) ?_)
          refine tl_step rfl (oj_val (y_assign (fe_t rfl)) ?_)
          refine tl_nil ?_
          apply tx_back2 (i + 1) (l2)
          · exact (cov_cons (by first | rfl | exact v_int (by omega) | exact v_bool (by simp [*])) (cov_nil))
          · repeat (first | exact over_nil | refine over_put rfl ?_ | refine over_drop rfl ?_)
          · exact fun w h => h
          · exact ⟨⟨hsr2, by omega, by omega⟩, by omega⟩
  · try (exfalso; omega)
    all_goals
      refine tr_exit ?_
      refine tx_then_exit ?_
      refine tx_then_exit ?_
      refine tx_in_exit ?_
      refine tx_end (res0 Try.results133 ) (fun w' hS => ?_)
      have h1 := pickT (l := [_, _, _, _]) hS [0, 1, 2, 3] rfl (by decide)
      exact ⟨l1, hsr.fin (by omega) hin2, rfl, h1⟩

set_option maxRecDepth 100000 in
set_option maxHeartbeats 4000000 in
theorem stableE {w0 w : World} {T : List Res} {be bw gd n m d : Nat} {B : Option Addr} {ze : Vs} {es ws : List Int} (hS : St w0 w (vec 3 1 (.slice (some ⟨gd, 0, none⟩) n n) n (cN (List.range n)) :: blk be [.slice ze.A ze.n ze.c] :: blk bw [.slice B m d] :: vec 3 1 (.slice ze.A ze.n ze.c) ze.n ze.xs :: T)) (hw : Rd w0 B (ws.map (.int .i64))) (hwl : ws.length = n) (hmn : m = n) (hzn : ze.n = n) (hzx : ze.xs = cI es) (hel : es.length = n) (heb : ∀ k, k < n → 0 ≤ gI es k ∧ gI es k ≤ 16777216000) (hwb : ∀ k, k < n → 0 < gI ws k ∧ gI ws k ≤ 1000) (h16 : n ≤ 16) :
    Calls Try.prog 107 #[.slice (some ⟨gd, 0, none⟩) n n, (.int .i64 ((n : Int))), .func (.func 74) #[] #[P be, P bw]] w fun e w' => ∃ q : List Nat, Srt (Lt (gI es) (gI ws)) n n q ∧ e = .returned (.tuple #[]) ∧ St w0 w' (vec 3 1 (.slice (some ⟨gd, 0, none⟩) n n) n (cN q) :: blk be [.slice ze.A ze.n ze.c] :: blk bw [.slice B m d] :: vec 3 1 (.slice ze.A ze.n ze.c) ze.n ze.xs :: T) := by
  refine calls_tr Try.func107 Try.ntmps107 rfl rfl hS ?_
  refine tr_seq ?_
  refine tr_region ?_
  refine tl_step rfl (oj_val (y_assign fe_c) ?_)
  refine tl_nil ?_
  refine tx_then ?_
  refine tr_seq ?_
  refine tr_region ?_
  refine tl_step rfl (oj_val (y_move (fe_t rfl)) ?_)
  refine tl_step rfl (oj_val (y_assign fe_c) ?_)
  refine tl_step rfl (oj_val (y_assign (fe_t rfl)) ?_)
  refine tl_nil ?_
  refine tx_then ?_
  refine tr_seq ?_
  refine tr_block ?_
  refine tr_loop1 [7, 8, 11, 12, 13, 14, 15, 16, 17, 18, 19, 20, 21, 22] (fun (u : Nat) => [(7, (.int .i64 0)), (8, (.int .i64 20))]) 0 (fun (u : Nat) => []) (fun (u : Nat) => u = 0) (fun (u : Nat) => u) (0) (cov_cons (by first | rfl | exact v_int (by omega) | exact v_bool (by simp [*])) (cov_cons (by first | rfl | exact v_int (by omega) | exact v_bool (by simp [*])) (cov_nil))) (fun w h => h) ?_ ?_
  · try dsimp only
    all_goals rfl
  intro u hp
  refine tr_seq ?_
  refine tr_seq ?_
  refine tr_region ?_
  refine tl_step rfl (oj_val (y_move (fe_t rfl)) ?_)
  refine tl_step rfl (oj_val (y_move (fe_t rfl)) ?_)
  refine tl_step rfl (oj_val (y_leq (fe_t rfl) (fe_t rfl)) ?_)
  refine tl_nil ?_
  refine tx_then ?_
  refine tr_condp (fe_t rfl) (fun hq1 => ?_) (fun hq2 => ?_)
  · exfalso; omega
  · try (exfalso; omega)
    all_goals
      refine tr_exit ?_
      refine tx_then_exit ?_
      refine tx_then_exit ?_
      refine tx_in_exit ?_
      refine tx_then ?_
      refine tr_seq ?_
      refine tr_region ?_
      refine tl_step rfl (oj_val (y_move (fe_t rfl)) ?_)
      refine tl_step rfl (oj_val (y_move (fe_t rfl)) ?_)
      refine tl_step rfl (oj_val (y_move (fe_t rfl)) ?_)
      refine tl_step rfl (oj_val (y_move (fe_t rfl)) ?_)
      refine tl_step rfl (oj_call2 Try.call133 fe_f (fel_cons (fe_t rfl) (fel_cons (fe_t rfl) (fel_cons (fe_t rfl) (fel_cons (fe_t rfl) fel_nil)))) (fun w' hS => insertE (pickT (l := [_, _, _, _]) hS [0, 1, 2, 3] rfl (by decide)) hw hwl hmn hzn hzx hel heb hwb h16) (fun q hq => ?_))
      refine tl_nil ?_
      refine tx_then ?_
      refine tr_block ?_
      refine tr_loop1 [6, 7, 8, 9, 28, 29, 30, 31, 32, 33, 34, 35, 36, 37, 38, 39, 40, 41, 42, 43, 44, 45, 46, 47, 48, 49, 50, 51, 52, 53, 54, 55, 56, 57, 58, 59, 60, 61, 62] (fun (u2 : Nat) => [(6, (.int .i64 20))]) 0 (fun (u2 : Nat) => []) (fun (u2 : Nat) => u2 = 0) (fun (u2 : Nat) => u2) (0) (cov_cons (by first | rfl | exact v_int (by omega) | exact v_bool (by simp [*])) (cov_nil)) (fun w h => h) ?_ ?_
      · try dsimp only
        all_goals rfl
      intro u2 hp
      refine tr_seq ?_
      refine tr_seq ?_
      refine tr_region ?_
      refine tl_step rfl (oj_val (y_move (fe_t rfl)) ?_)
      refine tl_step rfl (oj_val (y_move (fe_t rfl)) ?_)
      refine tl_step rfl (oj_val (y_lss (fe_t rfl) (fe_t rfl)) ?_)
      refine tl_nil ?_
      refine tx_then ?_
      refine tr_condp (fe_t rfl) (fun hq3 => ?_) (fun hq4 => ?_)
      · exfalso; omega
      · try (exfalso; omega)
        all_goals
          refine tr_exit ?_
          refine tx_then_exit ?_
          refine tx_then_exit ?_
          refine tx_in_exit ?_
          refine tx_end (res0 Try.results107 ) (fun w' hS => ?_)
          have h1 := pickT (l := [_, _, _, _]) hS [0, 1, 2, 3] rfl (by decide)
          exact ⟨q, hq, rfl, h1⟩

set_option maxRecDepth 100000 in
set_option maxHeartbeats 4000000 in
theorem sortE {w0 w : World} {T : List Res} {be bw gd n m d : Nat} {B : Option Addr} {ze : Vs} {es ws : List Int} (hS : St w0 w (vec 3 1 (.slice (some ⟨gd, 0, none⟩) n n) n (cN (List.range n)) :: blk be [.slice ze.A ze.n ze.c] :: blk bw [.slice B m d] :: vec 3 1 (.slice ze.A ze.n ze.c) ze.n ze.xs :: T)) (hw : Rd w0 B (ws.map (.int .i64))) (hwl : ws.length = n) (hmn : m = n) (hzn : ze.n = n) (hzx : ze.xs = cI es) (hel : es.length = n) (heb : ∀ k, k < n → 0 ≤ gI es k ∧ gI es k ≤ 16777216000) (hwb : ∀ k, k < n → 0 < gI ws k ∧ gI ws k ≤ 1000) (h16 : n ≤ 16) :
    Calls Try.prog 73 #[.slice (some ⟨gd, 0, none⟩) n n, .func (.func 74) #[] #[P be, P bw]] w fun e w' => ∃ q : List Nat, Srt (Lt (gI es) (gI ws)) n n q ∧ e = .returned (.tuple #[]) ∧ St w0 w' (vec 3 1 (.slice (some ⟨gd, 0, none⟩) n n) n (cN q) :: blk be [.slice ze.A ze.n ze.c] :: blk bw [.slice B m d] :: vec 3 1 (.slice ze.A ze.n ze.c) ze.n ze.xs :: T) := by
  refine calls_tr Try.func73 Try.ntmps73 rfl rfl hS ?_
  refine tr_region ?_
  refine tl_step rfl (oj_val (y_move (fe_t rfl)) ?_)
  refine tl_step rfl (oj_val (y_move (fe_t rfl)) ?_)
  refine tl_step rfl (oj_val (y_len Try.underlying27 (fe_t rfl)) ?_)
  refine tl_step rfl (oj_val (y_move (fe_t rfl)) ?_)
  refine tl_step rfl (oj_call2 Try.call107 fe_f (fel_cons (fe_t rfl) (fel_cons (fe_t rfl) (fel_cons (fe_t rfl) fel_nil))) (fun w' hS => stableE (pickT (l := [_, _, _, _]) hS [0, 1, 2, 3] rfl (by decide)) hw hwl hmn hzn hzx hel heb hwb h16) (fun q hq => ?_))
  refine tl_nil ?_
  refine tx_end (res0 Try.results73 ) (fun w' hS => ?_)
  have h1 := pickT (l := [_, _, _, _]) hS [0, 1, 2, 3] rfl (by decide)
  exact ⟨q, hq, rfl, h1⟩

set_option maxRecDepth 100000 in
set_option maxHeartbeats 2000000 in
theorem order_bad (A B : Option Addr) (n m c d : Nat) (bs ws : List Int) (w : World) (hb : Rd w A (bs.map (.int .i64))) (hw : Rd w B (ws.map (.int .i64))) (hbl : bs.length = n) (hwl : ws.length = m) (hn : n ≤ 140737488355328) (hm : m ≤ 140737488355328) (hne : ¬ wr bs ws = 0) :
    Calls Try.prog 33 #[.slice A n c, .slice B m d] w fun e w' => e = .returned (.tuple #[.slice none 0 0, (.int .i64 (wr bs ws))]) ∧ St w w' [] := by
  refine calls_tr Try.func33 Try.ntmps33 rfl rfl (St.refl _) ?_
  refine tr_seq ?_
  refine tr_region ?_
  refine tl_step rfl (oj_box (fe_t rfl) (fun bw => ?_))
  refine tl_step rfl (oj_val (y_assign fe_c) ?_)
  refine tl_step rfl (oj_val (y_assign fe_c) ?_)
  refine tl_nil ?_
  refine tx_then ?_
  refine tr_seq ?_
  refine tr_region ?_
  refine tl_step rfl (oj_val (y_move (fe_t rfl)) ?_)
  refine tl_step rfl (oj_val (y_ldb 0 Try.isAgg27 (fe_t rfl) rfl rfl) ?_)
  refine tl_step rfl (oj_callv Try.call32 fe_f (fel_cons (fe_t rfl) (fel_cons (fe_t rfl) fel_nil)) (fun w' hS => end_bad A B n m c d bs ws w' (Rd.below hb hS.below) (Rd.below hw hS.below) hbl hwl hn hm hne) ?_)
  refine tl_step rfl (oj_val (y_move (fe_t rfl)) ?_)
  refine tl_step rfl (oj_val (y_extract (fe_t rfl) rfl) ?_)
  refine tl_step rfl (oj_val (y_extract (fe_t rfl) rfl) ?_)
  refine tl_step rfl (oj_alloc Try.zeroValue27 (fun be => ?_))
  refine tl_step rfl (oj_store1 0 Try.sizeOf27 (fe_t rfl) (fe_t rfl) rfl rfl rfl rfl (?_))
  refine tl_step rfl (oj_val (y_assign (fe_t rfl)) ?_)
  refine tl_nil ?_
  refine tx_then ?_
  refine tr_seq ?_
  refine tr_seq ?_
  refine tr_region ?_
  refine tl_step rfl (oj_val (y_move (fe_t rfl)) ?_)
  refine tl_step rfl (oj_val (y_neq (fe_t rfl) fe_c) ?_)
  refine tl_nil ?_
  refine tx_then ?_
  refine tr_condp (fe_t rfl) (fun hq1 => ?_) (fun hq2 => ?_)
  · try (exfalso; omega)
    all_goals
      refine tr_seq ?_
      refine tr_region ?_
      refine tl_step rfl (oj_val (y_move (fe_t rfl)) ?_)
      refine tl_step rfl (oj_val (y_assign fe_c) ?_)
      refine tl_step rfl (oj_val (y_assign (fe_t rfl)) ?_)
      refine tl_nil ?_
      refine tx_then ?_
      refine tr_ret ?_
      refine tx_then_ret ?_
      refine tx_ret (res2 Try.results33 (rok_t rfl) (rok_t rfl)) (fun w' hS => ?_)
      exact ⟨rfl, hS.pick [] _ rfl (by decide)⟩
  · exact absurd (by simpa using hq2) hne

set_option maxRecDepth 100000 in
set_option maxHeartbeats 4000000 in
theorem order_ok (A B : Option Addr) (n m c d : Nat) (bs ws : List Int) (w : World) (hb : Rd w A (bs.map (.int .i64))) (hw : Rd w B (ws.map (.int .i64))) (hbl : bs.length = n) (hwl : ws.length = m) (hn : n ≤ 140737488355328) (hm : m ≤ 140737488355328) (hz : wr bs ws = 0) :
    Calls Try.prog 33 #[.slice A n c, .slice B m d] w fun e w' => ∃ r : Nat × List Nat, Srt (Lt (gI (eL bs ws n n)) (gI ws)) n n r.2 ∧ e = .returned (.tuple #[.slice (some ⟨r.1, 0, none⟩) n n, (.int .i64 0)]) ∧ St w w' [vec 3 1 (.slice (some ⟨r.1, 0, none⟩) n n) n (cN r.2)] := by
  refine calls_tr Try.func33 Try.ntmps33 rfl rfl (St.refl _) ?_
  refine tr_seq ?_
  refine tr_region ?_
  refine tl_step rfl (oj_box (fe_t rfl) (fun bw => ?_))
  refine tl_step rfl (oj_val (y_assign fe_c) ?_)
  refine tl_step rfl (oj_val (y_assign fe_c) ?_)
  refine tl_nil ?_
  refine tx_then ?_
  refine tr_seq ?_
  refine tr_region ?_
  refine tl_step rfl (oj_val (y_move (fe_t rfl)) ?_)
  refine tl_step rfl (oj_val (y_ldb 0 Try.isAgg27 (fe_t rfl) rfl rfl) ?_)
  refine tl_step rfl (oj_call Try.call32 fe_f (fel_cons (fe_t rfl) (fel_cons (fe_t rfl) fel_nil)) (fun w' hS => end_ok A B n m c d bs ws w' (Rd.below hb hS.below) (Rd.below hw hS.below) hbl hwl hn hm hz) (fun r1 hr1 => ?_))
  refine tl_step rfl (oj_val (y_move (fe_t rfl)) ?_)
  refine tl_step rfl (oj_val (y_extract (fe_t rfl) rfl) ?_)
  refine tl_step rfl (oj_val (y_extract (fe_t rfl) rfl) ?_)
  refine tl_step rfl (oj_alloc Try.zeroValue27 (fun be => ?_))
  refine tl_step rfl (oj_store1 0 Try.sizeOf27 (fe_t rfl) (fe_t rfl) rfl rfl rfl rfl (?_))
  refine tl_step rfl (oj_val (y_assign (fe_t rfl)) ?_)
  refine tl_nil ?_
  refine tx_then ?_
  refine tr_seq ?_
  refine tr_seq ?_
  refine tr_region ?_
  refine tl_step rfl (oj_val (y_move (fe_t rfl)) ?_)
  refine tl_step rfl (oj_val (y_neq (fe_t rfl) fe_c) ?_)
  refine tl_nil ?_
  refine tx_then ?_
  refine tr_condp (fe_t rfl) (fun hq1 => ?_) (fun hq2 => ?_)
  · exfalso; omega
  · try (exfalso; omega)
    all_goals
      refine tr_skip ?_
      refine tx_then ?_
      refine tr_seq ?_
      have hrg := wr_rg hz
      rw [hbl] at hrg
      have hn16 := hrg.n16
      have hwl2 := hrg.wl
      refine tr_region ?_
      refine tl_step rfl (oj_val (y_move (fe_t rfl)) ?_)
      refine tl_step rfl (oj_val (y_len Try.underlying27 (fe_t rfl)) ?_)
      refine tl_step rfl (oj_make (z := (.int .i64 0)) (bytes := 8) Try.underlying27 (by kernel_rfl) (fe_t rfl) (fe_t rfl) rfl ⟨by omega, by decide⟩ (fun g => ?_))
      refine tl_step rfl (oj_val (y_assign (fe_t rfl)) ?_)
      refine tl_nil ?_
      refine tx_then ?_
      refine tr_seq ?_
      refine tr_seq ?_
      refine tr_region ?_
      refine tl_step rfl (oj_val (y_move (fe_t rfl)) ?_)
      refine tl_step rfl (oj_val (y_len Try.underlying27 (fe_t rfl)) ?_)
      refine tl_step rfl (oj_val (y_move fe_c) ?_)
      refine tl_nil ?_
      refine tx_then ?_
      refine tr_block ?_
      refine tr_loop2 [9, 24, 25, 26, 27, 28, 29, 30, 31] (fun (k : Nat) (xs : List Value) => [(24, .int .i64 (k : Int))]) 0 (fun (k : Nat) (xs : List Value) => [(0, vec 3 1 (.slice (some ⟨g, 0, none⟩) n n) n xs)]) (fun (k : Nat) (xs : List Value) => k ≤ n ∧ xs = fillN n k) (fun (k : Nat) (xs : List Value) => n - k) (0) (List.replicate n (.int .i64 0)) (cov_cons (by first | rfl | exact v_int (by omega) | exact v_bool (by simp [*])) (cov_nil)) (fun w h => h) ?_ ?_
      · try dsimp only
        exact ⟨by omega, fillN_zero⟩
      intro k xs hp
      obtain ⟨hk, hxs⟩ := hp
      have hxl : xs.length = n := by rw [hxs]; simp [fillN]
      refine tr_seq ?_
      refine tr_region ?_
      refine tl_step rfl (oj_val (y_lss (fe_t rfl) (fe_t rfl)) ?_)
      refine tl_nil ?_
      refine tx_then ?_
      refine tr_seq ?_
      refine tr_condp (fe_t rfl) (fun hq3 => ?_) (fun hq4 => ?_)
      · try (exfalso; omega)
        all_goals
          refine tr_skip ?_
          refine tx_then ?_
          refine tr_seq ?_
          refine tr_block ?_
          refine tr_seq ?_
          refine tr_region ?_
          refine tl_step rfl (oj_val (y_move (fe_t rfl)) ?_)
          refine tl_step rfl (oj_val (y_assign (fe_t rfl)) ?_)
          refine tl_nil ?_
          refine tx_then ?_
          refine tr_region ?_
          refine tl_step rfl (oj_val (y_move (fe_t rfl)) ?_)
          refine tl_step rfl (oj_val (y_move (fe_t rfl)) ?_)
          refine tl_step rfl (oj_val (y_move (fe_t rfl)) ?_)
          refine tl_step rfl (oj_val (y_index Try.underlying27 Try.sizeOf3 (fe_t rfl) (fe_t rfl) (rdl_vec 0 rfl) (by omega) (by decide) (by omega) (Nat.mul_one _)) ?_)
          refine tl_step rfl (oj_storeE1 (i := 0) Try.sizeOf3 (fe_t rfl) (fe_t rfl) rfl rfl rfl (by omega) (?_))
          refine tl_nil ?_
          refine tx_in ?_
          refine tx_then ?_
          refine tr_region ?_
          refine tl_step rfl (oj_val (y_inc (fe_t rfl) fe_c (by omega)) ?_)
          refine tl_step rfl (oj_val (y_move (fe_t rfl)) ?_)
          refine tl_nil ?_
          apply tx_back2 (k + 1) (_)
          · exact (cov_cons (by first | rfl | exact v_int (by omega) | exact v_bool (by simp [*])) (cov_nil))
          · repeat (first | exact over_nil | refine over_put rfl ?_ | refine over_drop rfl ?_)
          · exact fun w h => h.pick [0, 1, 2, 3] _ rfl (by decide)
          · exact ⟨⟨by omega, by rw [hxs]; exact fillN_set (by omega)⟩, by omega⟩
      · try (exfalso; omega)
        all_goals
          refine tr_exit ?_
          refine tx_then_exit ?_
          refine tx_then_exit ?_
          refine tx_in_exit ?_
          refine tx_then ?_
          refine tr_seq ?_
          have hkn : k = n := by omega
          refine tr_as (r' := vec 3 1 (.slice (some ⟨g, 0, none⟩) n n) n (cN (List.range n))) 0 rfl (congrArg (vec _ _ _ _) (by rw [hxs, hkn]; exact fillN_all)) ?_
          refine tr_region ?_
          refine tl_step rfl (oj_val (y_move (fe_t rfl)) ?_)
          refine tl_step rfl (oj_val (y_makeFunc (fel_cons (fe_t rfl) (fel_cons (fe_t rfl) fel_nil))) ?_)
          refine tl_step rfl (oj_call2 Try.call73 fe_f (fel_cons (fe_t rfl) (fel_cons (fe_t rfl) fel_nil)) (fun w' hS => sortE (hS.pick [0, 1, 3, 2] [_, _, _, _] rfl (by decide)) hw (by omega) (by omega) hr1.1 hr1.2 (by rw [eL_len]) (fun k hk => by rw [gI_eL hk]; exact eN_bd hrg (Nat.le_refl _) hk) (fun k hk => by have h9 := (hrg.ok k hk).2; omega) (by omega)) (fun q hq => ?_))
          refine tl_nil ?_
          refine tx_then ?_
          refine tr_seq ?_
          refine tr_region ?_
          refine tl_step rfl (oj_val (y_move (fe_t rfl)) ?_)
          refine tl_step rfl (oj_val (y_assign (fe_t rfl)) ?_)
          refine tl_step rfl (oj_val (y_assign fe_c) ?_)
          refine tl_nil ?_
          refine tx_then ?_
          refine tr_ret ?_
          refine tx_ret (res2 Try.results33 (rok_t rfl) (rok_t rfl)) (fun w' hS => ?_)
          exact ⟨(g, q), hq, rfl, hS.pick [0] _ rfl (by decide)⟩

end Go.Proofs.Ytpknjfeiiaopgaa.Gps
