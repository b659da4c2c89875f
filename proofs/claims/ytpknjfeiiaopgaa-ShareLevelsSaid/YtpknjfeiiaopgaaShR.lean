/- the reference's LLevel. -/
import Derived.Test.YtpknjfeiiaopgaaShL
namespace Go.Proofs.Ytpknjfeiiaopgaa.Share
open Go.RowKit Go.Proofs.Ytpknjfeiiaopgaa.E

def shV (n : Nat) (S : Nat → Bool) : List Value := (List.range n).map fun k => .bool (!S k)
def fillB (n i : Nat) : List Value := (List.range n).map fun k => .bool (decide (k < i))
theorem fillB_zero {n : Nat} : List.replicate n (Value.bool false) = fillB n 0 := by
  apply List.ext_getElem
  · simp [fillB]
  · intro k h1 h2
    simp [fillB]
theorem fillB_all {n : Nat} : fillB n n = shV n (fun _ => false) := List.map_congr_left fun k hk => by
  have := List.mem_range.1 hk
  simp [this]
theorem fillB_set {n i : Nat} (hi : i < n) : (fillB n i).set i (.bool true) = fillB n (i + 1) := by
  refine range_set hi (by simp) fun k hk hne => ?_
  congr 1
  exact decide_eq_decide.2 (by omega)
theorem getSh {n i : Nat} {S : Nat → Bool} (hi : i < n) : (shV n S)[i]? = some (.bool (!S i)) := by simp [shV, hi]
theorem shV_set {n i : Nat} {S : Nat → Bool} (hi : i < n) : (shV n S).set i (.bool false) = shV n (up S i) := range_set hi (by simp [up]) fun k hk hne => by simp [up, hne]
theorem shV_congr {n : Nat} {S S' : Nat → Bool} (h : ∀ k, k < n → S k = S' k) : shV n S = shV n S' := List.map_congr_left fun k hk => by rw [h k (List.mem_range.1 hk)]
theorem shV_len {n : Nat} {S : Nat → Bool} : (shV n S).length = n := by simp [shV]
theorem L_nn {all : Int} {w t : Nat → Int} {n : Nat} {S Sg : Nat → Bool} (hr : Rg w t n) (g : Gd all w t n Sg) (h : ∀ k, k < n → S k = true → Sg k = true) : 0 ≤ Lf all w n S := by
  have h1 := L_sub (all := all) (w := w) h
  have h2 : 0 ≤ Ad w n S Sg := sm_nn fun k hk => by have := hr.w k hk; split <;> omega
  have := g.l0
  omega

set_option maxRecDepth 100000 in
set_option maxHeartbeats 4000000 in
theorem llevelE (A B : Option Addr) (n m c d : Nat) (ws ts : List Int) (w : World) (hw : Rd w A (ws.map (.int .i64))) (ht : Rd w B (ts.map (.int .i64))) (hwl : ws.length = n) (htl : ts.length = m) (hn : n ≤ 140737488355328) (hm : m ≤ 140737488355328) {all : Int} (hz : lw all ws ts = 0) {Sg : Nat → Bool} (hg : Gd all (gI ws) (gI ts) n Sg) :
    Calls Try.prog 44 #[(.int .i64 all), .slice A n c, .slice B m d] w fun e w' => ∃ r : Nat, True ∧ e = .returned (.tuple #[.agg #[(.int .i64 ((lev all (gI ws) (gI ts) n Sg).1)), (.int .i64 ((lev all (gI ws) (gI ts) n Sg).2))], .slice (some ⟨r, 0, none⟩) n n]) ∧ St w w' [vec 4 1 (.slice (some ⟨r, 0, none⟩) n n) n (shV n Sg)] := by
  have hlen := lw_len hz
  have hr := lw_rg hz (n := n) (by omega)
  have hn16 := hr.n16
  have hall := (lw_zero hz).1
  refine calls_tr Try.func44 Try.ntmps44 rfl rfl (St.refl _) ?_
  refine tr_seq ?_
  refine tr_region ?_
  refine tl_step rfl (oj_alloc Try.zeroValue76 (fun fr => ?_))
  refine tl_step rfl (oj_val (y_assign fe_c) ?_)
  refine tl_nil ?_
  refine tx_then ?_
  refine tr_seq ?_
  refine tr_region ?_
  refine tl_step rfl (oj_val (y_move (fe_t rfl)) ?_)
  refine tl_step rfl (oj_val (y_len Try.underlying27 (fe_t rfl)) ?_)
  refine tl_step rfl (oj_make (n := n) (z := (.bool false)) (bytes := 1) Try.underlying28 (by kernel_rfl) (fe_t rfl) (fe_t rfl) rfl ⟨by omega, by decide⟩ (fun g1 => ?_))
  refine tl_step rfl (oj_val (y_assign (fe_t rfl)) ?_)
  refine tl_nil ?_
  refine tx_then ?_
  refine tr_seq ?_
  refine tr_seq ?_
  refine tr_region ?_
  refine tl_step rfl (oj_val (y_move (fe_t rfl)) ?_)
  refine tl_step rfl (oj_val (y_len Try.underlying28 (fe_t rfl)) ?_)
  refine tl_step rfl (oj_val (y_move fe_c) ?_)
  refine tl_nil ?_
  refine tx_then ?_
  refine tr_block ?_
  refine tr_loop2 [9, 21, 22, 23, 24, 25, 26, 27] (fun (i : Nat) (vx : List Value) => [(21, .int .i64 (i : Int))]) 0 (fun (i : Nat) (vx : List Value) => [(0, vec 4 1 (.slice (some ⟨g1, 0, none⟩) n n) n vx)]) (fun (i : Nat) (vx : List Value) => i ≤ n ∧ vx = fillB n i) (fun (i : Nat) (vx : List Value) => n - i) (0) (_) (cov_cons (by first | rfl | exact v_int (by omega) | exact v_bool (by simp [*])) (cov_nil)) (fun w h => h) ?_ ?_
  · try dsimp only
    exact ⟨by omega, fillB_zero⟩
  intro i vx hp
  obtain ⟨hi, hvx⟩ := hp
  have hvl : vx.length = n := by rw [hvx]; simp [fillB]
  refine tr_seq ?_
  refine tr_region ?_
  refine tl_step rfl (oj_val (y_lss (fe_t rfl) (fe_t rfl)) ?_)
  refine tl_nil ?_
  refine tx_then ?_
  refine tr_seq ?_
  refine tr_condp (fe_t rfl) (fun hq1 => ?_) (fun hq2 => ?_)
  · try (exfalso; omega)
    all_goals
      refine tr_skip ?_
      refine tx_then ?_
      refine tr_seq ?_
      refine tr_block ?_
      refine tr_seq ?_
      refine tr_region ?_
      refine tl_step rfl (oj_val (y_move (fe_t rfl)) ?_)
      refine tl_step rfl (oj_val (y_assign (fe_t rfl)) ?_)
      refine tl_nil ?_
      refine tx_then ?_
      refine tr_region ?_
      refine tl_step rfl (oj_val (y_move (fe_t rfl)) ?_)
      refine tl_step rfl (oj_val (y_move (fe_t rfl)) ?_)
      refine tl_step rfl (oj_val (y_index Try.underlying28 Try.sizeOf4 (fe_t rfl) (fe_t rfl) (rdl_vec 0 rfl) (by first | (simp; done) | omega) (by decide) (by omega) (Nat.mul_one _)) ?_)
      refine tl_step rfl (oj_storeE1 (i := 0) Try.sizeOf4 (fe_t rfl) fe_c rfl rfl rfl (by omega) (?_))
      refine tl_nil ?_
      refine tx_in ?_
      refine tx_then ?_
      refine tr_region ?_
      refine tl_step rfl (oj_val (y_inc (fe_t rfl) fe_c (by omega)) ?_)
      refine tl_step rfl (oj_val (y_move (fe_t rfl)) ?_)
      refine tl_nil ?_
      apply tx_back2 (i + 1) (_)
      · exact (cov_cons (by first | rfl | exact v_int (by omega) | exact v_bool (by simp [*])) (cov_nil))
      · repeat (first | exact over_nil | refine over_put rfl ?_ | refine over_drop rfl ?_)
      · exact fun w h => h.pick [0, 1] _ rfl (by decide)
      · exact ⟨⟨by omega, by rw [hvx]; exact fillB_set (by omega)⟩, by omega⟩
  · try (exfalso; omega)
    all_goals
      refine tr_exit ?_
      refine tx_then_exit ?_
      refine tx_then_exit ?_
      refine tx_in_exit ?_
      refine tx_then ?_
      refine tr_block ?_
      refine tr_loop2 [7, 10, 11, 12, 13, 14, 15, 28, 29, 30, 31, 32, 33, 34, 35, 36, 37, 38, 39, 40, 41, 42, 43, 44, 45, 46, 47, 48, 49, 50, 51, 52, 53, 54, 55, 56, 57, 58, 59, 60, 61, 62, 63, 64, 65, 66, 67, 68, 69, 70, 71, 72, 73, 74, 75, 76, 77, 78, 79, 80, 81, 82, 83, 84, 85, 86, 87, 88, 89, 90, 91, 92] (fun (S : Nat → Bool) (vx : List Value) => []) 0 (fun (S : Nat → Bool) (vx : List Value) => [(0, vec 4 1 (.slice (some ⟨g1, 0, none⟩) n n) n vx)]) (fun (S : Nat → Bool) (vx : List Value) => vx = shV n S ∧ ∀ k, k < n → S k = true → Sg k = true) (fun (S : Nat → Bool) (vx : List Value) => (cnt n S).toNat) (fun _ => false) (_) (cov_nil) (fun w h => h) ?_ ?_
      · try dsimp only
        exact ⟨by rw [hvx, show i = n by omega]; exact fillB_all, fun k _ h => by simp at h⟩
      intro S vx hp
      obtain ⟨hvx, hsub⟩ := hp
      have hvl : vx.length = n := by rw [hvx]; exact shV_len
      have hcn := cnt_nn (n := n) (S := S)
      have hLn := L_nn hr hg hsub
      have hLl := L_le (all := all) (S := S) hr
      have hDl := D_le (S := S) hr
      have hDn := D_nn (S := S) hr
      refine tr_block ?_
      refine tr_seq ?_
      refine tr_region ?_
      refine tl_step rfl (oj_val (y_move (fe_t rfl)) ?_)
      refine tl_step rfl (oj_val ((fun {u0} hx hb => y_build (is := [0]) (vs := [u0]) (cs := [u0, .int .i64 0]) rfl hx hb) (fel_cons (fe_t rfl) fel_nil) (by kernel_rfl)) ?_)
      refine tl_step rfl (oj_alloc Try.zeroValue76 (fun lb => ?_))
      refine tl_step rfl (oj_storeW 0 Try.sizeOf76 (fe_t rfl) (fe_t rfl) rfl rfl rfl rfl rfl (?_))
      refine tl_nil ?_
      refine tx_then ?_
      refine tr_seq ?_
      refine tr_seq ?_
      refine tr_region ?_
      refine tl_step rfl (oj_val (y_move (fe_t rfl)) ?_)
      refine tl_step rfl (oj_val (y_len Try.underlying28 (fe_t rfl)) ?_)
      refine tl_step rfl (oj_val (y_move fe_c) ?_)
      refine tl_nil ?_
      refine tx_then ?_
      refine tr_block ?_
      refine tr_loop3 [11, 12, 32, 33, 34, 35, 36, 37, 38, 39, 40, 41, 42, 43, 44, 45, 46, 47, 48, 49, 50, 51, 52, 53, 54] (fun (i : Nat) (nu : Int) (de : Int) => [(32, .int .i64 (i : Int))]) 0 (fun (i : Nat) (nu : Int) (de : Int) => [(0, blk lb [(.int .i64 nu), (.int .i64 de)])]) (fun (i : Nat) (nu : Int) (de : Int) => i ≤ n ∧ nu = all - sm (fun k => if S k then gI ws k else 0) i ∧ de = sm (fun k => if S k then 0 else gI ts k) i) (fun (i : Nat) (nu : Int) (de : Int) => n - i) (0) (_) (_) (cov_cons (by first | rfl | exact v_int (by omega) | exact v_bool (by simp [*])) (cov_nil)) (fun w h => h) ?_ ?_
      · try dsimp only
        exact ⟨by omega, by simp [sm], by simp [sm]⟩
      intro i nu de hp
      obtain ⟨hi, hnu, hde⟩ := hp
      refine tr_seq ?_
      refine tr_region ?_
      refine tl_step rfl (oj_val (y_lss (fe_t rfl) (fe_t rfl)) ?_)
      refine tl_nil ?_
      refine tx_then ?_
      refine tr_seq ?_
      refine tr_condp (fe_t rfl) (fun hq3 => ?_) (fun hq4 => ?_)
      · try (exfalso; omega)
        all_goals
          refine tr_skip ?_
          refine tx_then ?_
          refine tr_seq ?_
          refine tr_block ?_
          refine tr_seq ?_
          have hs1n := sm_nn (f := fun k => if S k then gI ws k else 0) (n := i) (fun k hk => by have := hr.w k (by omega); split <;> omega)
          have hs1l := sm_le (f := fun k => if S k then gI ws k else 0) (m := 1048576) (n := i) (fun k hk => by have := hr.w k (by omega); split <;> omega)
          have hs2n := sm_nn (f := fun k => if S k then 0 else gI ts k) (n := i) (fun k hk => by have := hr.t k (by omega); split <;> omega)
          have hs2l := sm_le (f := fun k => if S k then 0 else gI ts k) (m := 1000) (n := i) (fun k hk => by have := hr.t k (by omega); split <;> omega)
          have hwi := hr.w i (by omega)
          have hti := hr.t i (by omega)
          refine tr_region ?_
          refine tl_step rfl (oj_val (y_move (fe_t rfl)) ?_)
          refine tl_step rfl (oj_val (y_index Try.underlying28 Try.sizeOf4 (fe_t rfl) (fe_t rfl) (rdl_vec 1 rfl) (by first | (simp; done) | omega) (by decide) (by omega) (Nat.mul_one _)) ?_)
          refine tl_step rfl (oj_val (y_ld (v := .bool (!S i)) Try.isAgg4 (fe_t rfl) (rdl_vec 1 rfl) (by rw [hvx]; exact getSh (by omega))) ?_)
          refine tl_step rfl (oj_val (y_assign (fe_t rfl)) ?_)
          refine tl_step rfl (oj_val (y_assign (fe_t rfl)) ?_)
          refine tl_nil ?_
          refine tx_then ?_
          refine tr_seq ?_
          refine tr_region ?_
          refine tl_step rfl (oj_val (y_move (fe_t rfl)) ?_)
          refine tl_nil ?_
          refine tx_then ?_
          refine tr_cond (fe_t rfl) (fun hq5 => ?_) (fun hq6 => ?_)
          · try (exfalso; omega)
            all_goals
              have hSb := hq5
              refine tb_draw 8 (sel _ [1, 2]) (fun w h => h.sel _ rfl (by decide)) rfl ?_
              refine tb_float (i := 0) rfl (by kernel_rfl) rfl (wants_none rfl) (yq_of (y_fieldAddr (td := 3) Try.underlying76 rfl rfl Try.sizeOf3 (o' := 1) rfl (fe_t rfl))) ?_
              refine tb_float1 (i := 1) rfl (by kernel_rfl) (by kernel_rfl) rfl (wants_none rfl) (yq_of (y_ldb 0 Try.isAgg3 (fe_t rfl) rfl rfl)) ?_
              refine tb_float (i := 2) rfl (by kernel_rfl) rfl (wants_none rfl) (yq_of (y_move (fe_t rfl))) ?_
              refine tb_float (i := 3) rfl (by kernel_rfl) rfl (wants_none rfl) (yq_of (y_move (fe_t rfl))) ?_
              refine tb_float (i := 4) rfl (by kernel_rfl) rfl (wants_none rfl) (yq_of (y_index Try.underlying27 Try.sizeOf3 (fe_t rfl) (fe_t rfl) (rdl_out ht) (by simp; omega) (by decide) (by omega) (Nat.mul_one _))) ?_
              refine tb_float (i := 5) rfl (by kernel_rfl) rfl (wants_none rfl) (yq_of (y_ld Try.isAgg3 (fe_t rfl) (rdl_out ht) (getg (zs := ts) (by omega)))) ?_
              refine tb_float (i := 6) rfl (by kernel_rfl) rfl (wants_none rfl) (yq_of (y_add (fe_t rfl) (fe_t rfl) (by omega))) ?_
              refine tb_float (i := 7) rfl (by kernel_rfl) rfl (wants_none rfl) (yq_of (y_fieldAddr (td := 3) Try.underlying76 rfl rfl Try.sizeOf3 (o' := 1) rfl (fe_t rfl))) ?_
              refine tb_one2 (i := 8) rfl (by kernel_rfl) (by kernel_rfl) (wants_none rfl) (oj_store1 0 Try.sizeOf3 (fe_t rfl) (fe_t rfl) rfl rfl rfl rfl (⟨fun w h => h.pick [1, 2] _ rfl (by decide), ?_⟩))
              refine tb_done (by kernel_rfl) ?_
              refine tx_in ?_
              refine tx_then ?_
              refine tr_region ?_
              refine tl_step rfl (oj_val (y_inc (fe_t rfl) fe_c (by omega)) ?_)
              refine tl_step rfl (oj_val (y_move (fe_t rfl)) ?_)
              refine tl_nil ?_
              apply tx_back3 (i + 1) (_) (_)
              · exact (cov_cons (by first | rfl | exact v_int (by omega) | exact v_bool (by simp [*])) (cov_nil))
              · repeat (first | exact over_nil | refine over_put rfl ?_ | refine over_drop rfl ?_)
              · exact fun w h => h.pick [0, 1, 2] _ rfl (by decide)
              · have hSi : S i = false := by simpa using hSb
                exact ⟨⟨by omega, by simp only [sm, hSi]; simp; omega, by simp only [sm, hSi]; simp; omega⟩, by omega⟩
          · try (exfalso; omega)
            all_goals
              have hSb := hq6
              refine tb_draw 8 (sel _ [1, 2]) (fun w h => h.sel _ rfl (by decide)) rfl ?_
              refine tb_float (i := 0) rfl (by kernel_rfl) rfl (wants_none rfl) (yq_of (y_fieldAddr (td := 3) Try.underlying76 rfl rfl Try.sizeOf3 (o' := 0) rfl (fe_t rfl))) ?_
              refine tb_float1 (i := 1) rfl (by kernel_rfl) (by kernel_rfl) rfl (wants_none rfl) (yq_of (y_ldb 0 Try.isAgg3 (fe_t rfl) rfl rfl)) ?_
              refine tb_float (i := 2) rfl (by kernel_rfl) rfl (wants_none rfl) (yq_of (y_move (fe_t rfl))) ?_
              refine tb_float (i := 3) rfl (by kernel_rfl) rfl (wants_none rfl) (yq_of (y_move (fe_t rfl))) ?_
              refine tb_float (i := 4) rfl (by kernel_rfl) rfl (wants_none rfl) (yq_of (y_index Try.underlying27 Try.sizeOf3 (fe_t rfl) (fe_t rfl) (rdl_out hw) (by simp; omega) (by decide) (by omega) (Nat.mul_one _))) ?_
              refine tb_float (i := 5) rfl (by kernel_rfl) rfl (wants_none rfl) (yq_of (y_ld Try.isAgg3 (fe_t rfl) (rdl_out hw) (getg (zs := ws) (by omega)))) ?_
              refine tb_float (i := 6) rfl (by kernel_rfl) rfl (wants_none rfl) (yq_of (y_sub (fe_t rfl) (fe_t rfl) (by omega))) ?_
              refine tb_float (i := 7) rfl (by kernel_rfl) rfl (wants_none rfl) (yq_of (y_fieldAddr (td := 3) Try.underlying76 rfl rfl Try.sizeOf3 (o' := 0) rfl (fe_t rfl))) ?_
              refine tb_one2 (i := 8) rfl (by kernel_rfl) (by kernel_rfl) (wants_none rfl) (oj_store1 0 Try.sizeOf3 (fe_t rfl) (fe_t rfl) rfl rfl rfl rfl (⟨fun w h => h.pick [1, 2] _ rfl (by decide), ?_⟩))
              refine tb_done (by kernel_rfl) ?_
              refine tx_in ?_
              refine tx_then ?_
              refine tr_region ?_
              refine tl_step rfl (oj_val (y_inc (fe_t rfl) fe_c (by omega)) ?_)
              refine tl_step rfl (oj_val (y_move (fe_t rfl)) ?_)
              refine tl_nil ?_
              apply tx_back3 (i + 1) (_) (_)
              · exact (cov_cons (by first | rfl | exact v_int (by omega) | exact v_bool (by simp [*])) (cov_nil))
              · repeat (first | exact over_nil | refine over_put rfl ?_ | refine over_drop rfl ?_)
              · exact fun w h => h.pick [0, 1, 2] _ rfl (by decide)
              · have hSi : S i = true := by simpa using hSb
                exact ⟨⟨by omega, by simp only [sm, hSi]; simp; omega, by simp only [sm, hSi]; simp; omega⟩, by omega⟩
      · try (exfalso; omega)
        all_goals
          refine tr_exit ?_
          refine tx_then_exit ?_
          refine tx_then_exit ?_
          refine tx_in_exit ?_
          refine tx_then ?_
          refine tr_seq ?_
          refine tr_seq ?_
          obtain rfl : n = i := by omega
          have hnL : nu = Lf all (gI ws) n S := hnu
          have hdD : de = Df (gI ts) n S := hde
          refine tr_region ?_
          refine tl_step rfl (oj_val (y_fieldAddr (td := 3) Try.underlying76 rfl rfl Try.sizeOf3 (o' := 1) rfl (fe_t rfl)) ?_)
          refine tl_step rfl (oj_val (y_ldb 0 Try.isAgg3 (fe_t rfl) rfl rfl) ?_)
          refine tl_step rfl (oj_val (y_eq (fe_t rfl) fe_c) ?_)
          refine tl_nil ?_
          refine tx_then ?_
          refine tr_condp (fe_t rfl) (fun hq7 => ?_) (fun hq8 => ?_)
          · try (exfalso; omega)
            all_goals
              refine tr_seq ?_
              refine tr_region ?_
              refine tl_step rfl (oj_val (y_build (is := []) (vs := []) (cs := [.int .i64 0, .int .i64 0]) rfl fel_nil (by kernel_rfl)) ?_)
              refine tl_step rfl (oj_val (y_move (fe_t rfl)) ?_)
              refine tl_step rfl (oj_storeW 2 Try.sizeOf76 (fe_t rfl) (fe_t rfl) rfl rfl rfl rfl rfl (?_))
              refine tl_step rfl (oj_val (y_assign (fe_t rfl)) ?_)
              refine tl_nil ?_
              refine tx_then ?_
              refine tr_ret ?_
              refine tx_then_ret ?_
              refine tx_in_ret ?_
              refine tx_then_ret ?_
              refine tx_in_ret ?_
              refine tx_ret (res2 Try.results44 (rok_b 2 Try.isAgg76 Try.sizeOf76 rfl rfl rfl) (rok_t rfl)) (fun w' hS => ?_)
              have hal := (D_zero (S := S) hr).1 (by omega)
              have heq : ∀ k, k < n → S k = Sg k := fun k hk => by rw [hal k hk, hsub k hk (hal k hk)]
              exact ⟨g1, trivial, by rw [lev_zero ((D_zero hr).2 fun k hk => by rw [← heq k hk]; exact hal k hk)], by rw [← shV_congr heq, ← hvx]; exact hS.pick [1] _ rfl (by decide)⟩
          · try (exfalso; omega)
            all_goals
              refine tr_skip ?_
              refine tx_then ?_
              refine tr_seq ?_
              refine tr_region ?_
              refine tl_step rfl (oj_val (y_assign fe_c) ?_)
              refine tl_nil ?_
              refine tx_then ?_
              refine tr_seq ?_
              refine tr_seq ?_
              refine tr_region ?_
              refine tl_step rfl (oj_val (y_move (fe_t rfl)) ?_)
              refine tl_step rfl (oj_val (y_len Try.underlying28 (fe_t rfl)) ?_)
              refine tl_step rfl (oj_val (y_move fe_c) ?_)
              refine tl_nil ?_
              refine tx_then ?_
              refine tr_block ?_
              refine tr_loop4 [13, 14, 15, 62, 63, 64, 65, 66, 67, 68, 69, 70, 71, 72, 73, 74, 75, 76, 77, 78, 79, 80, 81, 82, 83, 84, 85, 86, 87, 88] (fun (i : Nat) (S2 : Nat → Bool) (ag : Bool) (vy : List Value) => [(62, .int .i64 (i : Int)), (13, .bool ag)]) 0 (fun (i : Nat) (S2 : Nat → Bool) (ag : Bool) (vy : List Value) => [(1, vec 4 1 (.slice (some ⟨g1, 0, none⟩) n n) n vy)]) (fun (i : Nat) (S2 : Nat → Bool) (ag : Bool) (vy : List Value) => i ≤ n ∧ vy = shV n S2 ∧ (∀ k, k < n → S2 k = true → Sg k = true) ∧ (∀ k, i ≤ k → S2 k = S k) ∧ (ag = false → S2 = S ∧ ∀ k, k < i → S k = false → gI ts k * Lf all (gI ws) n S < gI ws k * Df (gI ts) n S) ∧ (ag = true → cnt n S2 < cnt n S) ∧ cnt n S2 ≤ cnt n S) (fun (i : Nat) (S2 : Nat → Bool) (ag : Bool) (vy : List Value) => n - i) (0) (S) (false) (_) (cov_cons (by first | rfl | exact v_int (by omega) | exact v_bool (by simp [*])) (cov_cons (by first | rfl | exact v_int (by omega) | exact v_bool (by simp [*])) (cov_nil))) (fun w h => h) ?_ ?_
              · try dsimp only
                exact ⟨by omega, hvx, hsub, fun _ _ => rfl, fun _ => ⟨rfl, fun k h => by omega⟩, fun h => absurd h (by decide), by omega⟩
              intro i S2 ag vy hp
              obtain ⟨hi2, hvy, hs2, hSo, hF, hT, hC⟩ := hp
              have hvl2 : vy.length = n := by rw [hvy]; exact shV_len
              refine tr_seq ?_
              refine tr_region ?_
              refine tl_step rfl (oj_val (y_lss (fe_t rfl) (fe_t rfl)) ?_)
              refine tl_nil ?_
              refine tx_then ?_
              refine tr_seq ?_
              refine tr_condp (fe_t rfl) (fun hq9 => ?_) (fun hq10 => ?_)
              · try (exfalso; omega)
                all_goals
                  refine tr_skip ?_
                  refine tx_then ?_
                  refine tr_seq ?_
                  refine tr_block ?_
                  refine tr_seq ?_
                  refine tr_region ?_
                  refine tl_step rfl (oj_val (y_move (fe_t rfl)) ?_)
                  refine tl_step rfl (oj_val (y_index Try.underlying28 Try.sizeOf4 (fe_t rfl) (fe_t rfl) (rdl_vec 1 rfl) (by first | (simp; done) | omega) (by decide) (by omega) (Nat.mul_one _)) ?_)
                  refine tl_step rfl (oj_val (y_ld (v := .bool (!S2 i)) Try.isAgg4 (fe_t rfl) (rdl_vec 1 rfl) (by rw [hvy]; exact getSh (by omega))) ?_)
                  refine tl_step rfl (oj_val (y_assign (fe_t rfl)) ?_)
                  refine tl_step rfl (oj_val (y_assign (fe_t rfl)) ?_)
                  refine tl_nil ?_
                  refine tx_then ?_
                  refine tr_seq ?_
                  have hwi := hr.w i (by omega)
                  have hti := hr.t i (by omega)
                  have hS2i := hSo i (Nat.le_refl _)
                  have hp1 := mul_bd (a := gI ws i) (b := de) hwi (show 0 ≤ de ∧ de ≤ 16000 by omega)
                  have hp2 := mul_bd (a := gI ts i) (b := nu) (show 0 ≤ gI ts i ∧ gI ts i ≤ 1000 by omega) (show 0 ≤ nu ∧ nu ≤ 1048576 by omega)
                  refine tb_draw 18 (sel _ [0, 1, 2]) (fun w h => h.sel _ rfl (by decide)) rfl ?_
                  refine tb_float (i := 0) rfl (by kernel_rfl) rfl (wants_none rfl) (yq_of (y_move (fe_t rfl))) ?_
                  refine tb_float (i := 1) rfl (by kernel_rfl) rfl (wants_none rfl) (yq_of (y_move (fe_t rfl))) ?_
                  refine tb_split (d := 68) rfl (fun hq11 => ?_) (fun hq12 => ?_)
                  · try (exfalso; omega)
                    all_goals
                      have hSi : S i = false := by rw [← hS2i]; simpa using hq11
                      refine tb_float (i := 2) rfl (by kernel_rfl) rfl (wants_t rfl rfl rfl) (yq_of (y_move (fe_t rfl))) ?_
                      refine tb_float (i := 3) rfl (by kernel_rfl) rfl (wants_t rfl rfl rfl) (yq_of (y_move (fe_t rfl))) ?_
                      refine tb_float (i := 4) rfl (by kernel_rfl) rfl (wants_t rfl rfl rfl) (yq_of (y_index Try.underlying27 Try.sizeOf3 (fe_t rfl) (fe_t rfl) (rdl_out hw) (by simp; omega) (by decide) (by omega) (Nat.mul_one _))) ?_
                      refine tb_float (i := 5) rfl (by kernel_rfl) rfl (wants_t rfl rfl rfl) (yq_of (y_ld Try.isAgg3 (fe_t rfl) (rdl_out hw) (getg (zs := ws) (by omega)))) ?_
                      refine tb_float (i := 6) rfl (by kernel_rfl) rfl (wants_t rfl rfl rfl) (yq_of (y_fieldAddr (td := 3) Try.underlying76 rfl rfl Try.sizeOf3 (o' := 1) rfl (fe_t rfl))) ?_
                      refine tb_float (i := 7) rfl (by kernel_rfl) rfl (wants_t rfl rfl rfl) (yq_of (y_ldb 0 Try.isAgg3 (fe_t rfl) rfl rfl)) ?_
                      refine tb_float (i := 8) rfl (by kernel_rfl) rfl (wants_t rfl rfl rfl) (yq_of (y_mul (fe_t rfl) (fe_t rfl) (by omega))) ?_
                      refine tb_float (i := 9) rfl (by kernel_rfl) rfl (wants_t rfl rfl rfl) (yq_of (y_move (fe_t rfl))) ?_
                      refine tb_float (i := 10) rfl (by kernel_rfl) rfl (wants_t rfl rfl rfl) (yq_of (y_move (fe_t rfl))) ?_
                      refine tb_float (i := 11) rfl (by kernel_rfl) rfl (wants_t rfl rfl rfl) (yq_of (y_index Try.underlying27 Try.sizeOf3 (fe_t rfl) (fe_t rfl) (rdl_out ht) (by simp; omega) (by decide) (by omega) (Nat.mul_one _))) ?_
                      refine tb_float (i := 12) rfl (by kernel_rfl) rfl (wants_t rfl rfl rfl) (yq_of (y_ld Try.isAgg3 (fe_t rfl) (rdl_out ht) (getg (zs := ts) (by omega)))) ?_
                      refine tb_float (i := 13) rfl (by kernel_rfl) rfl (wants_t rfl rfl rfl) (yq_of (y_fieldAddr (td := 3) Try.underlying76 rfl rfl Try.sizeOf3 (o' := 0) rfl (fe_t rfl))) ?_
                      refine tb_float (i := 14) rfl (by kernel_rfl) rfl (wants_t rfl rfl rfl) (yq_of (y_ldb 0 Try.isAgg3 (fe_t rfl) rfl rfl)) ?_
                      refine tb_float (i := 15) rfl (by kernel_rfl) rfl (wants_t rfl rfl rfl) (yq_of (y_mul (fe_t rfl) (fe_t rfl) (by omega))) ?_
                      refine tb_float (i := 16) rfl (by kernel_rfl) rfl (wants_t rfl rfl rfl) (yq_of (y_leq (fe_t rfl) (fe_t rfl))) ?_
                      refine tb_float (i := 17) rfl (by kernel_rfl) rfl (wants_none rfl) (yq_of (y_pickt (fe_t rfl) (fe_t rfl))) ?_
                      refine tb_done (by kernel_rfl) ?_
                      refine tx_then ?_
                      refine tr_condp (fe_t rfl) (fun hq13 => ?_) (fun hq14 => ?_)
                      · try (exfalso; omega)
                        all_goals
                          have hle : gI ws i * Df (gI ts) n S ≤ gI ts i * Lf all (gI ws) n S := by rw [← hdD, ← hnL]; omega
                          refine tr_region ?_
                          refine tl_step rfl (oj_val (y_move (fe_t rfl)) ?_)
                          refine tl_step rfl (oj_val (y_move (fe_t rfl)) ?_)
                          refine tl_step rfl (oj_val (y_index Try.underlying28 Try.sizeOf4 (fe_t rfl) (fe_t rfl) (rdl_vec 1 rfl) (by first | (simp; done) | omega) (by decide) (by omega) (Nat.mul_one _)) ?_)
                          refine tl_step rfl (oj_storeE1 (i := 1) Try.sizeOf4 (fe_t rfl) fe_c rfl rfl rfl (by omega) (?_))
                          refine tl_step rfl (oj_val (y_assign fe_c) ?_)
                          refine tl_nil ?_
                          refine tx_in ?_
                          refine tx_then ?_
                          refine tr_region ?_
                          refine tl_step rfl (oj_val (y_inc (fe_t rfl) fe_c (by omega)) ?_)
                          refine tl_step rfl (oj_val (y_move (fe_t rfl)) ?_)
                          refine tl_nil ?_
                          apply tx_back4 (i + 1) (up S2 i) (_) (_)
                          · exact (cov_cons (by first | rfl | exact v_int (by omega) | exact v_bool (by simp [*])) (cov_cons (by first | rfl | exact v_int (by omega) | exact v_bool (by simp [*])) (cov_nil)))
                          · repeat (first | exact over_nil | refine over_put rfl ?_ | refine over_drop rfl ?_)
                          · exact fun w h => h.pick [0, 1, 2] _ rfl (by decide)
                          · have hSg : Sg i = true := step_sub hr hg hsub (by omega) hSi hle
                            have hcu := cnt_up (n := n) (j := i) (S := S2) (by omega) (by rw [hSo i (Nat.le_refl _)]; exact hSi)
                            exact ⟨⟨by omega, by rw [hvy]; exact shV_set (by omega), up_sub hs2 hSg, fun k hk => by rw [up_ne (by omega)]; exact hSo k (by omega), fun h => absurd h (by decide), fun _ => by omega, by omega⟩, by omega⟩
                      · try (exfalso; omega)
                        all_goals
                          refine tr_skip ?_
                          refine tx_in ?_
                          refine tx_then ?_
                          refine tr_region ?_
                          refine tl_step rfl (oj_val (y_inc (fe_t rfl) fe_c (by omega)) ?_)
                          refine tl_step rfl (oj_val (y_move (fe_t rfl)) ?_)
                          refine tl_nil ?_
                          apply tx_back4 (i + 1) (S2) (_) (_)
                          · exact (cov_cons (by first | rfl | exact v_int (by omega) | exact v_bool (by simp [*])) (cov_cons (by first | rfl | exact v_int (by omega) | exact v_bool (by simp [*])) (cov_nil)))
                          · repeat (first | exact over_nil | refine over_put rfl ?_ | refine over_drop rfl ?_)
                          · exact fun w h => h.pick [0, 1, 2] _ rfl (by decide)
                          · refine ⟨⟨by omega, hvy, hs2, fun k hk => hSo k (by omega), fun h => ⟨(hF h).1, fun k hk hf => ?_⟩, hT, hC⟩, by omega⟩
                            by_cases e : k = i
                            · subst e
                              rw [← hdD, ← hnL]; omega
                            · exact (hF h).2 k (by omega) hf
                  · try (exfalso; omega)
                    all_goals
                      have hSi : S i = true := by rw [← hS2i]; simpa using hq12
                      refine tb_skip (i := 2) rfl (by kernel_rfl) rfl (wants_f rfl rfl rfl rfl) ?_
                      refine tb_skip (i := 3) rfl (by kernel_rfl) rfl (wants_f rfl rfl rfl rfl) ?_
                      refine tb_skip (i := 4) rfl (by kernel_rfl) rfl (wants_f rfl rfl rfl rfl) ?_
                      refine tb_skip (i := 5) rfl (by kernel_rfl) rfl (wants_f rfl rfl rfl rfl) ?_
                      refine tb_skip (i := 6) rfl (by kernel_rfl) rfl (wants_f rfl rfl rfl rfl) ?_
                      refine tb_skip (i := 7) rfl (by kernel_rfl) rfl (wants_f rfl rfl rfl rfl) ?_
                      refine tb_skip (i := 8) rfl (by kernel_rfl) rfl (wants_f rfl rfl rfl rfl) ?_
                      refine tb_skip (i := 9) rfl (by kernel_rfl) rfl (wants_f rfl rfl rfl rfl) ?_
                      refine tb_skip (i := 10) rfl (by kernel_rfl) rfl (wants_f rfl rfl rfl rfl) ?_
                      refine tb_skip (i := 11) rfl (by kernel_rfl) rfl (wants_f rfl rfl rfl rfl) ?_
                      refine tb_skip (i := 12) rfl (by kernel_rfl) rfl (wants_f rfl rfl rfl rfl) ?_
                      refine tb_skip (i := 13) rfl (by kernel_rfl) rfl (wants_f rfl rfl rfl rfl) ?_
                      refine tb_skip (i := 14) rfl (by kernel_rfl) rfl (wants_f rfl rfl rfl rfl) ?_
                      refine tb_skip (i := 15) rfl (by kernel_rfl) rfl (wants_f rfl rfl rfl rfl) ?_
                      refine tb_skip (i := 16) rfl (by kernel_rfl) rfl (wants_f rfl rfl rfl rfl) ?_
                      refine tb_float (i := 17) rfl (by kernel_rfl) rfl (wants_none rfl) (yq_of (y_pickf (fe_t rfl) fe_c)) ?_
                      refine tb_done (by kernel_rfl) ?_
                      refine tx_then ?_
                      refine tr_condf (fe_t rfl) ?_
                      refine tr_skip ?_
                      refine tx_in ?_
                      refine tx_then ?_
                      refine tr_region ?_
                      refine tl_step rfl (oj_val (y_inc (fe_t rfl) fe_c (by omega)) ?_)
                      refine tl_step rfl (oj_val (y_move (fe_t rfl)) ?_)
                      refine tl_nil ?_
                      apply tx_back4 (i + 1) (S2) (_) (_)
                      · exact (cov_cons (by first | rfl | exact v_int (by omega) | exact v_bool (by simp [*])) (cov_cons (by first | rfl | exact v_int (by omega) | exact v_bool (by simp [*])) (cov_nil)))
                      · repeat (first | exact over_nil | refine over_put rfl ?_ | refine over_drop rfl ?_)
                      · exact fun w h => h.pick [0, 1, 2] _ rfl (by decide)
                      · refine ⟨⟨by omega, hvy, hs2, fun k hk => hSo k (by omega), fun h => ⟨(hF h).1, fun k hk hf => ?_⟩, hT, hC⟩, by omega⟩
                        by_cases e : k = i
                        · subst e
                          exfalso
                          rw [hf] at hSi; cases hSi
                        · exact (hF h).2 k (by omega) hf
              · try (exfalso; omega)
                all_goals
                  refine tr_exit ?_
                  refine tx_then_exit ?_
                  refine tx_then_exit ?_
                  refine tx_in_exit ?_
                  refine tx_then ?_
                  refine tr_seq ?_
                  refine tr_region ?_
                  refine tl_step rfl (oj_val (y_move (fe_t rfl)) ?_)
                  refine tl_step rfl (oj_val (y_not (fe_t rfl)) ?_)
                  refine tl_nil ?_
                  refine tx_then ?_
                  refine tr_cond (fe_t rfl) (fun hq15 => ?_) (fun hq16 => ?_)
                  · try (exfalso; omega)
                    all_goals
                      have hag : ag = false := by simpa using hq15
                      refine tr_seq ?_
                      refine tr_region ?_
                      refine tl_step rfl (oj_val (y_ldbA 0 Try.isAgg76 Try.sizeOf76 (fe_t rfl) rfl rfl rfl) ?_)
                      refine tl_step rfl (oj_val (y_move (fe_t rfl)) ?_)
                      refine tl_step rfl (oj_storeW 2 Try.sizeOf76 (fe_t rfl) (fe_t rfl) rfl rfl rfl rfl rfl (?_))
                      refine tl_step rfl (oj_val (y_assign (fe_t rfl)) ?_)
                      refine tl_nil ?_
                      refine tx_then ?_
                      refine tr_ret ?_
                      refine tx_in_ret ?_
                      refine tx_then_ret ?_
                      refine tx_in_ret ?_
                      refine tx_ret (res2 Try.results44 (rok_b 2 Try.isAgg76 Try.sizeOf76 rfl rfl rfl) (rok_t rfl)) (fun w' hS => ?_)
                      obtain ⟨rfl, hcl⟩ := hF hag
                      have heq := closed_eq hr hg hsub fun k hk hf => hcl k (by omega) hf
                      exact ⟨g1, trivial, by rw [← lev_congr heq, lev_pos (by omega), ← hnL, ← hdD] <;> rfl, by rw [← shV_congr heq, ← hvy]; exact hS.pick [1] _ rfl (by decide)⟩
                  · try (exfalso; omega)
                    all_goals
                      have hag : ag = true := by simpa using hq16
                      refine tr_skip ?_
                      refine tx_in ?_
                      apply tx_back2 (S2) (_)
                      · exact (cov_nil)
                      · repeat (first | exact over_nil | refine over_put rfl ?_ | refine over_drop rfl ?_)
                      · exact fun w h => h.pick [1, 2] _ rfl (by decide)
                      · have h5 := hT hag
                        exact ⟨⟨hvy, hs2⟩, by have := cnt_nn (n := n) (S := S2); omega⟩

end Go.Proofs.Ytpknjfeiiaopgaa.Share
