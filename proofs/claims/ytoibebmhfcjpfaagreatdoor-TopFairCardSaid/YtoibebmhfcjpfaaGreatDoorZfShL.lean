/- Shares by weights, plain: the lists, the order, what is wrong. -/
import Derived.Test.YtoibebmhfcjpfaaGreatDoorZfShS
import Derived.Test.YtoibebmhfcjpfaaGreatDoorZfHvM
import Derived.Test.YtoibebmhfcjpfaaGreatDoorZfEF
namespace Go.Proofs.YtoibebmhfcjpfaaGreatDoor.Share
open Go.RowKit Go.Proofs.YtoibebmhfcjpfaaGreatDoor.E

theorem getg {zs : List Int} {j : Nat} (h : j < zs.length) : (zs.map (Value.int .i64))[j]? = some (.int .i64 (gI zs j)) := by simp [gI, h]
def okA (ws ts : List Int) (i : Nat) : Prop := (0 ≤ gI ws i ∧ gI ws i ≤ 1048576) ∧ 1 ≤ gI ts i ∧ gI ts i ≤ 1000
def okW (ws ts : List Int) (i : Nat) : Prop := ∀ k, k < i → okA ws ts k
theorem okW_succ {ws ts : List Int} {i : Nat} : okW ws ts (i + 1) ↔ okW ws ts i ∧ okA ws ts i := by
  constructor
  · exact fun h => ⟨fun j hj => h j (by omega), h i (by omega)⟩
  · rintro ⟨h1, h2⟩ j hj
    by_cases e : j = i
    · subst e; exact h2
    · exact h1 j (by omega)
def Okl (all : Int) (ws ts : List Int) : Prop := (0 ≤ all ∧ all ≤ 1048576 ∧ ws.length ≤ 16) ∧ okW ws ts ws.length
theorem okw_not {all : Int} {ws ts : List Int} {i : Nat} (hi : i < ws.length) (h : ¬ okA ws ts i) : ¬ Okl all ws ts := fun h0 => h (h0.2 i hi)
open Classical in
noncomputable def lw (all : Int) (ws ts : List Int) : Int := if ws.length ≠ ts.length then 1 else if Okl all ws ts then 0 else 2
theorem lw_1 {all : Int} {ws ts : List Int} (h : ws.length ≠ ts.length) : lw all ws ts = 1 := by unfold lw; rw [if_pos h]
theorem lw_2 {all : Int} {ws ts : List Int} (h : ws.length = ts.length) (h' : ¬ Okl all ws ts) : lw all ws ts = 2 := by unfold lw; rw [if_neg (by omega), if_neg h']
theorem lw_0 {all : Int} {ws ts : List Int} (h : ws.length = ts.length) (h' : Okl all ws ts) : lw all ws ts = 0 := by unfold lw; rw [if_neg (by omega), if_pos h']
theorem lw_len {all : Int} {ws ts : List Int} (h : lw all ws ts = 0) : ws.length = ts.length := by
  by_cases e : ws.length = ts.length
  · exact e
  · rw [lw_1 e] at h; cases h
theorem lw_okl {all : Int} {ws ts : List Int} (h : lw all ws ts = 0) : Okl all ws ts := by
  by_cases e : Okl all ws ts
  · exact e
  · rw [lw_2 (lw_len h) e] at h; cases h
theorem lw_zero {all : Int} {ws ts : List Int} (h : lw all ws ts = 0) : (0 ≤ all ∧ all ≤ 1048576) ∧ ws.length ≤ 16 := by
  have := (lw_okl h).1; omega
theorem lw_rg {all : Int} {ws ts : List Int} {n : Nat} (h : lw all ws ts = 0) (hn : ws.length = n) : Rg (gI ws) (gI ts) n := by
  subst hn
  have := lw_okl h
  exact ⟨this.1.2.2, fun k hk => (this.2 k hk).1, fun k hk => (this.2 k hk).2⟩
theorem mul_bd {a b x y : Int} (ha : 0 ≤ a ∧ a ≤ x) (hb : 0 ≤ b ∧ b ≤ y) : 0 ≤ a * b ∧ a * b ≤ x * y := ⟨Int.mul_nonneg ha.1 hb.1, Int.mul_le_mul ha.2 hb.2 hb.1 (by omega)⟩
def fillV (n i : Nat) : List Value := (List.range n).map fun k => if k < i then (.int .i64 ((k : Int))) else (.int .i64 0)
theorem range_set {α : Type} {f g : Nat → α} {n i : Nat} {v : α} (hi : i < n) (hv : g i = v) (h : ∀ k, k < n → k ≠ i → g k = f k) : ((List.range n).map f).set i v = (List.range n).map g := by
  apply List.ext_getElem
  · simp
  · intro k h1 h2
    simp only [List.length_map, List.length_range] at h2
    rw [List.getElem_set]
    by_cases e : i = k
    · subst e; simp [hv]
    · rw [if_neg e]; simp [h k h2 (by omega)]
theorem fill_zero {n : Nat} : List.replicate n (.int .i64 0) = fillV n 0 := by
  apply List.ext_getElem
  · simp [fillV]
  · intro k h1 h2
    simp [fillV]
theorem fill_all {n : Nat} : fillV n n = oV (List.range n) := by
  unfold fillV oV
  exact List.map_congr_left fun k hk => by rw [if_pos (List.mem_range.1 hk)]
theorem fill_set {n i : Nat} (hi : i < n) : (fillV n i).set i (.int .i64 ((i : Int))) = fillV n (i + 1) := by
  refine range_set hi (by rw [if_pos (by omega)]) fun k hk hne => ?_
  by_cases e : k < i
  · rw [if_pos e, if_pos (by omega)]
  · rw [if_neg e, if_neg (by omega)]
theorem getO {o : List Nat} {i j : Nat} (hj : o.getD i 0 = j) (h : i < o.length) : (oV o)[i]? = some (.int .i64 ((j : Int))) := by
  rw [← hj]
  simp [oV, h]
section
variable {w t : Nat → Int} {n : Nat} {o : List Nat} {all : Int} {S : Nat → Bool} {i j : Nat}
theorem Ord.len (h : Ord w t n o) : o.length = n := by rw [h.1.length_eq, List.length_range]
theorem ord_at (h : Ord w t n o) (hi : i < n) (hj : o.getD i 0 = j) : ∃ hl : i < o.length, o[i] = j := by
  have hl : i < o.length := by rw [h.len]; exact hi
  exact ⟨hl, by rw [← hj]; simp [hl]⟩
theorem ord_lt (h : Ord w t n o) (hi : i < n) (hj : o.getD i 0 = j) : j < n := by
  obtain ⟨hl, he⟩ := ord_at h hi hj
  exact List.mem_range.1 (h.1.mem_iff.1 (he ▸ List.getElem_mem hl))
theorem ord_new (h : Ord w t n o) (hi : i < n) (hj : o.getD i 0 = j) (hS : ∀ k, S k = true ↔ k ∈ o.take i) : S j = false := by
  obtain ⟨hl, he⟩ := ord_at h hi hj
  cases e : S j with
  | false => rfl
  | true =>
    have h1 := (hS j).1 e
    obtain ⟨q, hq, hqe⟩ := List.mem_iff_getElem.1 h1
    have hq' : q < i := by have := hq; rw [List.length_take] at this; omega
    rw [List.getElem_take] at hqe
    have hnd : o.Nodup := h.1.nodup_iff.2 List.nodup_range
    exact absurd (hqe.trans he.symm) (List.pairwise_iff_getElem.1 hnd q i (by omega) hl hq')
theorem ord_all (h : Ord w t n o) (hi : n ≤ i) (hS : ∀ k, S k = true ↔ k ∈ o.take i) : ∀ k, k < n → S k = true := fun k hk => by
  rw [hS, List.take_of_length_le (by rw [h.len]; exact hi)]
  exact h.1.mem_iff.2 (List.mem_range.2 hk)
theorem up_take (h : Ord w t n o) (hi : i < n) (hj : o.getD i 0 = j) (hS : ∀ k, S k = true ↔ k ∈ o.take i) : ∀ k, up S j k = true ↔ k ∈ o.take (i + 1) := fun k => by
  obtain ⟨hl, he⟩ := ord_at h hi hj
  rw [List.take_succ_eq_append_getElem hl, he, List.mem_append, ← hS, up_iff]
  simp
theorem gd_stop (hr : Rg w t n) (h : Ord w t n o) (hi : i < n) (hj : o.getD i 0 = j) (hS : ∀ k, S k = true ↔ k ∈ o.take i) (h0 : 0 ≤ Lf all w n S) (h1 : ∀ k, k < n → S k = true → w k * Df t n S ≤ Lf all w n S * t k) (hlt : Lf all w n S * t j < w j * Df t n S) : Gd all w t n S := by
  refine ⟨h0, h1, fun k hk hf => ?_⟩
  have hjn := ord_lt h hi hj
  obtain ⟨q, hq, hqe⟩ := List.mem_iff_getElem.1 (h.1.mem_iff.2 (List.mem_range.2 hk))
  have hqi : i ≤ q := by
    rcases Nat.lt_or_ge q i with hlt' | hge
    · have : S k = true := (hS k).2 (List.mem_iff_getElem.2 ⟨q, by rw [List.length_take]; omega, by rw [List.getElem_take]; exact hqe⟩)
      rw [hf] at this; cases this
    · exact hge
  have hqn : q < n := by rw [← h.len]; exact hq
  have hgq : o.getD q 0 = k := by rw [← hqe]; simp [hq]
  by_cases e : q = i
  · subst e
    rw [hj] at hgq
    subst hgq
    exact hlt
  · have hs := h.2 i q (by omega) hqn
    rw [hj, hgq] at hs
    have tj := hr.t j hjn
    have tk := hr.t k hk
    have hd := D_nn hr (S := S)
    refine Int.lt_of_mul_lt_mul_right (a := t j) ?_ (by omega)
    calc Lf all w n S * t k * t j = Lf all w n S * t j * t k := mul_right3
      _ < w j * Df t n S * t k := Int.mul_lt_mul_of_pos_right hlt (by omega)
      _ = w j * t k * Df t n S := mul_right3
      _ ≤ w k * t j * Df t n S := Int.mul_le_mul_of_nonneg_right hs hd
      _ = w k * Df t n S * t j := mul_right3
theorem lev_pos (h : Df t n S ≠ 0) : lev all w t n S = (Lf all w n S, Df t n S) := by unfold lev; rw [if_neg h]
theorem lev_zero (h : Df t n S = 0) : lev all w t n S = (0, 0) := by unfold lev; rw [if_pos h]
theorem lev_bd (hr : Rg w t n) (g : Gd all w t n S) (ha : all ≤ 1048576) : (0 ≤ (lev all w t n S).1 ∧ (lev all w t n S).1 ≤ 1048576) ∧ 0 ≤ (lev all w t n S).2 ∧ (lev all w t n S).2 ≤ 16000 := by
  have h1 := L_le (all := all) (S := S) hr
  have h2 := D_le (S := S) hr
  have h3 := D_nn (S := S) hr
  have h4 := g.l0
  unfold lev
  split
  · simp
  · dsimp only; omega
end

end Go.Proofs.YtoibebmhfcjpfaaGreatDoor.Share

namespace Go.Proofs.YtoibebmhfcjpfaaGreatDoor.Share
open Go.RowKit Go.Proofs.YtoibebmhfcjpfaaGreatDoor.E

set_option maxRecDepth 100000 in
set_option maxHeartbeats 2000000 in
theorem wrongE (A B : Option Addr) (n m c d : Nat) (ws ts : List Int) (w : World) (hw : Rd w A (ws.map (.int .i64))) (ht : Rd w B (ts.map (.int .i64))) (hwl : ws.length = n) (htl : ts.length = m) (hn : n ≤ 140737488355328) (hm : m ≤ 140737488355328) {all : Int} :
    Calls Tryz.prog 22 #[(.int .i64 all), .slice A n c, .slice B m d] w fun e w' => e = .returned ((.int .i64 (lw all ws ts))) ∧ St w w' [] := by
  refine calls_tr Tryz.func22 Tryz.ntmps22 rfl rfl (St.refl _) ?_
  refine tr_seq ?_
  refine tr_region ?_
  refine tl_step rfl (oj_val (y_assign fe_c) ?_)
  refine tl_nil ?_
  refine tx_then ?_
  refine tr_seq ?_
  refine tr_block ?_
  refine tr_seq ?_
  refine tr_region ?_
  refine tl_step rfl (oj_val (y_move (fe_t rfl)) ?_)
  refine tl_step rfl (oj_val (y_len Tryz.underlying22 (fe_t rfl)) ?_)
  refine tl_step rfl (oj_val (y_move (fe_t rfl)) ?_)
  refine tl_step rfl (oj_val (y_len Tryz.underlying22 (fe_t rfl)) ?_)
  refine tl_step rfl (oj_val (y_neq (fe_t rfl) (fe_t rfl)) ?_)
  refine tl_step rfl (oj_val (y_assign (fe_t rfl)) ?_)
  refine tl_nil ?_
  refine tx_then ?_
  refine tr_condp (fe_t rfl) (fun hq1 => ?_) (fun hq2 => ?_)
  · try (exfalso; omega)
    all_goals
      refine tr_seq ?_
      refine tr_region ?_
      refine tl_step rfl (oj_val (y_assign fe_c) ?_)
      refine tl_nil ?_
      refine tx_then ?_
      refine tr_ret ?_
      refine tx_in_ret ?_
      refine tx_then_ret ?_
      refine tx_ret (res1 Tryz.results22 (rok_t rfl)) (fun w' hS => ?_)
      exact ⟨by rw [lw_1 (by omega)], hS.pick [] _ rfl (by decide)⟩
  · try (exfalso; omega)
    all_goals
      refine tr_seq ?_
      refine tr_region ?_
      refine tl_step rfl (oj_val (y_move (fe_t rfl)) ?_)
      refine tl_step rfl (oj_val (y_lss (fe_t rfl) fe_c) ?_)
      refine tl_step rfl (oj_val (y_move (fe_t rfl)) ?_)
      refine tl_splitp (d := 18) rfl (fun hq3 => ?_) (fun hq4 => ?_)
      · try (exfalso; omega)
        all_goals
          refine tl_skip rfl rfl rfl rfl ?_
          refine tl_skip rfl rfl rfl rfl ?_
          refine tl_step rfl (oj_val (y_pickt (fe_t rfl) fe_c) ?_)
          refine tl_step rfl (oj_val (y_move (fe_t rfl)) ?_)
          refine tl_skip rfl rfl rfl rfl ?_
          refine tl_skip rfl rfl rfl rfl ?_
          refine tl_skip rfl rfl rfl rfl ?_
          refine tl_step rfl (oj_val (y_pickt (fe_t rfl) fe_c) ?_)
          refine tl_step rfl (oj_val (y_assign (fe_t rfl)) ?_)
          refine tl_nil ?_
          refine tx_then ?_
          refine tr_condt (fe_t rfl) ?_
          refine tr_seq ?_
          refine tr_region ?_
          refine tl_step rfl (oj_val (y_assign fe_c) ?_)
          refine tl_nil ?_
          refine tx_then ?_
          refine tr_ret ?_
          refine tx_in_ret ?_
          refine tx_then_ret ?_
          refine tx_ret (res1 Tryz.results22 (rok_t rfl)) (fun w' hS => ?_)
          exact ⟨by rw [lw_2 (by omega) (fun h => by have h1 := h.1; omega)], hS.pick [] _ rfl (by decide)⟩
      · try (exfalso; omega)
        all_goals
          refine tl_want rfl rfl rfl (oj_val (y_move (fe_t rfl)) ?_)
          refine tl_want rfl rfl rfl (oj_val (y_gtr (fe_t rfl) fe_c) ?_)
          refine tl_step rfl (oj_val (y_pickf (fe_t rfl) (fe_t rfl)) ?_)
          refine tl_step rfl (oj_val (y_move (fe_t rfl)) ?_)
          refine tl_splitp (d := 22) rfl (fun hq5 => ?_) (fun hq6 => ?_)
          · try (exfalso; omega)
            all_goals
              refine tl_skip rfl rfl rfl rfl ?_
              refine tl_skip rfl rfl rfl rfl ?_
              refine tl_skip rfl rfl rfl rfl ?_
              refine tl_step rfl (oj_val (y_pickt (fe_t rfl) fe_c) ?_)
              refine tl_step rfl (oj_val (y_assign (fe_t rfl)) ?_)
              refine tl_nil ?_
              refine tx_then ?_
              refine tr_condt (fe_t rfl) ?_
              refine tr_seq ?_
              refine tr_region ?_
              refine tl_step rfl (oj_val (y_assign fe_c) ?_)
              refine tl_nil ?_
              refine tx_then ?_
              refine tr_ret ?_
              refine tx_in_ret ?_
              refine tx_then_ret ?_
              refine tx_ret (res1 Tryz.results22 (rok_t rfl)) (fun w' hS => ?_)
              exact ⟨by rw [lw_2 (by omega) (fun h => by have h1 := h.1; omega)], hS.pick [] _ rfl (by decide)⟩
          · try (exfalso; omega)
            all_goals
              refine tl_want rfl rfl rfl (oj_val (y_move (fe_t rfl)) ?_)
              refine tl_want rfl rfl rfl (oj_val (y_len Tryz.underlying22 (fe_t rfl)) ?_)
              refine tl_want rfl rfl rfl (oj_val (y_gtr (fe_t rfl) fe_c) ?_)
              refine tl_step rfl (oj_val (y_pickf (fe_t rfl) (fe_t rfl)) ?_)
              refine tl_step rfl (oj_val (y_assign (fe_t rfl)) ?_)
              refine tl_nil ?_
              refine tx_then ?_
              refine tr_condp (fe_t rfl) (fun hq7 => ?_) (fun hq8 => ?_)
              · try (exfalso; omega)
                all_goals
                  refine tr_seq ?_
                  refine tr_region ?_
                  refine tl_step rfl (oj_val (y_assign fe_c) ?_)
                  refine tl_nil ?_
                  refine tx_then ?_
                  refine tr_ret ?_
                  refine tx_in_ret ?_
                  refine tx_then_ret ?_
                  refine tx_ret (res1 Tryz.results22 (rok_t rfl)) (fun w' hS => ?_)
                  exact ⟨by rw [lw_2 (by omega) (fun h => by have h1 := h.1; omega)], hS.pick [] _ rfl (by decide)⟩
              · try (exfalso; omega)
                all_goals
                  refine tr_skip ?_
                  refine tx_in ?_
                  refine tx_then ?_
                  refine tr_seq ?_
                  refine tr_seq ?_
                  refine tr_region ?_
                  refine tl_step rfl (oj_val (y_move (fe_t rfl)) ?_)
                  refine tl_step rfl (oj_val (y_len Tryz.underlying22 (fe_t rfl)) ?_)
                  refine tl_step rfl (oj_val (y_move fe_c) ?_)
                  refine tl_nil ?_
                  refine tx_then ?_
                  refine tr_block ?_
                  refine tr_loop1 [6, 7, 8, 29, 30, 31, 32, 33, 34, 35, 36, 37, 38, 39, 40, 41, 42, 43, 44, 45, 46, 47, 48, 49, 50, 51, 52, 53, 54] (fun (i : Nat) => [(29, .int .i64 (i : Int))]) 0 (fun (i : Nat) => []) (fun (i : Nat) => i ≤ n ∧ okW ws ts i) (fun (i : Nat) => n - i) (0) (cov_cons (by first | rfl | exact v_int (by omega) | exact v_bool (by simp [*])) (cov_nil)) (fun w h => h) ?_ ?_
                  · try dsimp only
                    exact ⟨by omega, fun k h => by omega⟩
                  intro i hp
                  obtain ⟨hi, hok⟩ := hp
                  refine tr_seq ?_
                  refine tr_region ?_
                  refine tl_step rfl (oj_val (y_lss (fe_t rfl) (fe_t rfl)) ?_)
                  refine tl_nil ?_
                  refine tx_then ?_
                  refine tr_seq ?_
                  refine tr_condp (fe_t rfl) (fun hq9 => ?_) (fun hq10 => ?_)
                  · try (exfalso; omega)
                    all_goals
                      refine tr_skip ?_
                      refine tx_then ?_
                      refine tr_seq ?_
                      refine tr_block ?_
                      refine tr_seq ?_
                      refine tr_region ?_
                      refine tl_step rfl (oj_val (y_move (fe_t rfl)) ?_)
                      refine tl_step rfl (oj_val (y_index Tryz.underlying22 Tryz.sizeOf3 (fe_t rfl) (fe_t rfl) (rdl_out hw) (by simp; omega) (by decide) (by omega) (Nat.mul_one _)) ?_)
                      refine tl_step rfl (oj_val (y_ld Tryz.isAgg3 (fe_t rfl) (rdl_out hw) (getg (zs := ws) (by omega))) ?_)
                      refine tl_step rfl (oj_val (y_assign (fe_t rfl)) ?_)
                      refine tl_step rfl (oj_val (y_assign (fe_t rfl)) ?_)
                      refine tl_nil ?_
                      refine tx_then ?_
                      refine tr_seq ?_
                      refine tr_region ?_
                      refine tl_step rfl (oj_val (y_move (fe_t rfl)) ?_)
                      refine tl_step rfl (oj_val (y_lss (fe_t rfl) fe_c) ?_)
                      refine tl_step rfl (oj_val (y_move (fe_t rfl)) ?_)
                      refine tl_splitp (d := 36) rfl (fun hq11 => ?_) (fun hq12 => ?_)
                      · try (exfalso; omega)
                        all_goals
                          refine tl_skip rfl rfl rfl rfl ?_
                          refine tl_skip rfl rfl rfl rfl ?_
                          refine tl_step rfl (oj_val (y_pickt (fe_t rfl) fe_c) ?_)
                          refine tl_step rfl (oj_val (y_move (fe_t rfl)) ?_)
                          refine tl_skip rfl rfl rfl rfl ?_
                          refine tl_skip rfl rfl rfl rfl ?_
                          refine tl_skip rfl rfl rfl rfl ?_
                          refine tl_skip rfl rfl rfl rfl ?_
                          refine tl_skip rfl rfl rfl rfl ?_
                          refine tl_step rfl (oj_val (y_pickt (fe_t rfl) fe_c) ?_)
                          refine tl_step rfl (oj_val (y_move (fe_t rfl)) ?_)
                          refine tl_skip rfl rfl rfl rfl ?_
                          refine tl_skip rfl rfl rfl rfl ?_
                          refine tl_skip rfl rfl rfl rfl ?_
                          refine tl_skip rfl rfl rfl rfl ?_
                          refine tl_skip rfl rfl rfl rfl ?_
                          refine tl_step rfl (oj_val (y_pickt (fe_t rfl) fe_c) ?_)
                          refine tl_nil ?_
                          refine tx_then ?_
                          refine tr_condt (fe_t rfl) ?_
                          refine tr_seq ?_
                          refine tr_region ?_
                          refine tl_step rfl (oj_val (y_assign fe_c) ?_)
                          refine tl_nil ?_
                          refine tx_then ?_
                          refine tr_ret ?_
                          refine tx_in_ret ?_
                          refine tx_then_ret ?_
                          refine tx_then_ret ?_
                          refine tx_in_ret ?_
                          refine tx_then_ret ?_
                          refine tx_ret (res1 Tryz.results22 (rok_t rfl)) (fun w' hS => ?_)
                          exact ⟨by rw [lw_2 (by omega) (okw_not (i := i) (by omega) (fun h => by unfold okA at h; omega))], hS.pick [] _ rfl (by decide)⟩
                      · try (exfalso; omega)
                        all_goals
                          refine tl_want rfl rfl rfl (oj_val (y_move (fe_t rfl)) ?_)
                          refine tl_want rfl rfl rfl (oj_val (y_gtr (fe_t rfl) fe_c) ?_)
                          refine tl_step rfl (oj_val (y_pickf (fe_t rfl) (fe_t rfl)) ?_)
                          refine tl_step rfl (oj_val (y_move (fe_t rfl)) ?_)
                          refine tl_splitp (d := 40) rfl (fun hq13 => ?_) (fun hq14 => ?_)
                          · try (exfalso; omega)
                            all_goals
                              refine tl_skip rfl rfl rfl rfl ?_
                              refine tl_skip rfl rfl rfl rfl ?_
                              refine tl_skip rfl rfl rfl rfl ?_
                              refine tl_skip rfl rfl rfl rfl ?_
                              refine tl_skip rfl rfl rfl rfl ?_
                              refine tl_step rfl (oj_val (y_pickt (fe_t rfl) fe_c) ?_)
                              refine tl_step rfl (oj_val (y_move (fe_t rfl)) ?_)
                              refine tl_skip rfl rfl rfl rfl ?_
                              refine tl_skip rfl rfl rfl rfl ?_
                              refine tl_skip rfl rfl rfl rfl ?_
                              refine tl_skip rfl rfl rfl rfl ?_
                              refine tl_skip rfl rfl rfl rfl ?_
                              refine tl_step rfl (oj_val (y_pickt (fe_t rfl) fe_c) ?_)
                              refine tl_nil ?_
                              refine tx_then ?_
                              refine tr_condt (fe_t rfl) ?_
                              refine tr_seq ?_
                              refine tr_region ?_
                              refine tl_step rfl (oj_val (y_assign fe_c) ?_)
                              refine tl_nil ?_
                              refine tx_then ?_
                              refine tr_ret ?_
                              refine tx_in_ret ?_
                              refine tx_then_ret ?_
                              refine tx_then_ret ?_
                              refine tx_in_ret ?_
                              refine tx_then_ret ?_
                              refine tx_ret (res1 Tryz.results22 (rok_t rfl)) (fun w' hS => ?_)
                              exact ⟨by rw [lw_2 (by omega) (okw_not (i := i) (by omega) (fun h => by unfold okA at h; omega))], hS.pick [] _ rfl (by decide)⟩
                          · try (exfalso; omega)
                            all_goals
                              refine tl_want rfl rfl rfl (oj_val (y_move (fe_t rfl)) ?_)
                              refine tl_want rfl rfl rfl (oj_val (y_move (fe_t rfl)) ?_)
                              refine tl_want rfl rfl rfl (oj_val (y_index Tryz.underlying22 Tryz.sizeOf3 (fe_t rfl) (fe_t rfl) (rdl_out ht) (by simp; omega) (by decide) (by omega) (Nat.mul_one _)) ?_)
                              refine tl_want rfl rfl rfl (oj_val (y_ld Tryz.isAgg3 (fe_t rfl) (rdl_out ht) (getg (zs := ts) (by omega))) ?_)
                              refine tl_want rfl rfl rfl (oj_val (y_lss (fe_t rfl) fe_c) ?_)
                              refine tl_step rfl (oj_val (y_pickf (fe_t rfl) (fe_t rfl)) ?_)
                              refine tl_step rfl (oj_val (y_move (fe_t rfl)) ?_)
                              refine tl_splitp (d := 47) rfl (fun hq15 => ?_) (fun hq16 => ?_)
                              · try (exfalso; omega)
                                all_goals
                                  refine tl_skip rfl rfl rfl rfl ?_
                                  refine tl_skip rfl rfl rfl rfl ?_
                                  refine tl_skip rfl rfl rfl rfl ?_
                                  refine tl_skip rfl rfl rfl rfl ?_
                                  refine tl_skip rfl rfl rfl rfl ?_
                                  refine tl_step rfl (oj_val (y_pickt (fe_t rfl) fe_c) ?_)
                                  refine tl_nil ?_
                                  refine tx_then ?_
                                  refine tr_condt (fe_t rfl) ?_
                                  refine tr_seq ?_
                                  refine tr_region ?_
                                  refine tl_step rfl (oj_val (y_assign fe_c) ?_)
                                  refine tl_nil ?_
                                  refine tx_then ?_
                                  refine tr_ret ?_
                                  refine tx_in_ret ?_
                                  refine tx_then_ret ?_
                                  refine tx_then_ret ?_
                                  refine tx_in_ret ?_
                                  refine tx_then_ret ?_
                                  refine tx_ret (res1 Tryz.results22 (rok_t rfl)) (fun w' hS => ?_)
                                  exact ⟨by rw [lw_2 (by omega) (okw_not (i := i) (by omega) (fun h => by unfold okA at h; omega))], hS.pick [] _ rfl (by decide)⟩
                              · try (exfalso; omega)
                                all_goals
                                  refine tl_want rfl rfl rfl (oj_val (y_move (fe_t rfl)) ?_)
                                  refine tl_want rfl rfl rfl (oj_val (y_move (fe_t rfl)) ?_)
                                  refine tl_want rfl rfl rfl (oj_val (y_index Tryz.underlying22 Tryz.sizeOf3 (fe_t rfl) (fe_t rfl) (rdl_out ht) (by simp; omega) (by decide) (by omega) (Nat.mul_one _)) ?_)
                                  refine tl_want rfl rfl rfl (oj_val (y_ld Tryz.isAgg3 (fe_t rfl) (rdl_out ht) (getg (zs := ts) (by omega))) ?_)
                                  refine tl_want rfl rfl rfl (oj_val (y_gtr (fe_t rfl) fe_c) ?_)
                                  refine tl_step rfl (oj_val (y_pickf (fe_t rfl) (fe_t rfl)) ?_)
                                  refine tl_nil ?_
                                  refine tx_then ?_
                                  refine tr_condp (fe_t rfl) (fun hq17 => ?_) (fun hq18 => ?_)
                                  · try (exfalso; omega)
                                    all_goals
                                      refine tr_seq ?_
                                      refine tr_region ?_
                                      refine tl_step rfl (oj_val (y_assign fe_c) ?_)
                                      refine tl_nil ?_
                                      refine tx_then ?_
                                      refine tr_ret ?_
                                      refine tx_in_ret ?_
                                      refine tx_then_ret ?_
                                      refine tx_then_ret ?_
                                      refine tx_in_ret ?_
                                      refine tx_then_ret ?_
                                      refine tx_ret (res1 Tryz.results22 (rok_t rfl)) (fun w' hS => ?_)
                                      exact ⟨by rw [lw_2 (by omega) (okw_not (i := i) (by omega) (fun h => by unfold okA at h; omega))], hS.pick [] _ rfl (by decide)⟩
                                  · try (exfalso; omega)
                                    all_goals
                                      refine tr_skip ?_
                                      refine tx_in ?_
                                      refine tx_then ?_
                                      refine tr_region ?_
                                      refine tl_step rfl (oj_val (y_inc (fe_t rfl) fe_c (by omega)) ?_)
                                      refine tl_step rfl (oj_val (y_move (fe_t rfl)) ?_)
                                      refine tl_nil ?_
                                      apply tx_back1 (i + 1)
                                      · exact (cov_cons (by first | rfl | exact v_int (by omega) | exact v_bool (by simp [*])) (cov_nil))
                                      · repeat (first | exact over_nil | refine over_put rfl ?_ | refine over_drop rfl ?_)
                                      · exact fun w h => h.pick [] _ rfl (by decide)
                                      · exact ⟨⟨by omega, okW_succ.2 ⟨hok, by unfold okA; omega⟩⟩, by omega⟩
                  · try (exfalso; omega)
                    all_goals
                      refine tr_exit ?_
                      refine tx_then_exit ?_
                      refine tx_then_exit ?_
                      refine tx_in_exit ?_
                      refine tx_then ?_
                      refine tr_seq ?_
                      refine tr_region ?_
                      refine tl_step rfl (oj_val (y_assign fe_c) ?_)
                      refine tl_nil ?_
                      refine tx_then ?_
                      refine tr_ret ?_
                      refine tx_ret (res1 Tryz.results22 (rok_t rfl)) (fun w' hS => ?_)
                      exact ⟨by rw [lw_0 (by omega) ⟨by omega, by rw [show ws.length = i by omega]; exact hok⟩], hS.pick [] _ rfl (by decide)⟩

end Go.Proofs.YtoibebmhfcjpfaaGreatDoor.Share

namespace Go.Proofs.YtoibebmhfcjpfaaGreatDoor.Share
open Go.RowKit Go.Proofs.YtoibebmhfcjpfaaGreatDoor.E

set_option maxRecDepth 100000 in
set_option maxHeartbeats 4000000 in
theorem level_ok (A B : Option Addr) (n m c d : Nat) (ws ts : List Int) (w : World) (hw : Rd w A (ws.map (.int .i64))) (ht : Rd w B (ts.map (.int .i64))) (hwl : ws.length = n) (htl : ts.length = m) (hn : n ≤ 140737488355328) (hm : m ≤ 140737488355328) {all : Int} (hz : lw all ws ts = 0) :
    Calls Tryz.prog 14 #[(.int .i64 all), .slice A n c, .slice B m d] w fun e w' => ∃ S : Nat → Bool, Gd all (gI ws) (gI ts) n S ∧ e = .returned (.tuple #[.agg #[(.int .i64 ((lev all (gI ws) (gI ts) n S).1)), (.int .i64 ((lev all (gI ws) (gI ts) n S).2))], (.int .i64 0)]) ∧ St w w' [] := by
  refine calls_tr Tryz.func14 Tryz.ntmps14 rfl rfl (St.refl _) ?_
  refine tr_seq ?_
  refine tr_region ?_
  refine tl_step rfl (oj_box (fe_t rfl) (fun b4 => ?_))
  refine tl_step rfl (oj_box (fe_t rfl) (fun b5 => ?_))
  refine tl_step rfl (oj_alloc Tryz.zeroValue37 (fun fr => ?_))
  refine tl_step rfl (oj_val (y_assign fe_c) ?_)
  refine tl_nil ?_
  refine tx_then ?_
  refine tr_seq ?_
  refine tr_seq ?_
  refine tr_region ?_
  refine tl_step rfl (oj_val (y_move (fe_t rfl)) ?_)
  refine tl_step rfl (oj_val (y_ldb 2 Tryz.isAgg22 (fe_t rfl) rfl rfl) ?_)
  refine tl_step rfl (oj_val (y_ldb 1 Tryz.isAgg22 (fe_t rfl) rfl rfl) ?_)
  refine tl_step rfl (oj_callv Tryz.call22 fe_f (fel_cons (fe_t rfl) (fel_cons (fe_t rfl) (fel_cons (fe_t rfl) fel_nil))) (fun w' hS => wrongE A B n m c d ws ts w' (Rd.below hw hS.below) (Rd.below ht hS.below) hwl htl hn hm) ?_)
  refine tl_step rfl (oj_val (y_assign (fe_t rfl)) ?_)
  refine tl_nil ?_
  refine tx_then ?_
  refine tr_seq ?_
  refine tr_region ?_
  refine tl_step rfl (oj_val (y_move (fe_t rfl)) ?_)
  refine tl_step rfl (oj_val (y_neq (fe_t rfl) fe_c) ?_)
  refine tl_nil ?_
  refine tx_then ?_
  refine tr_condp (fe_t rfl) (fun hq1 => ?_) (fun hq2 => ?_)
  · exact absurd hz hq1
  · try (exfalso; omega)
    all_goals
      refine tr_skip ?_
      refine tx_then ?_
      refine tr_seq ?_
      have hlen := lw_len hz
      obtain rfl : n = m := by omega
      have hr := lw_rg hz (n := n) (by omega)
      have hn16 := hr.n16
      have hall := (lw_zero hz).1
      refine tr_region ?_
      refine tl_step rfl (oj_val (y_ldb 2 Tryz.isAgg22 (fe_t rfl) rfl rfl) ?_)
      refine tl_step rfl (oj_val (y_len Tryz.underlying22 (fe_t rfl)) ?_)
      refine tl_step rfl (oj_make (n := n) (z := (.int .i64 0)) (bytes := 8) Tryz.underlying22 (by kernel_rfl) (fe_t rfl) (fe_t rfl) rfl ⟨by omega, by decide⟩ (fun g1 => ?_))
      refine tl_step rfl (oj_val (y_assign (fe_t rfl)) ?_)
      refine tl_nil ?_
      refine tx_then ?_
      refine tr_seq ?_
      refine tr_region ?_
      refine tl_step rfl (oj_val (y_assign fe_c) ?_)
      refine tl_nil ?_
      refine tx_then ?_
      refine tr_seq ?_
      refine tr_seq ?_
      refine tr_region ?_
      refine tl_step rfl (oj_val (y_move (fe_t rfl)) ?_)
      refine tl_step rfl (oj_val (y_len Tryz.underlying22 (fe_t rfl)) ?_)
      refine tl_step rfl (oj_val (y_move fe_c) ?_)
      refine tl_nil ?_
      refine tx_then ?_
      refine tr_block ?_
      refine tr_loop3 [10, 11, 28, 29, 30, 31, 32, 33, 34, 35, 36, 37, 38, 39, 40, 41] (fun (i : Nat) (q : Int) (vx : List Value) => [(28, .int .i64 (i : Int)), (10, .int .i64 q)]) 0 (fun (i : Nat) (q : Int) (vx : List Value) => [(0, vec 3 1 (.slice (some ⟨g1, 0, none⟩) n n) n vx)]) (fun (i : Nat) (q : Int) (vx : List Value) => i ≤ n ∧ q = sm (gI ts) i ∧ vx = fillV n i) (fun (i : Nat) (q : Int) (vx : List Value) => n - i) (0) (0) (_) (cov_cons (by first | rfl | exact v_int (by omega) | exact v_bool (by simp [*])) (cov_cons (by first | rfl | exact v_int (by omega) | exact v_bool (by simp [*])) (cov_nil))) (fun w h => h) ?_ ?_
      · try dsimp only
        exact ⟨by omega, rfl, fill_zero⟩
      intro i q vx hp
      obtain ⟨hi, hq0, hvx⟩ := hp
      have hvl : vx.length = n := by rw [hvx]; simp [fillV]
      refine tr_seq ?_
      refine tr_region ?_
      refine tl_step rfl (oj_val (y_lss (fe_t rfl) (fe_t rfl)) ?_)
      refine tl_nil ?_
      refine tx_then ?_
      refine tr_seq ?_
      refine tr_condp (fe_t rfl) (fun hq3 => ?_) (fun hq4 => ?_)
      · try (exfalso; omega)
        all_goals
          refine tr_skip ?_
          refine tx_then ?_
          refine tr_seq ?_
          refine tr_block ?_
          refine tr_seq ?_
          refine tr_region ?_
          refine tl_step rfl (oj_val (y_move (fe_t rfl)) ?_)
          refine tl_step rfl (oj_val (y_assign (fe_t rfl)) ?_)
          refine tl_nil ?_
          refine tx_then ?_
          refine tr_seq ?_
          refine tr_region ?_
          refine tl_step rfl (oj_val (y_move (fe_t rfl)) ?_)
          refine tl_step rfl (oj_val (y_move (fe_t rfl)) ?_)
          refine tl_step rfl (oj_val (y_move (fe_t rfl)) ?_)
          refine tl_step rfl (oj_val (y_index Tryz.underlying22 Tryz.sizeOf3 (fe_t rfl) (fe_t rfl) (rdl_vec 0 rfl) (by first | (simp; done) | (simp [oV]; omega) | omega) (by decide) (by omega) (Nat.mul_one _)) ?_)
          refine tl_step rfl (oj_storeE1 (i := 0) Tryz.sizeOf3 (fe_t rfl) (fe_t rfl) rfl rfl rfl (by omega) (?_))
          refine tl_nil ?_
          refine tx_then ?_
          have hti := hr.t i (by omega)
          have hsb := sm_le (f := gI ts) (m := 1000) (n := i) (fun k hk => (hr.t k (by omega)).2)
          have hsn := sm_nn (f := gI ts) (n := i) (fun k hk => by have := hr.t k (by omega); omega)
          refine tr_region ?_
          refine tl_step rfl (oj_val (y_move (fe_t rfl)) ?_)
          refine tl_step rfl (oj_val (y_ldb 2 Tryz.isAgg22 (fe_t rfl) rfl rfl) ?_)
          refine tl_step rfl (oj_val (y_move (fe_t rfl)) ?_)
          refine tl_step rfl (oj_val (y_index Tryz.underlying22 Tryz.sizeOf3 (fe_t rfl) (fe_t rfl) (rdl_out ht) (by simp; omega) (by decide) (by omega) (Nat.mul_one _)) ?_)
          refine tl_step rfl (oj_val (y_ld Tryz.isAgg3 (fe_t rfl) (rdl_out ht) (getg (zs := ts) (by omega))) ?_)
          refine tl_step rfl (oj_val (y_add (fe_t rfl) (fe_t rfl) (by omega)) ?_)
          refine tl_step rfl (oj_val (y_assign (fe_t rfl)) ?_)
          refine tl_nil ?_
          refine tx_in ?_
          refine tx_then ?_
          refine tr_region ?_
          refine tl_step rfl (oj_val (y_inc (fe_t rfl) fe_c (by omega)) ?_)
          refine tl_step rfl (oj_val (y_move (fe_t rfl)) ?_)
          refine tl_nil ?_
          apply tx_back3 (i + 1) (_) (_)
          · exact (cov_cons (by first | rfl | exact v_int (by omega) | exact v_bool (by simp [*])) (cov_cons (by first | rfl | exact v_int (by omega) | exact v_bool (by simp [*])) (cov_nil)))
          · repeat (first | exact over_nil | refine over_put rfl ?_ | refine over_drop rfl ?_)
          · exact fun w h => h.pick [0, 1, 2, 3] _ rfl (by decide)
          · exact ⟨⟨by omega, by rw [hq0]; rfl, by rw [hvx]; exact fill_set (by omega)⟩, by omega⟩
      · try (exfalso; omega)
        all_goals
          refine tr_exit ?_
          refine tx_then_exit ?_
          refine tx_then_exit ?_
          refine tx_in_exit ?_
          refine tx_then ?_
          refine tr_seq ?_
          obtain rfl : n = i := by omega
          rw [fill_all] at hvx
          subst hvx
          refine tr_region ?_
          refine tl_step rfl (oj_val (y_move (fe_t rfl)) ?_)
          refine tl_step rfl (oj_val (y_makeFunc (fel_cons (fe_t rfl) (fel_cons (fe_t rfl) fel_nil))) ?_)
          refine tl_step rfl (oj_call2 Tryz.call23 fe_f (fel_cons (fe_t rfl) (fel_cons (fe_t rfl) fel_nil)) (fun w' hS => sortE hw ht hwl htl hr (hS.pick [0, 3, 2, 1] [_, _, _, _] rfl (by decide))) (fun o hO => ?_))
          refine tl_nil ?_
          refine tx_then ?_
          refine tr_seq ?_
          refine tr_region ?_
          refine tl_step rfl (oj_val (y_move (fe_t rfl)) ?_)
          refine tl_step rfl (oj_val (y_assign (fe_t rfl)) ?_)
          refine tl_nil ?_
          refine tx_then ?_
          refine tr_seq ?_
          refine tr_seq ?_
          refine tr_region ?_
          refine tl_step rfl (oj_val (y_move (fe_t rfl)) ?_)
          refine tl_step rfl (oj_val (y_len Tryz.underlying22 (fe_t rfl)) ?_)
          refine tl_step rfl (oj_val (y_move fe_c) ?_)
          refine tl_nil ?_
          refine tx_then ?_
          refine tr_block ?_
          refine tr_loop4 [7, 10, 12, 14, 48, 49, 50, 51, 52, 53, 54, 55, 56, 57, 58, 59, 60, 61, 62, 63, 64, 65, 66, 67, 68, 69, 70, 71, 72, 73, 74, 75, 76, 77, 78, 79, 80] (fun (i : Nat) (S : Nat → Bool) (lf : Int) (q : Int) => [(48, .int .i64 (i : Int)), (12, .int .i64 lf), (10, .int .i64 q)]) 0 (fun (i : Nat) (S : Nat → Bool) (lf : Int) (q : Int) => []) (fun (i : Nat) (S : Nat → Bool) (lf : Int) (q : Int) => i ≤ n ∧ (∀ k, S k = true ↔ k ∈ o.take i) ∧ lf = Lf all (gI ws) n S ∧ q = Df (gI ts) n S ∧ 0 ≤ Lf all (gI ws) n S ∧ ∀ k, k < n → S k = true → gI ws k * Df (gI ts) n S ≤ Lf all (gI ws) n S * gI ts k) (fun (i : Nat) (S : Nat → Bool) (lf : Int) (q : Int) => n - i) (0) (fun _ => false) (_) (_) (cov_cons (by first | rfl | exact v_int (by omega) | exact v_bool (by simp [*])) (cov_cons (by first | rfl | exact v_int (by omega) | exact v_bool (by simp [*])) (cov_cons (by first | rfl | exact v_int (by omega) | exact v_bool (by simp [*])) (cov_nil)))) (fun w h => h) ?_ ?_
          · try dsimp only
            exact ⟨by omega, fun k => by simp, by simp [Lf, sm_zero], by simp [Df]; exact hq0, by simp [Lf, sm_zero]; omega, fun k _ h => by simp at h⟩
          intro i S lf q hp
          obtain ⟨hi, hSt, hlf, hqd, h0, h1⟩ := hp
          have hol := hO.len
          have hol2 : (oV o).length = n := by rw [← hol]; simp [oV]
          have hLl := L_le (all := all) (S := S) hr
          have hDl := D_le (S := S) hr
          have hDn := D_nn (S := S) hr
          refine tr_seq ?_
          refine tr_region ?_
          refine tl_step rfl (oj_val (y_lss (fe_t rfl) (fe_t rfl)) ?_)
          refine tl_nil ?_
          refine tx_then ?_
          refine tr_seq ?_
          refine tr_condp (fe_t rfl) (fun hq5 => ?_) (fun hq6 => ?_)
          · try (exfalso; omega)
            all_goals
              refine tr_skip ?_
              refine tx_then ?_
              refine tr_seq ?_
              refine tr_block ?_
              refine tr_seq ?_
              obtain ⟨j, hj⟩ : ∃ j, o.getD i 0 = j := ⟨_, rfl⟩
              have hjn := ord_lt hO (by omega) hj
              have hjs := ord_new hO (by omega) hj hSt
              have hwj := hr.w j hjn
              have htj := hr.t j hjn
              have hdp := D_pos hr hjn hjs
              have hp1 := mul_bd (a := gI ws j) (b := q) hwj (show 0 ≤ q ∧ q ≤ 16000 by omega)
              have hp2 := mul_bd (a := lf) (b := gI ts j) (show 0 ≤ lf ∧ lf ≤ 1048576 by omega) (show 0 ≤ gI ts j ∧ gI ts j ≤ 1000 by omega)
              refine tr_region ?_
              refine tl_step rfl (oj_val (y_index Tryz.underlying22 Tryz.sizeOf3 (fe_t rfl) (fe_t rfl) (rdl_vec 0 rfl) (by first | (simp; done) | (simp [oV]; omega) | omega) (by decide) (by omega) (Nat.mul_one _)) ?_)
              refine tl_step rfl (oj_val (y_ld (v := (.int .i64 ((j : Int)))) Tryz.isAgg3 (fe_t rfl) (rdl_vec 0 rfl) (getO hj (by omega))) ?_)
              refine tl_step rfl (oj_val (y_assign (fe_t rfl)) ?_)
              refine tl_nil ?_
              refine tx_then ?_
              refine tr_seq ?_
              refine tr_seq ?_
              refine tb_draw 13 (sel _ [0, 1, 2, 3]) (fun w h => h.sel _ rfl (by decide)) rfl ?_
              refine tb_float (i := 0) rfl (by kernel_rfl) rfl (wants_none rfl) (yq_of (y_ldb 1 Tryz.isAgg22 (fe_t rfl) rfl rfl)) ?_
              refine tb_float (i := 1) rfl (by kernel_rfl) rfl (wants_none rfl) (yq_of (y_move (fe_t rfl))) ?_
              refine tb_float (i := 2) rfl (by kernel_rfl) rfl (wants_none rfl) (yq_of (y_index Tryz.underlying22 Tryz.sizeOf3 (fe_t rfl) (fe_t rfl) (rdl_out hw) (by simp; omega) (by decide) (by omega) (Nat.mul_one _))) ?_
              refine tb_float (i := 3) rfl (by kernel_rfl) rfl (wants_none rfl) (yq_of (y_ld Tryz.isAgg3 (fe_t rfl) (rdl_out hw) (getg (zs := ws) (by omega)))) ?_
              refine tb_float (i := 4) rfl (by kernel_rfl) rfl (wants_none rfl) (yq_of (y_move (fe_t rfl))) ?_
              refine tb_float (i := 5) rfl (by kernel_rfl) rfl (wants_none rfl) (yq_of (y_mul (fe_t rfl) (fe_t rfl) (by omega))) ?_
              refine tb_float (i := 6) rfl (by kernel_rfl) rfl (wants_none rfl) (yq_of (y_move (fe_t rfl))) ?_
              refine tb_float (i := 7) rfl (by kernel_rfl) rfl (wants_none rfl) (yq_of (y_ldb 2 Tryz.isAgg22 (fe_t rfl) rfl rfl)) ?_
              refine tb_float (i := 8) rfl (by kernel_rfl) rfl (wants_none rfl) (yq_of (y_move (fe_t rfl))) ?_
              refine tb_float (i := 9) rfl (by kernel_rfl) rfl (wants_none rfl) (yq_of (y_index Tryz.underlying22 Tryz.sizeOf3 (fe_t rfl) (fe_t rfl) (rdl_out ht) (by simp; omega) (by decide) (by omega) (Nat.mul_one _))) ?_
              refine tb_float (i := 10) rfl (by kernel_rfl) rfl (wants_none rfl) (yq_of (y_ld Tryz.isAgg3 (fe_t rfl) (rdl_out ht) (getg (zs := ts) (by omega)))) ?_
              refine tb_float (i := 11) rfl (by kernel_rfl) rfl (wants_none rfl) (yq_of (y_mul (fe_t rfl) (fe_t rfl) (by omega))) ?_
              refine tb_float (i := 12) rfl (by kernel_rfl) rfl (wants_none rfl) (yq_of (y_gtr (fe_t rfl) (fe_t rfl))) ?_
              refine tb_done (by kernel_rfl) ?_
              refine tx_then ?_
              refine tr_condp (fe_t rfl) (fun hq7 => ?_) (fun hq8 => ?_)
              · try (exfalso; omega)
                all_goals
                  refine tr_seq ?_
                  refine tr_region ?_
                  refine tl_step rfl (oj_val (y_move (fe_t rfl)) ?_)
                  refine tl_step rfl (oj_val (y_move (fe_t rfl)) ?_)
                  refine tl_step rfl (oj_val ((fun {u0 u1} hx hb => y_build (is := [0, 1]) (vs := [u0, u1]) (cs := [u0, u1]) rfl hx hb) (fel_cons (fe_t rfl) (fel_cons (fe_t rfl) fel_nil)) (by kernel_rfl)) ?_)
                  refine tl_step rfl (oj_storeW 3 Tryz.sizeOf37 (fe_t rfl) (fe_t rfl) rfl rfl rfl rfl rfl (?_))
                  refine tl_step rfl (oj_val (y_assign fe_c) ?_)
                  refine tl_nil ?_
                  refine tx_then ?_
                  refine tr_ret ?_
                  refine tx_then_ret ?_
                  refine tx_in_ret ?_
                  refine tx_then_ret ?_
                  refine tx_then_ret ?_
                  refine tx_in_ret ?_
                  refine tx_then_ret ?_
                  refine tx_ret (res2 Tryz.results14 (rok_b 3 Tryz.isAgg37 Tryz.sizeOf37 rfl rfl rfl) (rok_t rfl)) (fun w' hS => ?_)
                  have hgd := gd_stop hr hO (by omega) hj hSt h0 h1 (by rw [← hlf, ← hqd]; omega)
                  exact ⟨S, hgd, by rw [lev_pos (S := S) (by omega), ← hlf, ← hqd], hS.pick [] _ rfl (by decide)⟩
              · try (exfalso; omega)
                all_goals
                  refine tr_skip ?_
                  refine tx_then ?_
                  refine tr_seq ?_
                  refine tr_region ?_
                  refine tl_step rfl (oj_val (y_move (fe_t rfl)) ?_)
                  refine tl_step rfl (oj_val (y_ldb 1 Tryz.isAgg22 (fe_t rfl) rfl rfl) ?_)
                  refine tl_step rfl (oj_val (y_move (fe_t rfl)) ?_)
                  refine tl_step rfl (oj_val (y_index Tryz.underlying22 Tryz.sizeOf3 (fe_t rfl) (fe_t rfl) (rdl_out hw) (by simp; omega) (by decide) (by omega) (Nat.mul_one _)) ?_)
                  refine tl_step rfl (oj_val (y_ld Tryz.isAgg3 (fe_t rfl) (rdl_out hw) (getg (zs := ws) (by omega))) ?_)
                  refine tl_step rfl (oj_val (y_sub (fe_t rfl) (fe_t rfl) (by omega)) ?_)
                  refine tl_step rfl (oj_val (y_assign (fe_t rfl)) ?_)
                  refine tl_nil ?_
                  refine tx_then ?_
                  refine tr_region ?_
                  refine tl_step rfl (oj_val (y_move (fe_t rfl)) ?_)
                  refine tl_step rfl (oj_val (y_ldb 2 Tryz.isAgg22 (fe_t rfl) rfl rfl) ?_)
                  refine tl_step rfl (oj_val (y_move (fe_t rfl)) ?_)
                  refine tl_step rfl (oj_val (y_index Tryz.underlying22 Tryz.sizeOf3 (fe_t rfl) (fe_t rfl) (rdl_out ht) (by simp; omega) (by decide) (by omega) (Nat.mul_one _)) ?_)
                  refine tl_step rfl (oj_val (y_ld Tryz.isAgg3 (fe_t rfl) (rdl_out ht) (getg (zs := ts) (by omega))) ?_)
                  refine tl_step rfl (oj_val (y_sub (fe_t rfl) (fe_t rfl) (by omega)) ?_)
                  refine tl_step rfl (oj_val (y_assign (fe_t rfl)) ?_)
                  refine tl_nil ?_
                  refine tx_in ?_
                  refine tx_then ?_
                  refine tr_region ?_
                  refine tl_step rfl (oj_val (y_inc (fe_t rfl) fe_c (by omega)) ?_)
                  refine tl_step rfl (oj_val (y_move (fe_t rfl)) ?_)
                  refine tl_nil ?_
                  apply tx_back4 (i + 1) (up S j) (_) (_)
                  · exact (cov_cons (by first | rfl | exact v_int (by omega) | exact v_bool (by simp [*])) (cov_cons (by first | rfl | exact v_int (by omega) | exact v_bool (by simp [*])) (cov_cons (by first | rfl | exact v_int (by omega) | exact v_bool (by simp [*])) (cov_nil))))
                  · repeat (first | exact over_nil | refine over_put rfl ?_ | refine over_drop rfl ?_)
                  · exact fun w h => h.pick [0, 1, 2, 3] _ rfl (by decide)
                  · have hiu := inv_up hr hjn hjs h0 h1 (by rw [← hlf, ← hqd]; omega)
                    exact ⟨⟨by omega, up_take hO (by omega) hj hSt, by rw [L_up hjn hjs, hlf], by rw [D_up hjn hjs, hqd], hiu.1, hiu.2⟩, by omega⟩
          · try (exfalso; omega)
            all_goals
              refine tr_exit ?_
              refine tx_then_exit ?_
              refine tx_then_exit ?_
              refine tx_in_exit ?_
              refine tx_then ?_
              refine tr_seq ?_
              refine tr_region ?_
              refine tl_step rfl (oj_val (y_build (is := []) (vs := []) (cs := [.int .i64 0, .int .i64 0]) rfl fel_nil (by kernel_rfl)) ?_)
              refine tl_step rfl (oj_storeW 3 Tryz.sizeOf37 (fe_t rfl) (fe_t rfl) rfl rfl rfl rfl rfl (?_))
              refine tl_step rfl (oj_val (y_assign fe_c) ?_)
              refine tl_nil ?_
              refine tx_then ?_
              refine tr_ret ?_
              refine tx_ret (res2 Tryz.results14 (rok_b 3 Tryz.isAgg37 Tryz.sizeOf37 rfl rfl rfl) (rok_t rfl)) (fun w' hS => ?_)
              have hal := ord_all hO (show n ≤ i by omega) hSt
              exact ⟨S, ⟨h0, h1, fun k hk hf => by rw [hal k hk] at hf; cases hf⟩, by rw [lev_zero ((D_zero hr).2 hal)], hS.pick [] _ rfl (by decide)⟩

end Go.Proofs.YtoibebmhfcjpfaaGreatDoor.Share
