/- Shares by weights, plain: the lists, the order, what is wrong. -/
import Derived.Test.YtpknjfeiiaopgaaShS
import Derived.Test.YtpknjfeiiaopgaaHvM
namespace Go.Proofs.Ytpknjfeiiaopgaa.Share
open Go.RowKit Go.Proofs.Ytpknjfeiiaopgaa.E

theorem getg {zs : List Int} {j : Nat} (h : j < zs.length) : (zs.map (Value.int .i64))[j]? = some (.int .i64 (gI zs j)) := by simp [gI, h]
def okA (ws ts : List Int) (i : Nat) : Prop := (0 ≤ gI ws i ∧ gI ws i ≤ 1048576) ∧ 1 ≤ gI ts i ∧ gI ts i ≤ 1000
def okW (ws ts : List Int) (i : Nat) : Prop := ∀ k, k < i → okA ws ts k
theorem okW_succ {ws ts : List Int} {i : Nat} : okW ws ts (i + 1) ↔ okW ws ts i ∧ okA ws ts i := by
  constructor
  · exact fun h => ⟨fun j hj => h j (by omega), h i (by omega)⟩
  · rintro ⟨h1, h2⟩ j hj
    by_cases e : j = i
    · subst e; exact h2
    · exact h1 j (by omega)
def Okl (all : Int) (ws ts : List Int) : Prop := (0 ≤ all ∧ all ≤ 1048576 ∧ ws.length ≤ 16) ∧ okW ws ts ws.length
theorem okw_not {all : Int} {ws ts : List Int} {i : Nat} (hi : i < ws.length) (h : ¬ okA ws ts i) : ¬ Okl all ws ts := fun h0 => h (h0.2 i hi)
open Classical in
noncomputable def lw (all : Int) (ws ts : List Int) : Int := if ws.length ≠ ts.length then 1 else if Okl all ws ts then 0 else 2
theorem lw_1 {all : Int} {ws ts : List Int} (h : ws.length ≠ ts.length) : lw all ws ts = 1 := by unfold lw; rw [if_pos h]
theorem lw_2 {all : Int} {ws ts : List Int} (h : ws.length = ts.length) (h' : ¬ Okl all ws ts) : lw all ws ts = 2 := by unfold lw; rw [if_neg (by omega), if_neg h']
theorem lw_0 {all : Int} {ws ts : List Int} (h : ws.length = ts.length) (h' : Okl all ws ts) : lw all ws ts = 0 := by unfold lw; rw [if_neg (by omega), if_pos h']
theorem lw_len {all : Int} {ws ts : List Int} (h : lw all ws ts = 0) : ws.length = ts.length := by
  by_cases e : ws.length = ts.length
  · exact e
  · rw [lw_1 e] at h; cases h
theorem lw_okl {all : Int} {ws ts : List Int} (h : lw all ws ts = 0) : Okl all ws ts := by
  by_cases e : Okl all ws ts
  · exact e
  · rw [lw_2 (lw_len h) e] at h; cases h
theorem lw_zero {all : Int} {ws ts : List Int} (h : lw all ws ts = 0) : (0 ≤ all ∧ all ≤ 1048576) ∧ ws.length ≤ 16 := by
  have := (lw_okl h).1; omega
theorem lw_rg {all : Int} {ws ts : List Int} {n : Nat} (h : lw all ws ts = 0) (hn : ws.length = n) : Rg (gI ws) (gI ts) n := by
  subst hn
  have := lw_okl h
  exact ⟨this.1.2.2, fun k hk => (this.2 k hk).1, fun k hk => (this.2 k hk).2⟩
theorem mul_bd {a b x y : Int} (ha : 0 ≤ a ∧ a ≤ x) (hb : 0 ≤ b ∧ b ≤ y) : 0 ≤ a * b ∧ a * b ≤ x * y := ⟨Int.mul_nonneg ha.1 hb.1, Int.mul_le_mul ha.2 hb.2 hb.1 (by omega)⟩
def fillV (n i : Nat) : List Value := (List.range n).map fun k => if k < i then (.int .i64 ((k : Int))) else (.int .i64 0)
theorem range_set {α : Type} {f g : Nat → α} {n i : Nat} {v : α} (hi : i < n) (hv : g i = v) (h : ∀ k, k < n → k ≠ i → g k = f k) : ((List.range n).map f).set i v = (List.range n).map g := by
  apply List.ext_getElem
  · simp
  · intro k h1 h2
    simp only [List.length_map, List.length_range] at h2
    rw [List.getElem_set]
    by_cases e : i = k
    · subst e; simp [hv]
    · rw [if_neg e]; simp [h k h2 (by omega)]
theorem fill_zero {n : Nat} : List.replicate n (.int .i64 0) = fillV n 0 := by
  apply List.ext_getElem
  · simp [fillV]
  · intro k h1 h2
    simp [fillV]
theorem fill_all {n : Nat} : fillV n n = oV (List.range n) := by
  unfold fillV oV
  exact List.map_congr_left fun k hk => by rw [if_pos (List.mem_range.1 hk)]
theorem fill_set {n i : Nat} (hi : i < n) : (fillV n i).set i (.int .i64 ((i : Int))) = fillV n (i + 1) := by
  refine range_set hi (by rw [if_pos (by omega)]) fun k hk hne => ?_
  by_cases e : k < i
  · rw [if_pos e, if_pos (by omega)]
  · rw [if_neg e, if_neg (by omega)]
theorem getO {o : List Nat} {i j : Nat} (hj : o.getD i 0 = j) (h : i < o.length) : (oV o)[i]? = some (.int .i64 ((j : Int))) := by
  rw [← hj]
  simp [oV, h]
section
variable {w t : Nat → Int} {n : Nat} {o : List Nat} {all : Int} {S : Nat → Bool} {i j : Nat}
theorem Ord.len (h : Ord w t n o) : o.length = n := by rw [h.1.length_eq, List.length_range]
theorem ord_at (h : Ord w t n o) (hi : i < n) (hj : o.getD i 0 = j) : ∃ hl : i < o.length, o[i] = j := by
  have hl : i < o.length := by rw [h.len]; exact hi
  exact ⟨hl, by rw [← hj]; simp [hl]⟩
theorem ord_lt (h : Ord w t n o) (hi : i < n) (hj : o.getD i 0 = j) : j < n := by
  obtain ⟨hl, he⟩ := ord_at h hi hj
  exact List.mem_range.1 (h.1.mem_iff.1 (he ▸ List.getElem_mem hl))
theorem ord_new (h : Ord w t n o) (hi : i < n) (hj : o.getD i 0 = j) (hS : ∀ k, S k = true ↔ k ∈ o.take i) : S j = false := by
  obtain ⟨hl, he⟩ := ord_at h hi hj
  cases e : S j with
  | false => rfl
  | true =>
    have h1 := (hS j).1 e
    obtain ⟨q, hq, hqe⟩ := List.mem_iff_getElem.1 h1
    have hq' : q < i := by have := hq; rw [List.length_take] at this; omega
    rw [List.getElem_take] at hqe
    have hnd : o.Nodup := h.1.nodup_iff.2 List.nodup_range
    exact absurd (hqe.trans he.symm) (List.pairwise_iff_getElem.1 hnd q i (by omega) hl hq')
theorem ord_all (h : Ord w t n o) (hi : n ≤ i) (hS : ∀ k, S k = true ↔ k ∈ o.take i) : ∀ k, k < n → S k = true := fun k hk => by
  rw [hS, List.take_of_length_le (by rw [h.len]; exact hi)]
  exact h.1.mem_iff.2 (List.mem_range.2 hk)
theorem up_take (h : Ord w t n o) (hi : i < n) (hj : o.getD i 0 = j) (hS : ∀ k, S k = true ↔ k ∈ o.take i) : ∀ k, up S j k = true ↔ k ∈ o.take (i + 1) := fun k => by
  obtain ⟨hl, he⟩ := ord_at h hi hj
  rw [List.take_succ_eq_append_getElem hl, he, List.mem_append, ← hS, up_iff]
  simp
theorem gd_stop (hr : Rg w t n) (h : Ord w t n o) (hi : i < n) (hj : o.getD i 0 = j) (hS : ∀ k, S k = true ↔ k ∈ o.take i) (h0 : 0 ≤ Lf all w n S) (h1 : ∀ k, k < n → S k = true → w k * Df t n S ≤ Lf all w n S * t k) (hlt : Lf all w n S * t j < w j * Df t n S) : Gd all w t n S := by
  refine ⟨h0, h1, fun k hk hf => ?_⟩
  have hjn := ord_lt h hi hj
  obtain ⟨q, hq, hqe⟩ := List.mem_iff_getElem.1 (h.1.mem_iff.2 (List.mem_range.2 hk))
  have hqi : i ≤ q := by
    rcases Nat.lt_or_ge q i with hlt' | hge
    · have : S k = true := (hS k).2 (List.mem_iff_getElem.2 ⟨q, by rw [List.length_take]; omega, by rw [List.getElem_take]; exact hqe⟩)
      rw [hf] at this; cases this
    · exact hge
  have hqn : q < n := by rw [← h.len]; exact hq
  have hgq : o.getD q 0 = k := by rw [← hqe]; simp [hq]
  by_cases e : q = i
  · subst e
    rw [hj] at hgq
    subst hgq
    exact hlt
  · have hs := h.2 i q (by omega) hqn
    rw [hj, hgq] at hs
    have tj := hr.t j hjn
    have tk := hr.t k hk
    have hd := D_nn hr (S := S)
    refine Int.lt_of_mul_lt_mul_right (a := t j) ?_ (by omega)
    calc Lf all w n S * t k * t j = Lf all w n S * t j * t k := mul_right3
      _ < w j * Df t n S * t k := Int.mul_lt_mul_of_pos_right hlt (by omega)
      _ = w j * t k * Df t n S := mul_right3
      _ ≤ w k * t j * Df t n S := Int.mul_le_mul_of_nonneg_right hs hd
      _ = w k * Df t n S * t j := mul_right3
theorem lev_pos (h : Df t n S ≠ 0) : lev all w t n S = (Lf all w n S, Df t n S) := by unfold lev; rw [if_neg h]
theorem lev_zero (h : Df t n S = 0) : lev all w t n S = (0, 0) := by unfold lev; rw [if_pos h]
theorem lev_bd (hr : Rg w t n) (g : Gd all w t n S) (ha : all ≤ 1048576) : (0 ≤ (lev all w t n S).1 ∧ (lev all w t n S).1 ≤ 1048576) ∧ 0 ≤ (lev all w t n S).2 ∧ (lev all w t n S).2 ≤ 16000 := by
  have h1 := L_le (all := all) (S := S) hr
  have h2 := D_le (S := S) hr
  have h3 := D_nn (S := S) hr
  have h4 := g.l0
  unfold lev
  split
  · simp
  · dsimp only; omega
end

end Go.Proofs.Ytpknjfeiiaopgaa.Share
