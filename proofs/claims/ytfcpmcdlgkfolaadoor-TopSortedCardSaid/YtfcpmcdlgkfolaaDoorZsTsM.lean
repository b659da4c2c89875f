/- Done first side by side, and first by its key: one order; plain. -/
import Derived.Test.YtfcpmcdlgkfolaaDoorZsGpB
import Derived.Test.YtfcpmcdlgkfolaaDoorZsHpG
namespace Go.Proofs.YtfcpmcdlgkfolaaDoor.Sorted
open Go.RowKit Go.Proofs.YtfcpmcdlgkfolaaDoor.E Go.Proofs.YtfcpmcdlgkfolaaDoor.Gps Go.Proofs.YtfcpmcdlgkfolaaDoor.Heap

theorem sm_le {f g : Nat → Int} : ∀ {n : Nat}, (∀ i, i < n → f i ≤ g i) → sm f n ≤ sm g n
  | 0, _ => Int.le_refl _
  | n + 1, h => by
    have h1 := sm_le (n := n) (fun i hi => h i (by omega))
    have h2 := h n (by omega)
    simp only [sm]
    omega
theorem sm_lt {f g : Nat → Int} {c : Nat} : ∀ {n : Nat}, (∀ i, i < n → f i ≤ g i) → c < n → f c < g c → sm f n < sm g n
  | 0, _, h, _ => by omega
  | n + 1, h, hc, hlt => by
    simp only [sm]
    have h2 := h n (by omega)
    by_cases e : c = n
    · subst e
      have h1 := sm_le (n := c) (fun i hi => h i (by omega))
      omega
    · have h1 := sm_lt (n := n) (fun i hi => h i (by omega)) (by omega) hlt
      omega
theorem min_mul {a b c : Int} (hc : 0 ≤ c) : min a b * c = min (a * c) (b * c) := by
  rcases Int.le_total a b with h | h
  · rw [Int.min_eq_left h, Int.min_eq_left (Int.mul_le_mul_of_nonneg_right h hc)]
  · rw [Int.min_eq_right h, Int.min_eq_right (Int.mul_le_mul_of_nonneg_right h hc)]

section
variable {bs ws : List Int} {n : Nat}
/-- Bytes through weights, crosswise. -/
def x (bs ws : List Int) (a c : Nat) : Int := gI bs a * gI ws c
theorem e_mul (h : Rg n bs ws) {a c : Nat} (ha : a < n) (hc : c < n) : eN bs ws n a * gI ws c = sm (fun i => min (gI bs i * gI ws a * gI ws c) (x bs ws a c * gI ws i)) n := by
  have hw := (h.ok c hc).2
  unfold eN
  rw [Int.mul_comm, sm_mul]
  refine sm_congr fun i hi => ?_
  rw [Int.mul_comm, min_mul (by omega)]
  unfold x
  congr 1
  grind
theorem e_le (h : Rg n bs ws) {a c : Nat} (ha : a < n) (hc : c < n) (hx : x bs ws a c ≤ x bs ws c a) : eN bs ws n a * gI ws c ≤ eN bs ws n c * gI ws a := by
  rw [e_mul h ha hc, e_mul h hc ha]
  refine sm_le fun i hi => ?_
  have hw := (h.ok i hi).2
  have h1 := Int.mul_le_mul_of_nonneg_right hx (show 0 ≤ gI ws i by omega)
  have e : gI bs i * gI ws a * gI ws c = gI bs i * gI ws c * gI ws a := by grind
  rw [e]
  omega
theorem e_lt (h : Rg n bs ws) {a c : Nat} (ha : a < n) (hc : c < n) (hx : x bs ws a c < x bs ws c a) : eN bs ws n a * gI ws c < eN bs ws n c * gI ws a := by
  rw [e_mul h ha hc, e_mul h hc ha]
  refine sm_lt (c := c) (fun i hi => ?_) hc ?_
  · have hw := (h.ok i hi).2
    have h1 := Int.mul_le_mul_of_nonneg_right (Int.le_of_lt hx) (show 0 ≤ gI ws i by omega)
    have e : gI bs i * gI ws a * gI ws c = gI bs i * gI ws c * gI ws a := by grind
    rw [e]
    omega
  · have hw := (h.ok c hc).2
    have h1 := Int.mul_lt_mul_of_pos_right hx (show 0 < gI ws c by omega)
    have e : gI bs c * gI ws c * gI ws a = x bs ws c a * gI ws c := by unfold x; grind
    have e2 : gI bs c * gI ws a * gI ws c = x bs ws c a * gI ws c := by unfold x; grind
    rw [e, e2]
    omega
/-- The order of who is done first is that of bytes through weights. -/
theorem lt_x (h : Rg n bs ws) {a c : Nat} (ha : a < n) (hc : c < n) (hl : Lt (gI (eL bs ws n n)) (gI ws) a c) : x bs ws a c < x bs ws c a ∨ (x bs ws a c = x bs ws c a ∧ a < c) := by
  unfold Lt at hl
  rw [gI_eL ha, gI_eL hc] at hl
  rcases Int.lt_trichotomy (x bs ws a c) (x bs ws c a) with h1 | h1 | h1
  · exact .inl h1
  · have h2 := e_le h ha hc (by omega)
    have h3 := e_le h hc ha (by omega)
    exact .inr ⟨h1, by omega⟩
  · have h2 := e_lt h hc ha h1
    omega

/-! ### Keys -/
def key (bs ws : List Int) (k : Nat) : Int := gI bs k * (27720 / gI ws k)
theorem div_mul {w : Int} (h0 : 1 ≤ w) (h1 : w ≤ 12) : 27720 / w * w = 27720 := by
  rcases (show w = 1 ∨ w = 2 ∨ w = 3 ∨ w = 4 ∨ w = 5 ∨ w = 6 ∨ w = 7 ∨ w = 8 ∨ w = 9 ∨ w = 10 ∨ w = 11 ∨ w = 12 by omega) with rfl | rfl | rfl | rfl | rfl | rfl | rfl | rfl | rfl | rfl | rfl | rfl <;> decide
theorem key_x {a c : Nat} (ha : 1 ≤ gI ws a ∧ gI ws a ≤ 12) (hc : 1 ≤ gI ws c ∧ gI ws c ≤ 12) : (key bs ws a) * (gI ws a * gI ws c) = 27720 * x bs ws a c := by
  have h1 := div_mul ha.1 ha.2
  unfold key x
  have : gI bs a * (27720 / gI ws a) * (gI ws a * gI ws c) = gI bs a * (27720 / gI ws a * gI ws a) * gI ws c := by grind
  rw [this, h1]
  grind
theorem key_lt {a c : Nat} (ha : 1 ≤ gI ws a ∧ gI ws a ≤ 12) (hc : 1 ≤ gI ws c ∧ gI ws c ≤ 12) (hx : x bs ws a c < x bs ws c a ∨ (x bs ws a c = x bs ws c a ∧ a < c)) : key bs ws a < key bs ws c ∨ (key bs ws a = key bs ws c ∧ a < c) := by
  have h1 := key_x (bs := bs) ha hc
  have h2 := key_x (bs := bs) hc ha
  have e : gI ws c * gI ws a = gI ws a * gI ws c := Int.mul_comm _ _
  rw [e] at h2
  have hp : 0 < gI ws a * gI ws c := Int.mul_pos (by omega) (by omega)
  rcases hx with hx | ⟨hx, hac⟩
  · left
    have : key bs ws a * (gI ws a * gI ws c) < key bs ws c * (gI ws a * gI ws c) := by omega
    exact Int.lt_of_mul_lt_mul_right this (Int.le_of_lt hp)
  · right
    refine ⟨?_, hac⟩
    have : key bs ws a * (gI ws a * gI ws c) = key bs ws c * (gI ws a * gI ws c) := by omega
    exact Int.eq_of_mul_eq_mul_right (by omega) this
theorem key_bd {k : Nat} (hb : 0 ≤ gI bs k ∧ gI bs k ≤ 1048576) (hw : 1 ≤ gI ws k ∧ gI ws k ≤ 12) : 0 ≤ key bs ws k ∧ key bs ws k ≤ 29066526720 := by
  have h1 : 0 ≤ 27720 / gI ws k := Int.ediv_nonneg (by decide) (by omega)
  have h2 : 27720 / gI ws k ≤ 27720 := Int.ediv_le_self _ (by decide)
  exact mul_in hb.1 hb.2 h1 h2

/-! ### The table -/
def tb (bs ws : List Int) (l : List Nat) : Tb := fun i => if ∃ k ∈ l, (k : Int) = i then some (0, key bs ws i.toNat) else none
theorem dr_of (bs ws : List Int) : ∀ {l : List Nat}, l.Pairwise (fun a c => key bs ws a < key bs ws c ∨ (key bs ws a = key bs ws c ∧ a < c)) → Dr (tb bs ws l) (l.map fun (k : Nat) => (k : Int))
  | [], _ => .nil fun i => by simp [tb]
  | a :: l, h => by
    rw [List.pairwise_cons] at h
    refine .cons ⟨(0, key bs ws a), by simp [tb], fun i' k' hi hne => ?_⟩ ?_
    · unfold tb at hi
      split at hi
      · rename_i he
        obtain ⟨c, hc, rfl⟩ := he
        cases hi
        rcases List.mem_cons.1 hc with rfl | hc
        · exact absurd rfl hne
        · have := h.1 c hc
          have h9 : key bs ws a < key bs ws c ∨ (key bs ws a = key bs ws c ∧ (a : Int) < (c : Int)) := by
            rcases this with h | ⟨h, h2⟩
            · exact .inl h
            · exact .inr ⟨h, Int.ofNat_lt.2 h2⟩
          exact .inr ⟨rfl, h9⟩
      · cases hi
    · have e : upd (tb bs ws (a :: l)) (a : Int) none = tb bs ws l := by
        funext i
        unfold upd tb
        by_cases hi : i = (a : Int)
        · subst hi
          rw [if_pos rfl, if_neg]
          rintro ⟨c, hc, he⟩
          have h1 := h.1 c hc
          have hca : c = a := Int.ofNat_inj.1 he
          rw [hca] at h1
          omega
        · rw [if_neg hi]
          have : (∃ k ∈ a :: l, (k : Int) = i) ↔ ∃ k ∈ l, (k : Int) = i := by
            constructor
            · rintro ⟨c, hc, rfl⟩
              rcases List.mem_cons.1 hc with rfl | hc
              · exact absurd rfl hi
              · exact ⟨c, hc, rfl⟩
            · rintro ⟨c, hc, rfl⟩
              exact ⟨c, List.mem_cons_of_mem _ hc, rfl⟩
          simp only [this]
      rw [e]
      exact dr_of bs ws h.2

/-- What is pushed. -/
def push (bs ws : List Int) (k : Nat) : Op4 := ⟨1, k, 0, key bs ws k⟩
def pushes (bs ws : List Int) (n : Nat) : List Op4 := (List.range n).map (push bs ws)
theorem pushes_succ (k : Nat) : pushes bs ws (k + 1) = pushes bs ws k ++ [push bs ws k] := by simp [pushes, List.range_succ]
theorem run_pushes : ∀ k : Nat, (run (pushes bs ws k)).f = tb bs ws (List.range k)
  | 0 => by
    funext i
    simp [run, pushes, tb]
  | k + 1 => by
    have ih := run_pushes k
    have e : run (pushes bs ws (k + 1)) = go (run (pushes bs ws k)) (push bs ws k) := by
      rw [pushes_succ]
      unfold run
      rw [List.foldl_append]
      rfl
    rw [e]
    have hn : (run (pushes bs ws k)).f k = none := by
      rw [ih]
      unfold tb
      rw [if_neg]
      rintro ⟨c, hc, he⟩
      have := List.mem_range.1 hc
      omega
    have herr : err (run (pushes bs ws k)).f (push bs ws k) = 0 := by
      unfold err push
      simp [hn]
    have e2 : nxt (run (pushes bs ws k)).f (push bs ws k) = upd (run (pushes bs ws k)).f (k : Int) (some (0, key bs ws k)) := by
      unfold nxt
      rw [if_neg (by rw [herr]; simp), if_neg (show ¬ (push bs ws k).kind = 2 by simp [push]), if_neg (show ¬ (push bs ws k).kind = 3 by simp [push])]
      rfl
    show nxt _ _ = _
    rw [e2, ih]
    funext i
    unfold upd tb
    by_cases hi : i = (k : Int)
    · subst hi
      rw [if_pos rfl, if_pos ⟨k, by simp, rfl⟩]
      simp
    · rw [if_neg hi]
      have : (∃ c ∈ List.range (k + 1), (c : Int) = i) ↔ ∃ c ∈ List.range k, (c : Int) = i := by
        constructor
        · rintro ⟨c, hc, rfl⟩
          have := List.mem_range.1 hc
          exact ⟨c, List.mem_range.2 (by omega), rfl⟩
        · rintro ⟨c, hc, rfl⟩
          have := List.mem_range.1 hc
          exact ⟨c, List.mem_range.2 (by omega), rfl⟩
      simp only [this]

/-- Both orders are one. -/
theorem one (h : Rg n bs ws) (hw : ∀ k, k < n → gI ws k ≤ 12) {l : List Nat} (hs : Srt (Lt (gI (eL bs ws n n)) (gI ws)) n n l) {L : List Int} (hd : Dr (run (pushes bs ws n)).f L) : L = l.map fun (k : Nat) => (k : Int) := by
  have hg : ∀ y, y < n → 1 ≤ gI ws (gN l y) ∧ gI ws (gN l y) ≤ 12 := fun y hy => ⟨((h.ok _ (hs.rng y hy)).2).1, hw _ (hs.rng y hy)⟩
  have hp : l.Pairwise (fun a c => key bs ws a < key bs ws c ∨ (key bs ws a = key bs ws c ∧ a < c)) := by
    rw [List.pairwise_iff_getElem]
    intro i j hi hj hij
    rw [hs.len] at hi hj
    have e1 : gN l i = l[i] := by simp [gN, List.getD_eq_getElem?_getD, hs.len, hi]
    have e2 : gN l j = l[j] := by simp [gN, List.getD_eq_getElem?_getD, hs.len, hj]
    have h1 := hs.ord i j hij hj
    have h2 := key_lt (hg i hi) (hg j hj) (lt_x h (hs.rng i hi) (hs.rng j hj) h1)
    rwa [e1, e2] at h2
  have h1 := dr_of bs ws hp
  have e : tb bs ws l = (run (pushes bs ws n)).f := by
    rw [run_pushes]
    funext i
    unfold tb
    have : (∃ k ∈ l, (k : Int) = i) ↔ ∃ k ∈ List.range n, (k : Int) = i := by
      constructor
      · rintro ⟨k, hk, rfl⟩
        obtain ⟨y, hy, rfl⟩ := List.mem_iff_getElem.1 hk
        have hyn : y < n := by rw [← hs.len]; exact hy
        have := hs.rng y hyn
        have e1 : gN l y = l[y] := by simp [gN, List.getD_eq_getElem?_getD, hy]
        exact ⟨l[y], List.mem_range.2 (by omega), rfl⟩
      · rintro ⟨k, hk, rfl⟩
        obtain ⟨y, hy, he⟩ := hs.sur k (List.mem_range.1 hk)
        have hyl : y < l.length := by rw [hs.len]; exact hy
        have e1 : gN l y = l[y] := by simp [gN, List.getD_eq_getElem?_getD, hyl]
        exact ⟨k, by rw [← he, e1]; exact List.getElem_mem hyl, rfl⟩
    simp only [this]
  rw [e] at h1
  exact hd.uniq h1
end
end Go.Proofs.YtfcpmcdlgkfolaaDoor.Sorted
