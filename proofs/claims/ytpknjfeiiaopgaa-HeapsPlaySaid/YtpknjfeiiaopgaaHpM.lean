/- Heaps, plain. -/
import Derived.Test.YtpknjfeiiaopgaaMem
namespace Go.Proofs.Ytpknjfeiiaopgaa.Heap

abbrev I3 := Int × Int × Int
/-- Which one is first: by the key, then by the number. -/
def lt3 (a b : I3) : Prop := a.2.1 < b.2.1 ∨ (a.2.1 = b.2.1 ∧ (a.2.2 < b.2.2 ∨ (a.2.2 = b.2.2 ∧ a.1 < b.1)))
instance (a b : I3) : Decidable (lt3 a b) := by unfold lt3; infer_instance
def d3 : I3 := (0, 0, 0)
def gl (l : List I3) (i : Nat) : I3 := l.getD i d3
theorem gl_lt {l : List I3} {i : Nat} (h : i < l.length) : gl l i = l[i] := by simp [gl, List.getD_eq_getElem?_getD, h]
theorem lt3_trans {a b c : I3} (h1 : ¬ lt3 a b) (h2 : ¬ lt3 b c) : ¬ lt3 a c := by unfold lt3 at *; omega
theorem lt3_asym {a b : I3} (h : lt3 a b) : ¬ lt3 b a := by unfold lt3 at *; omega
theorem lt3_irr (a : I3) : ¬ lt3 a a := by unfold lt3; omega
theorem lt3_tot {a b : I3} (h : ¬ lt3 a b) (hne : a.1 ≠ b.1) : lt3 b a := by unfold lt3 at *; omega
theorem lt3_tr {a b c : I3} (h1 : lt3 a b) (h2 : lt3 b c) : lt3 a c := by unfold lt3 at *; omega

def Hp (l : List I3) : Prop := ∀ i, 0 < i → i < l.length → ¬ lt3 (gl l i) (gl l ((i - 1) / 2))
/-- A heap but for the place k. -/
structure AH (l : List I3) (k : Nat) : Prop where
  lt : k < l.length
  ok : ∀ i, 0 < i → i < l.length → i ≠ k → (i - 1) / 2 ≠ k → ¬ lt3 (gl l i) (gl l ((i - 1) / 2))
  gp : ∀ c, 0 < c → c < l.length → (c - 1) / 2 = k → 0 < k → ¬ lt3 (gl l c) (gl l ((k - 1) / 2))
/-- A heap but for what lies under the place k. -/
structure DH (l : List I3) (k : Nat) : Prop where
  lt : k < l.length
  ok : ∀ i, 0 < i → i < l.length → (i - 1) / 2 ≠ k → ¬ lt3 (gl l i) (gl l ((i - 1) / 2))
  gp : ∀ c, 0 < c → c < l.length → (c - 1) / 2 = k → 0 < k → ¬ lt3 (gl l c) (gl l ((k - 1) / 2))
theorem Hp.root {l : List I3} (h : Hp l) : ∀ i, i < l.length → ¬ lt3 (gl l i) (gl l 0) := by
  intro i
  induction i using Nat.strongRecOn with
  | ind i ih =>
    intro hi
    by_cases h0 : i = 0
    · subst h0; exact lt3_irr _
    · exact lt3_trans (h i (by omega) hi) (ih ((i - 1) / 2) (by omega) (by omega))

def swp (l : List I3) (i j : Nat) : List I3 := (l.set i (gl l j)).set j (gl l i)
theorem swp_len (l : List I3) (i j : Nat) : (swp l i j).length = l.length := by simp [swp]
theorem swp_get {l : List I3} {i j : Nat} (hi : i < l.length) (hj : j < l.length) (x : Nat) : gl (swp l i j) x = if x = j then gl l i else if x = i then gl l j else gl l x := by
  unfold swp
  show ((l.set i (gl l j)).set j (gl l i)).getD x d3 = _
  rw [List.getD_eq_getElem?_getD, List.getElem?_set, List.getElem?_set]
  by_cases h1 : x = j
  · subst h1
    simp [hj]
  · rw [if_neg (fun e => h1 e.symm), if_neg h1]
    by_cases h2 : x = i
    · subst h2
      simp [hi]
    · rw [if_neg (fun e => h2 e.symm), if_neg h2]
      simp [gl, List.getD_eq_getElem?_getD]
theorem mem_gl {l : List I3} {x : I3} : x ∈ l ↔ ∃ i, i < l.length ∧ gl l i = x := by
  rw [List.mem_iff_getElem]
  constructor
  · rintro ⟨i, hi, h⟩; exact ⟨i, hi, by rw [gl_lt hi]; exact h⟩
  · rintro ⟨i, hi, h⟩; exact ⟨i, hi, by rw [gl_lt hi] at h; exact h⟩
theorem swp_mem {l : List I3} {i j : Nat} (hi : i < l.length) (hj : j < l.length) (x : I3) : x ∈ swp l i j ↔ x ∈ l := by
  rw [mem_gl, mem_gl, swp_len]
  constructor
  · rintro ⟨q, hq, h⟩
    rw [swp_get hi hj] at h
    split at h
    · exact ⟨i, hi, h⟩
    · split at h
      · exact ⟨j, hj, h⟩
      · exact ⟨q, hq, h⟩
  · rintro ⟨q, hq, h⟩
    by_cases h1 : q = i
    · subst h1
      exact ⟨j, hj, by rw [swp_get hi hj, if_pos rfl]; exact h⟩
    · by_cases h2 : q = j
      · subst h2
        refine ⟨i, hi, ?_⟩
        rw [swp_get hi hj]
        split
        · rename_i e; exact absurd e.symm h1
        · rw [if_pos rfl]; exact h
      · exact ⟨q, hq, by rw [swp_get hi hj, if_neg h2, if_neg h1]; exact h⟩
/-- No number twice. -/
def Inj (l : List I3) : Prop := ∀ i j, i < l.length → j < l.length → (gl l i).1 = (gl l j).1 → i = j
def sg (i j x : Nat) : Nat := if x = j then i else if x = i then j else x
theorem swp_sg {l : List I3} {i j : Nat} (hi : i < l.length) (hj : j < l.length) (x : Nat) : gl (swp l i j) x = gl l (sg i j x) := by
  rw [swp_get hi hj]
  unfold sg
  split
  · rfl
  · split <;> rfl
theorem sg_lt {n i j x : Nat} (hi : i < n) (hj : j < n) (hx : x < n) : sg i j x < n := by
  unfold sg
  split
  · exact hi
  · split <;> assumption
theorem sg_inj {i j a b : Nat} (h : sg i j a = sg i j b) : a = b := by
  unfold sg at h
  (repeat' split at h) <;> omega
theorem Inj.swp {l : List I3} {i j : Nat} (h : Inj l) (hi : i < l.length) (hj : j < l.length) : Inj (swp l i j) := by
  intro a b ha hb e
  rw [swp_len] at ha hb
  rw [swp_sg hi hj, swp_sg hi hj] at e
  exact sg_inj (h _ _ (sg_lt hi hj ha) (sg_lt hi hj hb) e)

/-- Up by one. -/
theorem AH.up {l : List I3} {k : Nat} (h : AH l k) (h0 : 0 < k) (hlt : lt3 (gl l k) (gl l ((k - 1) / 2))) : AH (swp l k ((k - 1) / 2)) ((k - 1) / 2) := by
  have hk := h.lt
  have hp : (k - 1) / 2 < l.length := by omega
  refine ⟨by rw [swp_len]; exact hp, fun i i0 i1 i2 i3 => ?_, fun c c0 c1 c2 p0 => ?_⟩
  · rw [swp_len] at i1
    rw [swp_get hk hp, swp_get hk hp, if_neg i2, if_neg i3, if_neg (fun e => i3 (by rw [e]))]
    split
    · rename_i e
      exact h.gp i i0 i1 e h0
    · rename_i e
      exact h.ok i i0 i1 (fun e2 => i3 (by rw [e2])) e
  · rw [swp_len] at c1
    have hpp : ¬ lt3 (gl l ((k - 1) / 2)) (gl l (((k - 1) / 2 - 1) / 2)) := h.ok _ p0 hp (by omega) (by omega)
    rw [swp_get hk hp, swp_get hk hp, if_neg (show ¬ c = (k - 1) / 2 by omega), if_neg (show ¬ ((k - 1) / 2 - 1) / 2 = (k - 1) / 2 by omega), if_neg (show ¬ ((k - 1) / 2 - 1) / 2 = k by omega)]
    split
    · exact hpp
    · rename_i e
      exact lt3_trans (by rw [← c2]; exact h.ok c c0 c1 e (by omega)) hpp
theorem AH.down {l : List I3} {k : Nat} (h : AH l k) (hd : 0 < k → ¬ lt3 (gl l k) (gl l ((k - 1) / 2))) : DH l k :=
  ⟨h.lt, fun i i0 i1 i2 => by
    by_cases e : i = k
    · subst e; exact hd i0
    · exact h.ok i i0 i1 e i2, h.gp⟩
theorem DH.leaf {l : List I3} {k : Nat} (h : DH l k) (hc : l.length ≤ 2 * k + 1) : Hp l := fun i i0 i1 => h.ok i i0 i1 (by omega)
/-- The smaller one under k. -/
def Kid (l : List I3) (k c : Nat) : Prop := c < l.length ∧ (c = 2 * k + 1 ∨ c = 2 * k + 2) ∧ ∀ s, s < l.length → (s = 2 * k + 1 ∨ s = 2 * k + 2) → ¬ lt3 (gl l s) (gl l c)
theorem kid_l {l : List I3} {k : Nat} (h : 2 * k + 1 < l.length) (h2 : ¬ (2 * k + 2 < l.length ∧ lt3 (gl l (2 * k + 2)) (gl l (2 * k + 1)))) : Kid l k (2 * k + 1) :=
  ⟨h, .inl rfl, fun s hs h3 => by
    rcases h3 with rfl | rfl
    · exact lt3_irr _
    · exact fun h4 => h2 ⟨hs, h4⟩⟩
theorem kid_r {l : List I3} {k : Nat} (h : 2 * k + 2 < l.length) (h2 : lt3 (gl l (2 * k + 2)) (gl l (2 * k + 1))) : Kid l k (2 * k + 2) :=
  ⟨h, .inr rfl, fun s _ h3 => by
    rcases h3 with rfl | rfl
    · exact lt3_asym h2
    · exact lt3_irr _⟩
theorem DH.done {l : List I3} {k c : Nat} (h : DH l k) (hc : Kid l k c) (hn : ¬ lt3 (gl l c) (gl l k)) : Hp l := fun i i0 i1 => by
  by_cases e : (i - 1) / 2 = k
  · rw [e]
    exact lt3_trans (hc.2.2 i i1 (by omega)) hn
  · exact h.ok i i0 i1 e
theorem DH.next {l : List I3} {k c : Nat} (h : DH l k) (hc : Kid l k c) (hn : lt3 (gl l c) (gl l k)) : DH (swp l c k) c := by
  have hk := h.lt
  have hcl := hc.1
  have hck : (c - 1) / 2 = k ∧ 0 < c ∧ k < c := by have := hc.2.1; omega
  refine ⟨by rw [swp_len]; exact hcl, fun i i0 i1 i2 => ?_, fun g g0 g1 g2 c0 => ?_⟩
  · rw [swp_len] at i1
    rw [swp_get hcl hk, swp_get hcl hk]
    by_cases e1 : i = k
    · subst e1
      rw [if_pos rfl, if_neg (show ¬ (i - 1) / 2 = i by omega), if_neg i2]
      exact h.gp c hck.2.1 hcl hck.1 i0
    · rw [if_neg e1]
      by_cases e2 : (i - 1) / 2 = k
      · rw [if_pos e2]
        by_cases e3 : i = c
        · rw [if_pos e3]; exact lt3_asym hn
        · rw [if_neg e3]; exact hc.2.2 i i1 (by omega)
      · rw [if_neg e2, if_neg i2]
        by_cases e3 : i = c
        · exact absurd (by rw [e3]; exact hck.1) e2
        · rw [if_neg e3]; exact h.ok i i0 i1 e2
  · rw [swp_len] at g1
    rw [swp_get hcl hk, swp_get hcl hk, hck.1, if_pos rfl, if_neg (show ¬ g = k by omega), if_neg (show ¬ g = c by omega), ← g2]
    exact h.ok g g0 g1 (by omega)

/-- What is taken away, pushed, updated. -/
theorem AH.push {l : List I3} (h : Hp l) (x : I3) : AH (l ++ [x]) l.length := by
  have hg : ∀ i, i < l.length → gl (l ++ [x]) i = gl l i := fun i hi => by simp [gl, List.getD_eq_getElem?_getD, List.getElem?_append_left hi]
  refine ⟨by simp, fun i i0 i1 i2 _ => ?_, fun c c0 c1 c2 _ => ?_⟩
  · simp at i1
    rw [hg i (by omega), hg _ (by omega)]
    exact h i i0 (by omega)
  · simp at c1; omega
theorem AH.upd {l : List I3} (h : Hp l) {k : Nat} (hk : k < l.length) (x : I3) : AH (l.set k x) k := by
  have hg : ∀ i, i ≠ k → gl (l.set k x) i = gl l i := fun i hi => by simp [gl, List.getD_eq_getElem?_getD, List.getElem?_set, Ne.symm hi]
  refine ⟨by simpa using hk, fun i i0 i1 i2 i3 => ?_, fun c c0 c1 c2 k0 => ?_⟩
  · simp at i1
    rw [hg i i2, hg _ i3]
    exact h i i0 i1
  · simp at c1
    rw [hg c (by omega), hg _ (by omega)]
    exact lt3_trans (by have := h c c0 c1; rwa [c2] at this) (h k k0 hk)
theorem take_get {l : List I3} {n i : Nat} (hi : i < n) : gl (l.take n) i = gl l i := by simp [gl, List.getD_eq_getElem?_getD, List.getElem?_take, hi]
theorem Hp.take {l : List I3} (h : Hp l) (n : Nat) : Hp (l.take n) := fun i i0 i1 => by
  rw [List.length_take] at i1
  rw [take_get (by omega), take_get (by omega)]
  exact h i i0 (by omega)
theorem AH.cut {l : List I3} (h : Hp l) {k n : Nat} (hn : n + 1 = l.length) (hk : k < n) : AH ((swp l k n).take n) k := by
  have hg : ∀ i, i < n → i ≠ k → gl ((swp l k n).take n) i = gl l i := fun i hi hne => by
    rw [take_get hi, swp_get (by omega) (by omega), if_neg (by omega), if_neg hne]
  have hl : ((swp l k n).take n).length = n := by rw [List.length_take, swp_len]; omega
  refine ⟨by rw [hl]; exact hk, fun i i0 i1 i2 i3 => ?_, fun c c0 c1 c2 k0 => ?_⟩
  · rw [hl] at i1
    rw [hg i i1 i2, hg _ (by omega) i3]
    exact h i i0 (by omega)
  · rw [hl] at c1
    rw [hg c c1 (by omega), hg _ (by omega) (by omega)]
    exact lt3_trans (by have := h c c0 (by omega); rwa [c2] at this) (h k k0 (by omega))
theorem swp_self {l : List I3} {n : Nat} (hn : n < l.length) : swp l n n = l := by
  apply List.ext_getElem (swp_len l n n)
  intro i h1 h2
  rw [← gl_lt h1, ← gl_lt h2, swp_get hn hn]
  split
  · rename_i e; rw [e]
  · rfl
end Go.Proofs.Ytpknjfeiiaopgaa.Heap
