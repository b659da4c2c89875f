/- Things held: two made one, one brought to the front; contracts that speak of one thing held. -/
import Derived.Test.YtcpdelkamckmfaaEC
namespace Go.Proofs.Ytcpdelkamckmfaa.E
open Go.RowKit

/-- What stands at a place of a list. -/
def pget {α : Type} : List α → Nat → Option α
  | [], _ => none
  | r :: _, 0 => some r
  | _ :: l, i + 1 => pget l i
def pset {α : Type} : List α → Nat → α → List α
  | [], _, _ => []
  | _ :: l, 0, r => r :: l
  | x :: l, i + 1, r => x :: pset l i r
def pdel {α : Type} : List α → Nat → List α
  | [], _ => []
  | _ :: l, 0 => l
  | x :: l, i + 1 => x :: pdel l i
theorem pget_at {α : Type} : ∀ (l : List α) (i : Nat), pget l i = l[i]?
  | [], i => by simp [pget]
  | x :: l, 0 => by simp [pget]
  | x :: l, i + 1 => by simp [pget, pget_at l i]
theorem pget_mem {α : Type} {l : List α} {x : α} (k : Nat) (h : pget l k = some x) : x ∈ l := by
  rw [pget_at] at h
  exact List.mem_of_getElem? h
theorem mem_pget {α : Type} {l : List α} {x : α} (h : x ∈ l) : ∃ k, pget l k = some x := by
  obtain ⟨k, hk, e⟩ := List.getElem_of_mem h
  exact ⟨k, by rw [pget_at, List.getElem?_eq_getElem hk, e]⟩
theorem pget_pset {α : Type} : ∀ (L : List α) (k i : Nat) (r : α), pget (pset L k r) i = if i = k then (pget L k).map (fun _ => r) else pget L i
  | [], k, i, r => by simp [pset, pget]
  | x :: l, 0, 0, r => by simp [pset, pget]
  | x :: l, 0, i + 1, r => by simp [pset, pget]
  | x :: l, k + 1, 0, r => by simp [pset, pget]
  | x :: l, k + 1, i + 1, r => by
    simp only [pset, pget, pget_pset l k i r]
    by_cases h : i = k
    · simp [h]
    · simp [h]
theorem pget_pdel {α : Type} : ∀ (L : List α) (k i : Nat), pget (pdel L k) i = if i < k then pget L i else pget L (i + 1)
  | [], k, i => by simp [pdel, pget]
  | x :: l, 0, i => by simp [pdel, pget]
  | x :: l, k + 1, 0 => by simp [pdel, pget]
  | x :: l, k + 1, i + 1 => by
    simp only [pdel, pget, pget_pdel l k i]
    by_cases h : i < k
    · simp [h]
    · simp [h]

def ldel : Nat → List Res → List Res
  | _, [] => []
  | 0, _ :: l => l
  | i + 1, x :: l => x :: ldel i l
theorem lget_ldel : ∀ (L : List Res) (k i : Nat), lget (ldel k L) i = if i < k then lget L i else lget L (i + 1)
  | [], k, i => by simp [ldel, lget]
  | x :: l, 0, i => by simp [ldel, lget]
  | x :: l, k + 1, 0 => by simp [ldel, lget]
  | x :: l, k + 1, i + 1 => by
    simp only [ldel, lget, lget_ldel l k i]
    by_cases h : i < k
    · simp [h]
    · simp [h]

section
variable {w0 w : World} {L : List Res} {r s t : Res} {i j : Nat}
/-- Two things are one. -/
theorem St.merge (h : St w0 w L) (hi : lget L i = some r) (hj : lget L j = some s) (hne : i ≠ j) (ht : r.holds w → s.holds w → (∀ b ∈ r.foot, b ∉ s.foot) → t.holds w) (hf : ∀ b ∈ t.foot, b ∈ r.foot ∨ b ∈ s.foot) : St w0 w (lset (lset L j emp) i t) := by
  have hd := h.sep i j r s hi hj hne
  have key : ∀ k u, lget (lset (lset L j emp) i t) k = some u → (k = i ∧ u = t) ∨ (k = j ∧ u = emp) ∨ (k ≠ i ∧ k ≠ j ∧ lget L k = some u) := by
    intro k u hk
    rw [lget_lset] at hk
    split at hk
    · rename_i e1
      subst e1
      rw [lget_lset, if_neg hne, hi] at hk
      exact .inl ⟨rfl, by simpa using hk.symm⟩
    · rename_i e1
      rw [lget_lset] at hk
      split at hk
      · rename_i e2
        subst e2
        rw [hj] at hk
        exact .inr (.inl ⟨rfl, by simpa using hk.symm⟩)
      · rename_i e2
        exact .inr (.inr ⟨e1, e2, hk⟩)
  refine ⟨h.below, fun k u hk => ?_, fun k u hk b hb => ?_, fun k l u v hk hl hkl b hb hb' => ?_⟩
  · rcases key k u hk with ⟨_, rfl⟩ | ⟨_, rfl⟩ | ⟨_, _, h1⟩
    · exact ht (h.holds i _ hi) (h.holds j _ hj) hd
    · trivial
    · exact h.holds k u h1
  · rcases key k u hk with ⟨_, rfl⟩ | ⟨_, rfl⟩ | ⟨_, _, h1⟩
    · rcases hf b hb with h2 | h2
      · exact h.lt i _ hi b h2
      · exact h.lt j _ hj b h2
    · simp [emp] at hb
    · exact h.lt k u h1 b hb
  · rcases key k u hk with ⟨rfl, rfl⟩ | ⟨_, rfl⟩ | ⟨k1, k2, h1⟩
    · rcases key l v hl with ⟨rfl, rfl⟩ | ⟨_, rfl⟩ | ⟨l1, l2, h3⟩
      · exact hkl rfl
      · simp [emp] at hb'
      · rcases hf b hb with h2 | h2
        · exact h.sep k l _ _ hi h3 hkl b h2 hb'
        · exact h.sep j l _ _ hj h3 (Ne.symm l2) b h2 hb'
    · simp [emp] at hb
    · rcases key l v hl with ⟨rfl, rfl⟩ | ⟨_, rfl⟩ | ⟨l1, l2, h3⟩
      · rcases hf b hb' with h2 | h2
        · exact h.sep k l _ _ h1 hi hkl b hb h2
        · exact h.sep k j _ _ h1 hj k2 b hb h2
      · simp [emp] at hb'
      · exact h.sep k l _ _ h1 h3 hkl b hb hb'
/-- One thing is two. -/
theorem St.split {r1 r2 : Res} (h : St w0 w L) (hi : lget L i = some r) (ht : r.holds w → r1.holds w ∧ r2.holds w ∧ (∀ b ∈ r1.foot, b ∈ r.foot) ∧ (∀ b ∈ r2.foot, b ∈ r.foot) ∧ ∀ b ∈ r1.foot, b ∉ r2.foot) : St w0 w (r1 :: lset L i r2) := by
  obtain ⟨h1, h2, f1, f2, hd⟩ := ht (h.holds i _ hi)
  have key : ∀ k u, lget (r1 :: lset L i r2) k = some u → (k = 0 ∧ u = r1) ∨ (k = i + 1 ∧ u = r2) ∨ ∃ k', k = k' + 1 ∧ k' ≠ i ∧ lget L k' = some u := by
    intro k u hk
    cases k with
    | zero => exact .inl ⟨rfl, by simpa [lget] using hk.symm⟩
    | succ k =>
      simp only [lget, lget_lset] at hk
      split at hk
      · rename_i e
        subst e
        rw [hi] at hk
        exact .inr (.inl ⟨rfl, by simpa using hk.symm⟩)
      · rename_i e
        exact .inr (.inr ⟨k, rfl, e, hk⟩)
  refine ⟨h.below, fun k u hk => ?_, fun k u hk b hb => ?_, fun k l u v hk hl hkl b hb hb' => ?_⟩
  · rcases key k u hk with ⟨_, rfl⟩ | ⟨_, rfl⟩ | ⟨k', _, _, h3⟩
    · exact h1
    · exact h2
    · exact h.holds k' u h3
  · rcases key k u hk with ⟨_, rfl⟩ | ⟨_, rfl⟩ | ⟨k', _, _, h3⟩
    · exact h.lt i _ hi b (f1 b hb)
    · exact h.lt i _ hi b (f2 b hb)
    · exact h.lt k' u h3 b hb
  · rcases key k u hk with ⟨e, rfl⟩ | ⟨e, rfl⟩ | ⟨k', e, hk', h3⟩
    · rcases key l v hl with ⟨e', rfl⟩ | ⟨e', rfl⟩ | ⟨l', e', hl', h4⟩
      · exact hkl (e.trans e'.symm)
      · exact hd b hb hb'
      · exact h.sep i l' _ _ hi h4 (Ne.symm hl') b (f1 b hb) hb'
    · rcases key l v hl with ⟨e', rfl⟩ | ⟨e', rfl⟩ | ⟨l', e', hl', h4⟩
      · exact hd b hb' hb
      · exact hkl (e.trans e'.symm)
      · exact h.sep i l' _ _ hi h4 (Ne.symm hl') b (f2 b hb) hb'
    · rcases key l v hl with ⟨e', rfl⟩ | ⟨e', rfl⟩ | ⟨l', e', hl', h4⟩
      · exact h.sep k' i _ _ h3 hi hk' b hb (f1 b hb')
      · exact h.sep k' i _ _ h3 hi hk' b hb (f2 b hb')
      · exact h.sep k' l' _ _ h3 h4 (by omega) b hb hb'
theorem St.front (h : St w0 w L) (hi : lget L i = some r) : St w0 w (r :: ldel i L) := by
  refine h.via (fun k => match k with | 0 => i | k + 1 => if k < i then k else k + 1) (fun k u hk => ?_) (fun k l u v hk hl he => ?_)
  · cases k with
    | zero => simp only [lget, Option.some.injEq] at hk; subst hk; exact hi
    | succ k =>
      simp only [lget, lget_ldel] at hk
      try dsimp only
      split at hk
      · rename_i h1; rw [if_pos h1]; exact hk
      · rename_i h1; rw [if_neg h1]; exact hk
  · cases k <;> cases l <;> (try dsimp only at he) <;> (repeat' (split at he)) <;> omega
theorem St.back (h : St w0 w (r :: ldel i L)) (hi : lget L i = some s) : St w0 w (lset L i r) := by
  refine h.via (fun k => if k = i then 0 else if k < i then k + 1 else k) (fun k u hk => ?_) (fun k l u v hk hl he => ?_)
  · rw [lget_lset] at hk
    try dsimp only
    split at hk
    · rename_i h1
      rw [if_pos h1]
      rw [hi] at hk
      exact hk
    · rename_i h1
      rw [if_neg h1]
      split
      · rename_i h2
        simp only [lget, lget_ldel, if_pos h2]
        exact hk
      · rename_i h2
        obtain ⟨q, rfl⟩ : ∃ q, k = q + 1 := ⟨k - 1, by omega⟩
        simp only [lget, lget_ldel]
        rw [if_neg (by omega)]
        exact hk
  · (try dsimp only at he)
    (repeat' (split at he)) <;> omega
/-- A contract that speaks of one thing, where it stands among others. -/
theorem lift {P : Program} {f : FuncId} {args : Array Value} {α : Type} {p : α → Prop} {v : α → Value} {M : α → Res} (i : Nat) (hS : St w0 w L) (hi : lget L i = some r) (h : ∀ T, St w0 w (r :: T) → Calls P f args w fun e w' => ∃ q, p q ∧ e = .returned (v q) ∧ St w0 w' (M q :: T)) : Calls P f args w fun e w' => ∃ q, p q ∧ e = .returned (v q) ∧ St w0 w' (lset L i (M q)) :=
  (h _ (hS.front hi)).mono fun _ _ ⟨q, hp, he, hS'⟩ => ⟨q, hp, he, hS'.back hi⟩
end
end Go.Proofs.Ytcpdelkamckmfaa.E
