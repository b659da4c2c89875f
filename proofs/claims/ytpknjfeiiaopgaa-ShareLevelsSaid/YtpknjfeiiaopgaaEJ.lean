/- Things held: two made one, one brought to the front; contracts that speak of one thing held. -/
import Derived.Test.YtpknjfeiiaopgaaEC
namespace Go.Proofs.Ytpknjfeiiaopgaa.E
open Go.RowKit

/-- What stands at a place of a list. -/
def pget {α : Type} : List α → Nat → Option α
  | [], _ => none
  | r :: _, 0 => some r
  | _ :: l, i + 1 => pget l i
def pset {α : Type} : List α → Nat → α → List α
  | [], _, _ => []
  | _ :: l, 0, r => r :: l
  | x :: l, i + 1, r => x :: pset l i r
def pdel {α : Type} : List α → Nat → List α
  | [], _ => []
  | _ :: l, 0 => l
  | x :: l, i + 1 => x :: pdel l i
theorem pget_at {α : Type} : ∀ (l : List α) (i : Nat), pget l i = l[i]?
  | [], i => by simp [pget]
  | x :: l, 0 => by simp [pget]
  | x :: l, i + 1 => by simp [pget, pget_at l i]
theorem pget_mem {α : Type} {l : List α} {x : α} (k : Nat) (h : pget l k = some x) : x ∈ l := by
  rw [pget_at] at h
  exact List.mem_of_getElem? h
theorem mem_pget {α : Type} {l : List α} {x : α} (h : x ∈ l) : ∃ k, pget l k = some x := by
  obtain ⟨k, hk, e⟩ := List.getElem_of_mem h
  exact ⟨k, by rw [pget_at, List.getElem?_eq_getElem hk, e]⟩
theorem pget_pset {α : Type} : ∀ (L : List α) (k i : Nat) (r : α), pget (pset L k r) i = if i = k then (pget L k).map (fun _ => r) else pget L i
  | [], k, i, r => by simp [pset, pget]
  | x :: l, 0, 0, r => by simp [pset, pget]
  | x :: l, 0, i + 1, r => by simp [pset, pget]
  | x :: l, k + 1, 0, r => by simp [pset, pget]
  | x :: l, k + 1, i + 1, r => by
    simp only [pset, pget, pget_pset l k i r]
    by_cases h : i = k
    · simp [h]
    · simp [h]
theorem pget_pdel {α : Type} : ∀ (L : List α) (k i : Nat), pget (pdel L k) i = if i < k then pget L i else pget L (i + 1)
  | [], k, i => by simp [pdel, pget]
  | x :: l, 0, i => by simp [pdel, pget]
  | x :: l, k + 1, 0 => by simp [pdel, pget]
  | x :: l, k + 1, i + 1 => by
    simp only [pdel, pget, pget_pdel l k i]
    by_cases h : i < k
    · simp [h]
    · simp [h]

def ldel : Nat → List Res → List Res
  | _, [] => []
  | 0, _ :: l => l
  | i + 1, x :: l => x :: ldel i l
theorem lget_ldel : ∀ (L : List Res) (k i : Nat), lget (ldel k L) i = if i < k then lget L i else lget L (i + 1)
  | [], k, i => by simp [ldel, lget]
  | x :: l, 0, i => by simp [ldel, lget]
  | x :: l, k + 1, 0 => by simp [ldel, lget]
  | x :: l, k + 1, i + 1 => by
    simp only [ldel, lget, lget_ldel l k i]
    by_cases h : i < k
    · simp [h]
    · simp [h]

section
variable {w0 w : World} {L : List Res} {r s t : Res} {i j : Nat}
/-- Two things are one. -/
theorem St.merge (h : St w0 w L) (hi : lget L i = some r) (hj : lget L j = some s) (hne : i ≠ j) (ht : r.holds w → s.holds w → (∀ b ∈ r.foot, b ∉ s.foot) → t.holds w) (hf : ∀ b ∈ t.foot, b ∈ r.foot ∨ b ∈ s.foot) : St w0 w (lset (lset L j emp) i t) := by
  have hd := h.sep i j r s hi hj hne
  have key : ∀ k u, lget (lset (lset L j emp) i t) k = some u → (k = i ∧ u = t) ∨ (k = j ∧ u = emp) ∨ (k ≠ i ∧ k ≠ j ∧ lget L k = some u) := by
    intro k u hk
    rw [lget_lset] at hk
    split at hk
    · rename_i e1
      subst e1
      rw [lget_lset, if_neg hne, hi] at hk
      exact .inl ⟨rfl, by simpa using hk.symm⟩
    · rename_i e1
      rw [lget_lset] at hk
      split at hk
      · rename_i e2
        subst e2
        rw [hj] at hk
        exact .inr (.inl ⟨rfl, by simpa using hk.symm⟩)
      · rename_i e2
        exact .inr (.inr ⟨e1, e2, hk⟩)
  refine ⟨h.below, fun k u hk => ?_, fun k u hk b hb => ?_, fun k l u v hk hl hkl b hb hb' => ?_⟩
  · rcases key k u hk with ⟨_, rfl⟩ | ⟨_, rfl⟩ | ⟨_, _, h1⟩
    · exact ht (h.holds i _ hi) (h.holds j _ hj) hd
    · trivial
    · exact h.holds k u h1
  · rcases key k u hk with ⟨_, rfl⟩ | ⟨_, rfl⟩ | ⟨_, _, h1⟩
    · rcases hf b hb with h2 | h2
      · exact h.lt i _ hi b h2
      · exact h.lt j _ hj b h2
    · simp [emp] at hb
    · exact h.lt k u h1 b hb
  · rcases key k u hk with ⟨rfl, rfl⟩ | ⟨_, rfl⟩ | ⟨k1, k2, h1⟩
    · rcases key l v hl with ⟨rfl, rfl⟩ | ⟨_, rfl⟩ | ⟨l1, l2, h3⟩
      · exact hkl rfl
      · simp [emp] at hb'
      · rcases hf b hb with h2 | h2
        · exact h.sep k l _ _ hi h3 hkl b h2 hb'
        · exact h.sep j l _ _ hj h3 (Ne.symm l2) b h2 hb'
    · simp [emp] at hb
    · rcases key l v hl with ⟨rfl, rfl⟩ | ⟨_, rfl⟩ | ⟨l1, l2, h3⟩
      · rcases hf b hb' with h2 | h2
        · exact h.sep k l _ _ h1 hi hkl b hb h2
        · exact h.sep k j _ _ h1 hj k2 b hb h2
      · simp [emp] at hb'
      · exact h.sep k l _ _ h1 h3 hkl b hb hb'
/-- One thing is two. -/
theorem St.split {r1 r2 : Res} (h : St w0 w L) (hi : lget L i = some r) (ht : r.holds w → r1.holds w ∧ r2.holds w ∧ (∀ b ∈ r1.foot, b ∈ r.foot) ∧ (∀ b ∈ r2.foot, b ∈ r.foot) ∧ ∀ b ∈ r1.foot, b ∉ r2.foot) : St w0 w (r1 :: lset L i r2) := by
  obtain ⟨h1, h2, f1, f2, hd⟩ := ht (h.holds i _ hi)
  have key : ∀ k u, lget (r1 :: lset L i r2) k = some u → (k = 0 ∧ u = r1) ∨ (k = i + 1 ∧ u = r2) ∨ ∃ k', k = k' + 1 ∧ k' ≠ i ∧ lget L k' = some u := by
    intro k u hk
    cases k with
    | zero => exact .inl ⟨rfl, by simpa [lget] using hk.symm⟩
    | succ k =>
      simp only [lget, lget_lset] at hk
      split at hk
      · rename_i e
        subst e
        rw [hi] at hk
        exact .inr (.inl ⟨rfl, by simpa using hk.symm⟩)
      · rename_i e
        exact .inr (.inr ⟨k, rfl, e, hk⟩)
  refine ⟨h.below, fun k u hk => ?_, fun k u hk b hb => ?_, fun k l u v hk hl hkl b hb hb' => ?_⟩
  · rcases key k u hk with ⟨_, rfl⟩ | ⟨_, rfl⟩ | ⟨k', _, _, h3⟩
    · exact h1
    · exact h2
    · exact h.holds k' u h3
  · rcases key k u hk with ⟨_, rfl⟩ | ⟨_, rfl⟩ | ⟨k', _, _, h3⟩
    · exact h.lt i _ hi b (f1 b hb)
    · exact h.lt i _ hi b (f2 b hb)
    · exact h.lt k' u h3 b hb
  · rcases key k u hk with ⟨e, rfl⟩ | ⟨e, rfl⟩ | ⟨k', e, hk', h3⟩
    · rcases key l v hl with ⟨e', rfl⟩ | ⟨e', rfl⟩ | ⟨l', e', hl', h4⟩
      · exact hkl (e.trans e'.symm)
      · exact hd b hb hb'
      · exact h.sep i l' _ _ hi h4 (Ne.symm hl') b (f1 b hb) hb'
    · rcases key l v hl with ⟨e', rfl⟩ | ⟨e', rfl⟩ | ⟨l', e', hl', h4⟩
      · exact hd b hb' hb
      · exact hkl (e.trans e'.symm)
      · exact h.sep i l' _ _ hi h4 (Ne.symm hl') b (f2 b hb) hb'
    · rcases key l v hl with ⟨e', rfl⟩ | ⟨e', rfl⟩ | ⟨l', e', hl', h4⟩
      · exact h.sep k' i _ _ h3 hi hk' b hb (f1 b hb')
      · exact h.sep k' i _ _ h3 hi hk' b hb (f2 b hb')
      · exact h.sep k' l' _ _ h3 h4 (by omega) b hb hb'
theorem St.front (h : St w0 w L) (hi : lget L i = some r) : St w0 w (r :: ldel i L) := by
  refine h.via (fun k => match k with | 0 => i | k + 1 => if k < i then k else k + 1) (fun k u hk => ?_) (fun k l u v hk hl he => ?_)
  · cases k with
    | zero => simp only [lget, Option.some.injEq] at hk; subst hk; exact hi
    | succ k =>
      simp only [lget, lget_ldel] at hk
      try dsimp only
      split at hk
      · rename_i h1; rw [if_pos h1]; exact hk
      · rename_i h1; rw [if_neg h1]; exact hk
  · cases k <;> cases l <;> (try dsimp only at he) <;> (repeat' (split at he)) <;> omega
theorem St.back (h : St w0 w (r :: ldel i L)) (hi : lget L i = some s) : St w0 w (lset L i r) := by
  refine h.via (fun k => if k = i then 0 else if k < i then k + 1 else k) (fun k u hk => ?_) (fun k l u v hk hl he => ?_)
  · rw [lget_lset] at hk
    try dsimp only
    split at hk
    · rename_i h1
      rw [if_pos h1]
      rw [hi] at hk
      exact hk
    · rename_i h1
      rw [if_neg h1]
      split
      · rename_i h2
        simp only [lget, lget_ldel, if_pos h2]
        exact hk
      · rename_i h2
        obtain ⟨q, rfl⟩ : ∃ q, k = q + 1 := ⟨k - 1, by omega⟩
        simp only [lget, lget_ldel]
        rw [if_neg (by omega)]
        exact hk
  · (try dsimp only at he)
    (repeat' (split at he)) <;> omega
/-- A contract that speaks of one thing, where it stands among others. -/
theorem lift {P : Program} {f : FuncId} {args : Array Value} {α : Type} {p : α → Prop} {v : α → Value} {M : α → Res} (i : Nat) (hS : St w0 w L) (hi : lget L i = some r) (h : ∀ T, St w0 w (r :: T) → Calls P f args w fun e w' => ∃ q, p q ∧ e = .returned (v q) ∧ St w0 w' (M q :: T)) : Calls P f args w fun e w' => ∃ q, p q ∧ e = .returned (v q) ∧ St w0 w' (lset L i (M q)) :=
  (h _ (hS.front hi)).mono fun _ _ ⟨q, hp, he, hS'⟩ => ⟨q, hp, he, hS'.back hi⟩
end
end Go.Proofs.Ytpknjfeiiaopgaa.E

namespace Go.Proofs.Ytpknjfeiiaopgaa.Big
open Go.RowKit Go.Proofs.Ytpknjfeiiaopgaa.E

/-- A number in a block: from cell o on. -/
structure Ent where
  b : Nat
  o : Nat
  q : Nm
/-- Its cells, and its digits: headers lie in H, digits in D. -/
structure Ent.ok (H D : List Nat) (w : World) (x : Ent) : Prop where
  hd : x.b ∈ H
  row : ∃ cs T, w.heap[x.b]? = some (.cells cs T (0, 0)) ∧ cs[x.o]? = some (.bool x.q.neg) ∧ cs[x.o + 1]? = some (.slice x.q.A x.q.n x.q.c)
  dg : ∀ a, x.q.A = some a → a.block ∈ D
  rd : Rd w x.q.A (cU x.q.ds)
def apart (x y : Ent) : Prop := x.b ≠ y.b ∨ x.o + 2 ≤ y.o ∨ y.o + 2 ≤ x.o
structure BagOk (H D : List Nat) (l : List Ent) (w : World) : Prop where
  ok : ∀ x ∈ l, x.ok H D w
  ap : ∀ i j x y, pget l i = some x → pget l j = some y → i ≠ j → apart x y
  dj : ∀ b ∈ H, b ∉ D
theorem rd_stable {w w' : World} {A : Option Addr} {xs : List Value} (h : Rd w A xs) (hk : ∀ a, A = some a → w'.heap[a.block]? = w.heap[a.block]?) : Rd w' A xs := by
  rcases h with h | ⟨g, o, hA, hc⟩
  · exact .inl h
  · refine .inr ⟨g, o, hA, fun j u hu => ?_⟩
    rw [← hc j u hu]
    have := hk _ hA
    simp only [World.cell?]
    rw [this]
theorem Ent.ok.keep {H D H' D' : List Nat} {w w' : World} {x : Ent} (h : x.ok H D w) (h1 : w'.heap[x.b]? = w.heap[x.b]?) (h2 : ∀ a, x.q.A = some a → w'.heap[a.block]? = w.heap[a.block]?) (hH : ∀ b ∈ H, b ∈ H') (hD : ∀ b ∈ D, b ∈ D') : x.ok H' D' w' :=
  ⟨hH _ h.hd, by rw [h1]; exact h.row, fun a ha => hD _ (h.dg a ha), rd_stable h.rd h2⟩
/-- The numbers l. -/
def bag (H D : List Nat) (l : List Ent) : Res where
  foot := H ++ D
  holds w := BagOk H D l w
  stable w w' hf h := ⟨fun x hx => (h.ok x hx).keep (hf _ (List.mem_append_left _ (h.ok x hx).hd)) (fun a ha => hf _ (List.mem_append_right _ ((h.ok x hx).dg a ha))) (fun _ h => h) (fun _ h => h), h.ap, h.dj⟩
theorem bag_nil : ∀ w, (bag [] [] []).holds w := fun _ => ⟨fun _ h => by simp at h, fun _ _ _ _ h => by simp [pget] at h, fun _ h => by simp at h⟩

section
variable {H D : List Nat} {l l' : List Ent} {w w' : World} {b o k : Nat} {q q' : Nm}
/-- Fewer, in any order. -/
theorem BagOk.sub (h : BagOk H D l w) (f : Nat → Nat) (hf : ∀ i x, pget l' i = some x → pget l (f i) = some x) (hi : ∀ i j x y, pget l' i = some x → pget l' j = some y → f i = f j → i = j) : BagOk H D l' w :=
  ⟨fun x hx => by
    obtain ⟨i, h1⟩ := mem_pget hx
    exact h.ok x (pget_mem _ (hf i x h1)), fun i j x y h1 h2 hne => h.ap _ _ x y (hf i x h1) (hf j y h2) (fun e => hne (hi i j x y h1 h2 e)), h.dj⟩
theorem BagOk.tail {x : Ent} (h : BagOk H D (x :: l) w) : BagOk H D l w := h.sub (· + 1) (fun _ _ h => h) (fun _ _ _ _ _ _ h => by omega)
theorem BagOk.second {x y : Ent} (h : BagOk H D (x :: y :: l) w) : BagOk H D (x :: l) w := h.sub (fun i => if i = 0 then 0 else i + 1) (fun i z hz => by cases i with | zero => exact hz | succ i => simpa [pget] using hz) (fun i j _ _ _ _ h => by (try dsimp only at h); (repeat' (split at h)) <;> omega)
theorem BagOk.front {x : Ent} (h : BagOk H D l w) (hk : pget l k = some x) : BagOk H D (x :: pdel l k) w :=
  h.sub (fun i => match i with | 0 => k | i + 1 => if i < k then i else i + 1) (fun i y hy => by
    cases i with
    | zero => simp only [pget, Option.some.injEq] at hy; subst hy; exact hk
    | succ i =>
      simp only [pget, pget_pdel] at hy
      try dsimp only
      split at hy
      · rename_i h1; rw [if_pos h1]; exact hy
      · rename_i h1; rw [if_neg h1]; exact hy) (fun i j _ _ _ _ he => by cases i <;> cases j <;> (try dsimp only at he) <;> (repeat' (split at he)) <;> omega)
theorem BagOk.back {x y : Ent} (h : BagOk H D (x :: pdel l k) w) (hk : pget l k = some y) : BagOk H D (pset l k x) w :=
  h.sub (fun i => if i = k then 0 else if i < k then i + 1 else i) (fun i u hu => by
    rw [pget_pset] at hu
    try dsimp only
    split at hu
    · rename_i h1
      rw [if_pos h1]
      rw [hk] at hu
      exact hu
    · rename_i h1
      rw [if_neg h1]
      split
      · rename_i h2
        simp only [pget, pget_pdel, if_pos h2]
        exact hu
      · rename_i h2
        obtain ⟨m, rfl⟩ : ∃ m, i = m + 1 := ⟨i - 1, by omega⟩
        simp only [pget, pget_pdel]
        rw [if_neg (by omega)]
        exact hu) (fun i j _ _ _ _ he => by (try dsimp only at he); (repeat' (split at he)) <;> omega)
theorem front_mem {x : Ent} (hk : pget l k = some x) : ∀ e ∈ l, e ∈ x :: pdel l k := fun e he => by
  obtain ⟨i, hi⟩ := mem_pget he
  by_cases h1 : i = k
  · subst h1
    rw [hk] at hi
    cases hi
    exact List.mem_cons_self ..
  · refine List.mem_cons_of_mem _ ?_
    by_cases h2 : i < k
    · exact pget_mem i (by rw [pget_pdel, if_pos h2]; exact hi)
    · exact pget_mem (i - 1) (by rw [pget_pdel, if_neg (by omega), show i - 1 + 1 = i by omega]; exact hi)

/-- One number is another one; its header's block has turned, or nothing has. -/
theorem BagOk.turn {cs cs' : Array Value} {T : TypeId} {D' : List Nat} (h : BagOk H D l w) (hk : pget l k = some ⟨b, o, q⟩) (hg : w.heap[b]? = some (.cells cs T (0, 0))) (hg' : w'.heap[b]? = some (.cells cs' T (0, 0)))
    (hcs : ∀ p, p ≠ o → p ≠ o + 1 → cs'[p]? = cs[p]?) (h1 : cs'[o]? = some (.bool q'.neg)) (h2 : cs'[o + 1]? = some (.slice q'.A q'.n q'.c)) (hoth : ∀ p, p ≠ b → w'.heap[p]? = w.heap[p]?)
    (hdg : ∀ a, q'.A = some a → a.block ∈ D') (hrd : Rd w q'.A (cU q'.ds)) (hD : ∀ b ∈ D, b ∈ D') (hdj : ∀ b ∈ H, b ∉ D') : BagOk H D' (pset l k ⟨b, o, q'⟩) w' := by
  have hbH : b ∈ H := (h.ok _ (pget_mem k hk)).hd
  have key : ∀ i x, pget (pset l k ⟨b, o, q'⟩) i = some x → (i = k ∧ x = ⟨b, o, q'⟩) ∨ (i ≠ k ∧ pget l i = some x) := by
    intro i x hi
    rw [pget_pset] at hi
    split at hi
    · rename_i e
      subst e
      rw [hk] at hi
      exact .inl ⟨rfl, by simpa using hi.symm⟩
    · rename_i e
      exact .inr ⟨e, hi⟩
  refine ⟨fun x hx => ?_, fun i j x y hi hj hne => ?_, hdj⟩
  · obtain ⟨i, hi⟩ := mem_pget hx
    rcases key i x hi with ⟨rfl, rfl⟩ | ⟨hne, hi'⟩
    · exact ⟨hbH, ⟨cs', T, hg', h1, h2⟩, hdg, rd_stable hrd fun a ha => hoth _ (fun e => hdj b hbH (e ▸ hdg a ha))⟩
    · have hx' := h.ok x (pget_mem i hi')
      have ha : ∀ a, x.q.A = some a → w'.heap[a.block]? = w.heap[a.block]? := fun a ha => hoth _ (fun e => h.dj b hbH (e ▸ hx'.dg a ha))
      by_cases hxb : x.b = b
      · obtain ⟨c0, T0, g0, g1, g2⟩ := hx'.row
        rw [hxb, hg] at g0
        simp only [Option.some.injEq, Obj.cells.injEq] at g0
        obtain ⟨rfl, rfl, _⟩ := g0
        have hap := h.ap i k x _ hi' hk hne
        simp only [apart, hxb, ne_eq, not_true_eq_false, false_or] at hap
        exact ⟨hx'.hd, ⟨cs', T, hxb ▸ hg', by rw [hcs _ (by omega) (by omega)]; exact g1, by rw [hcs _ (by omega) (by omega)]; exact g2⟩, fun a ha => hD _ (hx'.dg a ha), rd_stable hx'.rd ha⟩
      · exact hx'.keep (hoth _ hxb) ha (fun _ h => h) hD
  · rcases key i x hi with ⟨rfl, rfl⟩ | ⟨hne1, hi'⟩
    · rcases key j y hj with ⟨rfl, rfl⟩ | ⟨hne2, hj'⟩
      · exact absurd rfl hne
      · exact h.ap i j ⟨b, o, q⟩ y hk hj' hne
    · rcases key j y hj with ⟨rfl, rfl⟩ | ⟨hne2, hj'⟩
      · exact h.ap i j x ⟨b, o, q⟩ hi' hk hne
      · exact h.ap i j x y hi' hj' hne
end

section
variable {P : Program} {N : Nat} {w0 : World} {F : Frm} {L : List Res} {d : Option Tmp} {x y : Operand} {v : Value} {ty t : TypeId} {pos : String} {af : Array Edge} {gd : Option (Nat × Bool)} {K : Frm → List Res → Prop} {H D : List Nat} {l : List Ent} {b o : Nat} {q : Nm}
theorem rdl_bag (i : Nat) (hi : lget L i = some (bag H D l)) (hm : (⟨b, o, q⟩ : Ent) ∈ l) : RdL w0 L q.A (cU q.ds) := fun _ hS => ((hS.holds i _ hi).ok _ hm).rd
theorem y_ldN1 (i : Nat) (ha : ∀ w, (isAgg t).run P w = .ok false w) (hx : FE N F x (.pointer (some ⟨b, o, none⟩))) (hi : lget L i = some (bag H D l)) (hm : (⟨b, o, q⟩ : Ent) ∈ l) : Yld P N w0 F L ⟨d, .load t x, ty, pos, af, gd⟩ (.bool q.neg) := fun a w hF hS => by
  obtain ⟨cs, T, hg, h1, h2⟩ := ((hS.holds i _ hi).ok _ hm).row
  have hc : w.cell? ⟨b, o, none⟩ = some (.bool q.neg) := by rw [cell_of_row w b o cs T (0, 0) hg]; exact h1
  simp [execOp, hx a hF, Instr.loadAt, Instr.sureAddr, loadVar, ha, load, Sem.run, hc]
theorem y_ldN2 (i : Nat) (ha : ∀ w, (isAgg t).run P w = .ok false w) (hx : FE N F x (.pointer (some ⟨b, o + 1, none⟩))) (hi : lget L i = some (bag H D l)) (hm : (⟨b, o, q⟩ : Ent) ∈ l) : Yld P N w0 F L ⟨d, .load t x, ty, pos, af, gd⟩ (.slice q.A q.n q.c) := fun a w hF hS => by
  obtain ⟨cs, T, hg, h1, h2⟩ := ((hS.holds i _ hi).ok _ hm).row
  have hc : w.cell? ⟨b, o + 1, none⟩ = some (.slice q.A q.n q.c) := by rw [cell_of_row w b (o + 1) cs T (0, 0) hg]; exact h2
  simp [execOp, hx a hF, Instr.loadAt, Instr.sureAddr, loadVar, ha, load, Sem.run, hc]

theorem bag_store {w : World} {p i k : Nat} {q' : Nm} (hs : ∀ w, (sizeOf t).run P w = .ok 1 w) (hv : v.cells = #[v]) (h1 : v.oneCell' = true) (hS : St w0 w L) (hi : lget L i = some (bag H D l)) (hk : pget l k = some ⟨b, o, q⟩) (hp : (p = o ∧ v = .bool q'.neg ∧ q.A = q'.A ∧ q.n = q'.n ∧ q.c = q'.c) ∨ (p = o + 1 ∧ v = .slice q'.A q'.n q'.c ∧ q.neg = q'.neg))
    (hdg : ∀ w, BagOk H D l w → (∀ a, q'.A = some a → a.block ∈ D) ∧ Rd w q'.A (cU q'.ds)) : ∃ w', (storeVar t ⟨b, p, none⟩ v).run P w = .ok () w' ∧ St w0 w' (lset L i (bag H D (pset l k ⟨b, o, q'⟩))) := by
  have hB := hS.holds i _ hi
  obtain ⟨cs, T, hg, g1, g2⟩ := (hB.ok _ (pget_mem k hk)).row
  have hg' : w.heap[b]? = some (.cells cs.toList.toArray T (0, 0)) := by simpa using hg
  have l1 : o < cs.size := (Array.getElem?_eq_some_iff.1 g1).1
  have l2 : o + 1 < cs.size := (Array.getElem?_eq_some_iff.1 g2).1
  have hpl : p < cs.toList.length := by rw [Array.length_toList]; rcases hp with ⟨h, _⟩ | ⟨h, _⟩ <;> omega
  have hr := run_storeb (P := P) (t := t) (w := w) (b := b) (o := p) (s := 1) (cs := cs.toList) (vs := [v]) (v := v) hs hv rfl (by simp [h1]) hg' (by omega)
  refine ⟨_, hr, ?_⟩
  have hset : cs.toList.take p ++ [v] ++ cs.toList.drop (p + 1) = cs.toList.set p v := by rw [List.set_eq_take_append_cons_drop, if_pos hpl]; simp
  rw [hset]
  have hlt := (hS.lt i _ hi b (List.mem_append_left _ (hB.ok _ (pget_mem k hk)).hd)).2
  refine hS.turn hi rfl rfl rfl (by simp [World.setRow]) (fun c hc1 hc2 => setRow_other w b c _ (fun e => hc2 (e ▸ List.mem_append_left _ (hB.ok _ (pget_mem k hk)).hd))) ?_ (fun c hc => ⟨by have := (hS.lt i _ hi c hc).2; simpa [World.setRow] using this, .inl hc⟩)
  have hget : ∀ j, (cs.toList.set p v).toArray[j]? = if p = j then some v else cs[j]? := fun j => by
    rw [List.getElem?_toArray, List.getElem?_set]
    by_cases e : p = j
    · subst e; simp at hpl; simp [hpl]
    · simp [e]
  refine hB.turn hk hg (setRow_heap w b _ _ T _ hg) (fun j h1 h2 => ?_) ?_ ?_ (fun c hc => setRow_other w b c _ hc) (hdg w hB).1 (hdg w hB).2 (fun _ h => h) hB.dj
  · rw [hget, if_neg (by rcases hp with ⟨h, _⟩ | ⟨h, _⟩ <;> omega)]
  · rw [hget]
    rcases hp with ⟨h, e, _⟩ | ⟨h, _, e⟩
    · rw [if_pos h, e]
    · rw [if_neg (by omega), g1, e]
  · rw [hget]
    rcases hp with ⟨h, _, e1, e2, e3⟩ | ⟨h, e, _⟩
    · rw [if_neg (by omega), g2, e1, e2, e3]
    · rw [if_pos h, e]
/-- The sign is another one. -/
theorem oj_stN1 {u : Bool} (i k : Nat) (hs : ∀ w, (sizeOf t).run P w = .ok 1 w) (hx : FE N F x (.pointer (some ⟨b, o, none⟩))) (hy : FE N F y (.bool u)) (hi : lget L i = some (bag H D l)) (hk : pget l k = some ⟨b, o, q⟩) (h : K (fput F d undef) (lset L i (bag H D (pset l k ⟨b, o, ⟨u, q.A, q.n, q.c, q.ds⟩⟩)))) : OpJ P N w0 F L ⟨d, .store t x y, ty, pos, af, gd⟩ K := fun a w hF hS => by
  obtain ⟨w', hr, hS'⟩ := bag_store (P := P) (t := t) (p := o) (q' := ⟨u, q.A, q.n, q.c, q.ds⟩) hs rfl rfl hS hi hk (.inl ⟨rfl, rfl, rfl, rfl, rfl⟩) (fun w hB => ⟨fun a ha => (hB.ok _ (pget_mem k hk)).dg a ha, (hB.ok _ (pget_mem k hk)).rd⟩)
  have hr2 : (execOp a.eval ⟨d, .store t x y, ty, pos, af, gd⟩).run P w = .ok .skip w' := by
    simp [execOp, Instr.storeAt, Instr.sureAddr, hx a hF, hy a hF, hr]
  unfold Oper.wp
  rw [hr2]
  exact ⟨_, _, h, hF.put _ _, hS'⟩
/-- Fewer of its digits. -/
theorem oj_stN2 {m : Nat} (i k : Nat) (hs : ∀ w, (sizeOf t).run P w = .ok 1 w) (hx : FE N F x (.pointer (some ⟨b, o + 1, none⟩))) (hy : FE N F y (.slice q.A m q.c)) (hi : lget L i = some (bag H D l)) (hk : pget l k = some ⟨b, o, q⟩) (h : K (fput F d undef) (lset L i (bag H D (pset l k ⟨b, o, ⟨q.neg, q.A, m, q.c, q.ds.take m⟩⟩)))) : OpJ P N w0 F L ⟨d, .store t x y, ty, pos, af, gd⟩ K := fun a w hF hS => by
  have hrd : ∀ w, Rd w q.A (cU q.ds) → Rd w q.A (cU (q.ds.take m)) := fun w hr => by
    rcases hr with hr | ⟨g, o', hA, hc⟩
    · refine .inl ?_
      have : q.ds = [] := by simpa [cU] using hr
      simp [this, cU]
    · refine .inr ⟨g, o', hA, fun j u hu => hc j u ?_⟩
      rw [cU, List.map_take, List.getElem?_take] at hu
      split at hu
      · exact hu
      · cases hu
  obtain ⟨w', hr, hS'⟩ := bag_store (P := P) (t := t) (p := o + 1) (q' := ⟨q.neg, q.A, m, q.c, q.ds.take m⟩) hs rfl rfl hS hi hk (.inr ⟨rfl, rfl, rfl⟩) (fun w hB => ⟨fun a ha => (hB.ok _ (pget_mem k hk)).dg a ha, hrd w (hB.ok _ (pget_mem k hk)).rd⟩)
  have hr2 : (execOp a.eval ⟨d, .store t x y, ty, pos, af, gd⟩).run P w = .ok .skip w' := by
    simp [execOp, Instr.storeAt, Instr.sureAddr, hx a hF, hy a hF, hr]
  unfold Oper.wp
  rw [hr2]
  exact ⟨_, _, h, hF.put _ _, hS'⟩
/-- Digits of another slice, that is the call's own. -/
theorem oj_stN3 {A : Option Addr} {n c : Nat} {ds : List Int} (i k j : Nat) (hs : ∀ w, (sizeOf t).run P w = .ok 1 w) (hx : FE N F x (.pointer (some ⟨b, o + 1, none⟩))) (hy : FE N F y (.slice A n c)) (hi : lget L i = some (bag H D l)) (hk : pget l k = some ⟨b, o, q⟩) (hj : lget L j = some (vec 195 1 (.slice A n c) n (cU ds))) (hne : Nat.beq i j = false)
    (h : ∀ D', K (fput F d undef) (lset (lset L j emp) i (bag H D' (pset l k ⟨b, o, ⟨q.neg, A, n, c, ds⟩⟩)))) : OpJ P N w0 F L ⟨d, .store t x y, ty, pos, af, gd⟩ K := fun a w hF hS => by
  have hne' := Nat.ne_of_beq_eq_false hne
  have hv := hS.holds j _ hj
  obtain ⟨_, _, hrd⟩ := OwnV.rd hv
  -- the slice goes into the bag
  let D' : List Nat := A.elim D (fun a => a.block :: D)
  have hD : ∀ b ∈ D, b ∈ D' := fun b hb => by cases A <;> simp [D', hb]
  have hA : ∀ a, A = some a → a.block ∈ D' := fun a ha => by subst ha; simp [D']
  have hform : ∀ b ∈ D', b ∈ D ∨ b ∈ (vec 195 1 (.slice A n c) n (cU ds)).foot := fun b hb => by
    rcases hv.2 with ⟨h1, _⟩ | ⟨g, off, cap, cur, h1, _⟩
    · injection h1 with e1 e2 e3
      subst e1
      exact .inl hb
    · injection h1 with e1 e2 e3
      subst e1
      simp only [D', Option.elim_some, List.mem_cons] at hb
      rcases hb with rfl | hb
      · exact .inr (by simp [vec, Value.ownBlock])
      · exact .inl hb
  have hS1 := hS.merge (t := ⟨H ++ D', fun w => BagOk H D' l w ∧ Rd w A (cU ds), fun w w' hf h1 => ⟨(bag H D' l).stable w w' hf h1.1, rd_stable h1.2 fun a ha => hf _ (List.mem_append_right _ (hA a ha))⟩⟩) hi hj hne'
    (fun h1 h2 h3 => ⟨⟨fun x hx => (h1.ok x hx).keep rfl (fun _ _ => rfl) (fun _ h => h) hD, h1.ap, fun b hb hb' => by
      rcases hform b hb' with h4 | h4
      · exact h1.dj b hb h4
      · exact h3 b (List.mem_append_left _ hb) h4⟩, hrd⟩) (fun b hb => by
      rcases List.mem_append.1 hb with hb | hb
      · exact .inl (List.mem_append_left _ hb)
      · rcases hform b hb with h4 | h4
        · exact .inl (List.mem_append_right _ h4)
        · exact .inr h4)
  have hi1 : lget (lset (lset L j emp) i ⟨H ++ D', fun w => BagOk H D' l w ∧ Rd w A (cU ds), fun w w' hf h1 => ⟨(bag H D' l).stable w w' hf h1.1, rd_stable h1.2 fun a ha => hf _ (List.mem_append_right _ (hA a ha))⟩⟩) i = some ⟨H ++ D', fun w => BagOk H D' l w ∧ Rd w A (cU ds), fun w w' hf h1 => ⟨(bag H D' l).stable w w' hf h1.1, rd_stable h1.2 fun a ha => hf _ (List.mem_append_right _ (hA a ha))⟩⟩ := by
    rw [lget_lset, if_pos rfl, lget_lset, if_neg hne', hi]
    rfl
  obtain ⟨hB, hR⟩ := hS1.holds i _ hi1
  have hS2 : St w0 w (lset (lset L j emp) i (bag H D' l)) := by
    have := hS1.less (r' := bag H D' l) hi1 (fun h => h.1) (fun b hb => hb)
    have e : ∀ (M : List Res) (r s : Res), lset (lset M i r) i s = lset M i s := by
      intro M r s
      have : ∀ (M : List Res) (i : Nat), lset (lset M i r) i s = lset M i s := by
        intro M
        induction M with
        | nil => intro i; rfl
        | cons x M ih => intro i; cases i with | zero => rfl | succ i => simp only [lset, ih]
      exact this M i
    rwa [e] at this
  have hi2 : lget (lset (lset L j emp) i (bag H D' l)) i = some (bag H D' l) := by
    rw [lget_lset, if_pos rfl, lget_lset, if_neg hne', hi]
    rfl
  -- and is stored: its digits are there all the while
  have hB2 := hS2.holds i _ hi2
  obtain ⟨cs, T, hg, g1, g2⟩ := (hB2.ok _ (pget_mem k hk)).row
  have hg' : w.heap[b]? = some (.cells cs.toList.toArray T (0, 0)) := by simpa using hg
  have l2 : o + 1 < cs.size := (Array.getElem?_eq_some_iff.1 g2).1
  have hr := run_storeb (P := P) (t := t) (w := w) (b := b) (o := o + 1) (s := 1) (cs := cs.toList) (vs := [.slice A n c]) (v := .slice A n c) hs rfl rfl rfl hg' (by rw [Array.length_toList]; omega)
  have hr2 : (execOp a.eval ⟨d, .store t x y, ty, pos, af, gd⟩).run P w = .ok .skip (w.setRow b (cs.toList.take (o + 1) ++ [Value.slice A n c] ++ cs.toList.drop (o + 1 + 1)).toArray) := by
    simp only [execOp, Instr.storeAt, Instr.sureAddr, hx a hF, hy a hF, Sem.run_bind, Sem.run_pure, Result.andThen_ok, hr]
  unfold Oper.wp
  rw [hr2]
  refine ⟨_, _, h D', hF.put _ _, ?_⟩
  have hset : cs.toList.take (o + 1) ++ [Value.slice A n c] ++ cs.toList.drop (o + 1 + 1) = cs.toList.set (o + 1) (.slice A n c) := by rw [List.set_eq_take_append_cons_drop, if_pos (by rw [Array.length_toList]; omega)]; simp
  have hget : ∀ j, (cs.toList.set (o + 1) (Value.slice A n c)).toArray[j]? = if o + 1 = j then some (.slice A n c) else cs[j]? := fun j => by
    rw [List.getElem?_toArray, List.getElem?_set]
    by_cases e : o + 1 = j
    · subst e; simp [l2]
    · simp [e]
  have hbH := (hB2.ok _ (pget_mem k hk)).hd
  have hS3 : St w0 (w.setRow b (cs.toList.set (o + 1) (.slice A n c)).toArray) (lset (lset (lset L j emp) i (bag H D' l)) i (bag H D' (pset l k ⟨b, o, ⟨q.neg, A, n, c, ds⟩⟩))) := by
    refine hS2.turn hi2 rfl rfl rfl (by simp [World.setRow]) (fun c' hc1 hc2 => setRow_other w b c' _ (fun e => hc2 (e ▸ List.mem_append_left _ hbH))) ?_ (fun c' hc => ⟨by have := (hS2.lt i _ hi2 c' hc).2; simpa [World.setRow] using this, .inl hc⟩)
    refine hB2.turn hk hg (setRow_heap w b _ _ T _ hg) (fun j h1 h2 => ?_) ?_ ?_ (fun c hc => setRow_other w b c _ hc) hA hR (fun _ h => h) hB2.dj
    · rw [hget, if_neg (by omega)]
    · rw [hget, if_neg (by omega), g1]
    · rw [hget, if_pos rfl]
  have e : ∀ (M : List Res) (i : Nat) (r s : Res), lset (lset M i r) i s = lset M i s := by
    intro M
    induction M with
    | nil => intro i r s; rfl
    | cons x M ih => intro i r s; cases i with | zero => rfl | succ i => simp only [lset, ih]
  rw [e, ← hset] at hS3
  exact hS3
end
end Go.Proofs.Ytpknjfeiiaopgaa.Big

namespace Go.Proofs.Ytpknjfeiiaopgaa.E
open Go.RowKit

section
variable {P : Program} {ops : Array Oper} {C : Array Bool → World → Prop}
/-- Whatever order is picked from here on, and C throughout. -/
def wpAnyD (P : Program) (ops : Array Oper) (C : Array Bool → World → Prop) (R : Act → World → Prop) : Nat → Array Bool → Act → World → Prop
  | 0, listed, a, w => Region.ready .any ops listed = [] ∧ R a w
  | n + 1, listed, a, w =>
    (Region.ready .any ops listed = [] → R a w) ∧ ∀ i ∈ Region.ready .any ops listed, cOp P ops i (fun a' w' => ∀ w'', Below w'.heap.size w' w'' → C (listed.setIfInBounds i true) w'' ∧ wpAnyD P ops C R n (listed.setIfInBounds i true) a' w'') a w
theorem wpAny_of_D {R : Act → World → Prop} {Q : Exit → Act → World → Prop} (hQ : ∀ a w, R a w → Q .normal a w) : ∀ (n : Nat) (listed : Array Bool) (a : Act) (w : World), wpAnyD P ops C R n listed a w → wpAny P .any ops Q n listed a w
  | 0, _, _, _, h => ⟨h.1, hQ _ _ h.2⟩
  | n + 1, _, _, _, h => ⟨fun h0 => hQ _ _ (h.1 h0), fun i hi => by
      have h1 := h.2 i hi
      unfold cOp at h1
      unfold wpOp
      split
      · rename_i ho
        simp only [ho] at h1
        exact wpAny_of_D hQ n _ _ _ (h1 _ (Below.refl _ _)).2
      · rename_i o ho
        simp only [ho] at h1
        split
        · rename_i hw
          simp only [hw, if_true] at h1
          exact .inl (wp_of_noQ (fun a' w' h2 => wpAny_of_D hQ n _ _ _ (h2 _ (Below.refl _ _)).2) h1)
        · rename_i hw
          simp only [hw] at h1
          exact wpAny_of_D hQ n _ _ _ (h1 _ (Below.refl _ _)).2⟩

theorem wpAnyD_first {R : Act → World → Prop} {Cv : World → Prop} {I : Array Bool → Prop} {i : Nat} {oi : Oper} {v : Value} (hi : ops[i]? = some oi) (hsel : ∀ (j : Nat) (o : Oper) cs b, ops[j]? = some o → o.op ≠ .select cs b) (hG : ∀ l w w', C l w → Below w.heap.size w w' → C l w')
    (hset : ∀ l, C (l.setIfInBounds i true) = C l) (hcv : ∀ l w, I l → C l w → Cv w) (hI : ∀ (l : Array Bool) j, I l → j ≠ i → i ∈ Region.ready .any ops l → j ∈ Region.ready .any ops l → I (l.setIfInBounds j true)) :
    ∀ (n : Nat) (listed : Array Bool) (a : Act) (w : World), I listed → C listed w →
      (∀ j oj, ops[j]? = some oj → j ≠ i → listed.getD j true = false → (∀ e ∈ oj.after, Region.binds .any e = true → e.on ≠ i) → oi.apart ops oj = true) →
      i ∈ Region.ready .any ops listed → YIn P ops Cv oi v a →
      (∀ w', Below w.heap.size w w' → wpAnyD P ops C R n (listed.setIfInBounds i true) (a.put oi.dst v) w') → wpAnyD P ops C R (n + 1) listed a w := by
  intro n
  induction n with
  | zero =>
    intro listed a w hIl hC _ hr hy H
    refine ⟨fun h => (by rw [h] at hr; cases hr), fun j hj => ?_⟩
    by_cases hji : j = i
    · subst hji; exact cOp_of_yields hi hy (hcv _ _ hIl hC) fun w' hw' w'' hw'' => ⟨by rw [hset]; exact hG _ w _ hC (hw'.trans (hw''.mono hw'.size)), H w'' (hw'.trans (hw''.mono hw'.size))⟩
    · have := ready_mono hj hji
      rw [(H w (Below.refl _ _)).1] at this
      cases this
  | succ n ih =>
    intro listed a w hIl hC hfree hr hy H
    refine ⟨fun h => (by rw [h] at hr; cases hr), fun j hj => ?_⟩
    by_cases hji : j = i
    · subst hji; exact cOp_of_yields hi hy (hcv _ _ hIl hC) fun w' hw' w'' hw'' => ⟨by rw [hset]; exact hG _ w _ hC (hw'.trans (hw''.mono hw'.size)), H w'' (hw'.trans (hw''.mono hw'.size))⟩
    · have h1 := (H w (Below.refl _ _)).2 j (ready_mono hj hji)
      obtain ⟨hjun, oj, hoj, hall⟩ := mem_ready.1 hj
      have hnot : ∀ e ∈ oj.after, Region.binds .any e = true → e.on ≠ i := fun e he hb heq => by
        have h1 := hall e he hb
        have h0 := (mem_ready.1 hr).1
        rw [heq] at h1
        rcases Nat.lt_or_ge i listed.size with h' | h'
        · simp [h'] at h0 h1; rw [h0] at h1; cases h1
        · simp [Array.getElem?_eq_none h'] at h1
      have h2 := cOp_put hoj (hfree j oj hoj hji hjun hnot) (fun cs b => hsel i oi cs b hi) (fun cs b => hsel j oj cs b hoj) hy h1
      have hfree' : ∀ k ok, ops[k]? = some ok → k ≠ i → (listed.setIfInBounds j true).getD k true = false →
          (∀ e ∈ ok.after, Region.binds .any e = true → e.on ≠ i) → oi.apart ops ok = true := fun k ok hk hki hun hno => by
        refine hfree k ok hk hki ?_ hno
        by_cases hjk : j = k
        · subst hjk; exact hjun
        · rw [getD_set_ne true hjk] at hun; exact hun
      refine cOp_mono (fun a' w' h3 w'' hw'' => ?_) h2
      have hC'' := (h3.2 w'' hw'').1
      rw [Array.setIfInBounds_comm _ _ (Ne.symm hji), hset] at hC''
      refine ⟨hC'', ih (listed.setIfInBounds j true) a' w'' (hI _ _ hIl hji hr hj) hC'' hfree' (ready_mono hr (Ne.symm hji)) h3.1 (fun w3 hw3 => ?_)⟩
      rw [Array.setIfInBounds_comm _ _ hji]
      exact (h3.2 w3 (hw''.trans (hw3.mono hw''.size))).2
end

/-- S1 till k0 has come up, S2 from then on. -/
def CC (w0 : World) (k0 : Nat) (S1 S2 : List Res) (l : Array Bool) (w : World) : Prop := St w0 w (bif l.getD k0 true then S2 else S1)
section
variable {P : Program} {N : Nat} {w0 : World} {ops : Array Oper} {Q : Exit → Act → World → Prop} {F : Frm} {L S1 S2 : List Res} {listed : Array Bool} {n k0 : Nat}
theorem CC.two {w : World} (h12 : ∀ w, St w0 w S1 → St w0 w S2) (h : CC w0 k0 S1 S2 listed w) : St w0 w S2 := by
  unfold CC at h
  cases hb : listed.getD k0 true <;> rw [hb] at h
  · exact h12 w h
  · exact h
theorem CC.set {i : Nat} (hne : i ≠ k0) (l : Array Bool) : CC w0 k0 S1 S2 (l.setIfInBounds i true) = CC w0 k0 S1 S2 l := by
  funext w
  unfold CC
  rw [getD_set_ne true hne]

def TB (P : Program) (N : Nat) (w0 : World) (ops : Array Oper) (Q : Exit → Act → World → Prop) (k0 : Nat) (S1 S2 : List Res) (n : Nat) (listed : Array Bool) (F : Frm) (L : List Res) : Prop :=
  (∀ w, St w0 w S1 → St w0 w S2) → ∀ a w, Fr N a F → St w0 w L → CC w0 k0 S1 S2 listed w → wpAnyD P ops (CC w0 k0 S1 S2) (Q .normal) n listed a w
theorem tb_draw {id : Nat} {l : List Oper} (k0 : Nat) (S2 : List Res) (h12 : ∀ w, St w0 w L → St w0 w S2) (hm : P.follows .mixedOrders = true) (h : TB P N w0 l.toArray Q k0 L S2 l.length (Array.replicate l.length false) F L) : TR P N w0 Q (.region id l.toArray true) F L := fun a w hF hS => by
  have h1 : St w0 { w with drawn := w.drawn + 1 } L := hS.grow ⟨rfl, rfl, rfl, Nat.le_refl _, fun _ _ => rfl⟩
  have hc : CC w0 k0 L S2 (Array.replicate l.length false) { w with drawn := w.drawn + 1 } := by
    unfold CC
    cases (Array.replicate l.length false).getD k0 true
    · exact h1
    · exact h12 _ h1
  have := h h12 a _ hF h1 hc
  exact wp_region_any hm (by simpa using wpAny_of_D (fun _ _ h => h) _ _ _ _ this)
theorem tb_done (hr : Region.ready .any ops listed = []) (h : TX N w0 Q .normal F L) : TB P N w0 ops Q k0 S1 S2 n listed F L := fun _ a w hF hS _ => by
  cases n with
  | zero => exact ⟨hr, h a w hF hS⟩
  | succ n => exact ⟨fun _ => h a w hF hS, by rw [hr]; simp⟩

theorem CC.grow {l : Array Bool} {w w' : World} (h : CC w0 k0 S1 S2 l w) (hb : Below w.heap.size w w') : CC w0 k0 S1 S2 l w' := by
  unfold CC at *
  exact h.grow hb
/-- Taken first: what the whole region leaves as it is yields it. -/
theorem tb_float {i : Nat} {o : Oper} {v : Value} (hi : ops[i]? = some o) (hb : (Region.noSelect ops && Region.free .any ops listed i && (Region.ready .any ops listed).contains i) = true) (hne : Nat.beq i k0 = false) (hw : Wants N ops F o true) (hy : Yq P N w0 F S2 o v)
    (h : TB P N w0 ops Q k0 S1 S2 n (listed.setIfInBounds i true) (fput F o.dst v) L) : TB P N w0 ops Q k0 S1 S2 (n + 1) listed F L := fun h12 a w hF hS hC => by
  simp only [Bool.and_eq_true] at hb
  have hne' := Nat.ne_of_beq_eq_false hne
  refine wpAnyD_first (v := v) (Cv := fun w => St w0 w S2) (I := fun _ => True) hi (Region.noSelect_spec hb.1.1) (fun l w w' h1 h2 => h1.grow h2) (CC.set hne') (fun l w _ h => h.two h12) (fun _ _ _ _ _ _ => trivial) n listed a w trivial hC (Region.free_spec hi hb.1.2) (by simpa using hb.2) (.inl ⟨hw a hF, fun w hw => hy a w hF hw⟩) (fun w' hw' => h h12 _ _ (hF.put _ _) (hS.grow hw') ?_)
  rw [CC.set hne']
  exact hC.grow hw'
theorem tb_skip {i : Nat} {o : Oper} (hi : ops[i]? = some o) (hb : (Region.noSelect ops && Region.free .any ops listed i && (Region.ready .any ops listed).contains i) = true) (hne : Nat.beq i k0 = false) (hw : Wants N ops F o false)
    (h : TB P N w0 ops Q k0 S1 S2 n (listed.setIfInBounds i true) (fput F o.dst undef) L) : TB P N w0 ops Q k0 S1 S2 (n + 1) listed F L := fun h12 a w hF hS hC => by
  simp only [Bool.and_eq_true] at hb
  have hne' := Nat.ne_of_beq_eq_false hne
  refine wpAnyD_first (v := undef) (Cv := fun w => St w0 w S2) (I := fun _ => True) hi (Region.noSelect_spec hb.1.1) (fun l w w' h1 h2 => h1.grow h2) (CC.set hne') (fun l w _ h => h.two h12) (fun _ _ _ _ _ _ => trivial) n listed a w trivial hC (Region.free_spec hi hb.1.2) (by simpa using hb.2) (.inr ⟨hw a hF, rfl⟩) (fun w' hw' => h h12 _ _ (hF.put _ _) (hS.grow hw') ?_)
  rw [CC.set hne']
  exact hC.grow hw'
/-- Taken first: the first writer waits for it. -/
theorem tb_float1 {i : Nat} {o : Oper} {v : Value} (hi : ops[i]? = some o) (hb : (Region.noSelect ops && Region.free .any ops listed i && (Region.ready .any ops listed).contains i) = true) (hk : ((ops[k0]?).any fun u => u.after.any fun e => Region.binds .any e && Nat.beq e.on i) = true) (hl : listed.getD k0 true = false) (hw : Wants N ops F o true) (hy : Yq P N w0 F S1 o v)
    (h : TB P N w0 ops Q k0 S1 S2 n (listed.setIfInBounds i true) (fput F o.dst v) L) : TB P N w0 ops Q k0 S1 S2 (n + 1) listed F L := fun h12 a w hF hS hC => by
  simp only [Bool.and_eq_true] at hb
  have hdep : ∀ (l : Array Bool), i ∈ Region.ready .any ops l → k0 ∉ Region.ready .any ops l := fun l h1 h2 => by
    obtain ⟨_, u, hu, hall⟩ := mem_ready.1 h2
    rw [hu] at hk
    simp only [Option.any_some, Array.any_eq_true, Bool.and_eq_true] at hk
    obtain ⟨m, hm, he1, he2⟩ := hk
    have h3 := hall _ (Array.getElem_mem hm) he1
    rw [Nat.eq_of_beq_eq_true he2] at h3
    have h0 := (mem_ready.1 h1).1
    rcases Nat.lt_or_ge i l.size with h' | h'
    · simp [h'] at h0 h3; rw [h0] at h3; cases h3
    · simp [Array.getElem?_eq_none h'] at h3
  have hri : i ∈ Region.ready .any ops listed := by simpa using hb.2
  have hne' : i ≠ k0 := fun e => by
    subst e
    exact hdep _ hri hri
  refine wpAnyD_first (v := v) (Cv := fun w => St w0 w S1) (I := fun l => l.getD k0 true = false) hi (Region.noSelect_spec hb.1.1) (fun l w w' h1 h2 => h1.grow h2) (CC.set hne') (fun l w h1 h2 => by unfold CC at h2; rw [h1] at h2; exact h2) (fun l j h1 h2 h3 h4 => ?_) n listed a w hl hC (Region.free_spec hi hb.1.2) hri (.inl ⟨hw a hF, fun w hw => hy a w hF hw⟩) (fun w' hw' => h h12 _ _ (hF.put _ _) (hS.grow hw') ?_)
  · have : j ≠ k0 := fun e => by subst e; exact hdep l h3 h4
    rw [getD_set_ne true this]
    exact h1
  · rw [CC.set hne']
    exact hC.grow hw'

/-- The one that may come up now, whatever it does: ahead of the first writer, or not. -/
theorem tb_one1 {i : Nat} {o : Oper} (hi : ops[i]? = some o) (hr : Region.ready .any ops listed = [i]) (hb : (listed.setIfInBounds i true).getD k0 true = false) (hw : Wants N ops F o true) (h : OpJ P N w0 F L o (fun F' L' => (∀ w, St w0 w L' → St w0 w S1) ∧ TB P N w0 ops Q k0 S1 S2 n (listed.setIfInBounds i true) F' L')) : TB P N w0 ops Q k0 S1 S2 (n + 1) listed F L := fun h12 a w hF hS hC => by
  refine ⟨fun h0 => (by rw [hr] at h0; cases h0), fun j hj => ?_⟩
  rw [hr, List.mem_singleton] at hj
  subst hj
  unfold cOp
  simp only [hi, hw a hF, if_true]
  refine wp_of_noQ (fun a' w' ⟨F', L', ⟨h1, h2⟩, h3, h4⟩ w'' hw'' => ?_) (h a w hF hS)
  have hc : CC w0 k0 S1 S2 (listed.setIfInBounds j true) w'' := by unfold CC; rw [hb]; exact h1 _ (h4.grow hw'')
  exact ⟨hc, h2 h12 a' w'' h3 (h4.grow hw'') hc⟩
theorem tb_one2 {i : Nat} {o : Oper} (hi : ops[i]? = some o) (hr : Region.ready .any ops listed = [i]) (hb : (listed.setIfInBounds i true).getD k0 true = true) (hw : Wants N ops F o true) (h : OpJ P N w0 F L o (fun F' L' => (∀ w, St w0 w L' → St w0 w S2) ∧ TB P N w0 ops Q k0 S1 S2 n (listed.setIfInBounds i true) F' L')) : TB P N w0 ops Q k0 S1 S2 (n + 1) listed F L := fun h12 a w hF hS hC => by
  refine ⟨fun h0 => (by rw [hr] at h0; cases h0), fun j hj => ?_⟩
  rw [hr, List.mem_singleton] at hj
  subst hj
  unfold cOp
  simp only [hi, hw a hF, if_true]
  refine wp_of_noQ (fun a' w' ⟨F', L', ⟨h1, h2⟩, h3, h4⟩ w'' hw'' => ?_) (h a w hF hS)
  have hc : CC w0 k0 S1 S2 (listed.setIfInBounds j true) w'' := by unfold CC; rw [hb]; exact h1 _ (h4.grow hw'')
  exact ⟨hc, h2 h12 a' w'' h3 (h4.grow hw'') hc⟩
theorem tb_split {d : Nat} {b : Bool} (hv : fget N F d = some (.bool b)) (h1 : b = true → TB P N w0 ops Q k0 S1 S2 n listed (.put d (.bool true) F) L) (h2 : b = false → TB P N w0 ops Q k0 S1 S2 n listed (.put d (.bool false) F) L) : TB P N w0 ops Q k0 S1 S2 n listed F L := fun h12 a w hF hS hC => by
  have key : Fr N a (.put d (.bool b) F) := hF.cov fun i u hi => by
    rw [fget_cons] at hi
    split at hi
    · rename_i e; subst e; split at hi
      · rw [hv]; exact hi
      · cases hi
    · exact hi
  cases b
  · exact h2 rfl h12 a w key hS hC
  · exact h1 rfl h12 a w key hS hC
theorem tb_splitp {d : Nat} {p : Prop} [Decidable p] (hv : fget N F d = some (.bool (decide p))) (h1 : p → TB P N w0 ops Q k0 S1 S2 n listed (.put d (.bool true) F) L) (h2 : ¬ p → TB P N w0 ops Q k0 S1 S2 n listed (.put d (.bool false) F) L) : TB P N w0 ops Q k0 S1 S2 n listed F L :=
  tb_split hv (fun h => h1 (of_decide_eq_true h)) (fun h => h2 (of_decide_eq_false h))
/-- Less is left as it is. -/
theorem tb_add {r : Res} (hr : ∀ w, r.holds w) (hf : r.foot = []) (h : TB P N w0 ops Q k0 S1 S2 n listed F (r :: L)) : TB P N w0 ops Q k0 S1 S2 n listed F L := fun h12 a w hF hS hC =>
  h h12 a w hF (hS.add (Below.refl _ _) (hr w) (by simp [hf])) hC
theorem tb_pure {φ : Prop} (hφ : ∀ w, St w0 w L → φ) (h : φ → TB P N w0 ops Q k0 S1 S2 n listed F L) : TB P N w0 ops Q k0 S1 S2 n listed F L := fun h12 a w hF hS hC => h (hφ w hS) h12 a w hF hS hC
end
end Go.Proofs.Ytpknjfeiiaopgaa.E

namespace Go.Proofs.Ytpknjfeiiaopgaa.Big
open Go.RowKit Go.Proofs.Ytpknjfeiiaopgaa.E

abbrev nm0 : Nm := ⟨false, none, 0, 0, []⟩
def psel {α : Type} (L : List α) : List Nat → List α
  | [] => []
  | k :: ks => match pget L k with | some r => r :: psel L ks | none => psel L ks
section
variable {H D : List Nat} {l l' es : List Ent} {w w' : World} {b o k : Nat} {q q' : Nm}
theorem pget_append {α : Type} (M L : List α) (i : Nat) : pget (M ++ L) i = if i < M.length then pget M i else pget L (i - M.length) := by
  rw [pget_at, pget_at, pget_at, List.getElem?_append]
theorem pget_len {α : Type} {l : List α} {i : Nat} {r : α} (h : pget l i = some r) : i < l.length := by
  rw [pget_at] at h
  exact (List.getElem?_eq_some_iff.1 h).1
/-- Some of the first, in another order; what comes behind them stays. -/
theorem BagOk.pick {T : List Ent} (h : BagOk H D (l ++ T) w) (ks : List Nat) (hs : ks.map (pget l) = (psel l ks).map some) (hn : ks.Nodup) : BagOk H D (psel l ks ++ T) w := by
  have hlen : (psel l ks).length = ks.length := by simpa using (congrArg List.length hs).symm
  have key : ∀ (i : Nat) (r : Ent), pget (psel l ks) i = some r → ∃ k : Nat, ks[i]? = some k ∧ pget l k = some r := by
    intro i r hi
    rw [pget_at] at hi
    have h1 := congrArg (·[i]?) hs
    simp only [List.getElem?_map, hi, Option.map_some] at h1
    cases hk : ks[i]? with
    | none => rw [hk] at h1; simp at h1
    | some k => rw [hk] at h1; exact ⟨k, rfl, by simpa using h1⟩
  have hb : ∀ (i k : Nat), ks[i]? = some k → k < l.length := by
    intro i k hk
    have h1 := congrArg (·[i]?) hs
    simp only [List.getElem?_map, hk, Option.map_some] at h1
    cases h2 : (psel l ks)[i]? with
    | none => rw [h2] at h1; simp at h1
    | some r => rw [h2] at h1; exact pget_len (by simpa using h1)
  refine h.sub (fun i => match ks[i]? with | some k => k | none => i - ks.length + l.length) (fun i r hi => ?_) (fun i j r s hi hj he => ?_)
  · rw [pget_append] at hi
    split at hi
    · obtain ⟨k, hk, hr⟩ := key i r hi
      rw [hk]
      try dsimp only
      rw [pget_append, if_pos (pget_len hr)]
      exact hr
    · rename_i hge
      rw [List.getElem?_eq_none (by omega)]
      try dsimp only
      rw [pget_append, if_neg (by omega), ← hi, hlen]
      congr 1
      omega
  · cases h1 : ks[i]? with
    | none =>
      have hi1 := List.getElem?_eq_none_iff.1 h1
      cases h2 : ks[j]? with
      | none =>
        have hj1 := List.getElem?_eq_none_iff.1 h2
        rw [h1, h2] at he
        (try dsimp only at he)
        omega
      | some k2 =>
        have := hb j k2 h2
        rw [h1, h2] at he
        (try dsimp only at he)
        omega
    | some k1 =>
      have := hb i k1 h1
      cases h2 : ks[j]? with
      | none => rw [h1, h2] at he; dsimp only at he; omega
      | some k2 =>
        rw [h1, h2] at he
        (try dsimp only at he)
        subst he
        obtain ⟨hi2, hi3⟩ := List.getElem?_eq_some_iff.1 h1
        obtain ⟨hj2, hj3⟩ := List.getElem?_eq_some_iff.1 h2
        rcases Nat.lt_trichotomy i j with h3 | h3 | h3
        · exact absurd (hi3.trans hj3.symm) (List.pairwise_iff_getElem.1 hn i j hi2 hj2 h3)
        · exact h3
        · exact absurd (hj3.trans hi3.symm) (List.pairwise_iff_getElem.1 hn j i hj2 hi2 h3)
/-- A block of new numbers, noughts. -/
theorem BagOk.add {cs : Array Value} {T : TypeId} (h : BagOk H D l w) (hg : w.heap[b]? = some (.cells cs T (0, 0))) (hb : b ∉ H ++ D) (he : ∀ x ∈ es, x.b = b ∧ x.q = nm0 ∧ cs[x.o]? = some (.bool false) ∧ cs[x.o + 1]? = some (.slice none 0 0))
    (hap : ∀ i j x y, pget es i = some x → pget es j = some y → i ≠ j → x.o + 2 ≤ y.o ∨ y.o + 2 ≤ x.o) : BagOk (b :: H) D (es ++ l) w := by
  have hb' : b ∈ H ∨ b ∈ D → False := fun h => hb (List.mem_append.2 h)
  refine ⟨fun x hx => ?_, fun i j x y hi hj hne => ?_, fun c hc hc' => ?_⟩
  · rcases List.mem_append.1 hx with hx | hx
    · obtain ⟨h1, h2, h3, h4⟩ := he x hx
      exact ⟨by simp [h1], ⟨cs, T, by rw [h1]; exact hg, by rw [h2]; exact h3, by rw [h2]; exact h4⟩, fun a ha => (by rw [h2] at ha; cases ha), .inl (by rw [h2]; rfl)⟩
    · exact (h.ok x hx).keep rfl (fun _ _ => rfl) (fun _ h => List.mem_cons_of_mem _ h) (fun _ h => h)
  · rw [pget_append] at hi hj
    split at hi
    · have hx := he x (pget_mem _ hi)
      split at hj
      · have := hap i j x y hi hj hne
        exact .inr this
      · refine .inl fun e => hb' (.inl ?_)
        rw [← hx.1, e]
        exact (h.ok y (pget_mem _ hj)).hd
    · split at hj
      · have hy := he y (pget_mem _ hj)
        refine .inl fun e => hb' (.inl ?_)
        rw [← hy.1, ← e]
        exact (h.ok x (pget_mem _ hi)).hd
      · exact h.ap _ _ x y hi hj (by omega)
  · rcases List.mem_cons.1 hc with rfl | hc
    · exact hb' (.inr hc')
    · exact h.dj c hc hc'
end

section
variable {P : Program} {N : Nat} {w0 w : World} {F : Frm} {L : List Res} {d : Option Tmp} {x y : Operand} {v : Value} {ty t : TypeId} {pos : String} {af : Array Edge} {gd : Option (Nat × Bool)} {K : Frm → List Res → Prop} {H D : List Nat} {l : List Ent} {b o : Nat} {q : Nm} {i : Nat}
theorem St.bagadd {cs : Array Value} {T : TypeId} {es : List Ent} (hS : St w0 w L) (hi : lget L i = some (bag H D l)) (he : ∀ x ∈ es, x.b = w.heap.size ∧ x.q = nm0 ∧ cs[x.o]? = some (.bool false) ∧ cs[x.o + 1]? = some (.slice none 0 0))
    (hap : ∀ i j x y, pget es i = some x → pget es j = some y → i ≠ j → x.o + 2 ≤ y.o ∨ y.o + 2 ≤ x.o) : St w0 (w.alloc (.cells cs T)) (lset L i (bag (w.heap.size :: H) D (es ++ l))) := by
  have h1 := St.newblk (cs := cs) (T := T) hS
  have h2 := h1.merge (r := bag H D l) (s := blk w.heap.size cs.toList) (i := i + 1) (j := 0) (t := bag (w.heap.size :: H) D (es ++ l)) (by simpa [lget] using hi) rfl (by omega) (fun hr hs hd => hr.add (b := w.heap.size) (T := T) (heap_alloc_new w (.cells cs T)) (fun hm => hd _ hm (by simp [blk])) he hap) (fun c hc => by
    simp only [bag, List.cons_append, List.mem_cons] at hc
    rcases hc with rfl | hc
    · exact .inr (by simp [blk])
    · exact .inl hc)
  exact St.tail (by simpa [lset] using h2)
theorem oj_allocN (i : Nat) (hz : ∀ w, (zeroValue t).run P w = .ok (.agg #[.bool false, .slice none 0 0]) w) (hi : lget L i = some (bag H D l)) (h : ∀ b H', K (fput F d (.pointer (some ⟨b, 0, none⟩))) (lset L i (bag H' D (⟨b, 0, nm0⟩ :: l)))) : OpJ P N w0 F L ⟨d, .alloc t, ty, pos, af, gd⟩ K := fun a w hF hS => by
  have hr : (execOp a.eval ⟨d, .alloc t, ty, pos, af, gd⟩).run P w = .ok (.value (.pointer (some ⟨w.heap.size, 0, none⟩))) (w.alloc (.cells #[.bool false, .slice none 0 0] t)) := by
    simp [execOp, Instr.alloc, hz, newVar, newRow, newObj, run_new, Value.cells]
  unfold Oper.wp
  rw [hr]
  refine ⟨_, _, h w.heap.size (w.heap.size :: H), hF.put _ _, ?_⟩
  exact St.bagadd (es := [⟨w.heap.size, 0, nm0⟩]) hS hi (fun x hx => by simp only [List.mem_singleton] at hx; subst hx; exact ⟨rfl, rfl, rfl, rfl⟩) (fun i j x y hi hj hne => by
    have h1 := pget_len hi
    have h2 := pget_len hj
    simp only [List.length_singleton] at h1 h2
    omega)
theorem oj_allocR (i : Nat) (hz : ∀ w, (zeroValue t).run P w = .ok (.agg #[.bool false, .slice none 0 0, .bool false, .slice none 0 0]) w) (hi : lget L i = some (bag H D l)) (h : ∀ b H', K (fput F d (.pointer (some ⟨b, 0, none⟩))) (lset L i (bag H' D (⟨b, 0, nm0⟩ :: ⟨b, 2, nm0⟩ :: l)))) : OpJ P N w0 F L ⟨d, .alloc t, ty, pos, af, gd⟩ K := fun a w hF hS => by
  have hr : (execOp a.eval ⟨d, .alloc t, ty, pos, af, gd⟩).run P w = .ok (.value (.pointer (some ⟨w.heap.size, 0, none⟩))) (w.alloc (.cells #[.bool false, .slice none 0 0, .bool false, .slice none 0 0] t)) := by
    simp [execOp, Instr.alloc, hz, newVar, newRow, newObj, run_new, Value.cells]
  unfold Oper.wp
  rw [hr]
  refine ⟨_, _, h w.heap.size (w.heap.size :: H), hF.put _ _, ?_⟩
  exact St.bagadd (es := [⟨w.heap.size, 0, nm0⟩, ⟨w.heap.size, 2, nm0⟩]) hS hi (fun x hx => by
    simp only [List.mem_cons, List.not_mem_nil, or_false] at hx
    rcases hx with rfl | rfl <;> exact ⟨rfl, rfl, rfl, rfl⟩) (fun i j x y hi hj hne => by
    have h1 := pget_len hi
    have h2 := pget_len hj
    simp only [List.length_cons, List.length_nil] at h1 h2
    obtain rfl | rfl : i = 0 ∨ i = 1 := by omega
    · obtain rfl : j = 1 := by omega
      simp only [pget, Option.some.injEq] at hi hj
      subst hi hj
      exact .inl (by simp)
    · obtain rfl : j = 0 := by omega
      simp only [pget, Option.some.injEq] at hi hj
      subst hi hj
      exact .inr (by simp))

/-- What comes of a contract: where headers and digits lie, and a number. -/
structure B1 where
  H : List Nat
  D : List Nat
  q : Nm
structure B2 where
  H : List Nat
  D : List Nat
  q : Nm
  r : Nm
/-- A new number. -/
structure BN where
  b : Nat
  H : List Nat
  D : List Nat
  q : Nm
structure BR where
  b : Nat
  H : List Nat
  D : List Nat
  q : Nm
  r : Nm
section
variable {f : FuncId} {args : Array Value}
/-- A contract that turns one number, wherever it stands. -/
theorem lift1 {q0 : Nm} {p : Nm → Prop} {L : List Res} (i k : Nat) (hS : St w0 w L) (hi : lget L i = some (bag H D l)) (hk : pget l k = some ⟨b, o, q0⟩)
    (h : ∀ T l', (∀ e ∈ l, e ∈ (⟨b, o, q0⟩ : Ent) :: l') → St w0 w (bag H D (⟨b, o, q0⟩ :: l') :: T) → Calls P f args w fun e w' => ∃ r : B1, p r.q ∧ e = .returned v ∧ St w0 w' (bag r.H r.D (⟨b, o, r.q⟩ :: l') :: T)) :
    Calls P f args w fun e w' => ∃ r : B1, p r.q ∧ e = .returned v ∧ St w0 w' (lset L i (bag r.H r.D (pset l k ⟨b, o, r.q⟩))) := by
  have h1 := hS.less (k := i) (r' := bag H D (⟨b, o, q0⟩ :: pdel l k)) hi (fun hB => hB.front hk) (fun _ h => h)
  have h2 : lget (lset L i (bag H D (⟨b, o, q0⟩ :: pdel l k))) i = some (bag H D (⟨b, o, q0⟩ :: pdel l k)) := by rw [lget_lset, if_pos rfl, hi]; rfl
  have e : ∀ (M : List Res) (i : Nat) (r s : Res), lset (lset M i r) i s = lset M i s := by
    intro M
    induction M with
    | nil => intro i r s; rfl
    | cons x M ih => intro i r s; cases i with | zero => rfl | succ i => simp only [lset, ih]
  refine (h _ _ (front_mem hk) (h1.front h2)).mono fun e' w' ⟨r, hp, he, hS'⟩ => ⟨r, hp, he, ?_⟩
  have h3 := hS'.back h2
  rw [e] at h3
  have h4 := h3.less (k := i) (r := bag r.H r.D (⟨b, o, r.q⟩ :: pdel l k)) (r' := bag r.H r.D (pset l k ⟨b, o, r.q⟩)) (by rw [lget_lset, if_pos rfl, hi]; rfl) (fun hB => hB.back hk) (fun _ h => h)
  rwa [e] at h4
/-- A contract that turns two. -/
theorem lift2 {b' o' : Nat} {q0 r0 : Nm} {p : Nm → Nm → Prop} {L : List Res} (i k m : Nat) (hS : St w0 w L) (hi : lget L i = some (bag H D l)) (hk : pget l k = some ⟨b, o, q0⟩) (hm : pget l m = some ⟨b', o', r0⟩) (hkm : Nat.beq k m = false)
    (h : ∀ T l', (∀ e ∈ l, e ∈ (⟨b, o, q0⟩ : Ent) :: ⟨b', o', r0⟩ :: l') → St w0 w (bag H D (⟨b, o, q0⟩ :: ⟨b', o', r0⟩ :: l') :: T) → Calls P f args w fun e w' => ∃ r : B2, p r.q r.r ∧ e = .returned v ∧ St w0 w' (bag r.H r.D (⟨b, o, r.q⟩ :: ⟨b', o', r.r⟩ :: l') :: T)) :
    Calls P f args w fun e w' => ∃ r : B2, p r.q r.r ∧ e = .returned v ∧ St w0 w' (lset L i (bag r.H r.D (pset (pset l k ⟨b, o, r.q⟩) m ⟨b', o', r.r⟩))) := by
  have hkm' := Nat.ne_of_beq_eq_false hkm
  let m' := if m < k then m else m - 1
  have hm' : pget (pdel l k) m' = some ⟨b', o', r0⟩ := by
    rw [pget_pdel]
    by_cases h1 : m < k
    · simp only [m', if_pos h1]; exact hm
    · simp only [m', if_neg h1]
      rw [if_neg (by omega), show m - 1 + 1 = m by omega]
      exact hm
  have F1 : ∀ {H D l w}, BagOk H D l w → pget l k = some ⟨b, o, q0⟩ → pget (pdel l k) m' = some ⟨b', o', r0⟩ → BagOk H D (⟨b, o, q0⟩ :: ⟨b', o', r0⟩ :: pdel (pdel l k) m') w := by
    intro H D l w hB hk hm'
    have h1 := hB.front hk
    have h2 : pget ((⟨b, o, q0⟩ : Ent) :: pdel l k) (m' + 1) = some ⟨b', o', r0⟩ := hm'
    have h3 := h1.front h2
    exact h3.pick (l := [_, _]) [1, 0] rfl (by decide)
  have h1 := hS.less (k := i) (r' := bag H D (⟨b, o, q0⟩ :: ⟨b', o', r0⟩ :: pdel (pdel l k) m')) hi (fun hB => F1 hB hk hm') (fun _ h => h)
  have h2 : lget (lset L i (bag H D (⟨b, o, q0⟩ :: ⟨b', o', r0⟩ :: pdel (pdel l k) m'))) i = some (bag H D (⟨b, o, q0⟩ :: ⟨b', o', r0⟩ :: pdel (pdel l k) m')) := by rw [lget_lset, if_pos rfl, hi]; rfl
  have e : ∀ (M : List Res) (i : Nat) (r s : Res), lset (lset M i r) i s = lset M i s := by
    intro M
    induction M with
    | nil => intro i r s; rfl
    | cons x M ih => intro i r s; cases i with | zero => rfl | succ i => simp only [lset, ih]
  refine (h _ _ (fun y hy => ?_) (h1.front h2)).mono fun e' w' ⟨r, hp, he, hS'⟩ => ⟨r, hp, he, ?_⟩
  · rcases List.mem_cons.1 (front_mem hk y hy) with rfl | h3
    · exact List.mem_cons_self ..
    · exact List.mem_cons_of_mem _ (front_mem hm' y h3)
  have h3 := hS'.back h2
  rw [e] at h3
  have h4 := h3.less (k := i) (r := bag r.H r.D (⟨b, o, r.q⟩ :: ⟨b', o', r.r⟩ :: pdel (pdel l k) m')) (r' := bag r.H r.D (pset (pset l k ⟨b, o, r.q⟩) m ⟨b', o', r.r⟩)) (by rw [lget_lset, if_pos rfl, hi]; rfl) (fun hB => ?_) (fun _ h => h)
  · rwa [e] at h4
  have g1 := hB.pick (l := [_, _]) [1, 0] rfl (by decide)
  have g2 : BagOk r.H r.D (⟨b', o', r.r⟩ :: ⟨b, o, r.q⟩ :: pdel (pdel l k) m') w' := g1
  have g3 : BagOk r.H r.D (pset ((⟨b, o, r.q⟩ : Ent) :: pdel l k) (m' + 1) ⟨b', o', r.r⟩) w' := BagOk.back (k := m' + 1) (l := (⟨b, o, r.q⟩ : Ent) :: pdel l k) (x := ⟨b', o', r.r⟩) g2 (y := ⟨b', o', r0⟩) hm'
  have e3 : pset (pdel l k) m' ⟨b', o', r.r⟩ = pdel (pset l m ⟨b', o', r.r⟩) k := by
    apply List.ext_getElem?
    intro j
    rw [← pget_at, ← pget_at, pget_pset, hm', pget_pdel, pget_pdel, pget_pset, pget_pset, hm]
    simp only [pget_pdel, m']
    by_cases c1 : m < k
    · simp only [c1, if_true]
      by_cases c2 : j = m
      · subst c2; simp [c1]
      · by_cases c3 : j < k
        · simp [c2, c3]
        · simp [c2, c3, show j + 1 ≠ m by omega]
    · simp only [c1, if_false]
      by_cases c2 : j = m - 1
      · subst c2; simp [show ¬ m - 1 < k by omega, show m - 1 + 1 = m by omega]
      · by_cases c3 : j < k
        · simp [c2, c3, show j ≠ m by omega]
        · simp [c2, c3, show j + 1 ≠ m by omega]
  have g4 : BagOk r.H r.D (⟨b, o, r.q⟩ :: pdel (pset l m ⟨b', o', r.r⟩) k) w' := by rw [← e3]; exact g3
  have hk' : pget (pset l m ⟨b', o', r.r⟩) k = some ⟨b, o, q0⟩ := by rw [pget_pset, if_neg hkm', hk]
  have g5 := g4.back hk'
  have e4 : pset (pset l m ⟨b', o', r.r⟩) k ⟨b, o, r.q⟩ = pset (pset l k ⟨b, o, r.q⟩) m ⟨b', o', r.r⟩ := by
    apply List.ext_getElem?
    intro j
    rw [← pget_at, ← pget_at, pget_pset, pget_pset, pget_pset, pget_pset, pget_pset, pget_pset, if_neg hkm', if_neg (Ne.symm hkm'), hk, hm]
    by_cases c1 : j = k
    · subst c1; simp [hkm']
    · by_cases c2 : j = m
      · subst c2; simp [c1]
      · simp [c1, c2]
  rwa [e4] at g5
end
theorem bag_int {q : Nm} {z : Int} (hS : St w0 w L) (i : Nat) (hi : lget L i = some (bag H D l)) (hm : (⟨b, o, q⟩ : Ent) ∈ l) (hq : q.is z) : IntAt w b o z := by
  have h := (hS.holds i _ hi).ok _ hm
  obtain ⟨cs, T, hb, h1, h2⟩ := h.row
  have hf : ∀ o, w.frozen? ⟨b, o, none⟩ = false := fun o => by simp [World.frozen?, hb]
  exact ⟨q.neg, q.ds, ⟨⟨q.A, q.c, by rw [cell_of_row w b o cs T (0, 0) hb]; exact h1, by rw [cell_of_row w b (o + 1) cs T (0, 0) hb, hq.len]; exact h2, by rw [hq.len]; exact hq.cap, h.rd⟩, hq.dig, hf _, hf _⟩, hq.trim, hq.nz, hq.val⟩
theorem St.bagpick {es T : List Ent} (i : Nat) (hS : St w0 w L) (hi : lget L i = some (bag H D (es ++ T))) (ks : List Nat) (hs : ks.map (pget es) = (psel es ks).map some) (hn : ks.Nodup) : St w0 w (lset L i (bag H D (psel es ks ++ T))) :=
  hS.less hi (fun h => h.pick ks hs hn) (fun _ h => h)
end
end Go.Proofs.Ytpknjfeiiaopgaa.Big
