/- Rules for the Int library: a thing held is replaced by a lesser one; a slice literal of two numbers; numbers as the old contracts read them. -/
import Derived.Test.YtoibebmhfcjpfaaGreatDoorZfEA
import Derived.Test.YtoibebmhfcjpfaaGreatDoorZfBigW
import Derived.Deep.RegionLawGrows
import Derived.Outline
import Derived.BigQuiet
import Derived.Deep.QuietTactic
import Derived.Laws.BitsAllLaws
import Derived.Laws.Bits64
namespace Go.Proofs.YtoibebmhfcjpfaaGreatDoor.E
open Go.RowKit
section
variable {w0 w : World} {L : List Res} {r r' : Res} {k : Nat}
theorem St.less (h : St w0 w L) (hk : lget L k = some r) (hr : r.holds w → r'.holds w) (hf : ∀ b ∈ r'.foot, b ∈ r.foot) : St w0 w (lset L k r') :=
  h.turn hk rfl rfl rfl (Nat.le_refl _) (fun _ _ _ => rfl) (hr (h.holds k r hk)) (fun b hb => ⟨(h.lt _ _ hk b (hf b hb)).2, .inl (hf b hb)⟩)
theorem St.via {M : List Res} (h : St w0 w L) (f : Nat → Nat) (hf : ∀ i r, lget M i = some r → lget L (f i) = some r) (hi : ∀ i j r s, lget M i = some r → lget M j = some s → f i = f j → i = j) : St w0 w M :=
  ⟨h.below, fun i r hr => h.holds _ _ (hf i r hr), fun i r hr => h.lt _ _ (hf i r hr), fun i j r s hr hs hne => h.sep _ _ r s (hf i r hr) (hf j s hs) (fun e => hne (hi i j r s hr hs e))⟩
theorem lget_len : ∀ {l : List Res} {i : Nat} {r : Res}, lget l i = some r → i < l.length
  | [], i, r, h => by simp [lget] at h
  | x :: l, 0, r, _ => by simp
  | x :: l, i + 1, r, h => by have := lget_len (l := l) (i := i) h; simp; omega
theorem lget_at : ∀ (l : List Res) (i : Nat), lget l i = l[i]?
  | [], i => by simp [lget]
  | x :: l, 0 => by simp [lget]
  | x :: l, i + 1 => by simp [lget, lget_at l i]
/-- Some of the first things held, in another order; what comes behind them stays. -/
theorem pickT {l T : List Res} (h : St w0 w (l ++ T)) (ks : List Nat) (hs : ks.map (lget l) = (sel l ks).map some) (hn : ks.Nodup) : St w0 w (sel l ks ++ T) := by
  have hlen : (sel l ks).length = ks.length := by simpa using (congrArg List.length hs).symm
  have key : ∀ (i : Nat) (r : Res), lget (sel l ks) i = some r → ∃ k : Nat, ks[i]? = some k ∧ lget l k = some r := by
    intro i r hi
    rw [lget_at] at hi
    have h1 := congrArg (·[i]?) hs
    simp only [List.getElem?_map, hi, Option.map_some] at h1
    cases hk : ks[i]? with
    | none => rw [hk] at h1; simp at h1
    | some k => rw [hk] at h1; exact ⟨k, rfl, by simpa using h1⟩
  have hb : ∀ (i k : Nat), ks[i]? = some k → k < l.length := by
    intro i k hk
    have h1 := congrArg (·[i]?) hs
    simp only [List.getElem?_map, hk, Option.map_some] at h1
    cases h2 : (sel l ks)[i]? with
    | none => rw [h2] at h1; simp at h1
    | some r => rw [h2] at h1; exact lget_len (by simpa using h1)
  refine St.via h (fun i => match ks[i]? with | some k => k | none => i - ks.length + l.length) (fun i r hi => ?_) (fun i j r s hi hj he => ?_)
  · rw [lget_append] at hi
    split at hi
    · obtain ⟨k, hk, hr⟩ := key i r hi
      rw [hk]
      dsimp only
      rw [lget_append, if_pos (lget_len hr)]
      exact hr
    · rename_i hge
      rw [List.getElem?_eq_none (by omega)]
      dsimp only
      rw [lget_append, if_neg (by omega), ← hi, hlen]
      congr 1
      omega
  · cases h1 : ks[i]? with
    | none =>
      have hi1 := List.getElem?_eq_none_iff.1 h1
      cases h2 : ks[j]? with
      | none =>
        have hj1 := List.getElem?_eq_none_iff.1 h2
        rw [h1, h2] at he
        dsimp only at he
        omega
      | some k2 => rw [h1, h2] at he; have := hb j k2 h2; dsimp only at he; omega
    | some k1 =>
      have := hb i k1 h1
      cases h2 : ks[j]? with
      | none => rw [h1, h2] at he; dsimp only at he; omega
      | some k2 =>
        rw [h1, h2] at he
        dsimp only at he
        subst he
        obtain ⟨hi2, hi3⟩ := List.getElem?_eq_some_iff.1 h1
        obtain ⟨hj2, hj3⟩ := List.getElem?_eq_some_iff.1 h2
        rcases Nat.lt_trichotomy i j with h3 | h3 | h3
        · exact absurd (hi3.trans hj3.symm) (List.pairwise_iff_getElem.1 hn i j hi2 hj2 h3)
        · exact h3
        · exact absurd (hj3.trans hi3.symm) (List.pairwise_iff_getElem.1 hn j i hj2 hi2 h3)
theorem OwnV.take {e s n c m : Nat} {A : Option Addr} {xs : List Value} (h : OwnV w e s (.slice A n c) n xs) (hm : m ≤ n) : OwnV w e s (.slice A m c) m (xs.take (m * s)) := by
  obtain ⟨h1, h2 | ⟨g, off, cap, cur, hv, hh, hl, hx, hs, ht⟩⟩ := h
  · obtain ⟨hv, hn⟩ := h2
    injection hv with e1 e2 e3
    subst e1 e3 hn
    obtain rfl : m = 0 := by omega
    exact ⟨by simp, .inl ⟨rfl, rfl⟩⟩
  · injection hv with e1 e2 e3
    subst e1 e3
    have hle : m * s ≤ n * s := Nat.mul_le_mul_right _ hm
    refine ⟨by rw [List.length_take, h1]; omega, .inr ⟨g, off, c, cur, rfl, hh, by omega, hx, hs, ?_⟩⟩
    rw [← ht, List.take_take]
    congr 1
    omega
end
section
variable {P : Program} {N : Nat} {w0 : World} {F : Frm} {L : List Res} {d : Option Tmp} {x y : Operand} {v u : Value} {ty t : TypeId} {pos : String} {af : Array Edge} {gd : Option (Nat × Bool)} {K : Frm → List Res → Prop} {Q : Exit → Act → World → Prop} {c : Code} {ops : Array Oper} {l : List Oper}
/-- A number that is said otherwise. -/
theorem y_as {k : IntKind} {a b : Int} {o : Oper} (h : Yld P N w0 F L o (.int k a)) (e : a = b) : Yld P N w0 F L o (.int k b) := e ▸ h
end
end Go.Proofs.YtoibebmhfcjpfaaGreatDoor.E

namespace Go.Proofs.YtoibebmhfcjpfaaGreatDoor.Big
open Go.RowKit Go.Proofs.YtoibebmhfcjpfaaGreatDoor.E

/-- Digits as cells. -/
def cU (ds : List Int) : List Value := ds.map (.int .u32)
/-- The header of a number. -/
abbrev hdr (b : Nat) (neg : Bool) (A : Option Addr) (n c : Nat) : Res := blk b [.bool neg, .slice A n c]
/-- Its digits. -/
abbrev dig (A : Option Addr) (n c : Nat) (ds : List Int) : Res := vec 69 1 (.slice A n c) n (cU ds)

end Go.Proofs.YtoibebmhfcjpfaaGreatDoor.Big

namespace Go.Proofs.YtoibebmhfcjpfaaGreatDoor.Big
open Go.RowKit Go.Proofs.YtoibebmhfcjpfaaGreatDoor.E

/-- A number as it lies: sign, array, length, room, digits. -/
structure Nm where
  neg : Bool
  A : Option Addr
  n : Nat
  c : Nat
  ds : List Int
structure Nm.is (q : Nm) (z : Int) : Prop where
  len : q.ds.length = q.n
  cap : q.n ≤ q.c
  dig : Dig q.ds
  trim : Trim q.ds
  nz : q.neg = true → q.ds ≠ []
  val : z = sg q.neg (dval q.ds)
abbrev Nm.h (q : Nm) (b : Nat) : Res := hdr b q.neg q.A q.n q.c
abbrev Nm.d (q : Nm) : Res := dig q.A q.n q.c q.ds

end Go.Proofs.YtoibebmhfcjpfaaGreatDoor.Big

namespace Go.Proofs.YtoibebmhfcjpfaaGreatDoor.Big
open Go.RowKit Go.Proofs.YtoibebmhfcjpfaaGreatDoor.E

end Go.Proofs.YtoibebmhfcjpfaaGreatDoor.Big

namespace Go.Proofs.YtoibebmhfcjpfaaGreatDoor.Big
open Go.RowKit Go.Proofs.YtoibebmhfcjpfaaGreatDoor.E

theorem shr32 {t : Int} (h : 0 ≤ t) : t.fdiv (2 ^ (min (32 : Int).toNat IntKind.u64.bits)) = t / 4294967296 := by
  rw [show (2 : Int) ^ (min (32 : Int).toNat IntKind.u64.bits) = 4294967296 from by decide]
  exact Int.fdiv_eq_ediv_of_nonneg _ (by omega)
end Go.Proofs.YtoibebmhfcjpfaaGreatDoor.Big

namespace Go.Proofs.YtoibebmhfcjpfaaGreatDoor.E
open Go.RowKit
section
variable {P : Program} {N : Nat} {w0 : World} {F : Frm} {L : List Res} {d : Option Tmp} {x y : Operand} {v u : Value} {ty t : TypeId} {pos : String} {af : Array Edge} {gd : Option (Nat × Bool)} {K : Frm → List Res → Prop}
end
end Go.Proofs.YtoibebmhfcjpfaaGreatDoor.E
namespace Go.Proofs.YtoibebmhfcjpfaaGreatDoor.Big
open Go.RowKit Go.Proofs.YtoibebmhfcjpfaaGreatDoor.E
end Go.Proofs.YtoibebmhfcjpfaaGreatDoor.Big

namespace Go.Proofs.YtoibebmhfcjpfaaGreatDoor.E
open Go.RowKit

/-- What stands at a place of a list. -/
def pget {α : Type} : List α → Nat → Option α
  | [], _ => none
  | r :: _, 0 => some r
  | _ :: l, i + 1 => pget l i
def pset {α : Type} : List α → Nat → α → List α
  | [], _, _ => []
  | _ :: l, 0, r => r :: l
  | x :: l, i + 1, r => x :: pset l i r
def pdel {α : Type} : List α → Nat → List α
  | [], _ => []
  | _ :: l, 0 => l
  | x :: l, i + 1 => x :: pdel l i
theorem pget_at {α : Type} : ∀ (l : List α) (i : Nat), pget l i = l[i]?
  | [], i => by simp [pget]
  | x :: l, 0 => by simp [pget]
  | x :: l, i + 1 => by simp [pget, pget_at l i]
theorem pget_mem {α : Type} {l : List α} {x : α} (k : Nat) (h : pget l k = some x) : x ∈ l := by
  rw [pget_at] at h
  exact List.mem_of_getElem? h
theorem mem_pget {α : Type} {l : List α} {x : α} (h : x ∈ l) : ∃ k, pget l k = some x := by
  obtain ⟨k, hk, e⟩ := List.getElem_of_mem h
  exact ⟨k, by rw [pget_at, List.getElem?_eq_getElem hk, e]⟩
theorem pget_pset {α : Type} : ∀ (L : List α) (k i : Nat) (r : α), pget (pset L k r) i = if i = k then (pget L k).map (fun _ => r) else pget L i
  | [], k, i, r => by simp [pset, pget]
  | x :: l, 0, 0, r => by simp [pset, pget]
  | x :: l, 0, i + 1, r => by simp [pset, pget]
  | x :: l, k + 1, 0, r => by simp [pset, pget]
  | x :: l, k + 1, i + 1, r => by
    simp only [pset, pget, pget_pset l k i r]
    by_cases h : i = k
    · simp [h]
    · simp [h]
theorem pget_pdel {α : Type} : ∀ (L : List α) (k i : Nat), pget (pdel L k) i = if i < k then pget L i else pget L (i + 1)
  | [], k, i => by simp [pdel, pget]
  | x :: l, 0, i => by simp [pdel, pget]
  | x :: l, k + 1, 0 => by simp [pdel, pget]
  | x :: l, k + 1, i + 1 => by
    simp only [pdel, pget, pget_pdel l k i]
    by_cases h : i < k
    · simp [h]
    · simp [h]

def ldel : Nat → List Res → List Res
  | _, [] => []
  | 0, _ :: l => l
  | i + 1, x :: l => x :: ldel i l
theorem lget_ldel : ∀ (L : List Res) (k i : Nat), lget (ldel k L) i = if i < k then lget L i else lget L (i + 1)
  | [], k, i => by simp [ldel, lget]
  | x :: l, 0, i => by simp [ldel, lget]
  | x :: l, k + 1, 0 => by simp [ldel, lget]
  | x :: l, k + 1, i + 1 => by
    simp only [ldel, lget, lget_ldel l k i]
    by_cases h : i < k
    · simp [h]
    · simp [h]

section
variable {w0 w : World} {L : List Res} {r s t : Res} {i j : Nat}
/-- One thing is two. -/
theorem St.split {r1 r2 : Res} (h : St w0 w L) (hi : lget L i = some r) (ht : r.holds w → r1.holds w ∧ r2.holds w ∧ (∀ b ∈ r1.foot, b ∈ r.foot) ∧ (∀ b ∈ r2.foot, b ∈ r.foot) ∧ ∀ b ∈ r1.foot, b ∉ r2.foot) : St w0 w (r1 :: lset L i r2) := by
  obtain ⟨h1, h2, f1, f2, hd⟩ := ht (h.holds i _ hi)
  have key : ∀ k u, lget (r1 :: lset L i r2) k = some u → (k = 0 ∧ u = r1) ∨ (k = i + 1 ∧ u = r2) ∨ ∃ k', k = k' + 1 ∧ k' ≠ i ∧ lget L k' = some u := by
    intro k u hk
    cases k with
    | zero => exact .inl ⟨rfl, by simpa [lget] using hk.symm⟩
    | succ k =>
      simp only [lget, lget_lset] at hk
      split at hk
      · rename_i e
        subst e
        rw [hi] at hk
        exact .inr (.inl ⟨rfl, by simpa using hk.symm⟩)
      · rename_i e
        exact .inr (.inr ⟨k, rfl, e, hk⟩)
  refine ⟨h.below, fun k u hk => ?_, fun k u hk b hb => ?_, fun k l u v hk hl hkl b hb hb' => ?_⟩
  · rcases key k u hk with ⟨_, rfl⟩ | ⟨_, rfl⟩ | ⟨k', _, _, h3⟩
    · exact h1
    · exact h2
    · exact h.holds k' u h3
  · rcases key k u hk with ⟨_, rfl⟩ | ⟨_, rfl⟩ | ⟨k', _, _, h3⟩
    · exact h.lt i _ hi b (f1 b hb)
    · exact h.lt i _ hi b (f2 b hb)
    · exact h.lt k' u h3 b hb
  · rcases key k u hk with ⟨e, rfl⟩ | ⟨e, rfl⟩ | ⟨k', e, hk', h3⟩
    · rcases key l v hl with ⟨e', rfl⟩ | ⟨e', rfl⟩ | ⟨l', e', hl', h4⟩
      · exact hkl (e.trans e'.symm)
      · exact hd b hb hb'
      · exact h.sep i l' _ _ hi h4 (Ne.symm hl') b (f1 b hb) hb'
    · rcases key l v hl with ⟨e', rfl⟩ | ⟨e', rfl⟩ | ⟨l', e', hl', h4⟩
      · exact hd b hb' hb
      · exact hkl (e.trans e'.symm)
      · exact h.sep i l' _ _ hi h4 (Ne.symm hl') b (f2 b hb) hb'
    · rcases key l v hl with ⟨e', rfl⟩ | ⟨e', rfl⟩ | ⟨l', e', hl', h4⟩
      · exact h.sep k' i _ _ h3 hi hk' b hb (f1 b hb')
      · exact h.sep k' i _ _ h3 hi hk' b hb (f2 b hb')
      · exact h.sep k' l' _ _ h3 h4 (by omega) b hb hb'
theorem St.front (h : St w0 w L) (hi : lget L i = some r) : St w0 w (r :: ldel i L) := by
  refine h.via (fun k => match k with | 0 => i | k + 1 => if k < i then k else k + 1) (fun k u hk => ?_) (fun k l u v hk hl he => ?_)
  · cases k with
    | zero => simp only [lget, Option.some.injEq] at hk; subst hk; exact hi
    | succ k =>
      simp only [lget, lget_ldel] at hk
      try dsimp only
      split at hk
      · rename_i h1; rw [if_pos h1]; exact hk
      · rename_i h1; rw [if_neg h1]; exact hk
  · cases k <;> cases l <;> (try dsimp only at he) <;> (repeat' (split at he)) <;> omega
theorem St.back (h : St w0 w (r :: ldel i L)) (hi : lget L i = some s) : St w0 w (lset L i r) := by
  refine h.via (fun k => if k = i then 0 else if k < i then k + 1 else k) (fun k u hk => ?_) (fun k l u v hk hl he => ?_)
  · rw [lget_lset] at hk
    try dsimp only
    split at hk
    · rename_i h1
      rw [if_pos h1]
      rw [hi] at hk
      exact hk
    · rename_i h1
      rw [if_neg h1]
      split
      · rename_i h2
        simp only [lget, lget_ldel, if_pos h2]
        exact hk
      · rename_i h2
        obtain ⟨q, rfl⟩ : ∃ q, k = q + 1 := ⟨k - 1, by omega⟩
        simp only [lget, lget_ldel]
        rw [if_neg (by omega)]
        exact hk
  · (try dsimp only at he)
    (repeat' (split at he)) <;> omega
end
end Go.Proofs.YtoibebmhfcjpfaaGreatDoor.E

namespace Go.Proofs.YtoibebmhfcjpfaaGreatDoor.Big
open Go.RowKit Go.Proofs.YtoibebmhfcjpfaaGreatDoor.E

/-- A number in a block: from cell o on. -/
structure Ent where
  b : Nat
  o : Nat
  q : Nm
/-- Its cells, and its digits: headers lie in H, digits in D. -/
structure Ent.ok (H D : List Nat) (w : World) (x : Ent) : Prop where
  hd : x.b ∈ H
  row : ∃ cs T, w.heap[x.b]? = some (.cells cs T (0, 0)) ∧ cs[x.o]? = some (.bool x.q.neg) ∧ cs[x.o + 1]? = some (.slice x.q.A x.q.n x.q.c)
  dg : ∀ a, x.q.A = some a → a.block ∈ D
  rd : Rd w x.q.A (cU x.q.ds)
def apart (x y : Ent) : Prop := x.b ≠ y.b ∨ x.o + 2 ≤ y.o ∨ y.o + 2 ≤ x.o
structure BagOk (H D : List Nat) (l : List Ent) (w : World) : Prop where
  ok : ∀ x ∈ l, x.ok H D w
  ap : ∀ i j x y, pget l i = some x → pget l j = some y → i ≠ j → apart x y
  dj : ∀ b ∈ H, b ∉ D
theorem rd_stable {w w' : World} {A : Option Addr} {xs : List Value} (h : Rd w A xs) (hk : ∀ a, A = some a → w'.heap[a.block]? = w.heap[a.block]?) : Rd w' A xs := by
  rcases h with h | ⟨g, o, hA, hc⟩
  · exact .inl h
  · refine .inr ⟨g, o, hA, fun j u hu => ?_⟩
    rw [← hc j u hu]
    have := hk _ hA
    simp only [World.cell?]
    rw [this]
theorem Ent.ok.keep {H D H' D' : List Nat} {w w' : World} {x : Ent} (h : x.ok H D w) (h1 : w'.heap[x.b]? = w.heap[x.b]?) (h2 : ∀ a, x.q.A = some a → w'.heap[a.block]? = w.heap[a.block]?) (hH : ∀ b ∈ H, b ∈ H') (hD : ∀ b ∈ D, b ∈ D') : x.ok H' D' w' :=
  ⟨hH _ h.hd, by rw [h1]; exact h.row, fun a ha => hD _ (h.dg a ha), rd_stable h.rd h2⟩
section
variable {H D : List Nat} {l l' : List Ent} {w w' : World} {b o k : Nat} {q q' : Nm}
/-- Fewer, in any order. -/
theorem BagOk.sub (h : BagOk H D l w) (f : Nat → Nat) (hf : ∀ i x, pget l' i = some x → pget l (f i) = some x) (hi : ∀ i j x y, pget l' i = some x → pget l' j = some y → f i = f j → i = j) : BagOk H D l' w :=
  ⟨fun x hx => by
    obtain ⟨i, h1⟩ := mem_pget hx
    exact h.ok x (pget_mem _ (hf i x h1)), fun i j x y h1 h2 hne => h.ap _ _ x y (hf i x h1) (hf j y h2) (fun e => hne (hi i j x y h1 h2 e)), h.dj⟩
theorem BagOk.tail {x : Ent} (h : BagOk H D (x :: l) w) : BagOk H D l w := h.sub (· + 1) (fun _ _ h => h) (fun _ _ _ _ _ _ h => by omega)
theorem BagOk.second {x y : Ent} (h : BagOk H D (x :: y :: l) w) : BagOk H D (x :: l) w := h.sub (fun i => if i = 0 then 0 else i + 1) (fun i z hz => by cases i with | zero => exact hz | succ i => simpa [pget] using hz) (fun i j _ _ _ _ h => by (try dsimp only at h); (repeat' (split at h)) <;> omega)
theorem BagOk.front {x : Ent} (h : BagOk H D l w) (hk : pget l k = some x) : BagOk H D (x :: pdel l k) w :=
  h.sub (fun i => match i with | 0 => k | i + 1 => if i < k then i else i + 1) (fun i y hy => by
    cases i with
    | zero => simp only [pget, Option.some.injEq] at hy; subst hy; exact hk
    | succ i =>
      simp only [pget, pget_pdel] at hy
      try dsimp only
      split at hy
      · rename_i h1; rw [if_pos h1]; exact hy
      · rename_i h1; rw [if_neg h1]; exact hy) (fun i j _ _ _ _ he => by cases i <;> cases j <;> (try dsimp only at he) <;> (repeat' (split at he)) <;> omega)
theorem BagOk.back {x y : Ent} (h : BagOk H D (x :: pdel l k) w) (hk : pget l k = some y) : BagOk H D (pset l k x) w :=
  h.sub (fun i => if i = k then 0 else if i < k then i + 1 else i) (fun i u hu => by
    rw [pget_pset] at hu
    try dsimp only
    split at hu
    · rename_i h1
      rw [if_pos h1]
      rw [hk] at hu
      exact hu
    · rename_i h1
      rw [if_neg h1]
      split
      · rename_i h2
        simp only [pget, pget_pdel, if_pos h2]
        exact hu
      · rename_i h2
        obtain ⟨m, rfl⟩ : ∃ m, i = m + 1 := ⟨i - 1, by omega⟩
        simp only [pget, pget_pdel]
        rw [if_neg (by omega)]
        exact hu) (fun i j _ _ _ _ he => by (try dsimp only at he); (repeat' (split at he)) <;> omega)
/-- One number is another one; its header's block has turned, or nothing has. -/
theorem BagOk.turn {cs cs' : Array Value} {T : TypeId} {D' : List Nat} (h : BagOk H D l w) (hk : pget l k = some ⟨b, o, q⟩) (hg : w.heap[b]? = some (.cells cs T (0, 0))) (hg' : w'.heap[b]? = some (.cells cs' T (0, 0)))
    (hcs : ∀ p, p ≠ o → p ≠ o + 1 → cs'[p]? = cs[p]?) (h1 : cs'[o]? = some (.bool q'.neg)) (h2 : cs'[o + 1]? = some (.slice q'.A q'.n q'.c)) (hoth : ∀ p, p ≠ b → w'.heap[p]? = w.heap[p]?)
    (hdg : ∀ a, q'.A = some a → a.block ∈ D') (hrd : Rd w q'.A (cU q'.ds)) (hD : ∀ b ∈ D, b ∈ D') (hdj : ∀ b ∈ H, b ∉ D') : BagOk H D' (pset l k ⟨b, o, q'⟩) w' := by
  have hbH : b ∈ H := (h.ok _ (pget_mem k hk)).hd
  have key : ∀ i x, pget (pset l k ⟨b, o, q'⟩) i = some x → (i = k ∧ x = ⟨b, o, q'⟩) ∨ (i ≠ k ∧ pget l i = some x) := by
    intro i x hi
    rw [pget_pset] at hi
    split at hi
    · rename_i e
      subst e
      rw [hk] at hi
      exact .inl ⟨rfl, by simpa using hi.symm⟩
    · rename_i e
      exact .inr ⟨e, hi⟩
  refine ⟨fun x hx => ?_, fun i j x y hi hj hne => ?_, hdj⟩
  · obtain ⟨i, hi⟩ := mem_pget hx
    rcases key i x hi with ⟨rfl, rfl⟩ | ⟨hne, hi'⟩
    · exact ⟨hbH, ⟨cs', T, hg', h1, h2⟩, hdg, rd_stable hrd fun a ha => hoth _ (fun e => hdj b hbH (e ▸ hdg a ha))⟩
    · have hx' := h.ok x (pget_mem i hi')
      have ha : ∀ a, x.q.A = some a → w'.heap[a.block]? = w.heap[a.block]? := fun a ha => hoth _ (fun e => h.dj b hbH (e ▸ hx'.dg a ha))
      by_cases hxb : x.b = b
      · obtain ⟨c0, T0, g0, g1, g2⟩ := hx'.row
        rw [hxb, hg] at g0
        simp only [Option.some.injEq, Obj.cells.injEq] at g0
        obtain ⟨rfl, rfl, _⟩ := g0
        have hap := h.ap i k x _ hi' hk hne
        simp only [apart, hxb, ne_eq, not_true_eq_false, false_or] at hap
        exact ⟨hx'.hd, ⟨cs', T, hxb ▸ hg', by rw [hcs _ (by omega) (by omega)]; exact g1, by rw [hcs _ (by omega) (by omega)]; exact g2⟩, fun a ha => hD _ (hx'.dg a ha), rd_stable hx'.rd ha⟩
      · exact hx'.keep (hoth _ hxb) ha (fun _ h => h) hD
  · rcases key i x hi with ⟨rfl, rfl⟩ | ⟨hne1, hi'⟩
    · rcases key j y hj with ⟨rfl, rfl⟩ | ⟨hne2, hj'⟩
      · exact absurd rfl hne
      · exact h.ap i j ⟨b, o, q⟩ y hk hj' hne
    · rcases key j y hj with ⟨rfl, rfl⟩ | ⟨hne2, hj'⟩
      · exact h.ap i j x ⟨b, o, q⟩ hi' hk hne
      · exact h.ap i j x y hi' hj' hne
end

section
variable {P : Program} {N : Nat} {w0 : World} {F : Frm} {L : List Res} {d : Option Tmp} {x y : Operand} {v : Value} {ty t : TypeId} {pos : String} {af : Array Edge} {gd : Option (Nat × Bool)} {K : Frm → List Res → Prop} {H D : List Nat} {l : List Ent} {b o : Nat} {q : Nm}
end
end Go.Proofs.YtoibebmhfcjpfaaGreatDoor.Big

namespace Go.Proofs.YtoibebmhfcjpfaaGreatDoor.E
open Go.RowKit

section
variable {P : Program} {ops : Array Oper} {C : Array Bool → World → Prop}
/-- Whatever order is picked from here on, and C throughout. -/
def wpAnyD (P : Program) (ops : Array Oper) (C : Array Bool → World → Prop) (R : Act → World → Prop) : Nat → Array Bool → Act → World → Prop
  | 0, listed, a, w => Region.ready .any ops listed = [] ∧ R a w
  | n + 1, listed, a, w =>
    (Region.ready .any ops listed = [] → R a w) ∧ ∀ i ∈ Region.ready .any ops listed, cOp P ops i (fun a' w' => ∀ w'', Below w'.heap.size w' w'' → C (listed.setIfInBounds i true) w'' ∧ wpAnyD P ops C R n (listed.setIfInBounds i true) a' w'') a w
theorem wpAny_of_D {R : Act → World → Prop} {Q : Exit → Act → World → Prop} (hQ : ∀ a w, R a w → Q .normal a w) : ∀ (n : Nat) (listed : Array Bool) (a : Act) (w : World), wpAnyD P ops C R n listed a w → wpAny P .any ops Q n listed a w
  | 0, _, _, _, h => ⟨h.1, hQ _ _ h.2⟩
  | n + 1, _, _, _, h => ⟨fun h0 => hQ _ _ (h.1 h0), fun i hi => by
      have h1 := h.2 i hi
      unfold cOp at h1
      unfold wpOp
      split
      · rename_i ho
        simp only [ho] at h1
        exact wpAny_of_D hQ n _ _ _ (h1 _ (Below.refl _ _)).2
      · rename_i o ho
        simp only [ho] at h1
        split
        · rename_i hw
          simp only [hw, if_true] at h1
          exact .inl (wp_of_noQ (fun a' w' h2 => wpAny_of_D hQ n _ _ _ (h2 _ (Below.refl _ _)).2) h1)
        · rename_i hw
          simp only [hw] at h1
          exact wpAny_of_D hQ n _ _ _ (h1 _ (Below.refl _ _)).2⟩

theorem wpAnyD_first {R : Act → World → Prop} {Cv : World → Prop} {I : Array Bool → Prop} {i : Nat} {oi : Oper} {v : Value} (hi : ops[i]? = some oi) (hsel : ∀ (j : Nat) (o : Oper) cs b, ops[j]? = some o → o.op ≠ .select cs b) (hG : ∀ l w w', C l w → Below w.heap.size w w' → C l w')
    (hset : ∀ l, C (l.setIfInBounds i true) = C l) (hcv : ∀ l w, I l → C l w → Cv w) (hI : ∀ (l : Array Bool) j, I l → j ≠ i → i ∈ Region.ready .any ops l → j ∈ Region.ready .any ops l → I (l.setIfInBounds j true)) :
    ∀ (n : Nat) (listed : Array Bool) (a : Act) (w : World), I listed → C listed w →
      (∀ j oj, ops[j]? = some oj → j ≠ i → listed.getD j true = false → (∀ e ∈ oj.after, Region.binds .any e = true → e.on ≠ i) → oi.apart ops oj = true) →
      i ∈ Region.ready .any ops listed → YIn P ops Cv oi v a →
      (∀ w', Below w.heap.size w w' → wpAnyD P ops C R n (listed.setIfInBounds i true) (a.put oi.dst v) w') → wpAnyD P ops C R (n + 1) listed a w := by
  intro n
  induction n with
  | zero =>
    intro listed a w hIl hC _ hr hy H
    refine ⟨fun h => (by rw [h] at hr; cases hr), fun j hj => ?_⟩
    by_cases hji : j = i
    · subst hji; exact cOp_of_yields hi hy (hcv _ _ hIl hC) fun w' hw' w'' hw'' => ⟨by rw [hset]; exact hG _ w _ hC (hw'.trans (hw''.mono hw'.size)), H w'' (hw'.trans (hw''.mono hw'.size))⟩
    · have := ready_mono hj hji
      rw [(H w (Below.refl _ _)).1] at this
      cases this
  | succ n ih =>
    intro listed a w hIl hC hfree hr hy H
    refine ⟨fun h => (by rw [h] at hr; cases hr), fun j hj => ?_⟩
    by_cases hji : j = i
    · subst hji; exact cOp_of_yields hi hy (hcv _ _ hIl hC) fun w' hw' w'' hw'' => ⟨by rw [hset]; exact hG _ w _ hC (hw'.trans (hw''.mono hw'.size)), H w'' (hw'.trans (hw''.mono hw'.size))⟩
    · have h1 := (H w (Below.refl _ _)).2 j (ready_mono hj hji)
      obtain ⟨hjun, oj, hoj, hall⟩ := mem_ready.1 hj
      have hnot : ∀ e ∈ oj.after, Region.binds .any e = true → e.on ≠ i := fun e he hb heq => by
        have h1 := hall e he hb
        have h0 := (mem_ready.1 hr).1
        rw [heq] at h1
        rcases Nat.lt_or_ge i listed.size with h' | h'
        · simp [h'] at h0 h1; rw [h0] at h1; cases h1
        · simp [Array.getElem?_eq_none h'] at h1
      have h2 := cOp_put hoj (hfree j oj hoj hji hjun hnot) (fun cs b => hsel i oi cs b hi) (fun cs b => hsel j oj cs b hoj) hy h1
      have hfree' : ∀ k ok, ops[k]? = some ok → k ≠ i → (listed.setIfInBounds j true).getD k true = false →
          (∀ e ∈ ok.after, Region.binds .any e = true → e.on ≠ i) → oi.apart ops ok = true := fun k ok hk hki hun hno => by
        refine hfree k ok hk hki ?_ hno
        by_cases hjk : j = k
        · subst hjk; exact hjun
        · rw [getD_set_ne true hjk] at hun; exact hun
      refine cOp_mono (fun a' w' h3 w'' hw'' => ?_) h2
      have hC'' := (h3.2 w'' hw'').1
      rw [Array.setIfInBounds_comm _ _ (Ne.symm hji), hset] at hC''
      refine ⟨hC'', ih (listed.setIfInBounds j true) a' w'' (hI _ _ hIl hji hr hj) hC'' hfree' (ready_mono hr (Ne.symm hji)) h3.1 (fun w3 hw3 => ?_)⟩
      rw [Array.setIfInBounds_comm _ _ hji]
      exact (h3.2 w3 (hw''.trans (hw3.mono hw''.size))).2
end

/-- S1 till k0 has come up, S2 from then on. -/
def CC (w0 : World) (k0 : Nat) (S1 S2 : List Res) (l : Array Bool) (w : World) : Prop := St w0 w (bif l.getD k0 true then S2 else S1)
section
variable {P : Program} {N : Nat} {w0 : World} {ops : Array Oper} {Q : Exit → Act → World → Prop} {F : Frm} {L S1 S2 : List Res} {listed : Array Bool} {n k0 : Nat}
theorem CC.two {w : World} (h12 : ∀ w, St w0 w S1 → St w0 w S2) (h : CC w0 k0 S1 S2 listed w) : St w0 w S2 := by
  unfold CC at h
  cases hb : listed.getD k0 true <;> rw [hb] at h
  · exact h12 w h
  · exact h
theorem CC.set {i : Nat} (hne : i ≠ k0) (l : Array Bool) : CC w0 k0 S1 S2 (l.setIfInBounds i true) = CC w0 k0 S1 S2 l := by
  funext w
  unfold CC
  rw [getD_set_ne true hne]

def TB (P : Program) (N : Nat) (w0 : World) (ops : Array Oper) (Q : Exit → Act → World → Prop) (k0 : Nat) (S1 S2 : List Res) (n : Nat) (listed : Array Bool) (F : Frm) (L : List Res) : Prop :=
  (∀ w, St w0 w S1 → St w0 w S2) → ∀ a w, Fr N a F → St w0 w L → CC w0 k0 S1 S2 listed w → wpAnyD P ops (CC w0 k0 S1 S2) (Q .normal) n listed a w
theorem tb_draw {id : Nat} {l : List Oper} (k0 : Nat) (S2 : List Res) (h12 : ∀ w, St w0 w L → St w0 w S2) (hm : P.follows .mixedOrders = true) (h : TB P N w0 l.toArray Q k0 L S2 l.length (Array.replicate l.length false) F L) : TR P N w0 Q (.region id l.toArray true) F L := fun a w hF hS => by
  have h1 : St w0 { w with drawn := w.drawn + 1 } L := hS.grow ⟨rfl, rfl, rfl, Nat.le_refl _, fun _ _ => rfl⟩
  have hc : CC w0 k0 L S2 (Array.replicate l.length false) { w with drawn := w.drawn + 1 } := by
    unfold CC
    cases (Array.replicate l.length false).getD k0 true
    · exact h1
    · exact h12 _ h1
  have := h h12 a _ hF h1 hc
  exact wp_region_any hm (by simpa using wpAny_of_D (fun _ _ h => h) _ _ _ _ this)
theorem tb_done (hr : Region.ready .any ops listed = []) (h : TX N w0 Q .normal F L) : TB P N w0 ops Q k0 S1 S2 n listed F L := fun _ a w hF hS _ => by
  cases n with
  | zero => exact ⟨hr, h a w hF hS⟩
  | succ n => exact ⟨fun _ => h a w hF hS, by rw [hr]; simp⟩

theorem CC.grow {l : Array Bool} {w w' : World} (h : CC w0 k0 S1 S2 l w) (hb : Below w.heap.size w w') : CC w0 k0 S1 S2 l w' := by
  unfold CC at *
  exact h.grow hb
/-- Taken first: what the whole region leaves as it is yields it. -/
theorem tb_float {i : Nat} {o : Oper} {v : Value} (hi : ops[i]? = some o) (hb : (Region.noSelect ops && Region.free .any ops listed i && (Region.ready .any ops listed).contains i) = true) (hne : Nat.beq i k0 = false) (hw : Wants N ops F o true) (hy : Yq P N w0 F S2 o v)
    (h : TB P N w0 ops Q k0 S1 S2 n (listed.setIfInBounds i true) (fput F o.dst v) L) : TB P N w0 ops Q k0 S1 S2 (n + 1) listed F L := fun h12 a w hF hS hC => by
  simp only [Bool.and_eq_true] at hb
  have hne' := Nat.ne_of_beq_eq_false hne
  refine wpAnyD_first (v := v) (Cv := fun w => St w0 w S2) (I := fun _ => True) hi (Region.noSelect_spec hb.1.1) (fun l w w' h1 h2 => h1.grow h2) (CC.set hne') (fun l w _ h => h.two h12) (fun _ _ _ _ _ _ => trivial) n listed a w trivial hC (Region.free_spec hi hb.1.2) (by simpa using hb.2) (.inl ⟨hw a hF, fun w hw => hy a w hF hw⟩) (fun w' hw' => h h12 _ _ (hF.put _ _) (hS.grow hw') ?_)
  rw [CC.set hne']
  exact hC.grow hw'
theorem tb_skip {i : Nat} {o : Oper} (hi : ops[i]? = some o) (hb : (Region.noSelect ops && Region.free .any ops listed i && (Region.ready .any ops listed).contains i) = true) (hne : Nat.beq i k0 = false) (hw : Wants N ops F o false)
    (h : TB P N w0 ops Q k0 S1 S2 n (listed.setIfInBounds i true) (fput F o.dst undef) L) : TB P N w0 ops Q k0 S1 S2 (n + 1) listed F L := fun h12 a w hF hS hC => by
  simp only [Bool.and_eq_true] at hb
  have hne' := Nat.ne_of_beq_eq_false hne
  refine wpAnyD_first (v := undef) (Cv := fun w => St w0 w S2) (I := fun _ => True) hi (Region.noSelect_spec hb.1.1) (fun l w w' h1 h2 => h1.grow h2) (CC.set hne') (fun l w _ h => h.two h12) (fun _ _ _ _ _ _ => trivial) n listed a w trivial hC (Region.free_spec hi hb.1.2) (by simpa using hb.2) (.inr ⟨hw a hF, rfl⟩) (fun w' hw' => h h12 _ _ (hF.put _ _) (hS.grow hw') ?_)
  rw [CC.set hne']
  exact hC.grow hw'
/-- Taken first: the first writer waits for it. -/
theorem tb_float1 {i : Nat} {o : Oper} {v : Value} (hi : ops[i]? = some o) (hb : (Region.noSelect ops && Region.free .any ops listed i && (Region.ready .any ops listed).contains i) = true) (hk : ((ops[k0]?).any fun u => u.after.any fun e => Region.binds .any e && Nat.beq e.on i) = true) (hl : listed.getD k0 true = false) (hw : Wants N ops F o true) (hy : Yq P N w0 F S1 o v)
    (h : TB P N w0 ops Q k0 S1 S2 n (listed.setIfInBounds i true) (fput F o.dst v) L) : TB P N w0 ops Q k0 S1 S2 (n + 1) listed F L := fun h12 a w hF hS hC => by
  simp only [Bool.and_eq_true] at hb
  have hdep : ∀ (l : Array Bool), i ∈ Region.ready .any ops l → k0 ∉ Region.ready .any ops l := fun l h1 h2 => by
    obtain ⟨_, u, hu, hall⟩ := mem_ready.1 h2
    rw [hu] at hk
    simp only [Option.any_some, Array.any_eq_true, Bool.and_eq_true] at hk
    obtain ⟨m, hm, he1, he2⟩ := hk
    have h3 := hall _ (Array.getElem_mem hm) he1
    rw [Nat.eq_of_beq_eq_true he2] at h3
    have h0 := (mem_ready.1 h1).1
    rcases Nat.lt_or_ge i l.size with h' | h'
    · simp [h'] at h0 h3; rw [h0] at h3; cases h3
    · simp [Array.getElem?_eq_none h'] at h3
  have hri : i ∈ Region.ready .any ops listed := by simpa using hb.2
  have hne' : i ≠ k0 := fun e => by
    subst e
    exact hdep _ hri hri
  refine wpAnyD_first (v := v) (Cv := fun w => St w0 w S1) (I := fun l => l.getD k0 true = false) hi (Region.noSelect_spec hb.1.1) (fun l w w' h1 h2 => h1.grow h2) (CC.set hne') (fun l w h1 h2 => by unfold CC at h2; rw [h1] at h2; exact h2) (fun l j h1 h2 h3 h4 => ?_) n listed a w hl hC (Region.free_spec hi hb.1.2) hri (.inl ⟨hw a hF, fun w hw => hy a w hF hw⟩) (fun w' hw' => h h12 _ _ (hF.put _ _) (hS.grow hw') ?_)
  · have : j ≠ k0 := fun e => by subst e; exact hdep l h3 h4
    rw [getD_set_ne true this]
    exact h1
  · rw [CC.set hne']
    exact hC.grow hw'

/-- The one that may come up now, whatever it does: ahead of the first writer, or not. -/
theorem tb_one1 {i : Nat} {o : Oper} (hi : ops[i]? = some o) (hr : Region.ready .any ops listed = [i]) (hb : (listed.setIfInBounds i true).getD k0 true = false) (hw : Wants N ops F o true) (h : OpJ P N w0 F L o (fun F' L' => (∀ w, St w0 w L' → St w0 w S1) ∧ TB P N w0 ops Q k0 S1 S2 n (listed.setIfInBounds i true) F' L')) : TB P N w0 ops Q k0 S1 S2 (n + 1) listed F L := fun h12 a w hF hS hC => by
  refine ⟨fun h0 => (by rw [hr] at h0; cases h0), fun j hj => ?_⟩
  rw [hr, List.mem_singleton] at hj
  subst hj
  unfold cOp
  simp only [hi, hw a hF, if_true]
  refine wp_of_noQ (fun a' w' ⟨F', L', ⟨h1, h2⟩, h3, h4⟩ w'' hw'' => ?_) (h a w hF hS)
  have hc : CC w0 k0 S1 S2 (listed.setIfInBounds j true) w'' := by unfold CC; rw [hb]; exact h1 _ (h4.grow hw'')
  exact ⟨hc, h2 h12 a' w'' h3 (h4.grow hw'') hc⟩
theorem tb_one2 {i : Nat} {o : Oper} (hi : ops[i]? = some o) (hr : Region.ready .any ops listed = [i]) (hb : (listed.setIfInBounds i true).getD k0 true = true) (hw : Wants N ops F o true) (h : OpJ P N w0 F L o (fun F' L' => (∀ w, St w0 w L' → St w0 w S2) ∧ TB P N w0 ops Q k0 S1 S2 n (listed.setIfInBounds i true) F' L')) : TB P N w0 ops Q k0 S1 S2 (n + 1) listed F L := fun h12 a w hF hS hC => by
  refine ⟨fun h0 => (by rw [hr] at h0; cases h0), fun j hj => ?_⟩
  rw [hr, List.mem_singleton] at hj
  subst hj
  unfold cOp
  simp only [hi, hw a hF, if_true]
  refine wp_of_noQ (fun a' w' ⟨F', L', ⟨h1, h2⟩, h3, h4⟩ w'' hw'' => ?_) (h a w hF hS)
  have hc : CC w0 k0 S1 S2 (listed.setIfInBounds j true) w'' := by unfold CC; rw [hb]; exact h1 _ (h4.grow hw'')
  exact ⟨hc, h2 h12 a' w'' h3 (h4.grow hw'') hc⟩
theorem tb_split {d : Nat} {b : Bool} (hv : fget N F d = some (.bool b)) (h1 : b = true → TB P N w0 ops Q k0 S1 S2 n listed (.put d (.bool true) F) L) (h2 : b = false → TB P N w0 ops Q k0 S1 S2 n listed (.put d (.bool false) F) L) : TB P N w0 ops Q k0 S1 S2 n listed F L := fun h12 a w hF hS hC => by
  have key : Fr N a (.put d (.bool b) F) := hF.cov fun i u hi => by
    rw [fget_cons] at hi
    split at hi
    · rename_i e; subst e; split at hi
      · rw [hv]; exact hi
      · cases hi
    · exact hi
  cases b
  · exact h2 rfl h12 a w key hS hC
  · exact h1 rfl h12 a w key hS hC
theorem tb_splitp {d : Nat} {p : Prop} [Decidable p] (hv : fget N F d = some (.bool (decide p))) (h1 : p → TB P N w0 ops Q k0 S1 S2 n listed (.put d (.bool true) F) L) (h2 : ¬ p → TB P N w0 ops Q k0 S1 S2 n listed (.put d (.bool false) F) L) : TB P N w0 ops Q k0 S1 S2 n listed F L :=
  tb_split hv (fun h => h1 (of_decide_eq_true h)) (fun h => h2 (of_decide_eq_false h))
end
end Go.Proofs.YtoibebmhfcjpfaaGreatDoor.E

namespace Go.Proofs.YtoibebmhfcjpfaaGreatDoor.Big
open Go.RowKit Go.Proofs.YtoibebmhfcjpfaaGreatDoor.E

abbrev nm0 : Nm := ⟨false, none, 0, 0, []⟩
def psel {α : Type} (L : List α) : List Nat → List α
  | [] => []
  | k :: ks => match pget L k with | some r => r :: psel L ks | none => psel L ks
section
variable {H D : List Nat} {l l' es : List Ent} {w w' : World} {b o k : Nat} {q q' : Nm}
theorem pget_append {α : Type} (M L : List α) (i : Nat) : pget (M ++ L) i = if i < M.length then pget M i else pget L (i - M.length) := by
  rw [pget_at, pget_at, pget_at, List.getElem?_append]
theorem pget_len {α : Type} {l : List α} {i : Nat} {r : α} (h : pget l i = some r) : i < l.length := by
  rw [pget_at] at h
  exact (List.getElem?_eq_some_iff.1 h).1
/-- Some of the first, in another order; what comes behind them stays. -/
theorem BagOk.pick {T : List Ent} (h : BagOk H D (l ++ T) w) (ks : List Nat) (hs : ks.map (pget l) = (psel l ks).map some) (hn : ks.Nodup) : BagOk H D (psel l ks ++ T) w := by
  have hlen : (psel l ks).length = ks.length := by simpa using (congrArg List.length hs).symm
  have key : ∀ (i : Nat) (r : Ent), pget (psel l ks) i = some r → ∃ k : Nat, ks[i]? = some k ∧ pget l k = some r := by
    intro i r hi
    rw [pget_at] at hi
    have h1 := congrArg (·[i]?) hs
    simp only [List.getElem?_map, hi, Option.map_some] at h1
    cases hk : ks[i]? with
    | none => rw [hk] at h1; simp at h1
    | some k => rw [hk] at h1; exact ⟨k, rfl, by simpa using h1⟩
  have hb : ∀ (i k : Nat), ks[i]? = some k → k < l.length := by
    intro i k hk
    have h1 := congrArg (·[i]?) hs
    simp only [List.getElem?_map, hk, Option.map_some] at h1
    cases h2 : (psel l ks)[i]? with
    | none => rw [h2] at h1; simp at h1
    | some r => rw [h2] at h1; exact pget_len (by simpa using h1)
  refine h.sub (fun i => match ks[i]? with | some k => k | none => i - ks.length + l.length) (fun i r hi => ?_) (fun i j r s hi hj he => ?_)
  · rw [pget_append] at hi
    split at hi
    · obtain ⟨k, hk, hr⟩ := key i r hi
      rw [hk]
      try dsimp only
      rw [pget_append, if_pos (pget_len hr)]
      exact hr
    · rename_i hge
      rw [List.getElem?_eq_none (by omega)]
      try dsimp only
      rw [pget_append, if_neg (by omega), ← hi, hlen]
      congr 1
      omega
  · cases h1 : ks[i]? with
    | none =>
      have hi1 := List.getElem?_eq_none_iff.1 h1
      cases h2 : ks[j]? with
      | none =>
        have hj1 := List.getElem?_eq_none_iff.1 h2
        rw [h1, h2] at he
        (try dsimp only at he)
        omega
      | some k2 =>
        have := hb j k2 h2
        rw [h1, h2] at he
        (try dsimp only at he)
        omega
    | some k1 =>
      have := hb i k1 h1
      cases h2 : ks[j]? with
      | none => rw [h1, h2] at he; dsimp only at he; omega
      | some k2 =>
        rw [h1, h2] at he
        (try dsimp only at he)
        subst he
        obtain ⟨hi2, hi3⟩ := List.getElem?_eq_some_iff.1 h1
        obtain ⟨hj2, hj3⟩ := List.getElem?_eq_some_iff.1 h2
        rcases Nat.lt_trichotomy i j with h3 | h3 | h3
        · exact absurd (hi3.trans hj3.symm) (List.pairwise_iff_getElem.1 hn i j hi2 hj2 h3)
        · exact h3
        · exact absurd (hj3.trans hi3.symm) (List.pairwise_iff_getElem.1 hn j i hj2 hi2 h3)
/-- A block of new numbers, noughts. -/
theorem BagOk.add {cs : Array Value} {T : TypeId} (h : BagOk H D l w) (hg : w.heap[b]? = some (.cells cs T (0, 0))) (hb : b ∉ H ++ D) (he : ∀ x ∈ es, x.b = b ∧ x.q = nm0 ∧ cs[x.o]? = some (.bool false) ∧ cs[x.o + 1]? = some (.slice none 0 0))
    (hap : ∀ i j x y, pget es i = some x → pget es j = some y → i ≠ j → x.o + 2 ≤ y.o ∨ y.o + 2 ≤ x.o) : BagOk (b :: H) D (es ++ l) w := by
  have hb' : b ∈ H ∨ b ∈ D → False := fun h => hb (List.mem_append.2 h)
  refine ⟨fun x hx => ?_, fun i j x y hi hj hne => ?_, fun c hc hc' => ?_⟩
  · rcases List.mem_append.1 hx with hx | hx
    · obtain ⟨h1, h2, h3, h4⟩ := he x hx
      exact ⟨by simp [h1], ⟨cs, T, by rw [h1]; exact hg, by rw [h2]; exact h3, by rw [h2]; exact h4⟩, fun a ha => (by rw [h2] at ha; cases ha), .inl (by rw [h2]; rfl)⟩
    · exact (h.ok x hx).keep rfl (fun _ _ => rfl) (fun _ h => List.mem_cons_of_mem _ h) (fun _ h => h)
  · rw [pget_append] at hi hj
    split at hi
    · have hx := he x (pget_mem _ hi)
      split at hj
      · have := hap i j x y hi hj hne
        exact .inr this
      · refine .inl fun e => hb' (.inl ?_)
        rw [← hx.1, e]
        exact (h.ok y (pget_mem _ hj)).hd
    · split at hj
      · have hy := he y (pget_mem _ hj)
        refine .inl fun e => hb' (.inl ?_)
        rw [← hy.1, ← e]
        exact (h.ok x (pget_mem _ hi)).hd
      · exact h.ap _ _ x y hi hj (by omega)
  · rcases List.mem_cons.1 hc with rfl | hc
    · exact hb' (.inr hc')
    · exact h.dj c hc hc'
end

section
variable {P : Program} {N : Nat} {w0 w : World} {F : Frm} {L : List Res} {d : Option Tmp} {x y : Operand} {v : Value} {ty t : TypeId} {pos : String} {af : Array Edge} {gd : Option (Nat × Bool)} {K : Frm → List Res → Prop} {H D : List Nat} {l : List Ent} {b o : Nat} {q : Nm} {i : Nat}
structure B2 where
  H : List Nat
  D : List Nat
  q : Nm
  r : Nm
section
variable {f : FuncId} {args : Array Value}
end
end
end Go.Proofs.YtoibebmhfcjpfaaGreatDoor.Big
