/- Words for memory that all walks of this seat share: a slice that reads as a list of values, and what keeps it so. -/
import Derived.Test.YtoibebmhfcjpfaaGreatDoorRows
import Derived.WalkKit
import Derived.WalkSpells
import Derived.WalkLawsBesides
import Derived.Lib.Hide
namespace Go.Proofs.YtoibebmhfcjpfaaGreatDoor
open Go.RowKit

/-- The slice value at address A reads as the cells xs. -/
def Rd (w : World) (A : Option Addr) (xs : List Value) : Prop :=
  xs = [] ∨ ∃ b off, A = some ⟨b, off, none⟩ ∧ ∀ j u, xs[j]? = some u → w.cell? ⟨b, off + j, none⟩ = some u

theorem lt_of_cell {w : World} {b off : Nat} {u : Value} (h : w.cell? ⟨b, off, none⟩ = some u) : b < w.heap.size := by
  rcases Nat.lt_or_ge b w.heap.size with h1 | h1
  · exact h1
  · have : w.heap[b]? = none := Array.getElem?_eq_none h1
    simp [World.cell?, this] at h

theorem Rd.nil {w : World} {A : Option Addr} : Rd w A [] := .inl rfl

theorem Rd.at_ {w : World} {A : Option Addr} {xs : List Value} (h : Rd w A xs) {k : Nat} (hk : k < xs.length) :
    ∃ b off, A = some ⟨b, off, none⟩ ∧ w.cell? ⟨b, off + k, none⟩ = some xs[k] := by
  rcases h with rfl | ⟨b, off, hA, hc⟩
  · simp at hk
  · exact ⟨b, off, hA, hc k _ (List.getElem?_eq_getElem hk)⟩

/-- What is kept: every cell of a block that was there. -/
theorem Rd.keep {w w' : World} {A : Option Addr} {xs : List Value} (h : Rd w A xs)
    (hk : ∀ b off, b < w.heap.size → w'.cell? ⟨b, off, none⟩ = w.cell? ⟨b, off, none⟩) : Rd w' A xs := by
  rcases h with rfl | ⟨b, off, hA, hc⟩
  · exact .inl rfl
  · exact .inr ⟨b, off, hA, fun j u hu => (hk _ _ (lt_of_cell (hc j u hu))).trans (hc j u hu)⟩

theorem Rd.below {w w' : World} {A : Option Addr} {xs : List Value} (h : Rd w A xs) (hb : Below w.heap.size w w') : Rd w' A xs :=
  h.keep fun _ _ hlt => hb.cell (p := ⟨_, _, none⟩) hlt

theorem Rd.drew {w : World} {A : Option Addr} {xs : List Value} (h : Rd w A xs) : Rd w.drew A xs := h

theorem Rd.alloc {w : World} {A : Option Addr} {xs : List Value} (h : Rd w A xs) (o : Obj) : Rd (w.alloc o) A xs :=
  h.below ((Below.refl _ _).alloc (Nat.le_refl _) o)

theorem ret_int {k : IntKind} {a b : Int} (h : a = b) : Ending.returned (.int k a) = .returned (.int k b) := by rw [h]
theorem ret_bool {a b : Bool} (h : a = b) : Ending.returned (.bool a) = .returned (.bool b) := by rw [h]

/-- A slice of integers of one kind. -/
def RdI (k : IntKind) (w : World) (A : Option Addr) (zs : List Int) : Prop := Rd w A (zs.map (Value.int k))

theorem RdI.at_ {k : IntKind} {w : World} {A : Option Addr} {zs : List Int} (h : RdI k w A zs) {i : Nat} (hi : i < zs.length) :
    ∃ b off, A = some ⟨b, off, none⟩ ∧ w.cell? ⟨b, off + i, none⟩ = some (.int k zs[i]) := by
  obtain ⟨b, off, hA, hc⟩ := Rd.at_ h (k := i) (by simpa using hi)
  exact ⟨b, off, hA, by simpa using hc⟩

theorem RdI.below {k : IntKind} {w w' : World} {A : Option Addr} {zs : List Int} (h : RdI k w A zs) (hb : Below w.heap.size w w') : RdI k w' A zs := Rd.below h hb

theorem flatMap_get {α : Type} {f : α → List Value} {n : Nat} : ∀ (l : List α), (∀ x ∈ l, (f x).length = n) → ∀ (k j : Nat) (hk : k < l.length), j < n → (l.flatMap f)[k * n + j]? = (f l[k])[j]?
  | [], _, k, _, hk, _ => by simp at hk
  | x :: l, h, 0, j, hk, hj => by
    have h0 := h x (by simp)
    rw [List.flatMap_cons, Nat.zero_mul, Nat.zero_add, List.getElem?_append_left (by omega)]
    rfl
  | x :: l, h, k + 1, j, hk, hj => by
    have h0 := h x (by simp)
    rw [List.flatMap_cons, List.getElem?_append_right (by rw [h0, Nat.succ_mul]; omega), h0, show (k + 1) * n + j - n = k * n + j from by rw [Nat.succ_mul]; omega]
    simpa using flatMap_get l (fun y hy => h y (by simp [hy])) k j (by simpa using hk) hj

/-- Two integers: a struct of two fields. -/
def c2 (s : Int × Int) : List Value := [.int .i64 s.1, .int .i64 s.2]

/-- A slice value that is nil or the call's own, and the integers that it holds. -/
def OwnI (w : World) (base : Nat) (e : TypeId) (k : IntKind) (v : Value) (xs : List Int) : Prop := w.ownsRow base e 1 v xs.length (xs.map (Value.int k))

theorem OwnI.nil (w : World) (base : Nat) (e : TypeId) (k : IntKind) : OwnI w base e k (.slice none 0 0) [] := World.ownsRow_nil w base e 1
theorem OwnI.alloc {w : World} {base : Nat} {e : TypeId} {k : IntKind} {v : Value} {xs : List Int} (h : OwnI w base e k v xs) (o : Obj) : OwnI (w.alloc o) base e k v xs := World.ownsRow.alloc h o
theorem OwnI.below {w w' : World} {base : Nat} {e : TypeId} {k : IntKind} {v : Value} {xs : List Int} (h : OwnI w base e k v xs) (hb : Below w.heap.size w w') : OwnI w' base e k v xs :=
  World.ownsRow.kept (row := none) h ⟨hb.os, hb.tape, hb.output, hb.size, fun k hk _ => hb.block k hk⟩ (by cases hv : v.ownBlock <;> simp)

/-- What it is, to be read. -/
theorem OwnI.form {w : World} {base : Nat} {e : TypeId} {k : IntKind} {v : Value} {xs : List Int} (h : OwnI w base e k v xs) :
    ∃ (A : Option Addr) (c : Nat), v = .slice A xs.length c ∧ xs.length ≤ c ∧ RdI k w A xs ∧ (∀ g o s, A = some ⟨g, o, s⟩ → base ≤ g) := by
  rcases h.2 with ⟨hv, hn⟩ | ⟨g, cap, cur, hv, hb, hh, hl, hm, hs, ht⟩
  · have : xs = [] := List.eq_nil_of_length_eq_zero hn
    subst this
    exact ⟨none, 0, hv, Nat.le_refl _, .inl rfl, fun _ _ _ h => by cases h⟩
  · refine ⟨some ⟨g, 0, none⟩, cap, hv, hl, .inr ⟨g, 0, rfl, fun j u hu => ?_⟩, fun g' o s he => by cases he; exact hb⟩
    rw [← ht, List.getElem?_take] at hu
    split at hu
    · rw [Nat.zero_add, cell_of_row w g j cur e (0, 0) hh]
      simpa using hu
    · cases hu

theorem info_parts' {P : Program} {e : TypeId} {z : Value} {s b : Nat} (h : (P.info? e).map (fun i => (i.zero, i.size, i.bytes)) = some (some z, s, b)) : ∃ i, P.info? e = some i ∧ i.zero = some z ∧ i.size = s ∧ i.bytes = b := by
  rw [Option.map_eq_some_iff] at h
  obtain ⟨i, hi, he⟩ := h
  simp only [Prod.mk.injEq] at he
  exact ⟨i, hi, he.1, he.2.1, he.2.2⟩

/-- append of one integer to such a slice. -/
theorem wpList_app1 {P : Program} {w : World} {ops : Array Oper} {rest : List Oper} {o : Oper} {a : Act} {Q : Exit → Act → World → Prop} (hgd : o.guard = none) (s x : Operand) (t : TypeId)
    (ho : o.op = .call { callee := .builtin .append, args := #[s, x], argTypes := #[t, t] }) (e : TypeId) (k : IntKind) (bytes : Nat) (ht : P.underlying t = some (.slice e))
    (hi : (P.info? e).map (fun i => (i.zero, i.size, i.bytes)) = some (some (.int k 0), 1, bytes)) (base : Nat) (xs : List Int) (z : Int)
    (v : Value) (hs : a.eval s = v) (g : Nat) (hx : a.eval x = .slice (some ⟨g, 0, none⟩) 1 1) (hby : bytes ≤ 8) (hown : OwnI w base e k v xs) (hc : w.cell? ⟨g, 0, none⟩ = some (.int k z))
    (hlen : xs.length ≤ 1000000000) (hbase : base ≤ w.heap.size)
    (h : ∀ v' w', OwnI w' base e k v' (xs ++ [z]) → w.grownBy w' v.ownBlock → wpList P ops Q rest (a.put o.dst v') w') : wpList P ops Q (o :: rest) a w := by
  obtain ⟨i, h1, h2, h3, h4⟩ := info_parts' hi
  refine wpList_append_own w hgd s x t ho base e i (.int k 0) 1 bytes ht h1 h2 h3 h4 rfl (by decide) v xs.length (xs.map (Value.int k)) hs hown ⟨g, 0, none⟩ 1 1 [.int k z] hx rfl (fun j u hu => ?_) (fun u hu => ?_) (by unfold maxLen; omega) ?_ hbase (fun v' w' h5 h6 _ => h v' w' ?_ h6)
  · cases j with
    | zero =>
      simp only [List.getElem?_cons_zero, Option.some.injEq] at hu
      subst hu
      simpa [Addr.add] using hc
    | succ j => simp at hu
  · simp only [List.mem_singleton] at hu
    subst hu
    rfl
  · have := Nat.mul_le_mul (show xs.length + 1 ≤ 1000000001 by omega) hby
    omega
  · unfold OwnI
    rw [List.length_append, List.map_append]
    exact h5

theorem OwnI.grown {w0 w w' : World} {B : Nat} {e : TypeId} {k : IntKind} {v : Value} {xs : List Int} (h : OwnI w B e k v xs) (hb : Below B w0 w) (hg : w.grownBy w' v.ownBlock) (hB : B ≤ w.heap.size) : Below B w0 w' :=
  hb.grown hg hB (fun k hk => (World.ownsRow.lt h k hk).1)

theorem named {W W0 : World} (h : W = W0) : Below W.heap.size W W0 := h ▸ Below.refl _ _

end Go.Proofs.YtoibebmhfcjpfaaGreatDoor
