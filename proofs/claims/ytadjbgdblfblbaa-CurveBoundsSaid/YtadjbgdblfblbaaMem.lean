/- Words for memory that all walks of this seat share: a slice that reads as a list of values, and what keeps it so. -/
import Derived.Test.YtadjbgdblfblbaaRows
import Derived.WalkKit
import Derived.WalkSpells
import Derived.WalkLawsBesides
import Derived.Lib.Hide
namespace Go.Proofs.Ytadjbgdblfblbaa
open Go.RowKit

/-- The slice value at address A reads as the cells xs. -/
def Rd (w : World) (A : Option Addr) (xs : List Value) : Prop :=
  xs = [] ∨ ∃ b off, A = some ⟨b, off, none⟩ ∧ ∀ j u, xs[j]? = some u → w.cell? ⟨b, off + j, none⟩ = some u

theorem lt_of_cell {w : World} {b off : Nat} {u : Value} (h : w.cell? ⟨b, off, none⟩ = some u) : b < w.heap.size := by
  rcases Nat.lt_or_ge b w.heap.size with h1 | h1
  · exact h1
  · have : w.heap[b]? = none := Array.getElem?_eq_none h1
    simp [World.cell?, this] at h

theorem Rd.nil {w : World} {A : Option Addr} : Rd w A [] := .inl rfl

theorem Rd.at_ {w : World} {A : Option Addr} {xs : List Value} (h : Rd w A xs) {k : Nat} (hk : k < xs.length) :
    ∃ b off, A = some ⟨b, off, none⟩ ∧ w.cell? ⟨b, off + k, none⟩ = some xs[k] := by
  rcases h with rfl | ⟨b, off, hA, hc⟩
  · simp at hk
  · exact ⟨b, off, hA, hc k _ (List.getElem?_eq_getElem hk)⟩

/-- What is kept: every cell of a block that was there. -/
theorem Rd.keep {w w' : World} {A : Option Addr} {xs : List Value} (h : Rd w A xs)
    (hk : ∀ b off, b < w.heap.size → w'.cell? ⟨b, off, none⟩ = w.cell? ⟨b, off, none⟩) : Rd w' A xs := by
  rcases h with rfl | ⟨b, off, hA, hc⟩
  · exact .inl rfl
  · exact .inr ⟨b, off, hA, fun j u hu => (hk _ _ (lt_of_cell (hc j u hu))).trans (hc j u hu)⟩

theorem Rd.below {w w' : World} {A : Option Addr} {xs : List Value} (h : Rd w A xs) (hb : Below w.heap.size w w') : Rd w' A xs :=
  h.keep fun _ _ hlt => hb.cell (p := ⟨_, _, none⟩) hlt

theorem Rd.drew {w : World} {A : Option Addr} {xs : List Value} (h : Rd w A xs) : Rd w.drew A xs := h

theorem Rd.alloc {w : World} {A : Option Addr} {xs : List Value} (h : Rd w A xs) (o : Obj) : Rd (w.alloc o) A xs :=
  h.below ((Below.refl _ _).alloc (Nat.le_refl _) o)

theorem ret_int {k : IntKind} {a b : Int} (h : a = b) : Ending.returned (.int k a) = .returned (.int k b) := by rw [h]
theorem val_int {k : IntKind} {a b : Int} (h : a = b) : Value.int k a = .int k b := by rw [h]
theorem ret_bool {a b : Bool} (h : a = b) : Ending.returned (.bool a) = .returned (.bool b) := by rw [h]

/-- Behind a call that makes memory alone: what stood there is read as before, and nothing of it is frozen anew. -/
theorem bfacts {W w1 : World} (hb : Below W.heap.size W w1) : (∀ b o, b < W.heap.size → w1.cell? ⟨b, o, none⟩ = W.cell? ⟨b, o, none⟩) ∧
    (∀ b o, b < W.heap.size → w1.frozen? ⟨b, o, none⟩ = W.frozen? ⟨b, o, none⟩) ∧ W.heap.size ≤ w1.heap.size :=
  ⟨fun b o h => hb.cell (p := ⟨b, o, none⟩) h, fun b o h => hb.frozen (p := ⟨b, o, none⟩) h, hb.size⟩

/-- A slice of integers of one kind. -/
def RdI (k : IntKind) (w : World) (A : Option Addr) (zs : List Int) : Prop := Rd w A (zs.map (Value.int k))

theorem RdI.at_ {k : IntKind} {w : World} {A : Option Addr} {zs : List Int} (h : RdI k w A zs) {i : Nat} (hi : i < zs.length) :
    ∃ b off, A = some ⟨b, off, none⟩ ∧ w.cell? ⟨b, off + i, none⟩ = some (.int k zs[i]) := by
  obtain ⟨b, off, hA, hc⟩ := Rd.at_ h (k := i) (by simpa using hi)
  exact ⟨b, off, hA, by simpa using hc⟩

theorem RdI.below {k : IntKind} {w w' : World} {A : Option Addr} {zs : List Int} (h : RdI k w A zs) (hb : Below w.heap.size w w') : RdI k w' A zs := Rd.below h hb

end Go.Proofs.Ytadjbgdblfblbaa
