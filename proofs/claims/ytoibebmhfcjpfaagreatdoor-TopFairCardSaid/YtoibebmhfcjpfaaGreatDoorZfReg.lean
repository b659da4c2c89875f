/- A region that draws its order, whose operations read and whose callees make memory alone: one walk, in the order of the text. -/
import Derived.Test.YtoibebmhfcjpfaaGreatDoorZfMem
import Derived.BigQuiet
import Derived.Deep.QuietTactic
namespace Go.Proofs.YtoibebmhfcjpfaaGreatDoor
open Go.RowKit

/-- The worlds in which nothing has turned since W0 but that there is more memory. -/
structure Since (W0 : World) where
  val : World
  property : Below W0.heap.size W0 val
instance (W0 : World) : Nonempty (Since W0) := ⟨⟨W0, Below.refl _ _⟩⟩

theorem wp_region_since {P : Program} {id : Nat} {Q : Exit → Act → World → Prop} {a : Act} {w : World} {l : List Oper} (W0 : World) (h0 : Below W0.heap.size W0 w) (hm : P.follows .mixedOrders = true) (hB : Region.lexB .any l.toArray = true)
    (h : wpQuiet P l.toArray (fun w' => ∃ i : Since W0, w' = i.val) (fun a' => ∀ w', (∃ i : Since W0, w' = i.val) → Q .normal a' w') l a) : (Code.region id l.toArray true).wp P Q a w :=
  wp_region_quiet (C := fun w' => ∃ i : Since W0, w' = i.val) hm hB ⟨⟨_, h0.drew⟩, rfl⟩ (by simpa using h)

theorem Calls.since {P : Program} {f : FuncId} {args : Array Value} {W0 : World} {i : Since W0} {v : Value}
    (h : Calls P f args i.val fun e w' => e = .returned v ∧ Below i.val.heap.size i.val w') : Calls P f args i.val fun e w'' => e = .returned v ∧ ∃ j : Since W0, w'' = j.val :=
  h.mono fun _ _ ⟨he, hm⟩ => ⟨he, ⟨_, i.property.trans (hm.mono i.property.size)⟩, rfl⟩

theorem since_cell {W0 : World} (i : Since W0) {b : Nat} (h : b < W0.heap.size) (o : Nat) : i.val.cell? ⟨b, o, none⟩ = W0.cell? ⟨b, o, none⟩ := i.property.cell (p := ⟨b, o, none⟩) h
end Go.Proofs.YtoibebmhfcjpfaaGreatDoor
