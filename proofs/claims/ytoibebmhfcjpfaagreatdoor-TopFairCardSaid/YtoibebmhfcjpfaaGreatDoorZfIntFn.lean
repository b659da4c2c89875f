/- slices.IndexFunc, slices.ContainsFunc over integers, by what the function answers. -/
import Derived.Test.YtoibebmhfcjpfaaGreatDoorZfMem
import Derived.BigQuiet
import Derived.Deep.QuietTactic
namespace Go.Proofs.YtoibebmhfcjpfaaGreatDoor
open Go.RowKit

/-- An integer's cell in a later world. -/
theorem RdI.atw {k : IntKind} {w wr : World} {A : Option Addr} {zs : List Int} (hr : RdI k w A zs) (hb : Below w.heap.size w wr) {i : Nat} (hi : i < zs.length) :
    ∃ b off, A = some ⟨b, off, none⟩ ∧ b < wr.heap.size ∧ wr.cell? ⟨b, off + i, none⟩ = some (.int k zs[i]) := by
  obtain ⟨b, off, hA, hc⟩ := (hr.below hb).at_ hi
  exact ⟨b, off, hA, lt_of_cell hc, hc⟩

end Go.Proofs.YtoibebmhfcjpfaaGreatDoor
