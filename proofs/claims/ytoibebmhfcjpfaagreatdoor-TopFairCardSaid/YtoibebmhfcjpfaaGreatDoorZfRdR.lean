/- A slice of slices of integers, read. -/
import Derived.Test.YtoibebmhfcjpfaaGreatDoorZfMem
namespace Go.Proofs.YtoibebmhfcjpfaaGreatDoor
open Go.RowKit

/-- The header h is a slice that reads as zs. -/
def HdI (w : World) (h : Value) (zs : List Int) : Prop := ∃ (A : Option Addr) (c : Nat), h = .slice A zs.length c ∧ zs.length ≤ c ∧ RdI .i64 w A zs

/-- The slice at A has the headers hs, that read as rows. -/
structure RdR (w : World) (A : Option Addr) (hs : List Value) (rows : List (List Int)) : Prop where
  hd : Rd w A hs
  len : hs.length = rows.length
  row : ∀ i (h : i < rows.length), HdI w (hs[i]'(by omega)) rows[i]

theorem HdI.below {w w' : World} {h : Value} {zs : List Int} (hh : HdI w h zs) (hb : Below w.heap.size w w') : HdI w' h zs := by
  obtain ⟨A, c, h1, h2, h3⟩ := hh
  exact ⟨A, c, h1, h2, h3.below hb⟩
theorem RdR.below {w w' : World} {A : Option Addr} {hs : List Value} {rows : List (List Int)} (h : RdR w A hs rows) (hb : Below w.heap.size w w') : RdR w' A hs rows :=
  ⟨Rd.below h.hd hb, h.len, fun i hi => (h.row i hi).below hb⟩
theorem RdR.atr {w wr : World} {A : Option Addr} {hs : List Value} {rows : List (List Int)} (h : RdR w A hs rows) (hb : Below w.heap.size w wr) {i : Nat} (hi : i < rows.length) :
    ∃ b off B c, A = some ⟨b, off, none⟩ ∧ b < wr.heap.size ∧ wr.cell? ⟨b, off + i, none⟩ = some (.slice B rows[i].length c) ∧ rows[i].length ≤ c ∧ RdI .i64 wr B rows[i] := by
  have hr := h.below hb
  obtain ⟨b, off, hA, hc⟩ := hr.hd.at_ (k := i) (by rw [hr.len]; exact hi)
  obtain ⟨B, c, h1, h2, h3⟩ := hr.row i hi
  rw [h1] at hc
  exact ⟨b, off, B, c, hA, lt_of_cell hc, hc, h2, h3⟩
end Go.Proofs.YtoibebmhfcjpfaaGreatDoor
