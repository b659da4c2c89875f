/- slices.IndexFunc, slices.ContainsFunc over integers, by what the function answers. -/
import Derived.Test.YtpknjfeiiaopgaaMem
import Derived.BigQuiet
import Derived.Deep.QuietTactic
namespace Go.Proofs.Ytpknjfeiiaopgaa
open Go.RowKit

theorem findI_take {p : Int → Bool} {l : List Int} {k : Nat} (hk : k < l.length) (h : ∀ j, (hj : j < k) → p (l[j]'(by omega)) = false) :
    (p l[k] = true → l.findIdx? p = some k) := by
  intro hp
  rw [List.findIdx?_eq_some_iff_getElem]
  exact ⟨hk, hp, fun j hj => by simpa using h j hj⟩

theorem findI_none {p : Int → Bool} {l : List Int} (h : ∀ j, (hj : j < l.length) → p l[j] = false) : l.findIdx? p = none := by
  rw [List.findIdx?_eq_none_iff]
  intro x hx
  obtain ⟨j, hj, rfl⟩ := List.mem_iff_getElem.1 hx
  exact h j hj

def idxOfI (o : Option Nat) : Int := match o with | some k => k | none => -1

/-- An integer's cell in a later world. -/
theorem RdI.atw {k : IntKind} {w wr : World} {A : Option Addr} {zs : List Int} (hr : RdI k w A zs) (hb : Below w.heap.size w wr) {i : Nat} (hi : i < zs.length) :
    ∃ b off, A = some ⟨b, off, none⟩ ∧ b < wr.heap.size ∧ wr.cell? ⟨b, off + i, none⟩ = some (.int k zs[i]) := by
  obtain ⟨b, off, hA, hc⟩ := (hr.below hb).at_ hi
  exact ⟨b, off, hA, lt_of_cell hc, hc⟩



end Go.Proofs.Ytpknjfeiiaopgaa
