/- Walks: Add and Sub of any numbers. -/
import Derived.Test.YtoibebmhfcjpfaaGreatDoorZfBigW
import Derived.Deep.RegionLawGrows
import Derived.Outline
import Derived.BigQuiet
import Derived.Deep.QuietTactic
import Derived.Laws.BitsAllLaws
import Derived.Laws.Bits64
import Derived.Deep.RegionLaw
import Derived.StillTailTactics
namespace Go.Proofs.YtoibebmhfcjpfaaGreatDoor.Big
open Go.RowKit

/-- Some number lies there. -/
def IntOK (w : World) (b o : Nat) : Prop := ∃ z, IntAt w b o z
theorem IntOK.below {w w' : World} {b o : Nat} (h : IntOK w b o) (hb : Below w.heap.size w w') : IntOK w' b o := h.imp fun _ h => h.below hb

end Go.Proofs.YtoibebmhfcjpfaaGreatDoor.Big
