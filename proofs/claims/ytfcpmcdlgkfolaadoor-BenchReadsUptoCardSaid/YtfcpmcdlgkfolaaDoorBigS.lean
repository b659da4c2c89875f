/- Walks: Set, Sign, Neg, Abs. -/
import Derived.Test.YtfcpmcdlgkfolaaDoorBigA
import Derived.Test.YtfcpmcdlgkfolaaDoorBigP
namespace Go.Proofs.YtfcpmcdlgkfolaaDoor.Big
open Go.RowKit

theorem infoD : (Tryd.prog.info? 200).map (fun i => (i.zero, i.size, i.bytes)) = some (some (.int .u32 0), 1, 4) := by kernel_rfl







/-- The sign of a number with digits. -/
theorem sg_neg {neg : Bool} {ds : List Int} : sg (!neg && decide (0 < ds.length)) (dval ds) = -sg neg (dval ds) := by
  by_cases h : ds = []
  · subst h; cases neg <;> rfl
  · have : 0 < ds.length := List.length_pos_iff.2 h
    cases neg <;> simp [sg, this]



end Go.Proofs.YtfcpmcdlgkfolaaDoor.Big
