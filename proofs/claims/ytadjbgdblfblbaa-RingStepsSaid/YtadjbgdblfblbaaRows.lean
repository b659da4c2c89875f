/-
  No cell of these rows narrows 'for every input' (looked for: loops, veiled, ifaces, maps, wideKeys, modest, calm, conditions, laid).
  DERIVED. THE GIVEN ROWS OF THIS SEAT. 10 by the template 'for every input the law returns true; each argument reads behind the call as it read before'; 0 by the template 'total and deterministic' (their statements: YtadjbgdblfblbaaTotals.lean).
  GIVEN WITH THE SEED: the statements are not yours to turn. If you find one false, say at which input.
  Laid BY PROGRAM, IN A SANDBOX (cutbox-rows.mjs): the forced cells as the released guide's own fill.sh prints them over the translation f3674b35ffb115b9… (all of the seat's roots in one cut). By AI agents, Wed Nov 11 2026. No macro, syntax, notation, axiom, sorry.
-/
import Derived.Test.YtadjbgdblfblbaaChecked
import GoSem.Claim
import GoSem.ClaimJoined
import GoSem.ClaimMapViews
import Derived.JoinedTies
import Derived.KernelRfl
namespace Go.Proofs.Ytadjbgdblfblbaa
/- THE CELL 'sum', in the pinned program and in every row, IS THE sha256 OF THE DUMP (.gsa) THAT YtadjbgdblfblbaaProg.lean LOADS. Nothing in Lean hashes anything: it is a label: what it is worth is what the hold of that sum in a sandbox is worth. -/
noncomputable def Try.pinned : Pinned := { name := "ytadjbgdblfblbaa", sum := "f3674b35ffb115b96456b83be043a4c2dfcc86f63de1f9e865f8826d79abee24", checked := Try.checked }
namespace Rows
def none {H : Type} : Left H := { results := [], args := [] }

/-- 'weirhouselaw.SumsTell': WHATEVER THE INPUT: true; the input reads as it did. -/
def sumsTellSpec : ChangeSpec := { name := "sumsTell", fn := fun _ => fun
  | [d1, d2, d3, d4] => { results := [.lit (.bool true)], args := [d1, d2, d3, d4] }
  | _ => none }
def sumsTellRow : OpenClaim := { program := "ytadjbgdblfblbaa", sum := "f3674b35ffb115b96456b83be043a4c2dfcc86f63de1f9e865f8826d79abee24", func := "weirhouse/weirhouselaw.SumsTell", spec := "sumsTell", unfollowed := true, recurses := true, apart := false }
def SumsTellSaid : Prop := sumsTellRow.holds Try.pinned (OpenSpec.ofChange sumsTellSpec)

/-- ITS FALSE NEIGHBOUR: 'it returns false'. Refute it at one input. -/
def sumsTellWrong : ChangeSpec := { name := "sumsTell", fn := fun _ => fun
  | [d1, d2, d3, d4] => { results := [.lit (.bool false)], args := [d1, d2, d3, d4] }
  | _ => none }
def SumsTellWrongFalsely : Prop := sumsTellRow.holds Try.pinned (OpenSpec.ofChange sumsTellWrong)

/-- 'weirhouselaw.BucketTakes': WHATEVER THE INPUT: true; the input reads as it did. -/
def bucketTakesSpec : ChangeSpec := { name := "bucketTakes", fn := fun _ => fun
  | [d1, d2] => { results := [.lit (.bool true)], args := [d1, d2] }
  | _ => none }
def bucketTakesRow : OpenClaim := { program := "ytadjbgdblfblbaa", sum := "f3674b35ffb115b96456b83be043a4c2dfcc86f63de1f9e865f8826d79abee24", func := "weirhouse/weirhouselaw.BucketTakes", spec := "bucketTakes", apart := false }
def BucketTakesSaid : Prop := bucketTakesRow.holds Try.pinned (OpenSpec.ofChange bucketTakesSpec)

/-- ITS FALSE NEIGHBOUR: 'it returns false'. Refute it at one input. -/
def bucketTakesWrong : ChangeSpec := { name := "bucketTakes", fn := fun _ => fun
  | [d1, d2] => { results := [.lit (.bool false)], args := [d1, d2] }
  | _ => none }
def BucketTakesWrongFalsely : Prop := bucketTakesRow.holds Try.pinned (OpenSpec.ofChange bucketTakesWrong)

/-- 'weirhouselaw.MeterColours': WHATEVER THE INPUT: true; the input reads as it did. -/
def meterColoursSpec : ChangeSpec := { name := "meterColours", fn := fun _ => fun
  | [d1, d2, d3] => { results := [.lit (.bool true)], args := [d1, d2, d3] }
  | _ => none }
def meterColoursRow : OpenClaim := { program := "ytadjbgdblfblbaa", sum := "f3674b35ffb115b96456b83be043a4c2dfcc86f63de1f9e865f8826d79abee24", func := "weirhouse/weirhouselaw.MeterColours", spec := "meterColours", unfollowed := true, recurses := true, apart := false }
def MeterColoursSaid : Prop := meterColoursRow.holds Try.pinned (OpenSpec.ofChange meterColoursSpec)

/-- ITS FALSE NEIGHBOUR: 'it returns false'. Refute it at one input. -/
def meterColoursWrong : ChangeSpec := { name := "meterColours", fn := fun _ => fun
  | [d1, d2, d3] => { results := [.lit (.bool false)], args := [d1, d2, d3] }
  | _ => none }
def MeterColoursWrongFalsely : Prop := meterColoursRow.holds Try.pinned (OpenSpec.ofChange meterColoursWrong)

/-- 'weirhouselaw.CurveBounds': WHATEVER THE INPUT: true; the input reads as it did. -/
def curveBoundsSpec : ChangeSpec := { name := "curveBounds", fn := fun _ => fun
  | [d1, d2, d3] => { results := [.lit (.bool true)], args := [d1, d2, d3] }
  | _ => none }
def curveBoundsRow : OpenClaim := { program := "ytadjbgdblfblbaa", sum := "f3674b35ffb115b96456b83be043a4c2dfcc86f63de1f9e865f8826d79abee24", func := "weirhouse/weirhouselaw.CurveBounds", spec := "curveBounds", apart := false }
def CurveBoundsSaid : Prop := curveBoundsRow.holds Try.pinned (OpenSpec.ofChange curveBoundsSpec)

/-- ITS FALSE NEIGHBOUR: 'it returns false'. Refute it at one input. -/
def curveBoundsWrong : ChangeSpec := { name := "curveBounds", fn := fun _ => fun
  | [d1, d2, d3] => { results := [.lit (.bool false)], args := [d1, d2, d3] }
  | _ => none }
def CurveBoundsWrongFalsely : Prop := curveBoundsRow.holds Try.pinned (OpenSpec.ofChange curveBoundsWrong)

/-- 'weirhouselaw.SketchJoins': WHATEVER THE INPUT: true; the input reads as it did. -/
def sketchJoinsSpec : ChangeSpec := { name := "sketchJoins", fn := fun _ => fun
  | [d1, d2, d3, d4] => { results := [.lit (.bool true)], args := [d1, d2, d3, d4] }
  | _ => none }
def sketchJoinsRow : OpenClaim := { program := "ytadjbgdblfblbaa", sum := "f3674b35ffb115b96456b83be043a4c2dfcc86f63de1f9e865f8826d79abee24", func := "weirhouse/weirhouselaw.SketchJoins", spec := "sketchJoins", unfollowed := true, recurses := true, apart := false }
def SketchJoinsSaid : Prop := sketchJoinsRow.holds Try.pinned (OpenSpec.ofChange sketchJoinsSpec)

/-- ITS FALSE NEIGHBOUR: 'it returns false'. Refute it at one input. -/
def sketchJoinsWrong : ChangeSpec := { name := "sketchJoins", fn := fun _ => fun
  | [d1, d2, d3, d4] => { results := [.lit (.bool false)], args := [d1, d2, d3, d4] }
  | _ => none }
def SketchJoinsWrongFalsely : Prop := sketchJoinsRow.holds Try.pinned (OpenSpec.ofChange sketchJoinsWrong)

/-- 'weirhouselaw.FracAdds': WHATEVER THE INPUT: true; the input reads as it did. -/
def fracAddsSpec : ChangeSpec := { name := "fracAdds", fn := fun _ => fun
  | [d1, d2] => { results := [.lit (.bool true)], args := [d1, d2] }
  | _ => none }
def fracAddsRow : OpenClaim := { program := "ytadjbgdblfblbaa", sum := "f3674b35ffb115b96456b83be043a4c2dfcc86f63de1f9e865f8826d79abee24", func := "weirhouse/weirhouselaw.FracAdds", spec := "fracAdds", apart := false }
def FracAddsSaid : Prop := fracAddsRow.holds Try.pinned (OpenSpec.ofChange fracAddsSpec)

/-- ITS FALSE NEIGHBOUR: 'it returns false'. Refute it at one input. -/
def fracAddsWrong : ChangeSpec := { name := "fracAdds", fn := fun _ => fun
  | [d1, d2] => { results := [.lit (.bool false)], args := [d1, d2] }
  | _ => none }
def FracAddsWrongFalsely : Prop := fracAddsRow.holds Try.pinned (OpenSpec.ofChange fracAddsWrong)

/-- 'weirhouselaw.RulesClass': WHATEVER THE INPUT: true; the input reads as it did. -/
def rulesClassSpec : ChangeSpec := { name := "rulesClass", fn := fun _ => fun
  | [d1, d2] => { results := [.lit (.bool true)], args := [d1, d2] }
  | _ => none }
def rulesClassRow : OpenClaim := { program := "ytadjbgdblfblbaa", sum := "f3674b35ffb115b96456b83be043a4c2dfcc86f63de1f9e865f8826d79abee24", func := "weirhouse/weirhouselaw.RulesClass", spec := "rulesClass", unfollowed := true, recurses := true, apart := false }
def RulesClassSaid : Prop := rulesClassRow.holds Try.pinned (OpenSpec.ofChange rulesClassSpec)

/-- ITS FALSE NEIGHBOUR: 'it returns false'. Refute it at one input. -/
def rulesClassWrong : ChangeSpec := { name := "rulesClass", fn := fun _ => fun
  | [d1, d2] => { results := [.lit (.bool false)], args := [d1, d2] }
  | _ => none }
def RulesClassWrongFalsely : Prop := rulesClassRow.holds Try.pinned (OpenSpec.ofChange rulesClassWrong)

/-- 'weirhouselaw.BucketFills': WHATEVER THE INPUT: true; the input reads as it did. -/
def bucketFillsSpec : ChangeSpec := { name := "bucketFills", fn := fun _ => fun
  | [d1, d2, d3] => { results := [.lit (.bool true)], args := [d1, d2, d3] }
  | _ => none }
def bucketFillsRow : OpenClaim := { program := "ytadjbgdblfblbaa", sum := "f3674b35ffb115b96456b83be043a4c2dfcc86f63de1f9e865f8826d79abee24", func := "weirhouse/weirhouselaw.BucketFills", spec := "bucketFills", unfollowed := true, recurses := true, apart := false }
def BucketFillsSaid : Prop := bucketFillsRow.holds Try.pinned (OpenSpec.ofChange bucketFillsSpec)

/-- ITS FALSE NEIGHBOUR: 'it returns false'. Refute it at one input. -/
def bucketFillsWrong : ChangeSpec := { name := "bucketFills", fn := fun _ => fun
  | [d1, d2, d3] => { results := [.lit (.bool false)], args := [d1, d2, d3] }
  | _ => none }
def BucketFillsWrongFalsely : Prop := bucketFillsRow.holds Try.pinned (OpenSpec.ofChange bucketFillsWrong)

/-- 'weirhouselaw.FracRounds': WHATEVER THE INPUT: true; the input reads as it did. -/
def fracRoundsSpec : ChangeSpec := { name := "fracRounds", fn := fun _ => fun
  | [d1, d2] => { results := [.lit (.bool true)], args := [d1, d2] }
  | _ => none }
def fracRoundsRow : OpenClaim := { program := "ytadjbgdblfblbaa", sum := "f3674b35ffb115b96456b83be043a4c2dfcc86f63de1f9e865f8826d79abee24", func := "weirhouse/weirhouselaw.FracRounds", spec := "fracRounds", apart := false }
def FracRoundsSaid : Prop := fracRoundsRow.holds Try.pinned (OpenSpec.ofChange fracRoundsSpec)

/-- ITS FALSE NEIGHBOUR: 'it returns false'. Refute it at one input. -/
def fracRoundsWrong : ChangeSpec := { name := "fracRounds", fn := fun _ => fun
  | [d1, d2] => { results := [.lit (.bool false)], args := [d1, d2] }
  | _ => none }
def FracRoundsWrongFalsely : Prop := fracRoundsRow.holds Try.pinned (OpenSpec.ofChange fracRoundsWrong)

/-- 'weirhouselaw.RingSteps': WHATEVER THE INPUT: true; the input reads as it did. -/
def ringStepsSpec : ChangeSpec := { name := "ringSteps", fn := fun _ => fun
  | [d1, d2] => { results := [.lit (.bool true)], args := [d1, d2] }
  | _ => none }
def ringStepsRow : OpenClaim := { program := "ytadjbgdblfblbaa", sum := "f3674b35ffb115b96456b83be043a4c2dfcc86f63de1f9e865f8826d79abee24", func := "weirhouse/weirhouselaw.RingSteps", spec := "ringSteps", unfollowed := true, recurses := true, apart := false }
def RingStepsSaid : Prop := ringStepsRow.holds Try.pinned (OpenSpec.ofChange ringStepsSpec)

/-- ITS FALSE NEIGHBOUR: 'it returns false'. Refute it at one input. -/
def ringStepsWrong : ChangeSpec := { name := "ringSteps", fn := fun _ => fun
  | [d1, d2] => { results := [.lit (.bool false)], args := [d1, d2] }
  | _ => none }
def RingStepsWrongFalsely : Prop := ringStepsRow.holds Try.pinned (OpenSpec.ofChange ringStepsWrong)

/- THE SECOND FORM. 'bulk': how many values and letters a reading holds, each counted each time it is reached (what is shared counts as often as it is met; a slice's spare places count too). A statement '..UptoSaid' is the law's where the arguments, and the package variables that the reading takes, are together of bulk at most 1048576: NARROWER than '..Said'. Prove '..Said' where nothing that the law and all that it calls make is longer than what came in: it says more and counts as full. Else prove '..UptoSaid'. A law counts once. -/
mutual
def uptoBulk {H : Type} : DataW H → Nat
  | .lit (.string bytes) => bytes.length + 1
  | .lit _ => 1
  | .nil => 1
  | .ptr d => uptoBulk d + 1
  | .slice elems spare => uptoBulkAll elems + uptoBulkAll spare + 1
  | .agg parts => uptoBulkAll parts + 1
  | .iface _ d => uptoBulk d + 1
  | .map entries => uptoBulkEntries entries + 1
  | .held _ => 1
def uptoBulkAll {H : Type} : List (DataW H) → Nat
  | [] => 0
  | d :: r => uptoBulk d + uptoBulkAll r
def uptoBulkEntries {H : Type} : List (Lit × DataW H) → Nat
  | [] => 0
  | x :: r => uptoBulkEntry x + uptoBulkEntries r
def uptoBulkEntry {H : Type} : Lit × DataW H → Nat
  | (.string bytes, d) => bytes.length + uptoBulk d + 1
  | (_, d) => uptoBulk d + 1
 end
def uptoSmall : (H : Type) → List (DataW H) → Bool := fun _ ds => decide (uptoBulkAll ds ≤ 1048576)
def OpenSpec.upto (s : _root_.Go.ChangeSpec) : _root_.Go.OpenSpec := { _root_.Go.OpenSpec.ofChange s with cond := some uptoSmall }

/-- 'weirhouselaw.SumsTell', WHERE WHAT IT READS IS OF BULK AT MOST 1048576: true; the input reads as it did. -/
def sumsTellUptoRow : OpenClaim := { program := "ytadjbgdblfblbaa", sum := "f3674b35ffb115b96456b83be043a4c2dfcc86f63de1f9e865f8826d79abee24", func := "weirhouse/weirhouselaw.SumsTell", spec := "sumsTell", unfollowed := true, recurses := true, apart := false, narrowed := true }
def SumsTellUptoSaid : Prop := sumsTellUptoRow.holds Try.pinned (OpenSpec.upto sumsTellSpec)

/-- 'weirhouselaw.BucketTakes', WHERE WHAT IT READS IS OF BULK AT MOST 1048576: true; the input reads as it did. -/
def bucketTakesUptoRow : OpenClaim := { program := "ytadjbgdblfblbaa", sum := "f3674b35ffb115b96456b83be043a4c2dfcc86f63de1f9e865f8826d79abee24", func := "weirhouse/weirhouselaw.BucketTakes", spec := "bucketTakes", apart := false, narrowed := true }
def BucketTakesUptoSaid : Prop := bucketTakesUptoRow.holds Try.pinned (OpenSpec.upto bucketTakesSpec)

/-- 'weirhouselaw.MeterColours', WHERE WHAT IT READS IS OF BULK AT MOST 1048576: true; the input reads as it did. -/
def meterColoursUptoRow : OpenClaim := { program := "ytadjbgdblfblbaa", sum := "f3674b35ffb115b96456b83be043a4c2dfcc86f63de1f9e865f8826d79abee24", func := "weirhouse/weirhouselaw.MeterColours", spec := "meterColours", unfollowed := true, recurses := true, apart := false, narrowed := true }
def MeterColoursUptoSaid : Prop := meterColoursUptoRow.holds Try.pinned (OpenSpec.upto meterColoursSpec)

/-- 'weirhouselaw.CurveBounds', WHERE WHAT IT READS IS OF BULK AT MOST 1048576: true; the input reads as it did. -/
def curveBoundsUptoRow : OpenClaim := { program := "ytadjbgdblfblbaa", sum := "f3674b35ffb115b96456b83be043a4c2dfcc86f63de1f9e865f8826d79abee24", func := "weirhouse/weirhouselaw.CurveBounds", spec := "curveBounds", apart := false, narrowed := true }
def CurveBoundsUptoSaid : Prop := curveBoundsUptoRow.holds Try.pinned (OpenSpec.upto curveBoundsSpec)

/-- 'weirhouselaw.SketchJoins', WHERE WHAT IT READS IS OF BULK AT MOST 1048576: true; the input reads as it did. -/
def sketchJoinsUptoRow : OpenClaim := { program := "ytadjbgdblfblbaa", sum := "f3674b35ffb115b96456b83be043a4c2dfcc86f63de1f9e865f8826d79abee24", func := "weirhouse/weirhouselaw.SketchJoins", spec := "sketchJoins", unfollowed := true, recurses := true, apart := false, narrowed := true }
def SketchJoinsUptoSaid : Prop := sketchJoinsUptoRow.holds Try.pinned (OpenSpec.upto sketchJoinsSpec)

/-- 'weirhouselaw.FracAdds', WHERE WHAT IT READS IS OF BULK AT MOST 1048576: true; the input reads as it did. -/
def fracAddsUptoRow : OpenClaim := { program := "ytadjbgdblfblbaa", sum := "f3674b35ffb115b96456b83be043a4c2dfcc86f63de1f9e865f8826d79abee24", func := "weirhouse/weirhouselaw.FracAdds", spec := "fracAdds", apart := false, narrowed := true }
def FracAddsUptoSaid : Prop := fracAddsUptoRow.holds Try.pinned (OpenSpec.upto fracAddsSpec)

/-- 'weirhouselaw.RulesClass', WHERE WHAT IT READS IS OF BULK AT MOST 1048576: true; the input reads as it did. -/
def rulesClassUptoRow : OpenClaim := { program := "ytadjbgdblfblbaa", sum := "f3674b35ffb115b96456b83be043a4c2dfcc86f63de1f9e865f8826d79abee24", func := "weirhouse/weirhouselaw.RulesClass", spec := "rulesClass", unfollowed := true, recurses := true, apart := false, narrowed := true }
def RulesClassUptoSaid : Prop := rulesClassUptoRow.holds Try.pinned (OpenSpec.upto rulesClassSpec)

/-- 'weirhouselaw.BucketFills', WHERE WHAT IT READS IS OF BULK AT MOST 1048576: true; the input reads as it did. -/
def bucketFillsUptoRow : OpenClaim := { program := "ytadjbgdblfblbaa", sum := "f3674b35ffb115b96456b83be043a4c2dfcc86f63de1f9e865f8826d79abee24", func := "weirhouse/weirhouselaw.BucketFills", spec := "bucketFills", unfollowed := true, recurses := true, apart := false, narrowed := true }
def BucketFillsUptoSaid : Prop := bucketFillsUptoRow.holds Try.pinned (OpenSpec.upto bucketFillsSpec)

/-- 'weirhouselaw.FracRounds', WHERE WHAT IT READS IS OF BULK AT MOST 1048576: true; the input reads as it did. -/
def fracRoundsUptoRow : OpenClaim := { program := "ytadjbgdblfblbaa", sum := "f3674b35ffb115b96456b83be043a4c2dfcc86f63de1f9e865f8826d79abee24", func := "weirhouse/weirhouselaw.FracRounds", spec := "fracRounds", apart := false, narrowed := true }
def FracRoundsUptoSaid : Prop := fracRoundsUptoRow.holds Try.pinned (OpenSpec.upto fracRoundsSpec)

/-- 'weirhouselaw.RingSteps', WHERE WHAT IT READS IS OF BULK AT MOST 1048576: true; the input reads as it did. -/
def ringStepsUptoRow : OpenClaim := { program := "ytadjbgdblfblbaa", sum := "f3674b35ffb115b96456b83be043a4c2dfcc86f63de1f9e865f8826d79abee24", func := "weirhouse/weirhouselaw.RingSteps", spec := "ringSteps", unfollowed := true, recurses := true, apart := false, narrowed := true }
def RingStepsUptoSaid : Prop := ringStepsUptoRow.holds Try.pinned (OpenSpec.upto ringStepsSpec)

end Rows
end Go.Proofs.Ytadjbgdblfblbaa
