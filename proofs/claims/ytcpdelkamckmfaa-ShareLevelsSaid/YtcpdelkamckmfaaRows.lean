/-
  No cell of these rows narrows 'for every input' (looked for: loops, veiled, ifaces, maps, wideKeys, modest, calm, conditions, laid).
  DERIVED. THE GIVEN ROWS OF THIS SEAT. 12 by the template 'for every input the law returns true; each argument reads behind the call as it read before'; 0 by the template 'total and deterministic' (their statements: YtcpdelkamckmfaaTotals.lean).
  GIVEN WITH THE SEED: the statements are not yours to turn. If you find one false, say at which input.
  Laid BY PROGRAM, IN A SANDBOX (cutbox-rows.mjs): the forced cells as the released guide's own fill.sh prints them over the translation a36e7acbdd13536c… (all of the seat's roots in one cut). By AI agents, Wed Nov 11 2026. No macro, syntax, notation, axiom, sorry.
-/
import Derived.Test.YtcpdelkamckmfaaChecked
import GoSem.Claim
import GoSem.ClaimJoined
import GoSem.ClaimMapViews
import Derived.JoinedTies
import Derived.KernelRfl
namespace Go.Proofs.Ytcpdelkamckmfaa
/- THE CELL 'sum', in the pinned program and in every row, IS THE sha256 OF THE DUMP (.gsa) THAT YtcpdelkamckmfaaProg.lean LOADS. Nothing in Lean hashes anything: it is a label: what it is worth is what the hold of that sum in a sandbox is worth. -/
noncomputable def Try.pinned : Pinned := { name := "ytcpdelkamckmfaa", sum := "a36e7acbdd13536ccb00ef145eb5a6f0f32075c9bd64f090cea789fe430993fc", checked := Try.checked }
namespace Rows
def none {H : Type} : Left H := { results := [], args := [] }

/-- 'weirhouselaw.FracAdds': WHATEVER THE INPUT: true; the input reads as it did. -/
def fracAddsSpec : ChangeSpec := { name := "fracAdds", fn := fun _ => fun
  | [d1, d2] => { results := [.lit (.bool true)], args := [d1, d2] }
  | _ => none }
def fracAddsRow : OpenClaim := { program := "ytcpdelkamckmfaa", sum := "a36e7acbdd13536ccb00ef145eb5a6f0f32075c9bd64f090cea789fe430993fc", func := "weirhouse/weirhouselaw.FracAdds", spec := "fracAdds", apart := false }
def FracAddsSaid : Prop := fracAddsRow.holds Try.pinned (OpenSpec.ofChange fracAddsSpec)

/-- ITS FALSE NEIGHBOUR: 'it returns false'. Refute it at one input. -/
def fracAddsWrong : ChangeSpec := { name := "fracAdds", fn := fun _ => fun
  | [d1, d2] => { results := [.lit (.bool false)], args := [d1, d2] }
  | _ => none }
def FracAddsWrongFalsely : Prop := fracAddsRow.holds Try.pinned (OpenSpec.ofChange fracAddsWrong)

/-- 'weirhouselaw.FracRounds': WHATEVER THE INPUT: true; the input reads as it did. -/
def fracRoundsSpec : ChangeSpec := { name := "fracRounds", fn := fun _ => fun
  | [d1, d2] => { results := [.lit (.bool true)], args := [d1, d2] }
  | _ => none }
def fracRoundsRow : OpenClaim := { program := "ytcpdelkamckmfaa", sum := "a36e7acbdd13536ccb00ef145eb5a6f0f32075c9bd64f090cea789fe430993fc", func := "weirhouse/weirhouselaw.FracRounds", spec := "fracRounds", apart := false }
def FracRoundsSaid : Prop := fracRoundsRow.holds Try.pinned (OpenSpec.ofChange fracRoundsSpec)

/-- ITS FALSE NEIGHBOUR: 'it returns false'. Refute it at one input. -/
def fracRoundsWrong : ChangeSpec := { name := "fracRounds", fn := fun _ => fun
  | [d1, d2] => { results := [.lit (.bool false)], args := [d1, d2] }
  | _ => none }
def FracRoundsWrongFalsely : Prop := fracRoundsRow.holds Try.pinned (OpenSpec.ofChange fracRoundsWrong)

/-- 'weirhouselaw.WideAdds': WHATEVER THE INPUT: true; the input reads as it did. -/
def wideAddsSpec : ChangeSpec := { name := "wideAdds", fn := fun _ => fun
  | [d1, d2] => { results := [.lit (.bool true)], args := [d1, d2] }
  | _ => none }
def wideAddsRow : OpenClaim := { program := "ytcpdelkamckmfaa", sum := "a36e7acbdd13536ccb00ef145eb5a6f0f32075c9bd64f090cea789fe430993fc", func := "weirhouse/weirhouselaw.WideAdds", spec := "wideAdds", inPlace := ["math/bits.Add64", "math/bits.Sub64"], apart := false }
def WideAddsSaid : Prop := wideAddsRow.holds Try.pinned (OpenSpec.ofChange wideAddsSpec)

/-- ITS FALSE NEIGHBOUR: 'it returns false'. Refute it at one input. -/
def wideAddsWrong : ChangeSpec := { name := "wideAdds", fn := fun _ => fun
  | [d1, d2] => { results := [.lit (.bool false)], args := [d1, d2] }
  | _ => none }
def WideAddsWrongFalsely : Prop := wideAddsRow.holds Try.pinned (OpenSpec.ofChange wideAddsWrong)

/-- 'weirhouselaw.WideMuls': WHATEVER THE INPUT: true; the input reads as it did. -/
def wideMulsSpec : ChangeSpec := { name := "wideMuls", fn := fun _ => fun
  | [d1, d2, d3] => { results := [.lit (.bool true)], args := [d1, d2, d3] }
  | _ => none }
def wideMulsRow : OpenClaim := { program := "ytcpdelkamckmfaa", sum := "a36e7acbdd13536ccb00ef145eb5a6f0f32075c9bd64f090cea789fe430993fc", func := "weirhouse/weirhouselaw.WideMuls", spec := "wideMuls", named := ["math/bits.divideError", "math/bits.overflowError"], apart := false }
def WideMulsSaid : Prop := wideMulsRow.holds Try.pinned (OpenSpec.ofChange wideMulsSpec)

/-- ITS FALSE NEIGHBOUR: 'it returns false'. Refute it at one input. -/
def wideMulsWrong : ChangeSpec := { name := "wideMuls", fn := fun _ => fun
  | [d1, d2, d3] => { results := [.lit (.bool false)], args := [d1, d2, d3] }
  | _ => none }
def WideMulsWrongFalsely : Prop := wideMulsRow.holds Try.pinned (OpenSpec.ofChange wideMulsWrong)

/-- 'weirhouselaw.RedPlays': WHATEVER THE INPUT: true; the input reads as it did. -/
def redPlaysSpec : ChangeSpec := { name := "redPlays", fn := fun _ => fun
  | [d1, d2, d3, d4] => { results := [.lit (.bool true)], args := [d1, d2, d3, d4] }
  | _ => none }
def redPlaysRow : OpenClaim := { program := "ytcpdelkamckmfaa", sum := "a36e7acbdd13536ccb00ef145eb5a6f0f32075c9bd64f090cea789fe430993fc", func := "weirhouse/weirhouselaw.RedPlays", spec := "redPlays", apart := false }
def RedPlaysSaid : Prop := redPlaysRow.holds Try.pinned (OpenSpec.ofChange redPlaysSpec)

/-- ITS FALSE NEIGHBOUR: 'it returns false'. Refute it at one input. -/
def redPlaysWrong : ChangeSpec := { name := "redPlays", fn := fun _ => fun
  | [d1, d2, d3, d4] => { results := [.lit (.bool false)], args := [d1, d2, d3, d4] }
  | _ => none }
def RedPlaysWrongFalsely : Prop := redPlaysRow.holds Try.pinned (OpenSpec.ofChange redPlaysWrong)

/-- 'weirhouselaw.SketchCounts': WHATEVER THE INPUT: true; the input reads as it did. -/
def sketchCountsSpec : ChangeSpec := { name := "sketchCounts", fn := fun _ => fun
  | [d1, d2, d3, d4, d5] => { results := [.lit (.bool true)], args := [d1, d2, d3, d4, d5] }
  | _ => none }
def sketchCountsRow : OpenClaim := { program := "ytcpdelkamckmfaa", sum := "a36e7acbdd13536ccb00ef145eb5a6f0f32075c9bd64f090cea789fe430993fc", func := "weirhouse/weirhouselaw.SketchCounts", spec := "sketchCounts", unfollowed := true, recurses := true, apart := false }
def SketchCountsSaid : Prop := sketchCountsRow.holds Try.pinned (OpenSpec.ofChange sketchCountsSpec)

/-- ITS FALSE NEIGHBOUR: 'it returns false'. Refute it at one input. -/
def sketchCountsWrong : ChangeSpec := { name := "sketchCounts", fn := fun _ => fun
  | [d1, d2, d3, d4, d5] => { results := [.lit (.bool false)], args := [d1, d2, d3, d4, d5] }
  | _ => none }
def SketchCountsWrongFalsely : Prop := sketchCountsRow.holds Try.pinned (OpenSpec.ofChange sketchCountsWrong)

/-- 'weirhouselaw.WfqPlays': WHATEVER THE INPUT: true; the input reads as it did. -/
def wfqPlaysSpec : ChangeSpec := { name := "wfqPlays", fn := fun _ => fun
  | [d1, d2] => { results := [.lit (.bool true)], args := [d1, d2] }
  | _ => none }
def wfqPlaysRow : OpenClaim := { program := "ytcpdelkamckmfaa", sum := "a36e7acbdd13536ccb00ef145eb5a6f0f32075c9bd64f090cea789fe430993fc", func := "weirhouse/weirhouselaw.WfqPlays", spec := "wfqPlays", unfollowed := true, recurses := true, apart := false }
def WfqPlaysSaid : Prop := wfqPlaysRow.holds Try.pinned (OpenSpec.ofChange wfqPlaysSpec)

/-- ITS FALSE NEIGHBOUR: 'it returns false'. Refute it at one input. -/
def wfqPlaysWrong : ChangeSpec := { name := "wfqPlays", fn := fun _ => fun
  | [d1, d2] => { results := [.lit (.bool false)], args := [d1, d2] }
  | _ => none }
def WfqPlaysWrongFalsely : Prop := wfqPlaysRow.holds Try.pinned (OpenSpec.ofChange wfqPlaysWrong)

/-- 'weirhouselaw.HierPlays': WHATEVER THE INPUT: true; the input reads as it did. -/
def hierPlaysSpec : ChangeSpec := { name := "hierPlays", fn := fun _ => fun
  | [d1, d2] => { results := [.lit (.bool true)], args := [d1, d2] }
  | _ => none }
def hierPlaysRow : OpenClaim := { program := "ytcpdelkamckmfaa", sum := "a36e7acbdd13536ccb00ef145eb5a6f0f32075c9bd64f090cea789fe430993fc", func := "weirhouse/weirhouselaw.HierPlays", spec := "hierPlays", unfollowed := true, recurses := true, apart := false }
def HierPlaysSaid : Prop := hierPlaysRow.holds Try.pinned (OpenSpec.ofChange hierPlaysSpec)

/-- ITS FALSE NEIGHBOUR: 'it returns false'. Refute it at one input. -/
def hierPlaysWrong : ChangeSpec := { name := "hierPlays", fn := fun _ => fun
  | [d1, d2] => { results := [.lit (.bool false)], args := [d1, d2] }
  | _ => none }
def HierPlaysWrongFalsely : Prop := hierPlaysRow.holds Try.pinned (OpenSpec.ofChange hierPlaysWrong)

/-- 'weirhouselaw.GpsEnds': WHATEVER THE INPUT: true; the input reads as it did. -/
def gpsEndsSpec : ChangeSpec := { name := "gpsEnds", fn := fun _ => fun
  | [d1, d2] => { results := [.lit (.bool true)], args := [d1, d2] }
  | _ => none }
def gpsEndsRow : OpenClaim := { program := "ytcpdelkamckmfaa", sum := "a36e7acbdd13536ccb00ef145eb5a6f0f32075c9bd64f090cea789fe430993fc", func := "weirhouse/weirhouselaw.GpsEnds", spec := "gpsEnds", unfollowed := true, recurses := true, apart := false }
def GpsEndsSaid : Prop := gpsEndsRow.holds Try.pinned (OpenSpec.ofChange gpsEndsSpec)

/-- ITS FALSE NEIGHBOUR: 'it returns false'. Refute it at one input. -/
def gpsEndsWrong : ChangeSpec := { name := "gpsEnds", fn := fun _ => fun
  | [d1, d2] => { results := [.lit (.bool false)], args := [d1, d2] }
  | _ => none }
def GpsEndsWrongFalsely : Prop := gpsEndsRow.holds Try.pinned (OpenSpec.ofChange gpsEndsWrong)

/-- 'weirhouselaw.TreeWays': WHATEVER THE INPUT: true; the input reads as it did. -/
def treeWaysSpec : ChangeSpec := { name := "treeWays", fn := fun _ => fun
  | [d1, d2, d3] => { results := [.lit (.bool true)], args := [d1, d2, d3] }
  | _ => none }
def treeWaysRow : OpenClaim := { program := "ytcpdelkamckmfaa", sum := "a36e7acbdd13536ccb00ef145eb5a6f0f32075c9bd64f090cea789fe430993fc", func := "weirhouse/weirhouselaw.TreeWays", spec := "treeWays", inPlace := ["slices.overlaps[int]"], unfollowed := true, recurses := true, apart := false }
def TreeWaysSaid : Prop := treeWaysRow.holds Try.pinned (OpenSpec.ofChange treeWaysSpec)

/-- ITS FALSE NEIGHBOUR: 'it returns false'. Refute it at one input. -/
def treeWaysWrong : ChangeSpec := { name := "treeWays", fn := fun _ => fun
  | [d1, d2, d3] => { results := [.lit (.bool false)], args := [d1, d2, d3] }
  | _ => none }
def TreeWaysWrongFalsely : Prop := treeWaysRow.holds Try.pinned (OpenSpec.ofChange treeWaysWrong)

/-- 'weirhouselaw.HeavyAdds': WHATEVER THE INPUT: true; the input reads as it did. -/
def heavyAddsSpec : ChangeSpec := { name := "heavyAdds", fn := fun _ => fun
  | [d1, d2, d3, d4] => { results := [.lit (.bool true)], args := [d1, d2, d3, d4] }
  | _ => none }
def heavyAddsRow : OpenClaim := { program := "ytcpdelkamckmfaa", sum := "a36e7acbdd13536ccb00ef145eb5a6f0f32075c9bd64f090cea789fe430993fc", func := "weirhouse/weirhouselaw.HeavyAdds", spec := "heavyAdds", inPlace := ["slices.overlaps[weirhouse/api.Count]"], unfollowed := true, recurses := true, apart := false }
def HeavyAddsSaid : Prop := heavyAddsRow.holds Try.pinned (OpenSpec.ofChange heavyAddsSpec)

/-- ITS FALSE NEIGHBOUR: 'it returns false'. Refute it at one input. -/
def heavyAddsWrong : ChangeSpec := { name := "heavyAdds", fn := fun _ => fun
  | [d1, d2, d3, d4] => { results := [.lit (.bool false)], args := [d1, d2, d3, d4] }
  | _ => none }
def HeavyAddsWrongFalsely : Prop := heavyAddsRow.holds Try.pinned (OpenSpec.ofChange heavyAddsWrong)

/-- 'weirhouselaw.ShareLevels': WHATEVER THE INPUT: true; the input reads as it did. -/
def shareLevelsSpec : ChangeSpec := { name := "shareLevels", fn := fun _ => fun
  | [d1, d2, d3] => { results := [.lit (.bool true)], args := [d1, d2, d3] }
  | _ => none }
def shareLevelsRow : OpenClaim := { program := "ytcpdelkamckmfaa", sum := "a36e7acbdd13536ccb00ef145eb5a6f0f32075c9bd64f090cea789fe430993fc", func := "weirhouse/weirhouselaw.ShareLevels", spec := "shareLevels", unfollowed := true, recurses := true, apart := false }
def ShareLevelsSaid : Prop := shareLevelsRow.holds Try.pinned (OpenSpec.ofChange shareLevelsSpec)

/-- ITS FALSE NEIGHBOUR: 'it returns false'. Refute it at one input. -/
def shareLevelsWrong : ChangeSpec := { name := "shareLevels", fn := fun _ => fun
  | [d1, d2, d3] => { results := [.lit (.bool false)], args := [d1, d2, d3] }
  | _ => none }
def ShareLevelsWrongFalsely : Prop := shareLevelsRow.holds Try.pinned (OpenSpec.ofChange shareLevelsWrong)

/- THE SECOND FORM. 'bulk': how many values and letters a reading holds, each counted each time it is reached (what is shared counts as often as it is met; a slice's spare places count too). A statement '..UptoSaid' is the law's where the arguments, and the package variables that the reading takes, are together of bulk at most 1048576: NARROWER than '..Said'. Prove '..Said' where nothing that the law and all that it calls make is longer than what came in: it says more and counts as full. Else prove '..UptoSaid'. A law counts once. -/
mutual
def uptoBulk {H : Type} : DataW H → Nat
  | .lit (.string bytes) => bytes.length + 1
  | .lit _ => 1
  | .nil => 1
  | .ptr d => uptoBulk d + 1
  | .slice elems spare => uptoBulkAll elems + uptoBulkAll spare + 1
  | .agg parts => uptoBulkAll parts + 1
  | .iface _ d => uptoBulk d + 1
  | .map entries => uptoBulkEntries entries + 1
  | .held _ => 1
def uptoBulkAll {H : Type} : List (DataW H) → Nat
  | [] => 0
  | d :: r => uptoBulk d + uptoBulkAll r
def uptoBulkEntries {H : Type} : List (Lit × DataW H) → Nat
  | [] => 0
  | x :: r => uptoBulkEntry x + uptoBulkEntries r
def uptoBulkEntry {H : Type} : Lit × DataW H → Nat
  | (.string bytes, d) => bytes.length + uptoBulk d + 1
  | (_, d) => uptoBulk d + 1
 end
def uptoSmall : (H : Type) → List (DataW H) → Bool := fun _ ds => decide (uptoBulkAll ds ≤ 1048576)
def OpenSpec.upto (s : _root_.Go.ChangeSpec) : _root_.Go.OpenSpec := { _root_.Go.OpenSpec.ofChange s with cond := some uptoSmall }

/-- 'weirhouselaw.FracAdds', WHERE WHAT IT READS IS OF BULK AT MOST 1048576: true; the input reads as it did. -/
def fracAddsUptoRow : OpenClaim := { program := "ytcpdelkamckmfaa", sum := "a36e7acbdd13536ccb00ef145eb5a6f0f32075c9bd64f090cea789fe430993fc", func := "weirhouse/weirhouselaw.FracAdds", spec := "fracAdds", apart := false, narrowed := true }
def FracAddsUptoSaid : Prop := fracAddsUptoRow.holds Try.pinned (OpenSpec.upto fracAddsSpec)

/-- 'weirhouselaw.FracRounds', WHERE WHAT IT READS IS OF BULK AT MOST 1048576: true; the input reads as it did. -/
def fracRoundsUptoRow : OpenClaim := { program := "ytcpdelkamckmfaa", sum := "a36e7acbdd13536ccb00ef145eb5a6f0f32075c9bd64f090cea789fe430993fc", func := "weirhouse/weirhouselaw.FracRounds", spec := "fracRounds", apart := false, narrowed := true }
def FracRoundsUptoSaid : Prop := fracRoundsUptoRow.holds Try.pinned (OpenSpec.upto fracRoundsSpec)

/-- 'weirhouselaw.WideAdds', WHERE WHAT IT READS IS OF BULK AT MOST 1048576: true; the input reads as it did. -/
def wideAddsUptoRow : OpenClaim := { program := "ytcpdelkamckmfaa", sum := "a36e7acbdd13536ccb00ef145eb5a6f0f32075c9bd64f090cea789fe430993fc", func := "weirhouse/weirhouselaw.WideAdds", spec := "wideAdds", inPlace := ["math/bits.Add64", "math/bits.Sub64"], apart := false, narrowed := true }
def WideAddsUptoSaid : Prop := wideAddsUptoRow.holds Try.pinned (OpenSpec.upto wideAddsSpec)

/-- 'weirhouselaw.WideMuls', WHERE WHAT IT READS IS OF BULK AT MOST 1048576: true; the input reads as it did. -/
def wideMulsUptoRow : OpenClaim := { program := "ytcpdelkamckmfaa", sum := "a36e7acbdd13536ccb00ef145eb5a6f0f32075c9bd64f090cea789fe430993fc", func := "weirhouse/weirhouselaw.WideMuls", spec := "wideMuls", named := ["math/bits.divideError", "math/bits.overflowError"], apart := false, narrowed := true }
def WideMulsUptoSaid : Prop := wideMulsUptoRow.holds Try.pinned (OpenSpec.upto wideMulsSpec)

/-- 'weirhouselaw.RedPlays', WHERE WHAT IT READS IS OF BULK AT MOST 1048576: true; the input reads as it did. -/
def redPlaysUptoRow : OpenClaim := { program := "ytcpdelkamckmfaa", sum := "a36e7acbdd13536ccb00ef145eb5a6f0f32075c9bd64f090cea789fe430993fc", func := "weirhouse/weirhouselaw.RedPlays", spec := "redPlays", apart := false, narrowed := true }
def RedPlaysUptoSaid : Prop := redPlaysUptoRow.holds Try.pinned (OpenSpec.upto redPlaysSpec)

/-- 'weirhouselaw.SketchCounts', WHERE WHAT IT READS IS OF BULK AT MOST 1048576: true; the input reads as it did. -/
def sketchCountsUptoRow : OpenClaim := { program := "ytcpdelkamckmfaa", sum := "a36e7acbdd13536ccb00ef145eb5a6f0f32075c9bd64f090cea789fe430993fc", func := "weirhouse/weirhouselaw.SketchCounts", spec := "sketchCounts", unfollowed := true, recurses := true, apart := false, narrowed := true }
def SketchCountsUptoSaid : Prop := sketchCountsUptoRow.holds Try.pinned (OpenSpec.upto sketchCountsSpec)

/-- 'weirhouselaw.WfqPlays', WHERE WHAT IT READS IS OF BULK AT MOST 1048576: true; the input reads as it did. -/
def wfqPlaysUptoRow : OpenClaim := { program := "ytcpdelkamckmfaa", sum := "a36e7acbdd13536ccb00ef145eb5a6f0f32075c9bd64f090cea789fe430993fc", func := "weirhouse/weirhouselaw.WfqPlays", spec := "wfqPlays", unfollowed := true, recurses := true, apart := false, narrowed := true }
def WfqPlaysUptoSaid : Prop := wfqPlaysUptoRow.holds Try.pinned (OpenSpec.upto wfqPlaysSpec)

/-- 'weirhouselaw.HierPlays', WHERE WHAT IT READS IS OF BULK AT MOST 1048576: true; the input reads as it did. -/
def hierPlaysUptoRow : OpenClaim := { program := "ytcpdelkamckmfaa", sum := "a36e7acbdd13536ccb00ef145eb5a6f0f32075c9bd64f090cea789fe430993fc", func := "weirhouse/weirhouselaw.HierPlays", spec := "hierPlays", unfollowed := true, recurses := true, apart := false, narrowed := true }
def HierPlaysUptoSaid : Prop := hierPlaysUptoRow.holds Try.pinned (OpenSpec.upto hierPlaysSpec)

/-- 'weirhouselaw.GpsEnds', WHERE WHAT IT READS IS OF BULK AT MOST 1048576: true; the input reads as it did. -/
def gpsEndsUptoRow : OpenClaim := { program := "ytcpdelkamckmfaa", sum := "a36e7acbdd13536ccb00ef145eb5a6f0f32075c9bd64f090cea789fe430993fc", func := "weirhouse/weirhouselaw.GpsEnds", spec := "gpsEnds", unfollowed := true, recurses := true, apart := false, narrowed := true }
def GpsEndsUptoSaid : Prop := gpsEndsUptoRow.holds Try.pinned (OpenSpec.upto gpsEndsSpec)

/-- 'weirhouselaw.TreeWays', WHERE WHAT IT READS IS OF BULK AT MOST 1048576: true; the input reads as it did. -/
def treeWaysUptoRow : OpenClaim := { program := "ytcpdelkamckmfaa", sum := "a36e7acbdd13536ccb00ef145eb5a6f0f32075c9bd64f090cea789fe430993fc", func := "weirhouse/weirhouselaw.TreeWays", spec := "treeWays", inPlace := ["slices.overlaps[int]"], unfollowed := true, recurses := true, apart := false, narrowed := true }
def TreeWaysUptoSaid : Prop := treeWaysUptoRow.holds Try.pinned (OpenSpec.upto treeWaysSpec)

/-- 'weirhouselaw.HeavyAdds', WHERE WHAT IT READS IS OF BULK AT MOST 1048576: true; the input reads as it did. -/
def heavyAddsUptoRow : OpenClaim := { program := "ytcpdelkamckmfaa", sum := "a36e7acbdd13536ccb00ef145eb5a6f0f32075c9bd64f090cea789fe430993fc", func := "weirhouse/weirhouselaw.HeavyAdds", spec := "heavyAdds", inPlace := ["slices.overlaps[weirhouse/api.Count]"], unfollowed := true, recurses := true, apart := false, narrowed := true }
def HeavyAddsUptoSaid : Prop := heavyAddsUptoRow.holds Try.pinned (OpenSpec.upto heavyAddsSpec)

/-- 'weirhouselaw.ShareLevels', WHERE WHAT IT READS IS OF BULK AT MOST 1048576: true; the input reads as it did. -/
def shareLevelsUptoRow : OpenClaim := { program := "ytcpdelkamckmfaa", sum := "a36e7acbdd13536ccb00ef145eb5a6f0f32075c9bd64f090cea789fe430993fc", func := "weirhouse/weirhouselaw.ShareLevels", spec := "shareLevels", unfollowed := true, recurses := true, apart := false, narrowed := true }
def ShareLevelsUptoSaid : Prop := shareLevelsUptoRow.holds Try.pinned (OpenSpec.upto shareLevelsSpec)

end Rows
end Go.Proofs.Ytcpdelkamckmfaa
