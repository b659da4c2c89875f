/-
  No cell of these rows narrows 'for every input' (looked for: loops, veiled, ifaces, maps, wideKeys, modest, calm, conditions, laid).
  DERIVED. THE GIVEN ROWS OF THIS SEAT. 12 by the template 'for every input the law returns true; each argument reads behind the call as it read before'; 0 by the template 'total and deterministic' (their statements: YtdfjeoifeladfaaTotals.lean).
  GIVEN WITH THE SEED: the statements are not yours to turn. If you find one false, say at which input.
  Laid BY PROGRAM, IN A SANDBOX (cutbox-rows.mjs): the forced cells as the released guide's own fill.sh prints them over the translation 80f3a41251b1a346… (all of the seat's roots in one cut). By AI agents, Wed Nov 11 2026. No macro, syntax, notation, axiom, sorry.
-/
import Derived.Test.YtdfjeoifeladfaaChecked
import GoSem.Claim
import GoSem.ClaimJoined
import GoSem.ClaimMapViews
import Derived.JoinedTies
import Derived.KernelRfl
namespace Go.Proofs.Ytdfjeoifeladfaa
/- THE CELL 'sum', in the pinned program and in every row, IS THE sha256 OF THE DUMP (.gsa) THAT YtdfjeoifeladfaaProg.lean LOADS. Nothing in Lean hashes anything: it is a label: what it is worth is what the hold of that sum in a sandbox is worth. -/
noncomputable def Try.pinned : Pinned := { name := "ytdfjeoifeladfaa", sum := "80f3a41251b1a3462969691e863584799168e6135697df7b6f62d0bccc59edd2", checked := Try.checked }
namespace Rows
def none {H : Type} : Left H := { results := [], args := [] }

/-- 'weirhouselaw.MeterColours': WHATEVER THE INPUT: true; the input reads as it did. -/
def meterColoursSpec : ChangeSpec := { name := "meterColours", fn := fun _ => fun
  | [d1, d2, d3] => { results := [.lit (.bool true)], args := [d1, d2, d3] }
  | _ => none }
def meterColoursRow : OpenClaim := { program := "ytdfjeoifeladfaa", sum := "80f3a41251b1a3462969691e863584799168e6135697df7b6f62d0bccc59edd2", func := "weirhouse/weirhouselaw.MeterColours", spec := "meterColours", unfollowed := true, recurses := true, apart := false }
def MeterColoursSaid : Prop := meterColoursRow.holds Try.pinned (OpenSpec.ofChange meterColoursSpec)

/-- ITS FALSE NEIGHBOUR: 'it returns false'. Refute it at one input. -/
def meterColoursWrong : ChangeSpec := { name := "meterColours", fn := fun _ => fun
  | [d1, d2, d3] => { results := [.lit (.bool false)], args := [d1, d2, d3] }
  | _ => none }
def MeterColoursWrongFalsely : Prop := meterColoursRow.holds Try.pinned (OpenSpec.ofChange meterColoursWrong)

/-- 'weirhouselaw.SketchJoins': WHATEVER THE INPUT: true; the input reads as it did. -/
def sketchJoinsSpec : ChangeSpec := { name := "sketchJoins", fn := fun _ => fun
  | [d1, d2, d3, d4] => { results := [.lit (.bool true)], args := [d1, d2, d3, d4] }
  | _ => none }
def sketchJoinsRow : OpenClaim := { program := "ytdfjeoifeladfaa", sum := "80f3a41251b1a3462969691e863584799168e6135697df7b6f62d0bccc59edd2", func := "weirhouse/weirhouselaw.SketchJoins", spec := "sketchJoins", unfollowed := true, recurses := true, apart := false }
def SketchJoinsSaid : Prop := sketchJoinsRow.holds Try.pinned (OpenSpec.ofChange sketchJoinsSpec)

/-- ITS FALSE NEIGHBOUR: 'it returns false'. Refute it at one input. -/
def sketchJoinsWrong : ChangeSpec := { name := "sketchJoins", fn := fun _ => fun
  | [d1, d2, d3, d4] => { results := [.lit (.bool false)], args := [d1, d2, d3, d4] }
  | _ => none }
def SketchJoinsWrongFalsely : Prop := sketchJoinsRow.holds Try.pinned (OpenSpec.ofChange sketchJoinsWrong)

/-- 'weirhouselaw.BucketPlays': WHATEVER THE INPUT: true; the input reads as it did. -/
def bucketPlaysSpec : ChangeSpec := { name := "bucketPlays", fn := fun _ => fun
  | [d1, d2, d3, d4] => { results := [.lit (.bool true)], args := [d1, d2, d3, d4] }
  | _ => none }
def bucketPlaysRow : OpenClaim := { program := "ytdfjeoifeladfaa", sum := "80f3a41251b1a3462969691e863584799168e6135697df7b6f62d0bccc59edd2", func := "weirhouse/weirhouselaw.BucketPlays", spec := "bucketPlays", apart := false }
def BucketPlaysSaid : Prop := bucketPlaysRow.holds Try.pinned (OpenSpec.ofChange bucketPlaysSpec)

/-- ITS FALSE NEIGHBOUR: 'it returns false'. Refute it at one input. -/
def bucketPlaysWrong : ChangeSpec := { name := "bucketPlays", fn := fun _ => fun
  | [d1, d2, d3, d4] => { results := [.lit (.bool false)], args := [d1, d2, d3, d4] }
  | _ => none }
def BucketPlaysWrongFalsely : Prop := bucketPlaysRow.holds Try.pinned (OpenSpec.ofChange bucketPlaysWrong)

/-- 'weirhouselaw.MeterPlays': WHATEVER THE INPUT: true; the input reads as it did. -/
def meterPlaysSpec : ChangeSpec := { name := "meterPlays", fn := fun _ => fun
  | [d1, d2, d3, d4] => { results := [.lit (.bool true)], args := [d1, d2, d3, d4] }
  | _ => none }
def meterPlaysRow : OpenClaim := { program := "ytdfjeoifeladfaa", sum := "80f3a41251b1a3462969691e863584799168e6135697df7b6f62d0bccc59edd2", func := "weirhouse/weirhouselaw.MeterPlays", spec := "meterPlays", unfollowed := true, recurses := true, apart := false }
def MeterPlaysSaid : Prop := meterPlaysRow.holds Try.pinned (OpenSpec.ofChange meterPlaysSpec)

/-- ITS FALSE NEIGHBOUR: 'it returns false'. Refute it at one input. -/
def meterPlaysWrong : ChangeSpec := { name := "meterPlays", fn := fun _ => fun
  | [d1, d2, d3, d4] => { results := [.lit (.bool false)], args := [d1, d2, d3, d4] }
  | _ => none }
def MeterPlaysWrongFalsely : Prop := meterPlaysRow.holds Try.pinned (OpenSpec.ofChange meterPlaysWrong)

/-- 'weirhouselaw.DrrRound': WHATEVER THE INPUT: true; the input reads as it did. -/
def drrRoundSpec : ChangeSpec := { name := "drrRound", fn := fun _ => fun
  | [d1, d2, d3] => { results := [.lit (.bool true)], args := [d1, d2, d3] }
  | _ => none }
def drrRoundRow : OpenClaim := { program := "ytdfjeoifeladfaa", sum := "80f3a41251b1a3462969691e863584799168e6135697df7b6f62d0bccc59edd2", func := "weirhouse/weirhouselaw.DrrRound", spec := "drrRound", unfollowed := true, recurses := true, apart := false }
def DrrRoundSaid : Prop := drrRoundRow.holds Try.pinned (OpenSpec.ofChange drrRoundSpec)

/-- ITS FALSE NEIGHBOUR: 'it returns false'. Refute it at one input. -/
def drrRoundWrong : ChangeSpec := { name := "drrRound", fn := fun _ => fun
  | [d1, d2, d3] => { results := [.lit (.bool false)], args := [d1, d2, d3] }
  | _ => none }
def DrrRoundWrongFalsely : Prop := drrRoundRow.holds Try.pinned (OpenSpec.ofChange drrRoundWrong)

/-- 'weirhouselaw.DrrRounds': WHATEVER THE INPUT: true; the input reads as it did. -/
def drrRoundsSpec : ChangeSpec := { name := "drrRounds", fn := fun _ => fun
  | [d1, d2, d3] => { results := [.lit (.bool true)], args := [d1, d2, d3] }
  | _ => none }
def drrRoundsRow : OpenClaim := { program := "ytdfjeoifeladfaa", sum := "80f3a41251b1a3462969691e863584799168e6135697df7b6f62d0bccc59edd2", func := "weirhouse/weirhouselaw.DrrRounds", spec := "drrRounds", unfollowed := true, recurses := true, apart := false }
def DrrRoundsSaid : Prop := drrRoundsRow.holds Try.pinned (OpenSpec.ofChange drrRoundsSpec)

/-- ITS FALSE NEIGHBOUR: 'it returns false'. Refute it at one input. -/
def drrRoundsWrong : ChangeSpec := { name := "drrRounds", fn := fun _ => fun
  | [d1, d2, d3] => { results := [.lit (.bool false)], args := [d1, d2, d3] }
  | _ => none }
def DrrRoundsWrongFalsely : Prop := drrRoundsRow.holds Try.pinned (OpenSpec.ofChange drrRoundsWrong)

/-- 'weirhouselaw.TrieFinds': WHATEVER THE INPUT: true; the input reads as it did. -/
def trieFindsSpec : ChangeSpec := { name := "trieFinds", fn := fun _ => fun
  | [d1, d2, d3] => { results := [.lit (.bool true)], args := [d1, d2, d3] }
  | _ => none }
def trieFindsRow : OpenClaim := { program := "ytdfjeoifeladfaa", sum := "80f3a41251b1a3462969691e863584799168e6135697df7b6f62d0bccc59edd2", func := "weirhouse/weirhouselaw.TrieFinds", spec := "trieFinds", apart := false }
def TrieFindsSaid : Prop := trieFindsRow.holds Try.pinned (OpenSpec.ofChange trieFindsSpec)

/-- ITS FALSE NEIGHBOUR: 'it returns false'. Refute it at one input. -/
def trieFindsWrong : ChangeSpec := { name := "trieFinds", fn := fun _ => fun
  | [d1, d2, d3] => { results := [.lit (.bool false)], args := [d1, d2, d3] }
  | _ => none }
def TrieFindsWrongFalsely : Prop := trieFindsRow.holds Try.pinned (OpenSpec.ofChange trieFindsWrong)

/-- 'weirhouselaw.HeadTells': WHATEVER THE INPUT: true; the input reads as it did. -/
def headTellsSpec : ChangeSpec := { name := "headTells", fn := fun _ => fun
  | [d1, d2] => { results := [.lit (.bool true)], args := [d1, d2] }
  | _ => none }
def headTellsRow : OpenClaim := { program := "ytdfjeoifeladfaa", sum := "80f3a41251b1a3462969691e863584799168e6135697df7b6f62d0bccc59edd2", func := "weirhouse/weirhouselaw.HeadTells", spec := "headTells", unfollowed := true, recurses := true, apart := false }
def HeadTellsSaid : Prop := headTellsRow.holds Try.pinned (OpenSpec.ofChange headTellsSpec)

/-- ITS FALSE NEIGHBOUR: 'it returns false'. Refute it at one input. -/
def headTellsWrong : ChangeSpec := { name := "headTells", fn := fun _ => fun
  | [d1, d2] => { results := [.lit (.bool false)], args := [d1, d2] }
  | _ => none }
def HeadTellsWrongFalsely : Prop := headTellsRow.holds Try.pinned (OpenSpec.ofChange headTellsWrong)

/-- 'weirhouselaw.EdfRuns': WHATEVER THE INPUT: true; the input reads as it did. -/
def edfRunsSpec : ChangeSpec := { name := "edfRuns", fn := fun _ => fun
  | [d] => { results := [.lit (.bool true)], args := [d] }
  | _ => none }
def edfRunsRow : OpenClaim := { program := "ytdfjeoifeladfaa", sum := "80f3a41251b1a3462969691e863584799168e6135697df7b6f62d0bccc59edd2", func := "weirhouse/weirhouselaw.EdfRuns", spec := "edfRuns", apart := false }
def EdfRunsSaid : Prop := edfRunsRow.holds Try.pinned (OpenSpec.ofChange edfRunsSpec)

/-- ITS FALSE NEIGHBOUR: 'it returns false'. Refute it at one input. -/
def edfRunsWrong : ChangeSpec := { name := "edfRuns", fn := fun _ => fun
  | [d] => { results := [.lit (.bool false)], args := [d] }
  | _ => none }
def EdfRunsWrongFalsely : Prop := edfRunsRow.holds Try.pinned (OpenSpec.ofChange edfRunsWrong)

/-- 'weirhouselaw.ScfqPlays': WHATEVER THE INPUT: true; the input reads as it did. -/
def scfqPlaysSpec : ChangeSpec := { name := "scfqPlays", fn := fun _ => fun
  | [d1, d2] => { results := [.lit (.bool true)], args := [d1, d2] }
  | _ => none }
def scfqPlaysRow : OpenClaim := { program := "ytdfjeoifeladfaa", sum := "80f3a41251b1a3462969691e863584799168e6135697df7b6f62d0bccc59edd2", func := "weirhouse/weirhouselaw.ScfqPlays", spec := "scfqPlays", apart := false }
def ScfqPlaysSaid : Prop := scfqPlaysRow.holds Try.pinned (OpenSpec.ofChange scfqPlaysSpec)

/-- ITS FALSE NEIGHBOUR: 'it returns false'. Refute it at one input. -/
def scfqPlaysWrong : ChangeSpec := { name := "scfqPlays", fn := fun _ => fun
  | [d1, d2] => { results := [.lit (.bool false)], args := [d1, d2] }
  | _ => none }
def ScfqPlaysWrongFalsely : Prop := scfqPlaysRow.holds Try.pinned (OpenSpec.ofChange scfqPlaysWrong)

/-- 'weirhouselaw.HeapsPlay': WHATEVER THE INPUT: true; the input reads as it did. -/
def heapsPlaySpec : ChangeSpec := { name := "heapsPlay", fn := fun _ => fun
  | [d] => { results := [.lit (.bool true)], args := [d] }
  | _ => none }
def heapsPlayRow : OpenClaim := { program := "ytdfjeoifeladfaa", sum := "80f3a41251b1a3462969691e863584799168e6135697df7b6f62d0bccc59edd2", func := "weirhouse/weirhouselaw.HeapsPlay", spec := "heapsPlay", unfollowed := true, recurses := true, apart := false }
def HeapsPlaySaid : Prop := heapsPlayRow.holds Try.pinned (OpenSpec.ofChange heapsPlaySpec)

/-- ITS FALSE NEIGHBOUR: 'it returns false'. Refute it at one input. -/
def heapsPlayWrong : ChangeSpec := { name := "heapsPlay", fn := fun _ => fun
  | [d] => { results := [.lit (.bool false)], args := [d] }
  | _ => none }
def HeapsPlayWrongFalsely : Prop := heapsPlayRow.holds Try.pinned (OpenSpec.ofChange heapsPlayWrong)

/-- 'weirhouselaw.PacePlays': WHATEVER THE INPUT: true; the input reads as it did. -/
def pacePlaysSpec : ChangeSpec := { name := "pacePlays", fn := fun _ => fun
  | [d1, d2, d3, d4] => { results := [.lit (.bool true)], args := [d1, d2, d3, d4] }
  | _ => none }
def pacePlaysRow : OpenClaim := { program := "ytdfjeoifeladfaa", sum := "80f3a41251b1a3462969691e863584799168e6135697df7b6f62d0bccc59edd2", func := "weirhouse/weirhouselaw.PacePlays", spec := "pacePlays", unfollowed := true, recurses := true, apart := false }
def PacePlaysSaid : Prop := pacePlaysRow.holds Try.pinned (OpenSpec.ofChange pacePlaysSpec)

/-- ITS FALSE NEIGHBOUR: 'it returns false'. Refute it at one input. -/
def pacePlaysWrong : ChangeSpec := { name := "pacePlays", fn := fun _ => fun
  | [d1, d2, d3, d4] => { results := [.lit (.bool false)], args := [d1, d2, d3, d4] }
  | _ => none }
def PacePlaysWrongFalsely : Prop := pacePlaysRow.holds Try.pinned (OpenSpec.ofChange pacePlaysWrong)

/- THE SECOND FORM. 'bulk': how many values and letters a reading holds, each counted each time it is reached (what is shared counts as often as it is met; a slice's spare places count too). A statement '..UptoSaid' is the law's where the arguments, and the package variables that the reading takes, are together of bulk at most 1048576: NARROWER than '..Said'. Prove '..Said' where nothing that the law and all that it calls make is longer than what came in: it says more and counts as full. Else prove '..UptoSaid'. A law counts once. -/
mutual
def uptoBulk {H : Type} : DataW H → Nat
  | .lit (.string bytes) => bytes.length + 1
  | .lit _ => 1
  | .nil => 1
  | .ptr d => uptoBulk d + 1
  | .slice elems spare => uptoBulkAll elems + uptoBulkAll spare + 1
  | .agg parts => uptoBulkAll parts + 1
  | .iface _ d => uptoBulk d + 1
  | .map entries => uptoBulkEntries entries + 1
  | .held _ => 1
def uptoBulkAll {H : Type} : List (DataW H) → Nat
  | [] => 0
  | d :: r => uptoBulk d + uptoBulkAll r
def uptoBulkEntries {H : Type} : List (Lit × DataW H) → Nat
  | [] => 0
  | x :: r => uptoBulkEntry x + uptoBulkEntries r
def uptoBulkEntry {H : Type} : Lit × DataW H → Nat
  | (.string bytes, d) => bytes.length + uptoBulk d + 1
  | (_, d) => uptoBulk d + 1
 end
def uptoSmall : (H : Type) → List (DataW H) → Bool := fun _ ds => decide (uptoBulkAll ds ≤ 1048576)
def OpenSpec.upto (s : _root_.Go.ChangeSpec) : _root_.Go.OpenSpec := { _root_.Go.OpenSpec.ofChange s with cond := some uptoSmall }

/-- 'weirhouselaw.MeterColours', WHERE WHAT IT READS IS OF BULK AT MOST 1048576: true; the input reads as it did. -/
def meterColoursUptoRow : OpenClaim := { program := "ytdfjeoifeladfaa", sum := "80f3a41251b1a3462969691e863584799168e6135697df7b6f62d0bccc59edd2", func := "weirhouse/weirhouselaw.MeterColours", spec := "meterColours", unfollowed := true, recurses := true, apart := false, narrowed := true }
def MeterColoursUptoSaid : Prop := meterColoursUptoRow.holds Try.pinned (OpenSpec.upto meterColoursSpec)

/-- 'weirhouselaw.SketchJoins', WHERE WHAT IT READS IS OF BULK AT MOST 1048576: true; the input reads as it did. -/
def sketchJoinsUptoRow : OpenClaim := { program := "ytdfjeoifeladfaa", sum := "80f3a41251b1a3462969691e863584799168e6135697df7b6f62d0bccc59edd2", func := "weirhouse/weirhouselaw.SketchJoins", spec := "sketchJoins", unfollowed := true, recurses := true, apart := false, narrowed := true }
def SketchJoinsUptoSaid : Prop := sketchJoinsUptoRow.holds Try.pinned (OpenSpec.upto sketchJoinsSpec)

/-- 'weirhouselaw.BucketPlays', WHERE WHAT IT READS IS OF BULK AT MOST 1048576: true; the input reads as it did. -/
def bucketPlaysUptoRow : OpenClaim := { program := "ytdfjeoifeladfaa", sum := "80f3a41251b1a3462969691e863584799168e6135697df7b6f62d0bccc59edd2", func := "weirhouse/weirhouselaw.BucketPlays", spec := "bucketPlays", apart := false, narrowed := true }
def BucketPlaysUptoSaid : Prop := bucketPlaysUptoRow.holds Try.pinned (OpenSpec.upto bucketPlaysSpec)

/-- 'weirhouselaw.MeterPlays', WHERE WHAT IT READS IS OF BULK AT MOST 1048576: true; the input reads as it did. -/
def meterPlaysUptoRow : OpenClaim := { program := "ytdfjeoifeladfaa", sum := "80f3a41251b1a3462969691e863584799168e6135697df7b6f62d0bccc59edd2", func := "weirhouse/weirhouselaw.MeterPlays", spec := "meterPlays", unfollowed := true, recurses := true, apart := false, narrowed := true }
def MeterPlaysUptoSaid : Prop := meterPlaysUptoRow.holds Try.pinned (OpenSpec.upto meterPlaysSpec)

/-- 'weirhouselaw.DrrRound', WHERE WHAT IT READS IS OF BULK AT MOST 1048576: true; the input reads as it did. -/
def drrRoundUptoRow : OpenClaim := { program := "ytdfjeoifeladfaa", sum := "80f3a41251b1a3462969691e863584799168e6135697df7b6f62d0bccc59edd2", func := "weirhouse/weirhouselaw.DrrRound", spec := "drrRound", unfollowed := true, recurses := true, apart := false, narrowed := true }
def DrrRoundUptoSaid : Prop := drrRoundUptoRow.holds Try.pinned (OpenSpec.upto drrRoundSpec)

/-- 'weirhouselaw.DrrRounds', WHERE WHAT IT READS IS OF BULK AT MOST 1048576: true; the input reads as it did. -/
def drrRoundsUptoRow : OpenClaim := { program := "ytdfjeoifeladfaa", sum := "80f3a41251b1a3462969691e863584799168e6135697df7b6f62d0bccc59edd2", func := "weirhouse/weirhouselaw.DrrRounds", spec := "drrRounds", unfollowed := true, recurses := true, apart := false, narrowed := true }
def DrrRoundsUptoSaid : Prop := drrRoundsUptoRow.holds Try.pinned (OpenSpec.upto drrRoundsSpec)

/-- 'weirhouselaw.TrieFinds', WHERE WHAT IT READS IS OF BULK AT MOST 1048576: true; the input reads as it did. -/
def trieFindsUptoRow : OpenClaim := { program := "ytdfjeoifeladfaa", sum := "80f3a41251b1a3462969691e863584799168e6135697df7b6f62d0bccc59edd2", func := "weirhouse/weirhouselaw.TrieFinds", spec := "trieFinds", apart := false, narrowed := true }
def TrieFindsUptoSaid : Prop := trieFindsUptoRow.holds Try.pinned (OpenSpec.upto trieFindsSpec)

/-- 'weirhouselaw.HeadTells', WHERE WHAT IT READS IS OF BULK AT MOST 1048576: true; the input reads as it did. -/
def headTellsUptoRow : OpenClaim := { program := "ytdfjeoifeladfaa", sum := "80f3a41251b1a3462969691e863584799168e6135697df7b6f62d0bccc59edd2", func := "weirhouse/weirhouselaw.HeadTells", spec := "headTells", unfollowed := true, recurses := true, apart := false, narrowed := true }
def HeadTellsUptoSaid : Prop := headTellsUptoRow.holds Try.pinned (OpenSpec.upto headTellsSpec)

/-- 'weirhouselaw.EdfRuns', WHERE WHAT IT READS IS OF BULK AT MOST 1048576: true; the input reads as it did. -/
def edfRunsUptoRow : OpenClaim := { program := "ytdfjeoifeladfaa", sum := "80f3a41251b1a3462969691e863584799168e6135697df7b6f62d0bccc59edd2", func := "weirhouse/weirhouselaw.EdfRuns", spec := "edfRuns", apart := false, narrowed := true }
def EdfRunsUptoSaid : Prop := edfRunsUptoRow.holds Try.pinned (OpenSpec.upto edfRunsSpec)

/-- 'weirhouselaw.ScfqPlays', WHERE WHAT IT READS IS OF BULK AT MOST 1048576: true; the input reads as it did. -/
def scfqPlaysUptoRow : OpenClaim := { program := "ytdfjeoifeladfaa", sum := "80f3a41251b1a3462969691e863584799168e6135697df7b6f62d0bccc59edd2", func := "weirhouse/weirhouselaw.ScfqPlays", spec := "scfqPlays", apart := false, narrowed := true }
def ScfqPlaysUptoSaid : Prop := scfqPlaysUptoRow.holds Try.pinned (OpenSpec.upto scfqPlaysSpec)

/-- 'weirhouselaw.HeapsPlay', WHERE WHAT IT READS IS OF BULK AT MOST 1048576: true; the input reads as it did. -/
def heapsPlayUptoRow : OpenClaim := { program := "ytdfjeoifeladfaa", sum := "80f3a41251b1a3462969691e863584799168e6135697df7b6f62d0bccc59edd2", func := "weirhouse/weirhouselaw.HeapsPlay", spec := "heapsPlay", unfollowed := true, recurses := true, apart := false, narrowed := true }
def HeapsPlayUptoSaid : Prop := heapsPlayUptoRow.holds Try.pinned (OpenSpec.upto heapsPlaySpec)

/-- 'weirhouselaw.PacePlays', WHERE WHAT IT READS IS OF BULK AT MOST 1048576: true; the input reads as it did. -/
def pacePlaysUptoRow : OpenClaim := { program := "ytdfjeoifeladfaa", sum := "80f3a41251b1a3462969691e863584799168e6135697df7b6f62d0bccc59edd2", func := "weirhouse/weirhouselaw.PacePlays", spec := "pacePlays", unfollowed := true, recurses := true, apart := false, narrowed := true }
def PacePlaysUptoSaid : Prop := pacePlaysUptoRow.holds Try.pinned (OpenSpec.upto pacePlaysSpec)

end Rows
end Go.Proofs.Ytdfjeoifeladfaa
