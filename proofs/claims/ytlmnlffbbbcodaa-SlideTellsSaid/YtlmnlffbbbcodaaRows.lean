/-
  No cell of these rows narrows 'for every input' (looked for: loops, veiled, ifaces, maps, wideKeys, modest, calm, conditions, laid).
  DERIVED. THE GIVEN ROWS OF THIS SEAT. 12 by the template 'for every input the law returns true; each argument reads behind the call as it read before'; 0 by the template 'total and deterministic' (their statements: YtlmnlffbbbcodaaTotals.lean).
  GIVEN WITH THE SEED: the statements are not yours to turn. If you find one false, say at which input.
  Laid BY PROGRAM, IN A SANDBOX (cutbox-rows.mjs): the forced cells as the released guide's own fill.sh prints them over the translation 790d80e8408b16fa… (all of the seat's roots in one cut). By AI agents, Wed Nov 11 2026. No macro, syntax, notation, axiom, sorry.
-/
import Derived.Test.YtlmnlffbbbcodaaChecked
import GoSem.Claim
import GoSem.ClaimJoined
import GoSem.ClaimMapViews
import Derived.JoinedTies
import Derived.KernelRfl
namespace Go.Proofs.Ytlmnlffbbbcodaa
/- THE CELL 'sum', in the pinned program and in every row, IS THE sha256 OF THE DUMP (.gsa) THAT YtlmnlffbbbcodaaProg.lean LOADS. Nothing in Lean hashes anything: it is a label: what it is worth is what the hold of that sum in a sandbox is worth. -/
noncomputable def Try.pinned : Pinned := { name := "ytlmnlffbbbcodaa", sum := "790d80e8408b16fa9002181e73765ac8ecb38cd2a83acb77360d4b2f47fbe56f", checked := Try.checked }
namespace Rows
def none {H : Type} : Left H := { results := [], args := [] }

/-- 'weirhouselaw.LindleyWaits': WHATEVER THE INPUT: true; the input reads as it did. -/
def lindleyWaitsSpec : ChangeSpec := { name := "lindleyWaits", fn := fun _ => fun
  | [d1, d2] => { results := [.lit (.bool true)], args := [d1, d2] }
  | _ => none }
def lindleyWaitsRow : OpenClaim := { program := "ytlmnlffbbbcodaa", sum := "790d80e8408b16fa9002181e73765ac8ecb38cd2a83acb77360d4b2f47fbe56f", func := "weirhouse/weirhouselaw.LindleyWaits", spec := "lindleyWaits", apart := false }
def LindleyWaitsSaid : Prop := lindleyWaitsRow.holds Try.pinned (OpenSpec.ofChange lindleyWaitsSpec)

/-- ITS FALSE NEIGHBOUR: 'it returns false'. Refute it at one input. -/
def lindleyWaitsWrong : ChangeSpec := { name := "lindleyWaits", fn := fun _ => fun
  | [d1, d2] => { results := [.lit (.bool false)], args := [d1, d2] }
  | _ => none }
def LindleyWaitsWrongFalsely : Prop := lindleyWaitsRow.holds Try.pinned (OpenSpec.ofChange lindleyWaitsWrong)

/-- 'weirhouselaw.RulesPrune': WHATEVER THE INPUT: true; the input reads as it did. -/
def rulesPruneSpec : ChangeSpec := { name := "rulesPrune", fn := fun _ => fun
  | [d] => { results := [.lit (.bool true)], args := [d] }
  | _ => none }
def rulesPruneRow : OpenClaim := { program := "ytlmnlffbbbcodaa", sum := "790d80e8408b16fa9002181e73765ac8ecb38cd2a83acb77360d4b2f47fbe56f", func := "weirhouse/weirhouselaw.RulesPrune", spec := "rulesPrune", unfollowed := true, recurses := true, apart := false }
def RulesPruneSaid : Prop := rulesPruneRow.holds Try.pinned (OpenSpec.ofChange rulesPruneSpec)

/-- ITS FALSE NEIGHBOUR: 'it returns false'. Refute it at one input. -/
def rulesPruneWrong : ChangeSpec := { name := "rulesPrune", fn := fun _ => fun
  | [d] => { results := [.lit (.bool false)], args := [d] }
  | _ => none }
def RulesPruneWrongFalsely : Prop := rulesPruneRow.holds Try.pinned (OpenSpec.ofChange rulesPruneWrong)

/-- 'weirhouselaw.CurveServes': WHATEVER THE INPUT: true; the input reads as it did. -/
def curveServesSpec : ChangeSpec := { name := "curveServes", fn := fun _ => fun
  | [d1, d2, d3] => { results := [.lit (.bool true)], args := [d1, d2, d3] }
  | _ => none }
def curveServesRow : OpenClaim := { program := "ytlmnlffbbbcodaa", sum := "790d80e8408b16fa9002181e73765ac8ecb38cd2a83acb77360d4b2f47fbe56f", func := "weirhouse/weirhouselaw.CurveServes", spec := "curveServes", apart := false }
def CurveServesSaid : Prop := curveServesRow.holds Try.pinned (OpenSpec.ofChange curveServesSpec)

/-- ITS FALSE NEIGHBOUR: 'it returns false'. Refute it at one input. -/
def curveServesWrong : ChangeSpec := { name := "curveServes", fn := fun _ => fun
  | [d1, d2, d3] => { results := [.lit (.bool false)], args := [d1, d2, d3] }
  | _ => none }
def CurveServesWrongFalsely : Prop := curveServesRow.holds Try.pinned (OpenSpec.ofChange curveServesWrong)

/-- 'weirhouselaw.TrieFinds': WHATEVER THE INPUT: true; the input reads as it did. -/
def trieFindsSpec : ChangeSpec := { name := "trieFinds", fn := fun _ => fun
  | [d1, d2, d3] => { results := [.lit (.bool true)], args := [d1, d2, d3] }
  | _ => none }
def trieFindsRow : OpenClaim := { program := "ytlmnlffbbbcodaa", sum := "790d80e8408b16fa9002181e73765ac8ecb38cd2a83acb77360d4b2f47fbe56f", func := "weirhouse/weirhouselaw.TrieFinds", spec := "trieFinds", apart := false }
def TrieFindsSaid : Prop := trieFindsRow.holds Try.pinned (OpenSpec.ofChange trieFindsSpec)

/-- ITS FALSE NEIGHBOUR: 'it returns false'. Refute it at one input. -/
def trieFindsWrong : ChangeSpec := { name := "trieFinds", fn := fun _ => fun
  | [d1, d2, d3] => { results := [.lit (.bool false)], args := [d1, d2, d3] }
  | _ => none }
def TrieFindsWrongFalsely : Prop := trieFindsRow.holds Try.pinned (OpenSpec.ofChange trieFindsWrong)

/-- 'weirhouselaw.ScfqPlays': WHATEVER THE INPUT: true; the input reads as it did. -/
def scfqPlaysSpec : ChangeSpec := { name := "scfqPlays", fn := fun _ => fun
  | [d1, d2] => { results := [.lit (.bool true)], args := [d1, d2] }
  | _ => none }
def scfqPlaysRow : OpenClaim := { program := "ytlmnlffbbbcodaa", sum := "790d80e8408b16fa9002181e73765ac8ecb38cd2a83acb77360d4b2f47fbe56f", func := "weirhouse/weirhouselaw.ScfqPlays", spec := "scfqPlays", apart := false }
def ScfqPlaysSaid : Prop := scfqPlaysRow.holds Try.pinned (OpenSpec.ofChange scfqPlaysSpec)

/-- ITS FALSE NEIGHBOUR: 'it returns false'. Refute it at one input. -/
def scfqPlaysWrong : ChangeSpec := { name := "scfqPlays", fn := fun _ => fun
  | [d1, d2] => { results := [.lit (.bool false)], args := [d1, d2] }
  | _ => none }
def ScfqPlaysWrongFalsely : Prop := scfqPlaysRow.holds Try.pinned (OpenSpec.ofChange scfqPlaysWrong)

/-- 'weirhouselaw.SlideTells': WHATEVER THE INPUT: true; the input reads as it did. -/
def slideTellsSpec : ChangeSpec := { name := "slideTells", fn := fun _ => fun
  | [d1, d2, d3, d4] => { results := [.lit (.bool true)], args := [d1, d2, d3, d4] }
  | _ => none }
def slideTellsRow : OpenClaim := { program := "ytlmnlffbbbcodaa", sum := "790d80e8408b16fa9002181e73765ac8ecb38cd2a83acb77360d4b2f47fbe56f", func := "weirhouse/weirhouselaw.SlideTells", spec := "slideTells", apart := false }
def SlideTellsSaid : Prop := slideTellsRow.holds Try.pinned (OpenSpec.ofChange slideTellsSpec)

/-- ITS FALSE NEIGHBOUR: 'it returns false'. Refute it at one input. -/
def slideTellsWrong : ChangeSpec := { name := "slideTells", fn := fun _ => fun
  | [d1, d2, d3, d4] => { results := [.lit (.bool false)], args := [d1, d2, d3, d4] }
  | _ => none }
def SlideTellsWrongFalsely : Prop := slideTellsRow.holds Try.pinned (OpenSpec.ofChange slideTellsWrong)

/-- 'weirhouselaw.DrrRound': WHATEVER THE INPUT: true; the input reads as it did. -/
def drrRoundSpec : ChangeSpec := { name := "drrRound", fn := fun _ => fun
  | [d1, d2, d3] => { results := [.lit (.bool true)], args := [d1, d2, d3] }
  | _ => none }
def drrRoundRow : OpenClaim := { program := "ytlmnlffbbbcodaa", sum := "790d80e8408b16fa9002181e73765ac8ecb38cd2a83acb77360d4b2f47fbe56f", func := "weirhouse/weirhouselaw.DrrRound", spec := "drrRound", unfollowed := true, recurses := true, apart := false }
def DrrRoundSaid : Prop := drrRoundRow.holds Try.pinned (OpenSpec.ofChange drrRoundSpec)

/-- ITS FALSE NEIGHBOUR: 'it returns false'. Refute it at one input. -/
def drrRoundWrong : ChangeSpec := { name := "drrRound", fn := fun _ => fun
  | [d1, d2, d3] => { results := [.lit (.bool false)], args := [d1, d2, d3] }
  | _ => none }
def DrrRoundWrongFalsely : Prop := drrRoundRow.holds Try.pinned (OpenSpec.ofChange drrRoundWrong)

/-- 'weirhouselaw.RingPlays': WHATEVER THE INPUT: true; the input reads as it did. -/
def ringPlaysSpec : ChangeSpec := { name := "ringPlays", fn := fun _ => fun
  | [d1, d2, d3] => { results := [.lit (.bool true)], args := [d1, d2, d3] }
  | _ => none }
def ringPlaysRow : OpenClaim := { program := "ytlmnlffbbbcodaa", sum := "790d80e8408b16fa9002181e73765ac8ecb38cd2a83acb77360d4b2f47fbe56f", func := "weirhouse/weirhouselaw.RingPlays", spec := "ringPlays", unfollowed := true, recurses := true, apart := false }
def RingPlaysSaid : Prop := ringPlaysRow.holds Try.pinned (OpenSpec.ofChange ringPlaysSpec)

/-- ITS FALSE NEIGHBOUR: 'it returns false'. Refute it at one input. -/
def ringPlaysWrong : ChangeSpec := { name := "ringPlays", fn := fun _ => fun
  | [d1, d2, d3] => { results := [.lit (.bool false)], args := [d1, d2, d3] }
  | _ => none }
def RingPlaysWrongFalsely : Prop := ringPlaysRow.holds Try.pinned (OpenSpec.ofChange ringPlaysWrong)

/-- 'weirhouselaw.DrrRounds': WHATEVER THE INPUT: true; the input reads as it did. -/
def drrRoundsSpec : ChangeSpec := { name := "drrRounds", fn := fun _ => fun
  | [d1, d2, d3] => { results := [.lit (.bool true)], args := [d1, d2, d3] }
  | _ => none }
def drrRoundsRow : OpenClaim := { program := "ytlmnlffbbbcodaa", sum := "790d80e8408b16fa9002181e73765ac8ecb38cd2a83acb77360d4b2f47fbe56f", func := "weirhouse/weirhouselaw.DrrRounds", spec := "drrRounds", unfollowed := true, recurses := true, apart := false }
def DrrRoundsSaid : Prop := drrRoundsRow.holds Try.pinned (OpenSpec.ofChange drrRoundsSpec)

/-- ITS FALSE NEIGHBOUR: 'it returns false'. Refute it at one input. -/
def drrRoundsWrong : ChangeSpec := { name := "drrRounds", fn := fun _ => fun
  | [d1, d2, d3] => { results := [.lit (.bool false)], args := [d1, d2, d3] }
  | _ => none }
def DrrRoundsWrongFalsely : Prop := drrRoundsRow.holds Try.pinned (OpenSpec.ofChange drrRoundsWrong)

/-- 'weirhouselaw.EdfRuns': WHATEVER THE INPUT: true; the input reads as it did. -/
def edfRunsSpec : ChangeSpec := { name := "edfRuns", fn := fun _ => fun
  | [d] => { results := [.lit (.bool true)], args := [d] }
  | _ => none }
def edfRunsRow : OpenClaim := { program := "ytlmnlffbbbcodaa", sum := "790d80e8408b16fa9002181e73765ac8ecb38cd2a83acb77360d4b2f47fbe56f", func := "weirhouse/weirhouselaw.EdfRuns", spec := "edfRuns", apart := false }
def EdfRunsSaid : Prop := edfRunsRow.holds Try.pinned (OpenSpec.ofChange edfRunsSpec)

/-- ITS FALSE NEIGHBOUR: 'it returns false'. Refute it at one input. -/
def edfRunsWrong : ChangeSpec := { name := "edfRuns", fn := fun _ => fun
  | [d] => { results := [.lit (.bool false)], args := [d] }
  | _ => none }
def EdfRunsWrongFalsely : Prop := edfRunsRow.holds Try.pinned (OpenSpec.ofChange edfRunsWrong)

/-- 'weirhouselaw.HeadTells': WHATEVER THE INPUT: true; the input reads as it did. -/
def headTellsSpec : ChangeSpec := { name := "headTells", fn := fun _ => fun
  | [d1, d2] => { results := [.lit (.bool true)], args := [d1, d2] }
  | _ => none }
def headTellsRow : OpenClaim := { program := "ytlmnlffbbbcodaa", sum := "790d80e8408b16fa9002181e73765ac8ecb38cd2a83acb77360d4b2f47fbe56f", func := "weirhouse/weirhouselaw.HeadTells", spec := "headTells", unfollowed := true, recurses := true, apart := false }
def HeadTellsSaid : Prop := headTellsRow.holds Try.pinned (OpenSpec.ofChange headTellsSpec)

/-- ITS FALSE NEIGHBOUR: 'it returns false'. Refute it at one input. -/
def headTellsWrong : ChangeSpec := { name := "headTells", fn := fun _ => fun
  | [d1, d2] => { results := [.lit (.bool false)], args := [d1, d2] }
  | _ => none }
def HeadTellsWrongFalsely : Prop := headTellsRow.holds Try.pinned (OpenSpec.ofChange headTellsWrong)

/-- 'weirhouselaw.HeapsPlay': WHATEVER THE INPUT: true; the input reads as it did. -/
def heapsPlaySpec : ChangeSpec := { name := "heapsPlay", fn := fun _ => fun
  | [d] => { results := [.lit (.bool true)], args := [d] }
  | _ => none }
def heapsPlayRow : OpenClaim := { program := "ytlmnlffbbbcodaa", sum := "790d80e8408b16fa9002181e73765ac8ecb38cd2a83acb77360d4b2f47fbe56f", func := "weirhouse/weirhouselaw.HeapsPlay", spec := "heapsPlay", unfollowed := true, recurses := true, apart := false }
def HeapsPlaySaid : Prop := heapsPlayRow.holds Try.pinned (OpenSpec.ofChange heapsPlaySpec)

/-- ITS FALSE NEIGHBOUR: 'it returns false'. Refute it at one input. -/
def heapsPlayWrong : ChangeSpec := { name := "heapsPlay", fn := fun _ => fun
  | [d] => { results := [.lit (.bool false)], args := [d] }
  | _ => none }
def HeapsPlayWrongFalsely : Prop := heapsPlayRow.holds Try.pinned (OpenSpec.ofChange heapsPlayWrong)

/- THE SECOND FORM. 'bulk': how many values and letters a reading holds, each counted each time it is reached (what is shared counts as often as it is met; a slice's spare places count too). A statement '..UptoSaid' is the law's where the arguments, and the package variables that the reading takes, are together of bulk at most 1048576: NARROWER than '..Said'. Prove '..Said' where nothing that the law and all that it calls make is longer than what came in: it says more and counts as full. Else prove '..UptoSaid'. A law counts once. -/
mutual
def uptoBulk {H : Type} : DataW H → Nat
  | .lit (.string bytes) => bytes.length + 1
  | .lit _ => 1
  | .nil => 1
  | .ptr d => uptoBulk d + 1
  | .slice elems spare => uptoBulkAll elems + uptoBulkAll spare + 1
  | .agg parts => uptoBulkAll parts + 1
  | .iface _ d => uptoBulk d + 1
  | .map entries => uptoBulkEntries entries + 1
  | .held _ => 1
def uptoBulkAll {H : Type} : List (DataW H) → Nat
  | [] => 0
  | d :: r => uptoBulk d + uptoBulkAll r
def uptoBulkEntries {H : Type} : List (Lit × DataW H) → Nat
  | [] => 0
  | x :: r => uptoBulkEntry x + uptoBulkEntries r
def uptoBulkEntry {H : Type} : Lit × DataW H → Nat
  | (.string bytes, d) => bytes.length + uptoBulk d + 1
  | (_, d) => uptoBulk d + 1
 end
def uptoSmall : (H : Type) → List (DataW H) → Bool := fun _ ds => decide (uptoBulkAll ds ≤ 1048576)
def OpenSpec.upto (s : _root_.Go.ChangeSpec) : _root_.Go.OpenSpec := { _root_.Go.OpenSpec.ofChange s with cond := some uptoSmall }

/-- 'weirhouselaw.LindleyWaits', WHERE WHAT IT READS IS OF BULK AT MOST 1048576: true; the input reads as it did. -/
def lindleyWaitsUptoRow : OpenClaim := { program := "ytlmnlffbbbcodaa", sum := "790d80e8408b16fa9002181e73765ac8ecb38cd2a83acb77360d4b2f47fbe56f", func := "weirhouse/weirhouselaw.LindleyWaits", spec := "lindleyWaits", apart := false, narrowed := true }
def LindleyWaitsUptoSaid : Prop := lindleyWaitsUptoRow.holds Try.pinned (OpenSpec.upto lindleyWaitsSpec)

/-- 'weirhouselaw.RulesPrune', WHERE WHAT IT READS IS OF BULK AT MOST 1048576: true; the input reads as it did. -/
def rulesPruneUptoRow : OpenClaim := { program := "ytlmnlffbbbcodaa", sum := "790d80e8408b16fa9002181e73765ac8ecb38cd2a83acb77360d4b2f47fbe56f", func := "weirhouse/weirhouselaw.RulesPrune", spec := "rulesPrune", unfollowed := true, recurses := true, apart := false, narrowed := true }
def RulesPruneUptoSaid : Prop := rulesPruneUptoRow.holds Try.pinned (OpenSpec.upto rulesPruneSpec)

/-- 'weirhouselaw.CurveServes', WHERE WHAT IT READS IS OF BULK AT MOST 1048576: true; the input reads as it did. -/
def curveServesUptoRow : OpenClaim := { program := "ytlmnlffbbbcodaa", sum := "790d80e8408b16fa9002181e73765ac8ecb38cd2a83acb77360d4b2f47fbe56f", func := "weirhouse/weirhouselaw.CurveServes", spec := "curveServes", apart := false, narrowed := true }
def CurveServesUptoSaid : Prop := curveServesUptoRow.holds Try.pinned (OpenSpec.upto curveServesSpec)

/-- 'weirhouselaw.TrieFinds', WHERE WHAT IT READS IS OF BULK AT MOST 1048576: true; the input reads as it did. -/
def trieFindsUptoRow : OpenClaim := { program := "ytlmnlffbbbcodaa", sum := "790d80e8408b16fa9002181e73765ac8ecb38cd2a83acb77360d4b2f47fbe56f", func := "weirhouse/weirhouselaw.TrieFinds", spec := "trieFinds", apart := false, narrowed := true }
def TrieFindsUptoSaid : Prop := trieFindsUptoRow.holds Try.pinned (OpenSpec.upto trieFindsSpec)

/-- 'weirhouselaw.ScfqPlays', WHERE WHAT IT READS IS OF BULK AT MOST 1048576: true; the input reads as it did. -/
def scfqPlaysUptoRow : OpenClaim := { program := "ytlmnlffbbbcodaa", sum := "790d80e8408b16fa9002181e73765ac8ecb38cd2a83acb77360d4b2f47fbe56f", func := "weirhouse/weirhouselaw.ScfqPlays", spec := "scfqPlays", apart := false, narrowed := true }
def ScfqPlaysUptoSaid : Prop := scfqPlaysUptoRow.holds Try.pinned (OpenSpec.upto scfqPlaysSpec)

/-- 'weirhouselaw.SlideTells', WHERE WHAT IT READS IS OF BULK AT MOST 1048576: true; the input reads as it did. -/
def slideTellsUptoRow : OpenClaim := { program := "ytlmnlffbbbcodaa", sum := "790d80e8408b16fa9002181e73765ac8ecb38cd2a83acb77360d4b2f47fbe56f", func := "weirhouse/weirhouselaw.SlideTells", spec := "slideTells", apart := false, narrowed := true }
def SlideTellsUptoSaid : Prop := slideTellsUptoRow.holds Try.pinned (OpenSpec.upto slideTellsSpec)

/-- 'weirhouselaw.DrrRound', WHERE WHAT IT READS IS OF BULK AT MOST 1048576: true; the input reads as it did. -/
def drrRoundUptoRow : OpenClaim := { program := "ytlmnlffbbbcodaa", sum := "790d80e8408b16fa9002181e73765ac8ecb38cd2a83acb77360d4b2f47fbe56f", func := "weirhouse/weirhouselaw.DrrRound", spec := "drrRound", unfollowed := true, recurses := true, apart := false, narrowed := true }
def DrrRoundUptoSaid : Prop := drrRoundUptoRow.holds Try.pinned (OpenSpec.upto drrRoundSpec)

/-- 'weirhouselaw.RingPlays', WHERE WHAT IT READS IS OF BULK AT MOST 1048576: true; the input reads as it did. -/
def ringPlaysUptoRow : OpenClaim := { program := "ytlmnlffbbbcodaa", sum := "790d80e8408b16fa9002181e73765ac8ecb38cd2a83acb77360d4b2f47fbe56f", func := "weirhouse/weirhouselaw.RingPlays", spec := "ringPlays", unfollowed := true, recurses := true, apart := false, narrowed := true }
def RingPlaysUptoSaid : Prop := ringPlaysUptoRow.holds Try.pinned (OpenSpec.upto ringPlaysSpec)

/-- 'weirhouselaw.DrrRounds', WHERE WHAT IT READS IS OF BULK AT MOST 1048576: true; the input reads as it did. -/
def drrRoundsUptoRow : OpenClaim := { program := "ytlmnlffbbbcodaa", sum := "790d80e8408b16fa9002181e73765ac8ecb38cd2a83acb77360d4b2f47fbe56f", func := "weirhouse/weirhouselaw.DrrRounds", spec := "drrRounds", unfollowed := true, recurses := true, apart := false, narrowed := true }
def DrrRoundsUptoSaid : Prop := drrRoundsUptoRow.holds Try.pinned (OpenSpec.upto drrRoundsSpec)

/-- 'weirhouselaw.EdfRuns', WHERE WHAT IT READS IS OF BULK AT MOST 1048576: true; the input reads as it did. -/
def edfRunsUptoRow : OpenClaim := { program := "ytlmnlffbbbcodaa", sum := "790d80e8408b16fa9002181e73765ac8ecb38cd2a83acb77360d4b2f47fbe56f", func := "weirhouse/weirhouselaw.EdfRuns", spec := "edfRuns", apart := false, narrowed := true }
def EdfRunsUptoSaid : Prop := edfRunsUptoRow.holds Try.pinned (OpenSpec.upto edfRunsSpec)

/-- 'weirhouselaw.HeadTells', WHERE WHAT IT READS IS OF BULK AT MOST 1048576: true; the input reads as it did. -/
def headTellsUptoRow : OpenClaim := { program := "ytlmnlffbbbcodaa", sum := "790d80e8408b16fa9002181e73765ac8ecb38cd2a83acb77360d4b2f47fbe56f", func := "weirhouse/weirhouselaw.HeadTells", spec := "headTells", unfollowed := true, recurses := true, apart := false, narrowed := true }
def HeadTellsUptoSaid : Prop := headTellsUptoRow.holds Try.pinned (OpenSpec.upto headTellsSpec)

/-- 'weirhouselaw.HeapsPlay', WHERE WHAT IT READS IS OF BULK AT MOST 1048576: true; the input reads as it did. -/
def heapsPlayUptoRow : OpenClaim := { program := "ytlmnlffbbbcodaa", sum := "790d80e8408b16fa9002181e73765ac8ecb38cd2a83acb77360d4b2f47fbe56f", func := "weirhouse/weirhouselaw.HeapsPlay", spec := "heapsPlay", unfollowed := true, recurses := true, apart := false, narrowed := true }
def HeapsPlayUptoSaid : Prop := heapsPlayUptoRow.holds Try.pinned (OpenSpec.upto heapsPlaySpec)

end Rows
end Go.Proofs.Ytlmnlffbbbcodaa
