/-
  No cell of these rows narrows 'for every input' (looked for: loops, veiled, ifaces, maps, wideKeys, modest, calm, conditions, laid).
  DERIVED. THE GIVEN ROWS OF THIS SEAT. 7 by the template 'for every input the law returns true; each argument reads behind the call as it read before'; 0 by the template 'total and deterministic' (their statements: YtpknjfeiiaopgaaTotals.lean).
  GIVEN WITH THE SEED: the statements are not yours to turn. If you find one false, say at which input.
  Laid BY PROGRAM, IN A SANDBOX (cutbox-rows.mjs): the forced cells as the released guide's own fill.sh prints them over the translation a2aeb3daab901169… (all of the seat's roots in one cut). By AI agents, Wed Nov 11 2026. No macro, syntax, notation, axiom, sorry.
-/
import Derived.Test.YtpknjfeiiaopgaaChecked
import GoSem.Claim
import GoSem.ClaimJoined
import GoSem.ClaimMapViews
import Derived.JoinedTies
import Derived.KernelRfl
namespace Go.Proofs.Ytpknjfeiiaopgaa
/- THE CELL 'sum', in the pinned program and in every row, IS THE sha256 OF THE DUMP (.gsa) THAT YtpknjfeiiaopgaaProg.lean LOADS. Nothing in Lean hashes anything: it is a label: what it is worth is what the hold of that sum in a sandbox is worth. -/
noncomputable def Try.pinned : Pinned := { name := "ytpknjfeiiaopgaa", sum := "a2aeb3daab901169a7eaffb72948e51b467717e23d1c207612c87e696a9968e4", checked := Try.checked }
namespace Rows
def none {H : Type} : Left H := { results := [], args := [] }

/-- 'weirhouselaw.TrieFinds': WHATEVER THE INPUT: true; the input reads as it did. -/
def trieFindsSpec : ChangeSpec := { name := "trieFinds", fn := fun _ => fun
  | [d1, d2, d3] => { results := [.lit (.bool true)], args := [d1, d2, d3] }
  | _ => none }
def trieFindsRow : OpenClaim := { program := "ytpknjfeiiaopgaa", sum := "a2aeb3daab901169a7eaffb72948e51b467717e23d1c207612c87e696a9968e4", func := "weirhouse/weirhouselaw.TrieFinds", spec := "trieFinds", apart := false }
def TrieFindsSaid : Prop := trieFindsRow.holds Try.pinned (OpenSpec.ofChange trieFindsSpec)

/-- ITS FALSE NEIGHBOUR: 'it returns false'. Refute it at one input. -/
def trieFindsWrong : ChangeSpec := { name := "trieFinds", fn := fun _ => fun
  | [d1, d2, d3] => { results := [.lit (.bool false)], args := [d1, d2, d3] }
  | _ => none }
def TrieFindsWrongFalsely : Prop := trieFindsRow.holds Try.pinned (OpenSpec.ofChange trieFindsWrong)

/-- 'weirhouselaw.HeadTells': WHATEVER THE INPUT: true; the input reads as it did. -/
def headTellsSpec : ChangeSpec := { name := "headTells", fn := fun _ => fun
  | [d1, d2] => { results := [.lit (.bool true)], args := [d1, d2] }
  | _ => none }
def headTellsRow : OpenClaim := { program := "ytpknjfeiiaopgaa", sum := "a2aeb3daab901169a7eaffb72948e51b467717e23d1c207612c87e696a9968e4", func := "weirhouse/weirhouselaw.HeadTells", spec := "headTells", unfollowed := true, recurses := true, apart := false }
def HeadTellsSaid : Prop := headTellsRow.holds Try.pinned (OpenSpec.ofChange headTellsSpec)

/-- ITS FALSE NEIGHBOUR: 'it returns false'. Refute it at one input. -/
def headTellsWrong : ChangeSpec := { name := "headTells", fn := fun _ => fun
  | [d1, d2] => { results := [.lit (.bool false)], args := [d1, d2] }
  | _ => none }
def HeadTellsWrongFalsely : Prop := headTellsRow.holds Try.pinned (OpenSpec.ofChange headTellsWrong)

/-- 'weirhouselaw.HeapsPlay': WHATEVER THE INPUT: true; the input reads as it did. -/
def heapsPlaySpec : ChangeSpec := { name := "heapsPlay", fn := fun _ => fun
  | [d] => { results := [.lit (.bool true)], args := [d] }
  | _ => none }
def heapsPlayRow : OpenClaim := { program := "ytpknjfeiiaopgaa", sum := "a2aeb3daab901169a7eaffb72948e51b467717e23d1c207612c87e696a9968e4", func := "weirhouse/weirhouselaw.HeapsPlay", spec := "heapsPlay", unfollowed := true, recurses := true, apart := false }
def HeapsPlaySaid : Prop := heapsPlayRow.holds Try.pinned (OpenSpec.ofChange heapsPlaySpec)

/-- ITS FALSE NEIGHBOUR: 'it returns false'. Refute it at one input. -/
def heapsPlayWrong : ChangeSpec := { name := "heapsPlay", fn := fun _ => fun
  | [d] => { results := [.lit (.bool false)], args := [d] }
  | _ => none }
def HeapsPlayWrongFalsely : Prop := heapsPlayRow.holds Try.pinned (OpenSpec.ofChange heapsPlayWrong)

/-- 'weirhouselaw.PacePlays': WHATEVER THE INPUT: true; the input reads as it did. -/
def pacePlaysSpec : ChangeSpec := { name := "pacePlays", fn := fun _ => fun
  | [d1, d2, d3, d4] => { results := [.lit (.bool true)], args := [d1, d2, d3, d4] }
  | _ => none }
def pacePlaysRow : OpenClaim := { program := "ytpknjfeiiaopgaa", sum := "a2aeb3daab901169a7eaffb72948e51b467717e23d1c207612c87e696a9968e4", func := "weirhouse/weirhouselaw.PacePlays", spec := "pacePlays", unfollowed := true, recurses := true, apart := false }
def PacePlaysSaid : Prop := pacePlaysRow.holds Try.pinned (OpenSpec.ofChange pacePlaysSpec)

/-- ITS FALSE NEIGHBOUR: 'it returns false'. Refute it at one input. -/
def pacePlaysWrong : ChangeSpec := { name := "pacePlays", fn := fun _ => fun
  | [d1, d2, d3, d4] => { results := [.lit (.bool false)], args := [d1, d2, d3, d4] }
  | _ => none }
def PacePlaysWrongFalsely : Prop := pacePlaysRow.holds Try.pinned (OpenSpec.ofChange pacePlaysWrong)

/-- 'weirhouselaw.GpsEnds': WHATEVER THE INPUT: true; the input reads as it did. -/
def gpsEndsSpec : ChangeSpec := { name := "gpsEnds", fn := fun _ => fun
  | [d1, d2] => { results := [.lit (.bool true)], args := [d1, d2] }
  | _ => none }
def gpsEndsRow : OpenClaim := { program := "ytpknjfeiiaopgaa", sum := "a2aeb3daab901169a7eaffb72948e51b467717e23d1c207612c87e696a9968e4", func := "weirhouse/weirhouselaw.GpsEnds", spec := "gpsEnds", unfollowed := true, recurses := true, apart := false }
def GpsEndsSaid : Prop := gpsEndsRow.holds Try.pinned (OpenSpec.ofChange gpsEndsSpec)

/-- ITS FALSE NEIGHBOUR: 'it returns false'. Refute it at one input. -/
def gpsEndsWrong : ChangeSpec := { name := "gpsEnds", fn := fun _ => fun
  | [d1, d2] => { results := [.lit (.bool false)], args := [d1, d2] }
  | _ => none }
def GpsEndsWrongFalsely : Prop := gpsEndsRow.holds Try.pinned (OpenSpec.ofChange gpsEndsWrong)

/-- 'weirhouselaw.ShareLevels': WHATEVER THE INPUT: true; the input reads as it did. -/
def shareLevelsSpec : ChangeSpec := { name := "shareLevels", fn := fun _ => fun
  | [d1, d2, d3] => { results := [.lit (.bool true)], args := [d1, d2, d3] }
  | _ => none }
def shareLevelsRow : OpenClaim := { program := "ytpknjfeiiaopgaa", sum := "a2aeb3daab901169a7eaffb72948e51b467717e23d1c207612c87e696a9968e4", func := "weirhouse/weirhouselaw.ShareLevels", spec := "shareLevels", unfollowed := true, recurses := true, apart := false }
def ShareLevelsSaid : Prop := shareLevelsRow.holds Try.pinned (OpenSpec.ofChange shareLevelsSpec)

/-- ITS FALSE NEIGHBOUR: 'it returns false'. Refute it at one input. -/
def shareLevelsWrong : ChangeSpec := { name := "shareLevels", fn := fun _ => fun
  | [d1, d2, d3] => { results := [.lit (.bool false)], args := [d1, d2, d3] }
  | _ => none }
def ShareLevelsWrongFalsely : Prop := shareLevelsRow.holds Try.pinned (OpenSpec.ofChange shareLevelsWrong)

/-- 'weirhouselaw.HeavyJoins': WHATEVER THE INPUT: true; the input reads as it did. -/
def heavyJoinsSpec : ChangeSpec := { name := "heavyJoins", fn := fun _ => fun
  | [d1, d2, d3] => { results := [.lit (.bool true)], args := [d1, d2, d3] }
  | _ => none }
def heavyJoinsRow : OpenClaim := { program := "ytpknjfeiiaopgaa", sum := "a2aeb3daab901169a7eaffb72948e51b467717e23d1c207612c87e696a9968e4", func := "weirhouse/weirhouselaw.HeavyJoins", spec := "heavyJoins", unfollowed := true, recurses := true, apart := false }
def HeavyJoinsSaid : Prop := heavyJoinsRow.holds Try.pinned (OpenSpec.ofChange heavyJoinsSpec)

/-- ITS FALSE NEIGHBOUR: 'it returns false'. Refute it at one input. -/
def heavyJoinsWrong : ChangeSpec := { name := "heavyJoins", fn := fun _ => fun
  | [d1, d2, d3] => { results := [.lit (.bool false)], args := [d1, d2, d3] }
  | _ => none }
def HeavyJoinsWrongFalsely : Prop := heavyJoinsRow.holds Try.pinned (OpenSpec.ofChange heavyJoinsWrong)

/- THE SECOND FORM. 'bulk': how many values and letters a reading holds, each counted each time it is reached (what is shared counts as often as it is met; a slice's spare places count too). A statement '..UptoSaid' is the law's where the arguments, and the package variables that the reading takes, are together of bulk at most 1048576: NARROWER than '..Said'. Prove '..Said' where nothing that the law and all that it calls make is longer than what came in: it says more and counts as full. Else prove '..UptoSaid'. A law counts once. -/
mutual
def uptoBulk {H : Type} : DataW H → Nat
  | .lit (.string bytes) => bytes.length + 1
  | .lit _ => 1
  | .nil => 1
  | .ptr d => uptoBulk d + 1
  | .slice elems spare => uptoBulkAll elems + uptoBulkAll spare + 1
  | .agg parts => uptoBulkAll parts + 1
  | .iface _ d => uptoBulk d + 1
  | .map entries => uptoBulkEntries entries + 1
  | .held _ => 1
def uptoBulkAll {H : Type} : List (DataW H) → Nat
  | [] => 0
  | d :: r => uptoBulk d + uptoBulkAll r
def uptoBulkEntries {H : Type} : List (Lit × DataW H) → Nat
  | [] => 0
  | x :: r => uptoBulkEntry x + uptoBulkEntries r
def uptoBulkEntry {H : Type} : Lit × DataW H → Nat
  | (.string bytes, d) => bytes.length + uptoBulk d + 1
  | (_, d) => uptoBulk d + 1
 end
def uptoSmall : (H : Type) → List (DataW H) → Bool := fun _ ds => decide (uptoBulkAll ds ≤ 1048576)
def OpenSpec.upto (s : _root_.Go.ChangeSpec) : _root_.Go.OpenSpec := { _root_.Go.OpenSpec.ofChange s with cond := some uptoSmall }

/-- 'weirhouselaw.TrieFinds', WHERE WHAT IT READS IS OF BULK AT MOST 1048576: true; the input reads as it did. -/
def trieFindsUptoRow : OpenClaim := { program := "ytpknjfeiiaopgaa", sum := "a2aeb3daab901169a7eaffb72948e51b467717e23d1c207612c87e696a9968e4", func := "weirhouse/weirhouselaw.TrieFinds", spec := "trieFinds", apart := false, narrowed := true }
def TrieFindsUptoSaid : Prop := trieFindsUptoRow.holds Try.pinned (OpenSpec.upto trieFindsSpec)

/-- 'weirhouselaw.HeadTells', WHERE WHAT IT READS IS OF BULK AT MOST 1048576: true; the input reads as it did. -/
def headTellsUptoRow : OpenClaim := { program := "ytpknjfeiiaopgaa", sum := "a2aeb3daab901169a7eaffb72948e51b467717e23d1c207612c87e696a9968e4", func := "weirhouse/weirhouselaw.HeadTells", spec := "headTells", unfollowed := true, recurses := true, apart := false, narrowed := true }
def HeadTellsUptoSaid : Prop := headTellsUptoRow.holds Try.pinned (OpenSpec.upto headTellsSpec)

/-- 'weirhouselaw.HeapsPlay', WHERE WHAT IT READS IS OF BULK AT MOST 1048576: true; the input reads as it did. -/
def heapsPlayUptoRow : OpenClaim := { program := "ytpknjfeiiaopgaa", sum := "a2aeb3daab901169a7eaffb72948e51b467717e23d1c207612c87e696a9968e4", func := "weirhouse/weirhouselaw.HeapsPlay", spec := "heapsPlay", unfollowed := true, recurses := true, apart := false, narrowed := true }
def HeapsPlayUptoSaid : Prop := heapsPlayUptoRow.holds Try.pinned (OpenSpec.upto heapsPlaySpec)

/-- 'weirhouselaw.PacePlays', WHERE WHAT IT READS IS OF BULK AT MOST 1048576: true; the input reads as it did. -/
def pacePlaysUptoRow : OpenClaim := { program := "ytpknjfeiiaopgaa", sum := "a2aeb3daab901169a7eaffb72948e51b467717e23d1c207612c87e696a9968e4", func := "weirhouse/weirhouselaw.PacePlays", spec := "pacePlays", unfollowed := true, recurses := true, apart := false, narrowed := true }
def PacePlaysUptoSaid : Prop := pacePlaysUptoRow.holds Try.pinned (OpenSpec.upto pacePlaysSpec)

/-- 'weirhouselaw.GpsEnds', WHERE WHAT IT READS IS OF BULK AT MOST 1048576: true; the input reads as it did. -/
def gpsEndsUptoRow : OpenClaim := { program := "ytpknjfeiiaopgaa", sum := "a2aeb3daab901169a7eaffb72948e51b467717e23d1c207612c87e696a9968e4", func := "weirhouse/weirhouselaw.GpsEnds", spec := "gpsEnds", unfollowed := true, recurses := true, apart := false, narrowed := true }
def GpsEndsUptoSaid : Prop := gpsEndsUptoRow.holds Try.pinned (OpenSpec.upto gpsEndsSpec)

/-- 'weirhouselaw.ShareLevels', WHERE WHAT IT READS IS OF BULK AT MOST 1048576: true; the input reads as it did. -/
def shareLevelsUptoRow : OpenClaim := { program := "ytpknjfeiiaopgaa", sum := "a2aeb3daab901169a7eaffb72948e51b467717e23d1c207612c87e696a9968e4", func := "weirhouse/weirhouselaw.ShareLevels", spec := "shareLevels", unfollowed := true, recurses := true, apart := false, narrowed := true }
def ShareLevelsUptoSaid : Prop := shareLevelsUptoRow.holds Try.pinned (OpenSpec.upto shareLevelsSpec)

/-- 'weirhouselaw.HeavyJoins', WHERE WHAT IT READS IS OF BULK AT MOST 1048576: true; the input reads as it did. -/
def heavyJoinsUptoRow : OpenClaim := { program := "ytpknjfeiiaopgaa", sum := "a2aeb3daab901169a7eaffb72948e51b467717e23d1c207612c87e696a9968e4", func := "weirhouse/weirhouselaw.HeavyJoins", spec := "heavyJoins", unfollowed := true, recurses := true, apart := false, narrowed := true }
def HeavyJoinsUptoSaid : Prop := heavyJoinsUptoRow.holds Try.pinned (OpenSpec.upto heavyJoinsSpec)

end Rows
end Go.Proofs.Ytpknjfeiiaopgaa
