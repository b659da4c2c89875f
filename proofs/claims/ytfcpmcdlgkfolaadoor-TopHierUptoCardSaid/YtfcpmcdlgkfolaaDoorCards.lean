/-
  DERIVED. GIVEN WITH THE SEED: THE CARDS: each row of YtfcpmcdlgkfolaaDoorRows.lean that lists a variable, with what it lists TIED to the program's text (the seventh form; the later family's looks); each row that meets fmt, with fmt's text TOLD by the authors' own Lean function (tested against real Go, not proved from fmt's source: count such statements apart). THE CARD IS WHAT COUNTS. Prove the row's statement (the work); the ties are given (YtfcpmcdlgkfolaaDoorTie.lean); close each card by the builder's one call (the guide's Derived/Test/ToyasCard.lean, 'card_holds'). Laid BY PROGRAM, IN A SANDBOX (cutbox-door.mjs). By AI agents, Wed Nov 11 2026. No macro, syntax, notation, axiom, sorry.
-/
import Derived.Test.YtfcpmcdlgkfolaaDoorRows
import GoSem.ClaimSeven
namespace Go.Proofs.YtfcpmcdlgkfolaaDoor
namespace Rows

/-- THE TIED CARD OF 'weirhouselaw.BenchReads'. -/
def benchReadsCard : Claim7 := { stood := { row := benchReadsRow, standIns := [], harness := (true, "eb6df9b3b681b3f36c2a2bc8150b829ca5001d03f43870895c0ca68cc7709648"), looks := true }, kinds := [], alts := [], laidByText := true, laidKinds := [.data, .data, .data, .data, .sentinel, .sentinel, .pinned], laidTests := true, laidLooks := .later }
def BenchReadsCardSaid : Prop := Claim7.holds Tryd.pinned (.plain (OpenSpec.ofChange benchReadsSpec)) benchReadsCard

/-- THE TIED CARD OF 'weirhouselaw.BenchTells'. -/
def benchTellsCard : Claim7 := { stood := { row := benchTellsRow, standIns := [], harness := (true, "eb6df9b3b681b3f36c2a2bc8150b829ca5001d03f43870895c0ca68cc7709648"), looks := true }, kinds := [], alts := [], laidByText := true, laidKinds := [.data, .data, .data, .data, .sentinel, .sentinel, .pinned], laidTests := true, laidLooks := .later }
def BenchTellsCardSaid : Prop := Claim7.holds Tryd.pinned (.plain (OpenSpec.ofChange benchTellsSpec)) benchTellsCard

/-- THE TIED CARD OF 'weirhousetop.TopText'. -/
def topTextCard : Claim7 := { stood := { row := topTextRow, standIns := [], harness := (true, "eb6df9b3b681b3f36c2a2bc8150b829ca5001d03f43870895c0ca68cc7709648"), looks := true }, kinds := [], alts := [], laidByText := true, laidKinds := [.data, .data, .data, .data, .sentinel, .sentinel, .pinned], laidTests := true, laidLooks := .later }
def TopTextCardSaid : Prop := Claim7.holds Tryd.pinned (.plain (OpenSpec.ofChange topTextSpec)) topTextCard

/-- THE TIED CARD OF 'weirhousetop.TopSeen'. -/
def topSeenCard : Claim7 := { stood := { row := topSeenRow, standIns := [], harness := (true, "eb6df9b3b681b3f36c2a2bc8150b829ca5001d03f43870895c0ca68cc7709648"), looks := true }, kinds := [], alts := [], laidByText := true, laidKinds := [.data, .data, .data, .data, .sentinel, .sentinel, .pinned], laidTests := true, laidLooks := .later }
def TopSeenCardSaid : Prop := Claim7.holds Tryd.pinned (.plain (OpenSpec.ofChange topSeenSpec)) topSeenCard

/-- THE TIED CARD OF 'weirhousetop.TopHier'. -/
def topHierCard : Claim7 := { stood := { row := topHierRow, standIns := [], harness := (true, "eb6df9b3b681b3f36c2a2bc8150b829ca5001d03f43870895c0ca68cc7709648"), looks := true }, kinds := [], alts := [], laidByText := true, laidKinds := [.data, .data, .data, .data, .sentinel, .sentinel, .pinned], laidTests := true, laidLooks := .later }
def TopHierCardSaid : Prop := Claim7.holds Tryd.pinned (.plain (OpenSpec.ofChange topHierSpec)) topHierCard

/-- THE TIED CARD OF 'weirhousetop.TopSorted'. -/
def topSortedCard : Claim7 := { stood := { row := topSortedRow, standIns := [], harness := (true, "eb6df9b3b681b3f36c2a2bc8150b829ca5001d03f43870895c0ca68cc7709648"), looks := true }, kinds := [], alts := [], laidByText := true, laidKinds := [.data, .data, .data, .data, .sentinel, .sentinel, .pinned], laidTests := true, laidLooks := .later }
def TopSortedCardSaid : Prop := Claim7.holds Tryd.pinned (.plain (OpenSpec.ofChange topSortedSpec)) topSortedCard

/-- THE SECOND FORM's CARD OF 'weirhouselaw.BenchReads'. -/
def benchReadsUptoCard : Claim7 := { stood := { row := benchReadsUptoRow, standIns := [], harness := (true, "eb6df9b3b681b3f36c2a2bc8150b829ca5001d03f43870895c0ca68cc7709648"), looks := true }, kinds := [], alts := [], laidByText := true, laidKinds := [.data, .data, .data, .data, .sentinel, .sentinel, .pinned], laidTests := true, laidLooks := .later }
def BenchReadsUptoCardSaid : Prop := Claim7.holds Tryd.pinned (.plain (OpenSpec.upto benchReadsSpec)) benchReadsUptoCard

/-- THE SECOND FORM's CARD OF 'weirhouselaw.BenchTells'. -/
def benchTellsUptoCard : Claim7 := { stood := { row := benchTellsUptoRow, standIns := [], harness := (true, "eb6df9b3b681b3f36c2a2bc8150b829ca5001d03f43870895c0ca68cc7709648"), looks := true }, kinds := [], alts := [], laidByText := true, laidKinds := [.data, .data, .data, .data, .sentinel, .sentinel, .pinned], laidTests := true, laidLooks := .later }
def BenchTellsUptoCardSaid : Prop := Claim7.holds Tryd.pinned (.plain (OpenSpec.upto benchTellsSpec)) benchTellsUptoCard

/-- THE SECOND FORM's CARD OF 'weirhousetop.TopText'. -/
def topTextUptoCard : Claim7 := { stood := { row := topTextUptoRow, standIns := [], harness := (true, "eb6df9b3b681b3f36c2a2bc8150b829ca5001d03f43870895c0ca68cc7709648"), looks := true }, kinds := [], alts := [], laidByText := true, laidKinds := [.data, .data, .data, .data, .sentinel, .sentinel, .pinned], laidTests := true, laidLooks := .later }
def TopTextUptoCardSaid : Prop := Claim7.holds Tryd.pinned (.plain (OpenSpec.upto topTextSpec)) topTextUptoCard

/-- THE SECOND FORM's CARD OF 'weirhousetop.TopSeen'. -/
def topSeenUptoCard : Claim7 := { stood := { row := topSeenUptoRow, standIns := [], harness := (true, "eb6df9b3b681b3f36c2a2bc8150b829ca5001d03f43870895c0ca68cc7709648"), looks := true }, kinds := [], alts := [], laidByText := true, laidKinds := [.data, .data, .data, .data, .sentinel, .sentinel, .pinned], laidTests := true, laidLooks := .later }
def TopSeenUptoCardSaid : Prop := Claim7.holds Tryd.pinned (.plain (OpenSpec.upto topSeenSpec)) topSeenUptoCard

/-- THE SECOND FORM's CARD OF 'weirhousetop.TopHier'. -/
def topHierUptoCard : Claim7 := { stood := { row := topHierUptoRow, standIns := [], harness := (true, "eb6df9b3b681b3f36c2a2bc8150b829ca5001d03f43870895c0ca68cc7709648"), looks := true }, kinds := [], alts := [], laidByText := true, laidKinds := [.data, .data, .data, .data, .sentinel, .sentinel, .pinned], laidTests := true, laidLooks := .later }
def TopHierUptoCardSaid : Prop := Claim7.holds Tryd.pinned (.plain (OpenSpec.upto topHierSpec)) topHierUptoCard

/-- THE SECOND FORM's CARD OF 'weirhousetop.TopSorted'. -/
def topSortedUptoCard : Claim7 := { stood := { row := topSortedUptoRow, standIns := [], harness := (true, "eb6df9b3b681b3f36c2a2bc8150b829ca5001d03f43870895c0ca68cc7709648"), looks := true }, kinds := [], alts := [], laidByText := true, laidKinds := [.data, .data, .data, .data, .sentinel, .sentinel, .pinned], laidTests := true, laidLooks := .later }
def TopSortedUptoCardSaid : Prop := Claim7.holds Tryd.pinned (.plain (OpenSpec.upto topSortedSpec)) topSortedUptoCard
end Rows
end Go.Proofs.YtfcpmcdlgkfolaaDoor
