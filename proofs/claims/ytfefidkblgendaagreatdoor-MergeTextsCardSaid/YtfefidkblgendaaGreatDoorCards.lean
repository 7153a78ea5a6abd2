/-
  DERIVED. GIVEN WITH THE SEED: THE CARDS: each row of YtfefidkblgendaaGreatDoorRows.lean that lists a variable, with what it lists TIED to the program's text (the seventh form; the later family's looks); each row that meets fmt, with fmt's text TOLD by the authors' own Lean function (tested against real Go, not proved from fmt's source: count such statements apart). THE CARD IS WHAT COUNTS. Prove the row's statement (the work); the ties are given (YtfefidkblgendaaGreatDoorTie.lean); close each card by the builder's one call (the guide's Derived/Test/ToyasCard.lean, 'card_holds'). Laid BY PROGRAM, IN A SANDBOX (cutbox-door.mjs). By AI agents, Wed Nov 11 2026. No macro, syntax, notation, axiom, sorry.
-/
import Derived.Test.YtfefidkblgendaaGreatDoorRows
import GoSem.ClaimSeven
namespace Go.Proofs.YtfefidkblgendaaGreatDoor
namespace Rows

/-- THE TIED CARD OF 'craquelurelaw18.MergeTexts'. -/
def mergeTextsCard : Claim7 := { stood := { row := mergeTextsRow, standIns := [], harness := (true, "ac9e7c723a4a25d76d06e7e6c1b0b6c7799cba2e1e8ee291859e72b20ac6a31e"), looks := false }, kinds := [], alts := [], laidByText := true, laidKinds := [.data, .pinned], laidTests := true, laidLooks := .later }
def MergeTextsCardSaid : Prop := Claim7.holds Tryz.pinned (.plain (OpenSpec.ofChange mergeTextsSpec)) mergeTextsCard

/-- THE TIED CARD OF 'craquelurelaw18.MergeNames'. -/
def mergeNamesCard : Claim7 := { stood := { row := mergeNamesRow, standIns := [], harness := (true, "ac9e7c723a4a25d76d06e7e6c1b0b6c7799cba2e1e8ee291859e72b20ac6a31e"), looks := false }, kinds := [], alts := [], laidByText := true, laidKinds := [.data, .pinned], laidTests := true, laidLooks := .later }
def MergeNamesCardSaid : Prop := Claim7.holds Tryz.pinned (.plain (OpenSpec.ofChange mergeNamesSpec)) mergeNamesCard

/-- THE TIED CARD OF 'craquelurelaw18.MergeShows'. -/
def mergeShowsCard : Claim7 := { stood := { row := mergeShowsRow, standIns := [], harness := (true, "ac9e7c723a4a25d76d06e7e6c1b0b6c7799cba2e1e8ee291859e72b20ac6a31e"), looks := false }, kinds := [], alts := [], laidByText := true, laidKinds := [.data, .pinned], laidTests := true, laidLooks := .later }
def MergeShowsCardSaid : Prop := Claim7.holds Tryz.pinned (.plain (OpenSpec.ofChange mergeShowsSpec)) mergeShowsCard

/-- THE SECOND FORM's CARD OF 'craquelurelaw18.MergeTexts'. -/
def mergeTextsUptoCard : Claim7 := { stood := { row := mergeTextsUptoRow, standIns := [], harness := (true, "ac9e7c723a4a25d76d06e7e6c1b0b6c7799cba2e1e8ee291859e72b20ac6a31e"), looks := false }, kinds := [], alts := [], laidByText := true, laidKinds := [.data, .pinned], laidTests := true, laidLooks := .later }
def MergeTextsUptoCardSaid : Prop := Claim7.holds Tryz.pinned (.plain (OpenSpec.upto mergeTextsSpec)) mergeTextsUptoCard

/-- THE SECOND FORM's CARD OF 'craquelurelaw18.MergeNames'. -/
def mergeNamesUptoCard : Claim7 := { stood := { row := mergeNamesUptoRow, standIns := [], harness := (true, "ac9e7c723a4a25d76d06e7e6c1b0b6c7799cba2e1e8ee291859e72b20ac6a31e"), looks := false }, kinds := [], alts := [], laidByText := true, laidKinds := [.data, .pinned], laidTests := true, laidLooks := .later }
def MergeNamesUptoCardSaid : Prop := Claim7.holds Tryz.pinned (.plain (OpenSpec.upto mergeNamesSpec)) mergeNamesUptoCard

/-- THE SECOND FORM's CARD OF 'craquelurelaw18.MergeShows'. -/
def mergeShowsUptoCard : Claim7 := { stood := { row := mergeShowsUptoRow, standIns := [], harness := (true, "ac9e7c723a4a25d76d06e7e6c1b0b6c7799cba2e1e8ee291859e72b20ac6a31e"), looks := false }, kinds := [], alts := [], laidByText := true, laidKinds := [.data, .pinned], laidTests := true, laidLooks := .later }
def MergeShowsUptoCardSaid : Prop := Claim7.holds Tryz.pinned (.plain (OpenSpec.upto mergeShowsSpec)) mergeShowsUptoCard
end Rows
end Go.Proofs.YtfefidkblgendaaGreatDoor
