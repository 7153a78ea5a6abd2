/-
  DERIVED. GIVEN WITH THE SEED: THE CARDS: each row of YtapdjibjnfeipaaGreatDoorRows.lean that lists a variable, with what it lists TIED to the program's text (the seventh form; the later family's looks); each row that meets fmt, with fmt's text TOLD by the authors' own Lean function (tested against real Go, not proved from fmt's source: count such statements apart). THE CARD IS WHAT COUNTS. Prove the row's statement (the work); the ties are given (YtapdjibjnfeipaaGreatDoorTie.lean); close each card by the builder's one call (the guide's Derived/Test/ToyasCard.lean, 'card_holds'). Laid BY PROGRAM, IN A SANDBOX (cutbox-door.mjs). By AI agents, Wed Nov 11 2026. No macro, syntax, notation, axiom, sorry.
-/
import Derived.Test.YtapdjibjnfeipaaGreatDoorRows
import GoSem.ClaimSeven
namespace Go.Proofs.YtapdjibjnfeipaaGreatDoor
namespace Rows

/-- THE TIED CARD OF 'craquelurelaw20.WhiteTells'. -/
def whiteTellsCard : Claim7 := { stood := { row := whiteTellsRow, standIns := [], harness := (true, "00992b585e09c9b88c0b9bfe0b254b3f5194d5cfff237f70ef1a4be4fb469924"), looks := false }, kinds := [], alts := [], laidByText := true, laidKinds := [.data, .pinned], laidTests := true, laidLooks := .later }
def WhiteTellsCardSaid : Prop := Claim7.holds Tryz.pinned (.plain (OpenSpec.ofChange whiteTellsSpec)) whiteTellsCard

/-- THE TIED CARD OF 'craquelurelaw17.ViewSteps'. -/
def viewStepsCard : Claim7 := { stood := { row := viewStepsRow, standIns := [], harness := (true, "00992b585e09c9b88c0b9bfe0b254b3f5194d5cfff237f70ef1a4be4fb469924"), looks := false }, kinds := [], alts := [], laidByText := true, laidKinds := [.data, .pinned], laidTests := true, laidLooks := .later }
def ViewStepsCardSaid : Prop := Claim7.holds Tryz.pinned (.plain (OpenSpec.ofChange viewStepsSpec)) viewStepsCard

/-- THE TIED CARD OF 'craquelurelaw17.ViewNames'. -/
def viewNamesCard : Claim7 := { stood := { row := viewNamesRow, standIns := [], harness := (true, "00992b585e09c9b88c0b9bfe0b254b3f5194d5cfff237f70ef1a4be4fb469924"), looks := false }, kinds := [], alts := [], laidByText := true, laidKinds := [.data, .pinned], laidTests := true, laidLooks := .later }
def ViewNamesCardSaid : Prop := Claim7.holds Tryz.pinned (.plain (OpenSpec.ofChange viewNamesSpec)) viewNamesCard

/-- THE TIED CARD OF 'craquelurelaw17.ViewWhites'. -/
def viewWhitesCard : Claim7 := { stood := { row := viewWhitesRow, standIns := [], harness := (true, "00992b585e09c9b88c0b9bfe0b254b3f5194d5cfff237f70ef1a4be4fb469924"), looks := false }, kinds := [], alts := [], laidByText := true, laidKinds := [.data, .pinned], laidTests := true, laidLooks := .later }
def ViewWhitesCardSaid : Prop := Claim7.holds Tryz.pinned (.plain (OpenSpec.ofChange viewWhitesSpec)) viewWhitesCard

/-- THE TIED CARD OF 'craquelurelaw17.ViewTrees'. -/
def viewTreesCard : Claim7 := { stood := { row := viewTreesRow, standIns := [], harness := (true, "00992b585e09c9b88c0b9bfe0b254b3f5194d5cfff237f70ef1a4be4fb469924"), looks := false }, kinds := [], alts := [], laidByText := true, laidKinds := [.data, .pinned], laidTests := true, laidLooks := .later }
def ViewTreesCardSaid : Prop := Claim7.holds Tryz.pinned (.plain (OpenSpec.ofChange viewTreesSpec)) viewTreesCard

/-- THE SECOND FORM's CARD OF 'craquelurelaw20.WhiteTells'. -/
def whiteTellsUptoCard : Claim7 := { stood := { row := whiteTellsUptoRow, standIns := [], harness := (true, "00992b585e09c9b88c0b9bfe0b254b3f5194d5cfff237f70ef1a4be4fb469924"), looks := false }, kinds := [], alts := [], laidByText := true, laidKinds := [.data, .pinned], laidTests := true, laidLooks := .later }
def WhiteTellsUptoCardSaid : Prop := Claim7.holds Tryz.pinned (.plain (OpenSpec.upto whiteTellsSpec)) whiteTellsUptoCard

/-- THE SECOND FORM's CARD OF 'craquelurelaw17.ViewSteps'. -/
def viewStepsUptoCard : Claim7 := { stood := { row := viewStepsUptoRow, standIns := [], harness := (true, "00992b585e09c9b88c0b9bfe0b254b3f5194d5cfff237f70ef1a4be4fb469924"), looks := false }, kinds := [], alts := [], laidByText := true, laidKinds := [.data, .pinned], laidTests := true, laidLooks := .later }
def ViewStepsUptoCardSaid : Prop := Claim7.holds Tryz.pinned (.plain (OpenSpec.upto viewStepsSpec)) viewStepsUptoCard

/-- THE SECOND FORM's CARD OF 'craquelurelaw17.ViewNames'. -/
def viewNamesUptoCard : Claim7 := { stood := { row := viewNamesUptoRow, standIns := [], harness := (true, "00992b585e09c9b88c0b9bfe0b254b3f5194d5cfff237f70ef1a4be4fb469924"), looks := false }, kinds := [], alts := [], laidByText := true, laidKinds := [.data, .pinned], laidTests := true, laidLooks := .later }
def ViewNamesUptoCardSaid : Prop := Claim7.holds Tryz.pinned (.plain (OpenSpec.upto viewNamesSpec)) viewNamesUptoCard

/-- THE SECOND FORM's CARD OF 'craquelurelaw17.ViewWhites'. -/
def viewWhitesUptoCard : Claim7 := { stood := { row := viewWhitesUptoRow, standIns := [], harness := (true, "00992b585e09c9b88c0b9bfe0b254b3f5194d5cfff237f70ef1a4be4fb469924"), looks := false }, kinds := [], alts := [], laidByText := true, laidKinds := [.data, .pinned], laidTests := true, laidLooks := .later }
def ViewWhitesUptoCardSaid : Prop := Claim7.holds Tryz.pinned (.plain (OpenSpec.upto viewWhitesSpec)) viewWhitesUptoCard

/-- THE SECOND FORM's CARD OF 'craquelurelaw17.ViewTrees'. -/
def viewTreesUptoCard : Claim7 := { stood := { row := viewTreesUptoRow, standIns := [], harness := (true, "00992b585e09c9b88c0b9bfe0b254b3f5194d5cfff237f70ef1a4be4fb469924"), looks := false }, kinds := [], alts := [], laidByText := true, laidKinds := [.data, .pinned], laidTests := true, laidLooks := .later }
def ViewTreesUptoCardSaid : Prop := Claim7.holds Tryz.pinned (.plain (OpenSpec.upto viewTreesSpec)) viewTreesUptoCard
end Rows
end Go.Proofs.YtapdjibjnfeipaaGreatDoor
