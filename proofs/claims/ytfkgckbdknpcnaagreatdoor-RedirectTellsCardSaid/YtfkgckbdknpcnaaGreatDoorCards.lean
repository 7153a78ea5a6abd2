/-
  DERIVED. GIVEN WITH THE SEED: THE CARDS: each row of YtfkgckbdknpcnaaGreatDoorRows.lean that lists a variable, with what it lists TIED to the program's text (the seventh form; the later family's looks); each row that meets fmt, with fmt's text TOLD by the authors' own Lean function (tested against real Go, not proved from fmt's source: count such statements apart). THE CARD IS WHAT COUNTS. Prove the row's statement (the work); the ties are given (YtfkgckbdknpcnaaGreatDoorTie.lean); close each card by the builder's one call (the guide's Derived/Test/ToyasCard.lean, 'card_holds'). Laid BY PROGRAM, IN A SANDBOX (cutbox-door.mjs). By AI agents, Wed Nov 11 2026. No macro, syntax, notation, axiom, sorry.
-/
import Derived.Test.YtfkgckbdknpcnaaGreatDoorRows
import GoSem.ClaimSeven
namespace Go.Proofs.YtfkgckbdknpcnaaGreatDoor
namespace Rows

/-- THE TIED CARD OF 'craquelurelaw21.RedirectTells'. -/
def redirectTellsCard : Claim7 := { stood := { row := redirectTellsRow, standIns := [], harness := (true, "abee08a699587a74b8e82f56bdb4699d1bc8c5ea555d1161be8c6e1bab10e6b2"), looks := false }, kinds := [], alts := [], laidByText := true, laidKinds := [.data, .pinned], laidTests := true, laidLooks := .later }
def RedirectTellsCardSaid : Prop := Claim7.holds Tryz.pinned (.plain (OpenSpec.ofChange redirectTellsSpec)) redirectTellsCard

/-- THE SECOND FORM's CARD OF 'craquelurelaw21.RedirectTells'. -/
def redirectTellsUptoCard : Claim7 := { stood := { row := redirectTellsUptoRow, standIns := [], harness := (true, "abee08a699587a74b8e82f56bdb4699d1bc8c5ea555d1161be8c6e1bab10e6b2"), looks := false }, kinds := [], alts := [], laidByText := true, laidKinds := [.data, .pinned], laidTests := true, laidLooks := .later }
def RedirectTellsUptoCardSaid : Prop := Claim7.holds Tryz.pinned (.plain (OpenSpec.upto redirectTellsSpec)) redirectTellsUptoCard
end Rows
end Go.Proofs.YtfkgckbdknpcnaaGreatDoor
