/-
  DERIVED. GIVEN WITH THE SEED: THE CARDS: each row of YtmacnoajlofdbaaDoorRows.lean that lists a variable, with what it lists TIED to the program's text (the seventh form; the later family's looks); each row that meets fmt, with fmt's text TOLD by the authors' own Lean function (tested against real Go, not proved from fmt's source: count such statements apart). THE CARD IS WHAT COUNTS. Prove the row's statement (the work); the ties are given (YtmacnoajlofdbaaDoorTie.lean); close each card by the builder's one call (the guide's Derived/Test/ToyasCard.lean, 'card_holds'). Laid BY PROGRAM, IN A SANDBOX (cutbox-door.mjs). By AI agents, Wed Nov 11 2026. No macro, syntax, notation, axiom, sorry.
-/
import Derived.Test.YtmacnoajlofdbaaDoorRows
import GoSem.ClaimSeven
namespace Go.Proofs.YtmacnoajlofdbaaDoor
namespace Rows

/-- THE TIED CARD OF 'craquelurelaw21.RedirectOnce'. -/
def redirectOnceCard : Claim7 := { stood := { row := redirectOnceRow, standIns := [], harness := (true, "31ef9d938e682352f6be5863df373fd655cf40993e6526c5f3ff9539d50e24ea"), looks := false }, kinds := [], alts := [], laidByText := true, laidKinds := [.data, .pinned], laidTests := true, laidLooks := .later }
def RedirectOnceCardSaid : Prop := Claim7.holds Tryd.pinned (.plain (OpenSpec.ofChange redirectOnceSpec)) redirectOnceCard

/-- THE SECOND FORM's CARD OF 'craquelurelaw21.RedirectOnce'. -/
def redirectOnceUptoCard : Claim7 := { stood := { row := redirectOnceUptoRow, standIns := [], harness := (true, "31ef9d938e682352f6be5863df373fd655cf40993e6526c5f3ff9539d50e24ea"), looks := false }, kinds := [], alts := [], laidByText := true, laidKinds := [.data, .pinned], laidTests := true, laidLooks := .later }
def RedirectOnceUptoCardSaid : Prop := Claim7.holds Tryd.pinned (.plain (OpenSpec.upto redirectOnceSpec)) redirectOnceUptoCard
end Rows
end Go.Proofs.YtmacnoajlofdbaaDoor
