/-
  DERIVED. GIVEN WITH THE SEED: THE CARDS: each row of YtefdlpandfhcgaaDoorRows.lean that lists a variable, with what it lists TIED to the program's text (the seventh form; the later family's looks); each row that meets fmt, with fmt's text TOLD by the authors' own Lean function (tested against real Go, not proved from fmt's source: count such statements apart). THE CARD IS WHAT COUNTS. Prove the row's statement (the work); the ties are given (YtefdlpandfhcgaaDoorTie.lean); close each card by the builder's one call (the guide's Derived/Test/ToyasCard.lean, 'card_holds'). Laid BY PROGRAM, IN A SANDBOX (cutbox-door.mjs). By AI agents, Wed Nov 11 2026. No macro, syntax, notation, axiom, sorry.
-/
import Derived.Test.YtefdlpandfhcgaaDoorRows
import GoSem.ClaimSeven
namespace Go.Proofs.YtefdlpandfhcgaaDoor
namespace Rows

/-- THE TIED CARD OF 'craquelurelaw15.HandleNames'. -/
def handleNamesCard : Claim7 := { stood := { row := handleNamesRow, standIns := [], harness := (true, "7c629f0a2ed143e31e9c962ae7ba558ec4fd42653a63570381b64513c14dd788"), looks := true }, kinds := [], alts := [], laidByText := true, laidKinds := [.data, .data, .data, .sentinel, .sentinel], laidTests := true, laidLooks := .later }
def HandleNamesCardSaid : Prop := Claim7.holds Tryd.pinned (.plain (OpenSpec.ofChange handleNamesSpec)) handleNamesCard

/-- THE TIED CARD OF 'craquelurelaw15.HandleFinds'. -/
def handleFindsCard : Claim7 := { stood := { row := handleFindsRow, standIns := [], harness := (true, "7c629f0a2ed143e31e9c962ae7ba558ec4fd42653a63570381b64513c14dd788"), looks := true }, kinds := [], alts := [], laidByText := true, laidKinds := [.data, .data, .data, .sentinel, .sentinel], laidTests := true, laidLooks := .later }
def HandleFindsCardSaid : Prop := Claim7.holds Tryd.pinned (.plain (OpenSpec.ofChange handleFindsSpec)) handleFindsCard

/-- THE TIED CARD OF 'craquelurelaw23.IndexNone'. -/
def indexNoneCard : Claim7 := { stood := { row := indexNoneRow, standIns := [], harness := (true, "7c629f0a2ed143e31e9c962ae7ba558ec4fd42653a63570381b64513c14dd788"), looks := true }, kinds := [], alts := [], laidByText := true, laidKinds := [.data, .data, .data, .sentinel, .sentinel], laidTests := true, laidLooks := .later }
def IndexNoneCardSaid : Prop := Claim7.holds Tryd.pinned (.plain (OpenSpec.ofChange indexNoneSpec)) indexNoneCard

/-- THE SECOND FORM's CARD OF 'craquelurelaw15.HandleNames'. -/
def handleNamesUptoCard : Claim7 := { stood := { row := handleNamesUptoRow, standIns := [], harness := (true, "7c629f0a2ed143e31e9c962ae7ba558ec4fd42653a63570381b64513c14dd788"), looks := true }, kinds := [], alts := [], laidByText := true, laidKinds := [.data, .data, .data, .sentinel, .sentinel], laidTests := true, laidLooks := .later }
def HandleNamesUptoCardSaid : Prop := Claim7.holds Tryd.pinned (.plain (OpenSpec.upto handleNamesSpec)) handleNamesUptoCard

/-- THE SECOND FORM's CARD OF 'craquelurelaw15.HandleFinds'. -/
def handleFindsUptoCard : Claim7 := { stood := { row := handleFindsUptoRow, standIns := [], harness := (true, "7c629f0a2ed143e31e9c962ae7ba558ec4fd42653a63570381b64513c14dd788"), looks := true }, kinds := [], alts := [], laidByText := true, laidKinds := [.data, .data, .data, .sentinel, .sentinel], laidTests := true, laidLooks := .later }
def HandleFindsUptoCardSaid : Prop := Claim7.holds Tryd.pinned (.plain (OpenSpec.upto handleFindsSpec)) handleFindsUptoCard

/-- THE SECOND FORM's CARD OF 'craquelurelaw23.IndexNone'. -/
def indexNoneUptoCard : Claim7 := { stood := { row := indexNoneUptoRow, standIns := [], harness := (true, "7c629f0a2ed143e31e9c962ae7ba558ec4fd42653a63570381b64513c14dd788"), looks := true }, kinds := [], alts := [], laidByText := true, laidKinds := [.data, .data, .data, .sentinel, .sentinel], laidTests := true, laidLooks := .later }
def IndexNoneUptoCardSaid : Prop := Claim7.holds Tryd.pinned (.plain (OpenSpec.upto indexNoneSpec)) indexNoneUptoCard
end Rows
end Go.Proofs.YtefdlpandfhcgaaDoor
