/-
  NARROWER THAN 'FOR EVERY INPUT', by the rows' own cells (each row's printed sentence says how): WhiteTells: laid · ViewSteps: laid · ViewNames: laid · ViewWhites: laid · ViewTrees: laid.
  DERIVED. THE GIVEN ROWS OF THIS SEAT. 5 by the template 'for every input the law returns true; each argument reads behind the call as it read before'; 0 by the template 'total and deterministic' (their statements: YtapdjibjnfeipaaGreatDoorTotals.lean).
  GIVEN WITH THE SEED: the statements are not yours to turn. If you find one false, say at which input.
  Laid BY PROGRAM, IN A SANDBOX (cutbox-rows.mjs): the forced cells as the released guide's own fill.sh prints them over the translation 0d775d986a7cd7e6… (all of the seat's roots in one cut). By AI agents, Wed Nov 11 2026. No macro, syntax, notation, axiom, sorry.
-/
import Derived.Test.YtapdjibjnfeipaaGreatDoorChecked
import GoSem.PinnedTables
import GoSem.Claim
import GoSem.ClaimJoined
import GoSem.ClaimMapViews
import Derived.JoinedTies
import Derived.KernelRfl
namespace Go.Proofs.YtapdjibjnfeipaaGreatDoor
/- THE CELL 'sum', in the pinned program and in every row, IS THE sha256 OF THE DUMP (.gsa) THAT YtapdjibjnfeipaaGreatDoorProg.lean LOADS. Nothing in Lean hashes anything: it is a label: what it is worth is what the hold of that sum in a sandbox is worth. -/
noncomputable def Tryz.pinned : Pinned := { name := "ytapdjibjnfeipaagreatdoor", sum := "0d775d986a7cd7e6d3c953b5070637c0e149e9ef78877afebbd083c4d6c1019d", checked := Tryz.checked }
namespace Rows
def none {H : Type} : Left H := { results := [], args := [] }

/- WHAT THE LISTED PACKAGE-LEVEL VARIABLES READ AS WHEN THE CALL BEGINS. Each datum BY PROGRAM (the guide's laid-datum.mjs) off the statement by which the dump's own 'gosem.cut.vars' lays the variable. In a bare row this is a premise. The card (YtapdjibjnfeipaaGreatDoorCards.lean) ties it to the program's text. -/
def laid_unicode_utf8_acceptRanges {H : Type} : DataW H := .agg [.agg [.lit (.int .u8 128), .lit (.int .u8 191)], .agg [.lit (.int .u8 160), .lit (.int .u8 191)], .agg [.lit (.int .u8 128), .lit (.int .u8 159)], .agg [.lit (.int .u8 144), .lit (.int .u8 191)], .agg [.lit (.int .u8 128), .lit (.int .u8 143)], .agg [.lit (.int .u8 0), .lit (.int .u8 0)], .agg [.lit (.int .u8 0), .lit (.int .u8 0)], .agg [.lit (.int .u8 0), .lit (.int .u8 0)], .agg [.lit (.int .u8 0), .lit (.int .u8 0)], .agg [.lit (.int .u8 0), .lit (.int .u8 0)], .agg [.lit (.int .u8 0), .lit (.int .u8 0)], .agg [.lit (.int .u8 0), .lit (.int .u8 0)], .agg [.lit (.int .u8 0), .lit (.int .u8 0)], .agg [.lit (.int .u8 0), .lit (.int .u8 0)], .agg [.lit (.int .u8 0), .lit (.int .u8 0)], .agg [.lit (.int .u8 0), .lit (.int .u8 0)]]
/-- One of Go's own tables, pinned by name: the form's constant. -/
def laid_unicode_utf8_first : DataW Unit := Go.Pinned.utf8First

/-- 'craquelurelaw20.WhiteTells': WHATEVER THE INPUT: true; the input reads as it did. -/
def whiteTellsSpec : ChangeSpec := { name := "whiteTells", fn := fun _ => fun
  | [d1, d2, d3] => { results := [.lit (.bool true)], args := [d1, d2, d3] }
  | _ => none }
def whiteTellsRow : OpenClaim := { program := "ytapdjibjnfeipaagreatdoor", sum := "0d775d986a7cd7e6d3c953b5070637c0e149e9ef78877afebbd083c4d6c1019d", func := "craquelure/craquelurelaw20.WhiteTells", spec := "whiteTells", inPlace := ["internal/bytealg.CountString", "internal/bytealg.IndexByteString", "internal/bytealg.IndexString"], unfollowed := true, recurses := true, named := ["unicode/utf8.first", "unicode/utf8.acceptRanges", "internal/bytealg.MaxLen"], apart := false, laid := [("unicode/utf8.acceptRanges", laid_unicode_utf8_acceptRanges), ("unicode/utf8.first", laid_unicode_utf8_first)] }
def WhiteTellsSaid : Prop := whiteTellsRow.holds Tryz.pinned (OpenSpec.ofChange whiteTellsSpec)

/-- ITS FALSE NEIGHBOUR: 'it returns false'. Refute it at one input. -/
def whiteTellsWrong : ChangeSpec := { name := "whiteTells", fn := fun _ => fun
  | [d1, d2, d3] => { results := [.lit (.bool false)], args := [d1, d2, d3] }
  | _ => none }
def WhiteTellsWrongFalsely : Prop := whiteTellsRow.holds Tryz.pinned (OpenSpec.ofChange whiteTellsWrong)

/-- 'craquelurelaw17.ViewSteps': WHATEVER THE INPUT: true; the input reads as it did. -/
def viewStepsSpec : ChangeSpec := { name := "viewSteps", fn := fun _ => fun
  | [d1, d2, d3, d4] => { results := [.lit (.bool true)], args := [d1, d2, d3, d4] }
  | _ => none }
def viewStepsRow : OpenClaim := { program := "ytapdjibjnfeipaagreatdoor", sum := "0d775d986a7cd7e6d3c953b5070637c0e149e9ef78877afebbd083c4d6c1019d", func := "craquelure/craquelurelaw17.ViewSteps", spec := "viewSteps", inPlace := ["internal/bytealg.CountString", "internal/bytealg.IndexByteString", "internal/bytealg.IndexString"], unfollowed := true, recurses := true, named := ["unicode/utf8.first", "unicode/utf8.acceptRanges", "internal/bytealg.MaxLen"], apart := false, laid := [("unicode/utf8.acceptRanges", laid_unicode_utf8_acceptRanges), ("unicode/utf8.first", laid_unicode_utf8_first)] }
def ViewStepsSaid : Prop := viewStepsRow.holds Tryz.pinned (OpenSpec.ofChange viewStepsSpec)

/-- ITS FALSE NEIGHBOUR: 'it returns false'. Refute it at one input. -/
def viewStepsWrong : ChangeSpec := { name := "viewSteps", fn := fun _ => fun
  | [d1, d2, d3, d4] => { results := [.lit (.bool false)], args := [d1, d2, d3, d4] }
  | _ => none }
def ViewStepsWrongFalsely : Prop := viewStepsRow.holds Tryz.pinned (OpenSpec.ofChange viewStepsWrong)

/-- 'craquelurelaw17.ViewNames': WHATEVER THE INPUT: true; the input reads as it did. -/
def viewNamesSpec : ChangeSpec := { name := "viewNames", fn := fun _ => fun
  | [d1, d2] => { results := [.lit (.bool true)], args := [d1, d2] }
  | _ => none }
def viewNamesRow : OpenClaim := { program := "ytapdjibjnfeipaagreatdoor", sum := "0d775d986a7cd7e6d3c953b5070637c0e149e9ef78877afebbd083c4d6c1019d", func := "craquelure/craquelurelaw17.ViewNames", spec := "viewNames", inPlace := ["internal/bytealg.CountString", "internal/bytealg.IndexByteString", "internal/bytealg.IndexString"], unfollowed := true, recurses := true, named := ["unicode/utf8.first", "unicode/utf8.acceptRanges", "internal/bytealg.MaxLen"], apart := false, laid := [("unicode/utf8.acceptRanges", laid_unicode_utf8_acceptRanges), ("unicode/utf8.first", laid_unicode_utf8_first)] }
def ViewNamesSaid : Prop := viewNamesRow.holds Tryz.pinned (OpenSpec.ofChange viewNamesSpec)

/-- ITS FALSE NEIGHBOUR: 'it returns false'. Refute it at one input. -/
def viewNamesWrong : ChangeSpec := { name := "viewNames", fn := fun _ => fun
  | [d1, d2] => { results := [.lit (.bool false)], args := [d1, d2] }
  | _ => none }
def ViewNamesWrongFalsely : Prop := viewNamesRow.holds Tryz.pinned (OpenSpec.ofChange viewNamesWrong)

/-- 'craquelurelaw17.ViewWhites': WHATEVER THE INPUT: true; the input reads as it did. -/
def viewWhitesSpec : ChangeSpec := { name := "viewWhites", fn := fun _ => fun
  | [d1, d2, d3] => { results := [.lit (.bool true)], args := [d1, d2, d3] }
  | _ => none }
def viewWhitesRow : OpenClaim := { program := "ytapdjibjnfeipaagreatdoor", sum := "0d775d986a7cd7e6d3c953b5070637c0e149e9ef78877afebbd083c4d6c1019d", func := "craquelure/craquelurelaw17.ViewWhites", spec := "viewWhites", inPlace := ["internal/bytealg.CountString", "internal/bytealg.IndexByteString", "internal/bytealg.IndexString"], unfollowed := true, recurses := true, named := ["unicode/utf8.first", "unicode/utf8.acceptRanges", "internal/bytealg.MaxLen"], apart := false, laid := [("unicode/utf8.acceptRanges", laid_unicode_utf8_acceptRanges), ("unicode/utf8.first", laid_unicode_utf8_first)] }
def ViewWhitesSaid : Prop := viewWhitesRow.holds Tryz.pinned (OpenSpec.ofChange viewWhitesSpec)

/-- ITS FALSE NEIGHBOUR: 'it returns false'. Refute it at one input. -/
def viewWhitesWrong : ChangeSpec := { name := "viewWhites", fn := fun _ => fun
  | [d1, d2, d3] => { results := [.lit (.bool false)], args := [d1, d2, d3] }
  | _ => none }
def ViewWhitesWrongFalsely : Prop := viewWhitesRow.holds Tryz.pinned (OpenSpec.ofChange viewWhitesWrong)

/-- 'craquelurelaw17.ViewTrees': WHATEVER THE INPUT: true; the input reads as it did. -/
def viewTreesSpec : ChangeSpec := { name := "viewTrees", fn := fun _ => fun
  | [d] => { results := [.lit (.bool true)], args := [d] }
  | _ => none }
def viewTreesRow : OpenClaim := { program := "ytapdjibjnfeipaagreatdoor", sum := "0d775d986a7cd7e6d3c953b5070637c0e149e9ef78877afebbd083c4d6c1019d", func := "craquelure/craquelurelaw17.ViewTrees", spec := "viewTrees", inPlace := ["internal/bytealg.CountString", "internal/bytealg.IndexByteString", "internal/bytealg.IndexString"], unfollowed := true, recurses := true, named := ["unicode/utf8.first", "unicode/utf8.acceptRanges", "internal/bytealg.MaxLen"], apart := false, laid := [("unicode/utf8.acceptRanges", laid_unicode_utf8_acceptRanges), ("unicode/utf8.first", laid_unicode_utf8_first)] }
def ViewTreesSaid : Prop := viewTreesRow.holds Tryz.pinned (OpenSpec.ofChange viewTreesSpec)

/-- ITS FALSE NEIGHBOUR: 'it returns false'. Refute it at one input. -/
def viewTreesWrong : ChangeSpec := { name := "viewTrees", fn := fun _ => fun
  | [d] => { results := [.lit (.bool false)], args := [d] }
  | _ => none }
def ViewTreesWrongFalsely : Prop := viewTreesRow.holds Tryz.pinned (OpenSpec.ofChange viewTreesWrong)

/- THE SECOND FORM. 'bulk': how many values and letters a reading holds, each counted each time it is reached (what is shared counts as often as it is met; a slice's spare places count too). A statement '..UptoSaid' is the law's where the arguments, and the package variables that the reading takes, are together of bulk at most 1048576: NARROWER than '..Said'. Prove '..Said' where nothing that the law and all that it calls make is longer than what came in: it says more and counts as full. Else prove '..UptoSaid'. A law counts once. -/
mutual
def uptoBulk {H : Type} : DataW H → Nat
  | .lit (.string bytes) => bytes.length + 1
  | .lit _ => 1
  | .nil => 1
  | .ptr d => uptoBulk d + 1
  | .slice elems spare => uptoBulkAll elems + uptoBulkAll spare + 1
  | .agg parts => uptoBulkAll parts + 1
  | .iface _ d => uptoBulk d + 1
  | .map entries => uptoBulkEntries entries + 1
  | .held _ => 1
def uptoBulkAll {H : Type} : List (DataW H) → Nat
  | [] => 0
  | d :: r => uptoBulk d + uptoBulkAll r
def uptoBulkEntries {H : Type} : List (Lit × DataW H) → Nat
  | [] => 0
  | x :: r => uptoBulkEntry x + uptoBulkEntries r
def uptoBulkEntry {H : Type} : Lit × DataW H → Nat
  | (.string bytes, d) => bytes.length + uptoBulk d + 1
  | (_, d) => uptoBulk d + 1
 end
def uptoSmall : (H : Type) → List (DataW H) → Bool := fun _ ds => decide (uptoBulkAll ds ≤ 1048576)
def OpenSpec.upto (s : _root_.Go.ChangeSpec) : _root_.Go.OpenSpec := { _root_.Go.OpenSpec.ofChange s with cond := some uptoSmall }

/-- 'craquelurelaw20.WhiteTells', WHERE WHAT IT READS IS OF BULK AT MOST 1048576: true; the input reads as it did. -/
def whiteTellsUptoRow : OpenClaim := { program := "ytapdjibjnfeipaagreatdoor", sum := "0d775d986a7cd7e6d3c953b5070637c0e149e9ef78877afebbd083c4d6c1019d", func := "craquelure/craquelurelaw20.WhiteTells", spec := "whiteTells", inPlace := ["internal/bytealg.CountString", "internal/bytealg.IndexByteString", "internal/bytealg.IndexString"], unfollowed := true, recurses := true, named := ["unicode/utf8.first", "unicode/utf8.acceptRanges", "internal/bytealg.MaxLen"], apart := false, laid := [("unicode/utf8.acceptRanges", laid_unicode_utf8_acceptRanges), ("unicode/utf8.first", laid_unicode_utf8_first)], narrowed := true }
def WhiteTellsUptoSaid : Prop := whiteTellsUptoRow.holds Tryz.pinned (OpenSpec.upto whiteTellsSpec)

/-- 'craquelurelaw17.ViewSteps', WHERE WHAT IT READS IS OF BULK AT MOST 1048576: true; the input reads as it did. -/
def viewStepsUptoRow : OpenClaim := { program := "ytapdjibjnfeipaagreatdoor", sum := "0d775d986a7cd7e6d3c953b5070637c0e149e9ef78877afebbd083c4d6c1019d", func := "craquelure/craquelurelaw17.ViewSteps", spec := "viewSteps", inPlace := ["internal/bytealg.CountString", "internal/bytealg.IndexByteString", "internal/bytealg.IndexString"], unfollowed := true, recurses := true, named := ["unicode/utf8.first", "unicode/utf8.acceptRanges", "internal/bytealg.MaxLen"], apart := false, laid := [("unicode/utf8.acceptRanges", laid_unicode_utf8_acceptRanges), ("unicode/utf8.first", laid_unicode_utf8_first)], narrowed := true }
def ViewStepsUptoSaid : Prop := viewStepsUptoRow.holds Tryz.pinned (OpenSpec.upto viewStepsSpec)

/-- 'craquelurelaw17.ViewNames', WHERE WHAT IT READS IS OF BULK AT MOST 1048576: true; the input reads as it did. -/
def viewNamesUptoRow : OpenClaim := { program := "ytapdjibjnfeipaagreatdoor", sum := "0d775d986a7cd7e6d3c953b5070637c0e149e9ef78877afebbd083c4d6c1019d", func := "craquelure/craquelurelaw17.ViewNames", spec := "viewNames", inPlace := ["internal/bytealg.CountString", "internal/bytealg.IndexByteString", "internal/bytealg.IndexString"], unfollowed := true, recurses := true, named := ["unicode/utf8.first", "unicode/utf8.acceptRanges", "internal/bytealg.MaxLen"], apart := false, laid := [("unicode/utf8.acceptRanges", laid_unicode_utf8_acceptRanges), ("unicode/utf8.first", laid_unicode_utf8_first)], narrowed := true }
def ViewNamesUptoSaid : Prop := viewNamesUptoRow.holds Tryz.pinned (OpenSpec.upto viewNamesSpec)

/-- 'craquelurelaw17.ViewWhites', WHERE WHAT IT READS IS OF BULK AT MOST 1048576: true; the input reads as it did. -/
def viewWhitesUptoRow : OpenClaim := { program := "ytapdjibjnfeipaagreatdoor", sum := "0d775d986a7cd7e6d3c953b5070637c0e149e9ef78877afebbd083c4d6c1019d", func := "craquelure/craquelurelaw17.ViewWhites", spec := "viewWhites", inPlace := ["internal/bytealg.CountString", "internal/bytealg.IndexByteString", "internal/bytealg.IndexString"], unfollowed := true, recurses := true, named := ["unicode/utf8.first", "unicode/utf8.acceptRanges", "internal/bytealg.MaxLen"], apart := false, laid := [("unicode/utf8.acceptRanges", laid_unicode_utf8_acceptRanges), ("unicode/utf8.first", laid_unicode_utf8_first)], narrowed := true }
def ViewWhitesUptoSaid : Prop := viewWhitesUptoRow.holds Tryz.pinned (OpenSpec.upto viewWhitesSpec)

/-- 'craquelurelaw17.ViewTrees', WHERE WHAT IT READS IS OF BULK AT MOST 1048576: true; the input reads as it did. -/
def viewTreesUptoRow : OpenClaim := { program := "ytapdjibjnfeipaagreatdoor", sum := "0d775d986a7cd7e6d3c953b5070637c0e149e9ef78877afebbd083c4d6c1019d", func := "craquelure/craquelurelaw17.ViewTrees", spec := "viewTrees", inPlace := ["internal/bytealg.CountString", "internal/bytealg.IndexByteString", "internal/bytealg.IndexString"], unfollowed := true, recurses := true, named := ["unicode/utf8.first", "unicode/utf8.acceptRanges", "internal/bytealg.MaxLen"], apart := false, laid := [("unicode/utf8.acceptRanges", laid_unicode_utf8_acceptRanges), ("unicode/utf8.first", laid_unicode_utf8_first)], narrowed := true }
def ViewTreesUptoSaid : Prop := viewTreesUptoRow.holds Tryz.pinned (OpenSpec.upto viewTreesSpec)

end Rows
end Go.Proofs.YtapdjibjnfeipaaGreatDoor
