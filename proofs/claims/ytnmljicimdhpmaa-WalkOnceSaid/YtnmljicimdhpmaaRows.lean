/-
  No cell of these rows narrows 'for every input' (looked for: loops, veiled, ifaces, maps, wideKeys, modest, calm, conditions, laid).
  DERIVED. THE GIVEN ROWS OF THIS SEAT. 9 by the template 'for every input the law returns true; each argument reads behind the call as it read before'; 0 by the template 'total and deterministic' (their statements: YtnmljicimdhpmaaTotals.lean).
  GIVEN WITH THE SEED: the statements are not yours to turn. If you find one false, say at which input.
  Laid BY PROGRAM, IN A SANDBOX (cutbox-rows.mjs): the forced cells as the released guide's own fill.sh prints them over the translation 1a690828abba180d… (all of the seat's roots in one cut). By AI agents, Wed Nov 11 2026. No macro, syntax, notation, axiom, sorry.
-/
import Derived.Test.YtnmljicimdhpmaaChecked
import GoSem.Claim
import GoSem.ClaimJoined
import GoSem.ClaimMapViews
import Derived.JoinedTies
import Derived.KernelRfl
namespace Go.Proofs.Ytnmljicimdhpmaa
/- THE CELL 'sum', in the pinned program and in every row, IS THE sha256 OF THE DUMP (.gsa) THAT YtnmljicimdhpmaaProg.lean LOADS. Nothing in Lean hashes anything: it is a label: what it is worth is what the hold of that sum in a sandbox is worth. -/
noncomputable def Try.pinned : Pinned := { name := "ytnmljicimdhpmaa", sum := "1a690828abba180d8723095a97bb000f728ec008eaf6b4f8927044ae024603e0", checked := Try.checked }
namespace Rows
def none {H : Type} : Left H := { results := [], args := [] }

/-- 'craquelurelaw24.ImpureTells': WHATEVER THE INPUT: true; the input reads as it did. -/
def impureTellsSpec : ChangeSpec := { name := "impureTells", fn := fun _ => fun
  | [d1, d2] => { results := [.lit (.bool true)], args := [d1, d2] }
  | _ => none }
def impureTellsRow : OpenClaim := { program := "ytnmljicimdhpmaa", sum := "1a690828abba180d8723095a97bb000f728ec008eaf6b4f8927044ae024603e0", func := "craquelure/craquelurelaw24.ImpureTells", spec := "impureTells", unfollowed := true, recurses := true, apart := false }
def ImpureTellsSaid : Prop := impureTellsRow.holds Try.pinned (OpenSpec.ofChange impureTellsSpec)

/-- ITS FALSE NEIGHBOUR: 'it returns false'. Refute it at one input. -/
def impureTellsWrong : ChangeSpec := { name := "impureTells", fn := fun _ => fun
  | [d1, d2] => { results := [.lit (.bool false)], args := [d1, d2] }
  | _ => none }
def ImpureTellsWrongFalsely : Prop := impureTellsRow.holds Try.pinned (OpenSpec.ofChange impureTellsWrong)

/-- 'craquelurelaw24.ImpureSet': WHATEVER THE INPUT: true; the input reads as it did. -/
def impureSetSpec : ChangeSpec := { name := "impureSet", fn := fun _ => fun
  | [d] => { results := [.lit (.bool true)], args := [d] }
  | _ => none }
def impureSetRow : OpenClaim := { program := "ytnmljicimdhpmaa", sum := "1a690828abba180d8723095a97bb000f728ec008eaf6b4f8927044ae024603e0", func := "craquelure/craquelurelaw24.ImpureSet", spec := "impureSet", unfollowed := true, recurses := true, apart := false }
def ImpureSetSaid : Prop := impureSetRow.holds Try.pinned (OpenSpec.ofChange impureSetSpec)

/-- ITS FALSE NEIGHBOUR: 'it returns false'. Refute it at one input. -/
def impureSetWrong : ChangeSpec := { name := "impureSet", fn := fun _ => fun
  | [d] => { results := [.lit (.bool false)], args := [d] }
  | _ => none }
def ImpureSetWrongFalsely : Prop := impureSetRow.holds Try.pinned (OpenSpec.ofChange impureSetWrong)

/-- 'craquelurelaw25.TallySums': WHATEVER THE INPUT: true; the input reads as it did. -/
def tallySumsSpec : ChangeSpec := { name := "tallySums", fn := fun _ => fun
  | [d] => { results := [.lit (.bool true)], args := [d] }
  | _ => none }
def tallySumsRow : OpenClaim := { program := "ytnmljicimdhpmaa", sum := "1a690828abba180d8723095a97bb000f728ec008eaf6b4f8927044ae024603e0", func := "craquelure/craquelurelaw25.TallySums", spec := "tallySums", unfollowed := true, recurses := true, apart := false }
def TallySumsSaid : Prop := tallySumsRow.holds Try.pinned (OpenSpec.ofChange tallySumsSpec)

/-- ITS FALSE NEIGHBOUR: 'it returns false'. Refute it at one input. -/
def tallySumsWrong : ChangeSpec := { name := "tallySums", fn := fun _ => fun
  | [d] => { results := [.lit (.bool false)], args := [d] }
  | _ => none }
def TallySumsWrongFalsely : Prop := tallySumsRow.holds Try.pinned (OpenSpec.ofChange tallySumsWrong)

/-- 'craquelurelaw22.OriginTells': WHATEVER THE INPUT: true; the input reads as it did. -/
def originTellsSpec : ChangeSpec := { name := "originTells", fn := fun _ => fun
  | [d1, d2] => { results := [.lit (.bool true)], args := [d1, d2] }
  | _ => none }
def originTellsRow : OpenClaim := { program := "ytnmljicimdhpmaa", sum := "1a690828abba180d8723095a97bb000f728ec008eaf6b4f8927044ae024603e0", func := "craquelure/craquelurelaw22.OriginTells", spec := "originTells", unfollowed := true, recurses := true, apart := false }
def OriginTellsSaid : Prop := originTellsRow.holds Try.pinned (OpenSpec.ofChange originTellsSpec)

/-- ITS FALSE NEIGHBOUR: 'it returns false'. Refute it at one input. -/
def originTellsWrong : ChangeSpec := { name := "originTells", fn := fun _ => fun
  | [d1, d2] => { results := [.lit (.bool false)], args := [d1, d2] }
  | _ => none }
def OriginTellsWrongFalsely : Prop := originTellsRow.holds Try.pinned (OpenSpec.ofChange originTellsWrong)

/-- 'craquelurelaw22.OriginNone': WHATEVER THE INPUT: true; the input reads as it did. -/
def originNoneSpec : ChangeSpec := { name := "originNone", fn := fun _ => fun
  | [d] => { results := [.lit (.bool true)], args := [d] }
  | _ => none }
def originNoneRow : OpenClaim := { program := "ytnmljicimdhpmaa", sum := "1a690828abba180d8723095a97bb000f728ec008eaf6b4f8927044ae024603e0", func := "craquelure/craquelurelaw22.OriginNone", spec := "originNone", unfollowed := true, recurses := true, apart := false }
def OriginNoneSaid : Prop := originNoneRow.holds Try.pinned (OpenSpec.ofChange originNoneSpec)

/-- ITS FALSE NEIGHBOUR: 'it returns false'. Refute it at one input. -/
def originNoneWrong : ChangeSpec := { name := "originNone", fn := fun _ => fun
  | [d] => { results := [.lit (.bool false)], args := [d] }
  | _ => none }
def OriginNoneWrongFalsely : Prop := originNoneRow.holds Try.pinned (OpenSpec.ofChange originNoneWrong)

/-- 'craquelurelaw13.WalkPaths': WHATEVER THE INPUT: true; the input reads as it did. -/
def walkPathsSpec : ChangeSpec := { name := "walkPaths", fn := fun _ => fun
  | [d1, d2] => { results := [.lit (.bool true)], args := [d1, d2] }
  | _ => none }
def walkPathsRow : OpenClaim := { program := "ytnmljicimdhpmaa", sum := "1a690828abba180d8723095a97bb000f728ec008eaf6b4f8927044ae024603e0", func := "craquelure/craquelurelaw13.WalkPaths", spec := "walkPaths", inPlace := ["internal/abi.NoEscape", "internal/bytealg.MakeNoZero"], unfollowed := true, recurses := true, apart := false }
def WalkPathsSaid : Prop := walkPathsRow.holds Try.pinned (OpenSpec.ofChange walkPathsSpec)

/-- ITS FALSE NEIGHBOUR: 'it returns false'. Refute it at one input. -/
def walkPathsWrong : ChangeSpec := { name := "walkPaths", fn := fun _ => fun
  | [d1, d2] => { results := [.lit (.bool false)], args := [d1, d2] }
  | _ => none }
def WalkPathsWrongFalsely : Prop := walkPathsRow.holds Try.pinned (OpenSpec.ofChange walkPathsWrong)

/-- 'craquelurelaw13.WalkTells': WHATEVER THE INPUT: true; the input reads as it did. -/
def walkTellsSpec : ChangeSpec := { name := "walkTells", fn := fun _ => fun
  | [d1, d2, d3] => { results := [.lit (.bool true)], args := [d1, d2, d3] }
  | _ => none }
def walkTellsRow : OpenClaim := { program := "ytnmljicimdhpmaa", sum := "1a690828abba180d8723095a97bb000f728ec008eaf6b4f8927044ae024603e0", func := "craquelure/craquelurelaw13.WalkTells", spec := "walkTells", inPlace := ["internal/abi.NoEscape", "internal/bytealg.MakeNoZero"], unfollowed := true, recurses := true, apart := false }
def WalkTellsSaid : Prop := walkTellsRow.holds Try.pinned (OpenSpec.ofChange walkTellsSpec)

/-- ITS FALSE NEIGHBOUR: 'it returns false'. Refute it at one input. -/
def walkTellsWrong : ChangeSpec := { name := "walkTells", fn := fun _ => fun
  | [d1, d2, d3] => { results := [.lit (.bool false)], args := [d1, d2, d3] }
  | _ => none }
def WalkTellsWrongFalsely : Prop := walkTellsRow.holds Try.pinned (OpenSpec.ofChange walkTellsWrong)

/-- 'craquelurelaw13.WalkPrunes': WHATEVER THE INPUT: true; the input reads as it did. -/
def walkPrunesSpec : ChangeSpec := { name := "walkPrunes", fn := fun _ => fun
  | [d1, d2] => { results := [.lit (.bool true)], args := [d1, d2] }
  | _ => none }
def walkPrunesRow : OpenClaim := { program := "ytnmljicimdhpmaa", sum := "1a690828abba180d8723095a97bb000f728ec008eaf6b4f8927044ae024603e0", func := "craquelure/craquelurelaw13.WalkPrunes", spec := "walkPrunes", inPlace := ["internal/abi.NoEscape", "internal/bytealg.MakeNoZero"], unfollowed := true, recurses := true, apart := false }
def WalkPrunesSaid : Prop := walkPrunesRow.holds Try.pinned (OpenSpec.ofChange walkPrunesSpec)

/-- ITS FALSE NEIGHBOUR: 'it returns false'. Refute it at one input. -/
def walkPrunesWrong : ChangeSpec := { name := "walkPrunes", fn := fun _ => fun
  | [d1, d2] => { results := [.lit (.bool false)], args := [d1, d2] }
  | _ => none }
def WalkPrunesWrongFalsely : Prop := walkPrunesRow.holds Try.pinned (OpenSpec.ofChange walkPrunesWrong)

/-- 'craquelurelaw13.WalkOnce': WHATEVER THE INPUT: true; the input reads as it did. -/
def walkOnceSpec : ChangeSpec := { name := "walkOnce", fn := fun _ => fun
  | [d1, d2, d3] => { results := [.lit (.bool true)], args := [d1, d2, d3] }
  | _ => none }
def walkOnceRow : OpenClaim := { program := "ytnmljicimdhpmaa", sum := "1a690828abba180d8723095a97bb000f728ec008eaf6b4f8927044ae024603e0", func := "craquelure/craquelurelaw13.WalkOnce", spec := "walkOnce", inPlace := ["internal/abi.NoEscape", "internal/bytealg.MakeNoZero"], unfollowed := true, recurses := true, apart := false }
def WalkOnceSaid : Prop := walkOnceRow.holds Try.pinned (OpenSpec.ofChange walkOnceSpec)

/-- ITS FALSE NEIGHBOUR: 'it returns false'. Refute it at one input. -/
def walkOnceWrong : ChangeSpec := { name := "walkOnce", fn := fun _ => fun
  | [d1, d2, d3] => { results := [.lit (.bool false)], args := [d1, d2, d3] }
  | _ => none }
def WalkOnceWrongFalsely : Prop := walkOnceRow.holds Try.pinned (OpenSpec.ofChange walkOnceWrong)

/- THE SECOND FORM. 'bulk': how many values and letters a reading holds, each counted each time it is reached (what is shared counts as often as it is met; a slice's spare places count too). A statement '..UptoSaid' is the law's where the arguments, and the package variables that the reading takes, are together of bulk at most 1048576: NARROWER than '..Said'. Prove '..Said' where nothing that the law and all that it calls make is longer than what came in: it says more and counts as full. Else prove '..UptoSaid'. A law counts once. -/
mutual
def uptoBulk {H : Type} : DataW H → Nat
  | .lit (.string bytes) => bytes.length + 1
  | .lit _ => 1
  | .nil => 1
  | .ptr d => uptoBulk d + 1
  | .slice elems spare => uptoBulkAll elems + uptoBulkAll spare + 1
  | .agg parts => uptoBulkAll parts + 1
  | .iface _ d => uptoBulk d + 1
  | .map entries => uptoBulkEntries entries + 1
  | .held _ => 1
def uptoBulkAll {H : Type} : List (DataW H) → Nat
  | [] => 0
  | d :: r => uptoBulk d + uptoBulkAll r
def uptoBulkEntries {H : Type} : List (Lit × DataW H) → Nat
  | [] => 0
  | x :: r => uptoBulkEntry x + uptoBulkEntries r
def uptoBulkEntry {H : Type} : Lit × DataW H → Nat
  | (.string bytes, d) => bytes.length + uptoBulk d + 1
  | (_, d) => uptoBulk d + 1
 end
def uptoSmall : (H : Type) → List (DataW H) → Bool := fun _ ds => decide (uptoBulkAll ds ≤ 1048576)
def OpenSpec.upto (s : _root_.Go.ChangeSpec) : _root_.Go.OpenSpec := { _root_.Go.OpenSpec.ofChange s with cond := some uptoSmall }

/-- 'craquelurelaw24.ImpureTells', WHERE WHAT IT READS IS OF BULK AT MOST 1048576: true; the input reads as it did. -/
def impureTellsUptoRow : OpenClaim := { program := "ytnmljicimdhpmaa", sum := "1a690828abba180d8723095a97bb000f728ec008eaf6b4f8927044ae024603e0", func := "craquelure/craquelurelaw24.ImpureTells", spec := "impureTells", unfollowed := true, recurses := true, apart := false, narrowed := true }
def ImpureTellsUptoSaid : Prop := impureTellsUptoRow.holds Try.pinned (OpenSpec.upto impureTellsSpec)

/-- 'craquelurelaw24.ImpureSet', WHERE WHAT IT READS IS OF BULK AT MOST 1048576: true; the input reads as it did. -/
def impureSetUptoRow : OpenClaim := { program := "ytnmljicimdhpmaa", sum := "1a690828abba180d8723095a97bb000f728ec008eaf6b4f8927044ae024603e0", func := "craquelure/craquelurelaw24.ImpureSet", spec := "impureSet", unfollowed := true, recurses := true, apart := false, narrowed := true }
def ImpureSetUptoSaid : Prop := impureSetUptoRow.holds Try.pinned (OpenSpec.upto impureSetSpec)

/-- 'craquelurelaw25.TallySums', WHERE WHAT IT READS IS OF BULK AT MOST 1048576: true; the input reads as it did. -/
def tallySumsUptoRow : OpenClaim := { program := "ytnmljicimdhpmaa", sum := "1a690828abba180d8723095a97bb000f728ec008eaf6b4f8927044ae024603e0", func := "craquelure/craquelurelaw25.TallySums", spec := "tallySums", unfollowed := true, recurses := true, apart := false, narrowed := true }
def TallySumsUptoSaid : Prop := tallySumsUptoRow.holds Try.pinned (OpenSpec.upto tallySumsSpec)

/-- 'craquelurelaw22.OriginTells', WHERE WHAT IT READS IS OF BULK AT MOST 1048576: true; the input reads as it did. -/
def originTellsUptoRow : OpenClaim := { program := "ytnmljicimdhpmaa", sum := "1a690828abba180d8723095a97bb000f728ec008eaf6b4f8927044ae024603e0", func := "craquelure/craquelurelaw22.OriginTells", spec := "originTells", unfollowed := true, recurses := true, apart := false, narrowed := true }
def OriginTellsUptoSaid : Prop := originTellsUptoRow.holds Try.pinned (OpenSpec.upto originTellsSpec)

/-- 'craquelurelaw22.OriginNone', WHERE WHAT IT READS IS OF BULK AT MOST 1048576: true; the input reads as it did. -/
def originNoneUptoRow : OpenClaim := { program := "ytnmljicimdhpmaa", sum := "1a690828abba180d8723095a97bb000f728ec008eaf6b4f8927044ae024603e0", func := "craquelure/craquelurelaw22.OriginNone", spec := "originNone", unfollowed := true, recurses := true, apart := false, narrowed := true }
def OriginNoneUptoSaid : Prop := originNoneUptoRow.holds Try.pinned (OpenSpec.upto originNoneSpec)

/-- 'craquelurelaw13.WalkPaths', WHERE WHAT IT READS IS OF BULK AT MOST 1048576: true; the input reads as it did. -/
def walkPathsUptoRow : OpenClaim := { program := "ytnmljicimdhpmaa", sum := "1a690828abba180d8723095a97bb000f728ec008eaf6b4f8927044ae024603e0", func := "craquelure/craquelurelaw13.WalkPaths", spec := "walkPaths", inPlace := ["internal/abi.NoEscape", "internal/bytealg.MakeNoZero"], unfollowed := true, recurses := true, apart := false, narrowed := true }
def WalkPathsUptoSaid : Prop := walkPathsUptoRow.holds Try.pinned (OpenSpec.upto walkPathsSpec)

/-- 'craquelurelaw13.WalkTells', WHERE WHAT IT READS IS OF BULK AT MOST 1048576: true; the input reads as it did. -/
def walkTellsUptoRow : OpenClaim := { program := "ytnmljicimdhpmaa", sum := "1a690828abba180d8723095a97bb000f728ec008eaf6b4f8927044ae024603e0", func := "craquelure/craquelurelaw13.WalkTells", spec := "walkTells", inPlace := ["internal/abi.NoEscape", "internal/bytealg.MakeNoZero"], unfollowed := true, recurses := true, apart := false, narrowed := true }
def WalkTellsUptoSaid : Prop := walkTellsUptoRow.holds Try.pinned (OpenSpec.upto walkTellsSpec)

/-- 'craquelurelaw13.WalkPrunes', WHERE WHAT IT READS IS OF BULK AT MOST 1048576: true; the input reads as it did. -/
def walkPrunesUptoRow : OpenClaim := { program := "ytnmljicimdhpmaa", sum := "1a690828abba180d8723095a97bb000f728ec008eaf6b4f8927044ae024603e0", func := "craquelure/craquelurelaw13.WalkPrunes", spec := "walkPrunes", inPlace := ["internal/abi.NoEscape", "internal/bytealg.MakeNoZero"], unfollowed := true, recurses := true, apart := false, narrowed := true }
def WalkPrunesUptoSaid : Prop := walkPrunesUptoRow.holds Try.pinned (OpenSpec.upto walkPrunesSpec)

/-- 'craquelurelaw13.WalkOnce', WHERE WHAT IT READS IS OF BULK AT MOST 1048576: true; the input reads as it did. -/
def walkOnceUptoRow : OpenClaim := { program := "ytnmljicimdhpmaa", sum := "1a690828abba180d8723095a97bb000f728ec008eaf6b4f8927044ae024603e0", func := "craquelure/craquelurelaw13.WalkOnce", spec := "walkOnce", inPlace := ["internal/abi.NoEscape", "internal/bytealg.MakeNoZero"], unfollowed := true, recurses := true, apart := false, narrowed := true }
def WalkOnceUptoSaid : Prop := walkOnceUptoRow.holds Try.pinned (OpenSpec.upto walkOnceSpec)

end Rows
end Go.Proofs.Ytnmljicimdhpmaa
