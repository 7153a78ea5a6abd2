/-
  No cell of these rows narrows 'for every input' (looked for: loops, veiled, ifaces, maps, wideKeys, modest, calm, conditions, laid).
  DERIVED. THE GIVEN ROWS OF THIS SEAT. 5 by the template 'for every input the law returns true; each argument reads behind the call as it read before'; 0 by the template 'total and deterministic' (their statements: YtlgikchfddhocaaTotals.lean).
  GIVEN WITH THE SEED: the statements are not yours to turn. If you find one false, say at which input.
  Laid BY PROGRAM, IN A SANDBOX (cutbox-rows.mjs): the forced cells as the released guide's own fill.sh prints them over the translation 3a8f4dc96b6f0c68… (all of the seat's roots in one cut). By AI agents, Wed Nov 11 2026. No macro, syntax, notation, axiom, sorry.
-/
import Derived.Test.YtlgikchfddhocaaChecked
import GoSem.Claim
import GoSem.ClaimJoined
import GoSem.ClaimMapViews
import Derived.JoinedTies
import Derived.KernelRfl
namespace Go.Proofs.Ytlgikchfddhocaa
/- THE CELL 'sum', in the pinned program and in every row, IS THE sha256 OF THE DUMP (.gsa) THAT YtlgikchfddhocaaProg.lean LOADS. Nothing in Lean hashes anything: it is a label: what it is worth is what the hold of that sum in a sandbox is worth. -/
noncomputable def Try.pinned : Pinned := { name := "ytlgikchfddhocaa", sum := "3a8f4dc96b6f0c687aa11c4e0af64ce1cc2c0d9e068d2f26a9cc0e78dfcd2b1d", checked := Try.checked }
namespace Rows
def none {H : Type} : Left H := { results := [], args := [] }

/-- 'craquelurelaw03.NameTells': WHATEVER THE INPUT: true; the input reads as it did. -/
def nameTellsSpec : ChangeSpec := { name := "nameTells", fn := fun _ => fun
  | [d] => { results := [.lit (.bool true)], args := [d] }
  | _ => none }
def nameTellsRow : OpenClaim := { program := "ytlgikchfddhocaa", sum := "3a8f4dc96b6f0c687aa11c4e0af64ce1cc2c0d9e068d2f26a9cc0e78dfcd2b1d", func := "craquelure/craquelurelaw03.NameTells", spec := "nameTells", unfollowed := true, recurses := true, apart := false }
def NameTellsSaid : Prop := nameTellsRow.holds Try.pinned (OpenSpec.ofChange nameTellsSpec)

/-- ITS FALSE NEIGHBOUR: 'it returns false'. Refute it at one input. -/
def nameTellsWrong : ChangeSpec := { name := "nameTells", fn := fun _ => fun
  | [d] => { results := [.lit (.bool false)], args := [d] }
  | _ => none }
def NameTellsWrongFalsely : Prop := nameTellsRow.holds Try.pinned (OpenSpec.ofChange nameTellsWrong)

/-- 'craquelurelaw03.NameBack': WHATEVER THE INPUT: true; the input reads as it did. -/
def nameBackSpec : ChangeSpec := { name := "nameBack", fn := fun _ => fun
  | [d1, d2] => { results := [.lit (.bool true)], args := [d1, d2] }
  | _ => none }
def nameBackRow : OpenClaim := { program := "ytlgikchfddhocaa", sum := "3a8f4dc96b6f0c687aa11c4e0af64ce1cc2c0d9e068d2f26a9cc0e78dfcd2b1d", func := "craquelure/craquelurelaw03.NameBack", spec := "nameBack", unfollowed := true, recurses := true, apart := false }
def NameBackSaid : Prop := nameBackRow.holds Try.pinned (OpenSpec.ofChange nameBackSpec)

/-- ITS FALSE NEIGHBOUR: 'it returns false'. Refute it at one input. -/
def nameBackWrong : ChangeSpec := { name := "nameBack", fn := fun _ => fun
  | [d1, d2] => { results := [.lit (.bool false)], args := [d1, d2] }
  | _ => none }
def NameBackWrongFalsely : Prop := nameBackRow.holds Try.pinned (OpenSpec.ofChange nameBackWrong)

/-- 'craquelurelaw03.NameSorts': WHATEVER THE INPUT: true; the input reads as it did. -/
def nameSortsSpec : ChangeSpec := { name := "nameSorts", fn := fun _ => fun
  | [d] => { results := [.lit (.bool true)], args := [d] }
  | _ => none }
def nameSortsRow : OpenClaim := { program := "ytlgikchfddhocaa", sum := "3a8f4dc96b6f0c687aa11c4e0af64ce1cc2c0d9e068d2f26a9cc0e78dfcd2b1d", func := "craquelure/craquelurelaw03.NameSorts", spec := "nameSorts", unfollowed := true, recurses := true, apart := false }
def NameSortsSaid : Prop := nameSortsRow.holds Try.pinned (OpenSpec.ofChange nameSortsSpec)

/-- ITS FALSE NEIGHBOUR: 'it returns false'. Refute it at one input. -/
def nameSortsWrong : ChangeSpec := { name := "nameSorts", fn := fun _ => fun
  | [d] => { results := [.lit (.bool false)], args := [d] }
  | _ => none }
def NameSortsWrongFalsely : Prop := nameSortsRow.holds Try.pinned (OpenSpec.ofChange nameSortsWrong)

/-- 'craquelurelaw16.LowerTells': WHATEVER THE INPUT: true; the input reads as it did. -/
def lowerTellsSpec : ChangeSpec := { name := "lowerTells", fn := fun _ => fun
  | [d1, d2, d3] => { results := [.lit (.bool true)], args := [d1, d2, d3] }
  | _ => none }
def lowerTellsRow : OpenClaim := { program := "ytlgikchfddhocaa", sum := "3a8f4dc96b6f0c687aa11c4e0af64ce1cc2c0d9e068d2f26a9cc0e78dfcd2b1d", func := "craquelure/craquelurelaw16.LowerTells", spec := "lowerTells", unfollowed := true, recurses := true, apart := false }
def LowerTellsSaid : Prop := lowerTellsRow.holds Try.pinned (OpenSpec.ofChange lowerTellsSpec)

/-- ITS FALSE NEIGHBOUR: 'it returns false'. Refute it at one input. -/
def lowerTellsWrong : ChangeSpec := { name := "lowerTells", fn := fun _ => fun
  | [d1, d2, d3] => { results := [.lit (.bool false)], args := [d1, d2, d3] }
  | _ => none }
def LowerTellsWrongFalsely : Prop := lowerTellsRow.holds Try.pinned (OpenSpec.ofChange lowerTellsWrong)

/-- 'craquelurelaw16.LowerNames': WHATEVER THE INPUT: true; the input reads as it did. -/
def lowerNamesSpec : ChangeSpec := { name := "lowerNames", fn := fun _ => fun
  | [d1, d2, d3] => { results := [.lit (.bool true)], args := [d1, d2, d3] }
  | _ => none }
def lowerNamesRow : OpenClaim := { program := "ytlgikchfddhocaa", sum := "3a8f4dc96b6f0c687aa11c4e0af64ce1cc2c0d9e068d2f26a9cc0e78dfcd2b1d", func := "craquelure/craquelurelaw16.LowerNames", spec := "lowerNames", unfollowed := true, recurses := true, apart := false }
def LowerNamesSaid : Prop := lowerNamesRow.holds Try.pinned (OpenSpec.ofChange lowerNamesSpec)

/-- ITS FALSE NEIGHBOUR: 'it returns false'. Refute it at one input. -/
def lowerNamesWrong : ChangeSpec := { name := "lowerNames", fn := fun _ => fun
  | [d1, d2, d3] => { results := [.lit (.bool false)], args := [d1, d2, d3] }
  | _ => none }
def LowerNamesWrongFalsely : Prop := lowerNamesRow.holds Try.pinned (OpenSpec.ofChange lowerNamesWrong)

/- THE SECOND FORM. 'bulk': how many values and letters a reading holds, each counted each time it is reached (what is shared counts as often as it is met; a slice's spare places count too). A statement '..UptoSaid' is the law's where the arguments, and the package variables that the reading takes, are together of bulk at most 1048576: NARROWER than '..Said'. Prove '..Said' where nothing that the law and all that it calls make is longer than what came in: it says more and counts as full. Else prove '..UptoSaid'. A law counts once. -/
mutual
def uptoBulk {H : Type} : DataW H → Nat
  | .lit (.string bytes) => bytes.length + 1
  | .lit _ => 1
  | .nil => 1
  | .ptr d => uptoBulk d + 1
  | .slice elems spare => uptoBulkAll elems + uptoBulkAll spare + 1
  | .agg parts => uptoBulkAll parts + 1
  | .iface _ d => uptoBulk d + 1
  | .map entries => uptoBulkEntries entries + 1
  | .held _ => 1
def uptoBulkAll {H : Type} : List (DataW H) → Nat
  | [] => 0
  | d :: r => uptoBulk d + uptoBulkAll r
def uptoBulkEntries {H : Type} : List (Lit × DataW H) → Nat
  | [] => 0
  | x :: r => uptoBulkEntry x + uptoBulkEntries r
def uptoBulkEntry {H : Type} : Lit × DataW H → Nat
  | (.string bytes, d) => bytes.length + uptoBulk d + 1
  | (_, d) => uptoBulk d + 1
 end
def uptoSmall : (H : Type) → List (DataW H) → Bool := fun _ ds => decide (uptoBulkAll ds ≤ 1048576)
def OpenSpec.upto (s : _root_.Go.ChangeSpec) : _root_.Go.OpenSpec := { _root_.Go.OpenSpec.ofChange s with cond := some uptoSmall }

/-- 'craquelurelaw03.NameTells', WHERE WHAT IT READS IS OF BULK AT MOST 1048576: true; the input reads as it did. -/
def nameTellsUptoRow : OpenClaim := { program := "ytlgikchfddhocaa", sum := "3a8f4dc96b6f0c687aa11c4e0af64ce1cc2c0d9e068d2f26a9cc0e78dfcd2b1d", func := "craquelure/craquelurelaw03.NameTells", spec := "nameTells", unfollowed := true, recurses := true, apart := false, narrowed := true }
def NameTellsUptoSaid : Prop := nameTellsUptoRow.holds Try.pinned (OpenSpec.upto nameTellsSpec)

/-- 'craquelurelaw03.NameBack', WHERE WHAT IT READS IS OF BULK AT MOST 1048576: true; the input reads as it did. -/
def nameBackUptoRow : OpenClaim := { program := "ytlgikchfddhocaa", sum := "3a8f4dc96b6f0c687aa11c4e0af64ce1cc2c0d9e068d2f26a9cc0e78dfcd2b1d", func := "craquelure/craquelurelaw03.NameBack", spec := "nameBack", unfollowed := true, recurses := true, apart := false, narrowed := true }
def NameBackUptoSaid : Prop := nameBackUptoRow.holds Try.pinned (OpenSpec.upto nameBackSpec)

/-- 'craquelurelaw03.NameSorts', WHERE WHAT IT READS IS OF BULK AT MOST 1048576: true; the input reads as it did. -/
def nameSortsUptoRow : OpenClaim := { program := "ytlgikchfddhocaa", sum := "3a8f4dc96b6f0c687aa11c4e0af64ce1cc2c0d9e068d2f26a9cc0e78dfcd2b1d", func := "craquelure/craquelurelaw03.NameSorts", spec := "nameSorts", unfollowed := true, recurses := true, apart := false, narrowed := true }
def NameSortsUptoSaid : Prop := nameSortsUptoRow.holds Try.pinned (OpenSpec.upto nameSortsSpec)

/-- 'craquelurelaw16.LowerTells', WHERE WHAT IT READS IS OF BULK AT MOST 1048576: true; the input reads as it did. -/
def lowerTellsUptoRow : OpenClaim := { program := "ytlgikchfddhocaa", sum := "3a8f4dc96b6f0c687aa11c4e0af64ce1cc2c0d9e068d2f26a9cc0e78dfcd2b1d", func := "craquelure/craquelurelaw16.LowerTells", spec := "lowerTells", unfollowed := true, recurses := true, apart := false, narrowed := true }
def LowerTellsUptoSaid : Prop := lowerTellsUptoRow.holds Try.pinned (OpenSpec.upto lowerTellsSpec)

/-- 'craquelurelaw16.LowerNames', WHERE WHAT IT READS IS OF BULK AT MOST 1048576: true; the input reads as it did. -/
def lowerNamesUptoRow : OpenClaim := { program := "ytlgikchfddhocaa", sum := "3a8f4dc96b6f0c687aa11c4e0af64ce1cc2c0d9e068d2f26a9cc0e78dfcd2b1d", func := "craquelure/craquelurelaw16.LowerNames", spec := "lowerNames", unfollowed := true, recurses := true, apart := false, narrowed := true }
def LowerNamesUptoSaid : Prop := lowerNamesUptoRow.holds Try.pinned (OpenSpec.upto lowerNamesSpec)

end Rows
end Go.Proofs.Ytlgikchfddhocaa
