/- A law of the given program is proved: part 26 of 49. -/
import Derived.Test.YtnmljicimdhpmaaE25
set_option linter.all false
/- Readers of this seat's types, printed by linkgen.py. -/
set_option linter.all false
set_option maxRecDepth 100000
namespace Go.Proofs.Ytnmljicimdhpmaa.AL
open Go Go.Proofs
def rd_3 := rd_int (P := Try.prog) (T := 3) (k := .i64) (by kernel_rfl)
def Geo.fine (x : Geo) : Prop := (fun n : Int => IntKind.i64.min ≤ n ∧ n ≤ IntKind.i64.max) x.lowers ∧ (fun n : Int => IntKind.i64.min ≤ n ∧ n ≤ IntKind.i64.max) x.inodes ∧ (fun n : Int => IntKind.i64.min ≤ n ∧ n ≤ IntKind.i64.max) x.blocks ∧ (fun n : Int => IntKind.i64.min ≤ n ∧ n ≤ IntKind.i64.max) x.log
def rd_9 := rd_str (P := Try.prog) (T := 9) (by kernel_rfl)
def Entry.fine (x : Entry) : Prop := (fun n : Int => IntKind.i64.min ≤ n ∧ n ≤ IntKind.i64.max) x.slot ∧ (fun n : Int => IntKind.i64.min ≤ n ∧ n ≤ IntKind.i64.max) x.ino ∧ (fun s : ByteArray => s.size ≤ maxLen) x.name
def Origin.fine (x : Origin) : Prop := (fun n : Int => IntKind.i64.min ≤ n ∧ n ≤ IntKind.i64.max) x.layer ∧ (fun n : Int => IntKind.i64.min ≤ n ∧ n ≤ IntKind.i64.max) x.ino ∧ (fun n : Int => IntKind.i64.min ≤ n ∧ n ≤ IntKind.i64.max) x.gen
def Attr.fine (x : Attr) : Prop := (fun n : Int => IntKind.i64.min ≤ n ∧ n ≤ IntKind.i64.max) x.has ∧ (fun n : Int => IntKind.i64.min ≤ n ∧ n ≤ IntKind.i64.max) x.opaque0 ∧ (fun s : ByteArray => s.size ≤ maxLen) x.redirect ∧ Origin.fine x.origin ∧ (fun n : Int => IntKind.i64.min ≤ n ∧ n ≤ IntKind.i64.max) x.shown
def Node.fine (x : Node) : Prop := (fun n : Int => IntKind.i64.min ≤ n ∧ n ≤ IntKind.i64.max) x.kind ∧ (fun n : Int => IntKind.i64.min ≤ n ∧ n ≤ IntKind.i64.max) x.impure ∧ (fun n : Int => IntKind.i64.min ≤ n ∧ n ≤ IntKind.i64.max) x.nlink ∧ (fun n : Int => IntKind.i64.min ≤ n ∧ n ≤ IntKind.i64.max) x.gen ∧ (fun l : List UInt8 => l.length ≤ maxLen ∧ ∀ x ∈ l, True) x.data ∧ (fun l : List Entry => l.length ≤ maxLen ∧ ∀ x ∈ l, Entry.fine x) x.entries ∧ Attr.fine x.attr
def Branch.fine (x : Branch) : Prop := (fun l : List Node => l.length ≤ maxLen ∧ ∀ x ∈ l, Node.fine x) x.nodes
def Stack.fine (x : Stack) : Prop := Geo.fine x.geo ∧ Branch.fine x.upper ∧ (fun l : List Branch => l.length ≤ maxLen ∧ ∀ x ∈ l, Branch.fine x) x.lowers
def Way.fine (x : Way) : Prop := (fun n : Int => IntKind.i64.min ≤ n ∧ n ≤ IntKind.i64.max) x.ino ∧ (fun n : Int => IntKind.i64.min ≤ n ∧ n ≤ IntKind.i64.max) x.up ∧ (fun s : ByteArray => s.size ≤ maxLen) x.name
theorem rd_52 : Rd Try.prog 52 3 (fun x : Way => AV.cells (encWay x)) Way.fine := by
  intro H enc w base spare held fuel cs r hr
  have hlen : cs.length = 3 := (agg_len fieldOf_52_0 hr).trans (by kernel_rfl)
  obtain ⟨x0, a0, b0, c0⟩ := rd_part (j := 0) (off := 0) (n := 1) (fieldOf_52_0) (by kernel_rfl) rd_3 hr
  obtain ⟨x1, a1, b1, c1⟩ := rd_part (j := 1) (off := 1) (n := 1) (fieldOf_52_1) (by kernel_rfl) rd_3 hr
  obtain ⟨x2, a2, b2, c2⟩ := rd_part (j := 2) (off := 2) (n := 1) (fieldOf_52_2) (by kernel_rfl) rd_9 hr
  exact ⟨⟨x0, x1, x2⟩, parts_app (off := 0) (n := 1) a0 (parts_app (off := 1) (n := 1) a1 (parts_app (off := 2) (n := 1) a2 (parts_end hlen))), parts_one (E := Ew w) (off := 0) (n := 1) b0 (parts_one (E := Ew w) (off := 1) (n := 1) b1 (parts_one (E := Ew w) (off := 2) (n := 1) b2 (ones_end hlen))), hlen, ⟨c0, c1, c2⟩⟩
def rd_49 := rd_slice (P := Try.prog) (T := 49) (e := 52) (n := 3) (L := Way) (g := encWay) (agg := true) (by kernel_rfl) (by kernel_rfl) (by decide) rd_52 (fun _ => rfl)
end Go.Proofs.Ytnmljicimdhpmaa.AL

