/- What any node of any stack should say of copies, and which say otherwise, is what the document says: part 27 of 45. -/
import Derived.Test.YtlgikchfddhocaaA26
set_option linter.all false
/- Readers of this seat's types, printed by linkgen.py. -/
set_option linter.all false
set_option maxRecDepth 100000
namespace Go.Proofs.Ytlgikchfddhocaa.AL
open Go Go.Proofs
def rd_3 := rd_int (P := Try.prog) (T := 3) (k := .i64) (by kernel_rfl)
def Geo.fine (x : Geo) : Prop := (fun n : Int => IntKind.i64.min ≤ n ∧ n ≤ IntKind.i64.max) x.lowers ∧ (fun n : Int => IntKind.i64.min ≤ n ∧ n ≤ IntKind.i64.max) x.inodes ∧ (fun n : Int => IntKind.i64.min ≤ n ∧ n ≤ IntKind.i64.max) x.blocks ∧ (fun n : Int => IntKind.i64.min ≤ n ∧ n ≤ IntKind.i64.max) x.log
theorem rd_35 : Rd Try.prog 35 4 (fun x : Geo => AV.cells (encGeo x)) Geo.fine := by
  intro H enc w base spare held fuel cs r hr
  have hlen : cs.length = 4 := (agg_len fieldOf_35_0 hr).trans (by kernel_rfl)
  obtain ⟨x0, a0, b0, c0⟩ := rd_part (j := 0) (off := 0) (n := 1) (fieldOf_35_0) (by kernel_rfl) rd_3 hr
  obtain ⟨x1, a1, b1, c1⟩ := rd_part (j := 1) (off := 1) (n := 1) (fieldOf_35_1) (by kernel_rfl) rd_3 hr
  obtain ⟨x2, a2, b2, c2⟩ := rd_part (j := 2) (off := 2) (n := 1) (fieldOf_35_2) (by kernel_rfl) rd_3 hr
  obtain ⟨x3, a3, b3, c3⟩ := rd_part (j := 3) (off := 3) (n := 1) (fieldOf_35_3) (by kernel_rfl) rd_3 hr
  exact ⟨⟨x0, x1, x2, x3⟩, parts_app (off := 0) (n := 1) a0 (parts_app (off := 1) (n := 1) a1 (parts_app (off := 2) (n := 1) a2 (parts_app (off := 3) (n := 1) a3 (parts_end hlen)))), parts_one (E := Ew w) (off := 0) (n := 1) b0 (parts_one (E := Ew w) (off := 1) (n := 1) b1 (parts_one (E := Ew w) (off := 2) (n := 1) b2 (parts_one (E := Ew w) (off := 3) (n := 1) b3 (ones_end hlen)))), hlen, ⟨c0, c1, c2, c3⟩⟩
def rd_25e := rd_u8 (P := Try.prog) (T := 5) (by kernel_rfl)
def rd_25 := rd_slice (P := Try.prog) (T := 25) (e := 5) (n := 1) (g := u8) (agg := false) (by kernel_rfl) (by kernel_rfl) (by decide) rd_25e (fun _ => rfl)
def rd_9 := rd_str (P := Try.prog) (T := 9) (by kernel_rfl)
def Entry.fine (x : Entry) : Prop := (fun n : Int => IntKind.i64.min ≤ n ∧ n ≤ IntKind.i64.max) x.slot ∧ (fun n : Int => IntKind.i64.min ≤ n ∧ n ≤ IntKind.i64.max) x.ino ∧ (fun s : ByteArray => s.size ≤ maxLen) x.name
theorem rd_83 : Rd Try.prog 83 3 (fun x : Entry => AV.cells (encEntry x)) Entry.fine := by
  intro H enc w base spare held fuel cs r hr
  have hlen : cs.length = 3 := (agg_len fieldOf_83_0 hr).trans (by kernel_rfl)
  obtain ⟨x0, a0, b0, c0⟩ := rd_part (j := 0) (off := 0) (n := 1) (fieldOf_83_0) (by kernel_rfl) rd_3 hr
  obtain ⟨x1, a1, b1, c1⟩ := rd_part (j := 1) (off := 1) (n := 1) (fieldOf_83_1) (by kernel_rfl) rd_3 hr
  obtain ⟨x2, a2, b2, c2⟩ := rd_part (j := 2) (off := 2) (n := 1) (fieldOf_83_2) (by kernel_rfl) rd_9 hr
  exact ⟨⟨x0, x1, x2⟩, parts_app (off := 0) (n := 1) a0 (parts_app (off := 1) (n := 1) a1 (parts_app (off := 2) (n := 1) a2 (parts_end hlen))), parts_one (E := Ew w) (off := 0) (n := 1) b0 (parts_one (E := Ew w) (off := 1) (n := 1) b1 (parts_one (E := Ew w) (off := 2) (n := 1) b2 (ones_end hlen))), hlen, ⟨c0, c1, c2⟩⟩
def rd_67 := rd_slice (P := Try.prog) (T := 67) (e := 83) (n := 3) (L := Entry) (g := encEntry) (agg := true) (by kernel_rfl) (by kernel_rfl) (by decide) rd_83 (fun _ => rfl)
def Origin.fine (x : Origin) : Prop := (fun n : Int => IntKind.i64.min ≤ n ∧ n ≤ IntKind.i64.max) x.layer ∧ (fun n : Int => IntKind.i64.min ≤ n ∧ n ≤ IntKind.i64.max) x.ino ∧ (fun n : Int => IntKind.i64.min ≤ n ∧ n ≤ IntKind.i64.max) x.gen
theorem rd_69 : Rd Try.prog 69 3 (fun x : Origin => AV.cells (encOrigin x)) Origin.fine := by
  intro H enc w base spare held fuel cs r hr
  have hlen : cs.length = 3 := (agg_len fieldOf_69_0 hr).trans (by kernel_rfl)
  obtain ⟨x0, a0, b0, c0⟩ := rd_part (j := 0) (off := 0) (n := 1) (fieldOf_69_0) (by kernel_rfl) rd_3 hr
  obtain ⟨x1, a1, b1, c1⟩ := rd_part (j := 1) (off := 1) (n := 1) (fieldOf_69_1) (by kernel_rfl) rd_3 hr
  obtain ⟨x2, a2, b2, c2⟩ := rd_part (j := 2) (off := 2) (n := 1) (fieldOf_69_2) (by kernel_rfl) rd_3 hr
  exact ⟨⟨x0, x1, x2⟩, parts_app (off := 0) (n := 1) a0 (parts_app (off := 1) (n := 1) a1 (parts_app (off := 2) (n := 1) a2 (parts_end hlen))), parts_one (E := Ew w) (off := 0) (n := 1) b0 (parts_one (E := Ew w) (off := 1) (n := 1) b1 (parts_one (E := Ew w) (off := 2) (n := 1) b2 (ones_end hlen))), hlen, ⟨c0, c1, c2⟩⟩
def Attr.fine (x : Attr) : Prop := (fun n : Int => IntKind.i64.min ≤ n ∧ n ≤ IntKind.i64.max) x.has ∧ (fun n : Int => IntKind.i64.min ≤ n ∧ n ≤ IntKind.i64.max) x.opaque0 ∧ (fun s : ByteArray => s.size ≤ maxLen) x.redirect ∧ Origin.fine x.origin ∧ (fun n : Int => IntKind.i64.min ≤ n ∧ n ≤ IntKind.i64.max) x.shown
theorem rd_71 : Rd Try.prog 71 7 (fun x : Attr => AV.cells (encAttr x)) Attr.fine := by
  intro H enc w base spare held fuel cs r hr
  have hlen : cs.length = 7 := (agg_len fieldOf_71_0 hr).trans (by kernel_rfl)
  obtain ⟨x0, a0, b0, c0⟩ := rd_part (j := 0) (off := 0) (n := 1) (fieldOf_71_0) (by kernel_rfl) rd_3 hr
  obtain ⟨x1, a1, b1, c1⟩ := rd_part (j := 1) (off := 1) (n := 1) (fieldOf_71_1) (by kernel_rfl) rd_3 hr
  obtain ⟨x2, a2, b2, c2⟩ := rd_part (j := 2) (off := 2) (n := 1) (fieldOf_71_2) (by kernel_rfl) rd_9 hr
  obtain ⟨x3, a3, b3, c3⟩ := rd_part (j := 3) (off := 3) (n := 3) (fieldOf_71_3) (by kernel_rfl) rd_69 hr
  obtain ⟨x4, a4, b4, c4⟩ := rd_part (j := 4) (off := 6) (n := 1) (fieldOf_71_4) (by kernel_rfl) rd_3 hr
  exact ⟨⟨x0, x1, x2, x3, x4⟩, parts_app (off := 0) (n := 1) a0 (parts_app (off := 1) (n := 1) a1 (parts_app (off := 2) (n := 1) a2 (parts_app (off := 3) (n := 3) a3 (parts_app (off := 6) (n := 1) a4 (parts_end hlen))))), parts_one (E := Ew w) (off := 0) (n := 1) b0 (parts_one (E := Ew w) (off := 1) (n := 1) b1 (parts_one (E := Ew w) (off := 2) (n := 1) b2 (parts_one (E := Ew w) (off := 3) (n := 3) b3 (parts_one (E := Ew w) (off := 6) (n := 1) b4 (ones_end hlen))))), hlen, ⟨c0, c1, c2, c3, c4⟩⟩
def Node.fine (x : Node) : Prop := (fun n : Int => IntKind.i64.min ≤ n ∧ n ≤ IntKind.i64.max) x.kind ∧ (fun n : Int => IntKind.i64.min ≤ n ∧ n ≤ IntKind.i64.max) x.impure ∧ (fun n : Int => IntKind.i64.min ≤ n ∧ n ≤ IntKind.i64.max) x.nlink ∧ (fun n : Int => IntKind.i64.min ≤ n ∧ n ≤ IntKind.i64.max) x.gen ∧ (fun l : List UInt8 => l.length ≤ maxLen ∧ ∀ x ∈ l, True) x.data ∧ (fun l : List Entry => l.length ≤ maxLen ∧ ∀ x ∈ l, Entry.fine x) x.entries ∧ Attr.fine x.attr
theorem rd_73 : Rd Try.prog 73 13 (fun x : Node => AV.cells (encNode x)) Node.fine := by
  intro H enc w base spare held fuel cs r hr
  have hlen : cs.length = 13 := (agg_len fieldOf_73_0 hr).trans (by kernel_rfl)
  obtain ⟨x0, a0, b0, c0⟩ := rd_part (j := 0) (off := 0) (n := 1) (fieldOf_73_0) (by kernel_rfl) rd_3 hr
  obtain ⟨x1, a1, b1, c1⟩ := rd_part (j := 1) (off := 1) (n := 1) (fieldOf_73_1) (by kernel_rfl) rd_3 hr
  obtain ⟨x2, a2, b2, c2⟩ := rd_part (j := 2) (off := 2) (n := 1) (fieldOf_73_2) (by kernel_rfl) rd_3 hr
  obtain ⟨x3, a3, b3, c3⟩ := rd_part (j := 3) (off := 3) (n := 1) (fieldOf_73_3) (by kernel_rfl) rd_3 hr
  obtain ⟨x4, a4, b4, c4⟩ := rd_part (j := 4) (off := 4) (n := 1) (fieldOf_73_4) (by kernel_rfl) rd_25 hr
  obtain ⟨x5, a5, b5, c5⟩ := rd_part (j := 5) (off := 5) (n := 1) (fieldOf_73_5) (by kernel_rfl) rd_67 hr
  obtain ⟨x6, a6, b6, c6⟩ := rd_part (j := 6) (off := 6) (n := 7) (fieldOf_73_6) (by kernel_rfl) rd_71 hr
  exact ⟨⟨x0, x1, x2, x3, x4, x5, x6⟩, parts_app (off := 0) (n := 1) a0 (parts_app (off := 1) (n := 1) a1 (parts_app (off := 2) (n := 1) a2 (parts_app (off := 3) (n := 1) a3 (parts_app (off := 4) (n := 1) a4 (parts_app (off := 5) (n := 1) a5 (parts_app (off := 6) (n := 7) a6 (parts_end hlen))))))), parts_one (E := Ew w) (off := 0) (n := 1) b0 (parts_one (E := Ew w) (off := 1) (n := 1) b1 (parts_one (E := Ew w) (off := 2) (n := 1) b2 (parts_one (E := Ew w) (off := 3) (n := 1) b3 (parts_one (E := Ew w) (off := 4) (n := 1) b4 (parts_one (E := Ew w) (off := 5) (n := 1) b5 (parts_one (E := Ew w) (off := 6) (n := 7) b6 (ones_end hlen))))))), hlen, ⟨c0, c1, c2, c3, c4, c5, c6⟩⟩
def rd_36 := rd_slice (P := Try.prog) (T := 36) (e := 73) (n := 13) (L := Node) (g := encNode) (agg := true) (by kernel_rfl) (by kernel_rfl) (by decide) rd_73 (fun _ => rfl)
def Branch.fine (x : Branch) : Prop := (fun l : List Node => l.length ≤ maxLen ∧ ∀ x ∈ l, Node.fine x) x.nodes
theorem rd_38 : Rd Try.prog 38 1 (fun x : Branch => AV.cells (encBranch x)) Branch.fine := by
  intro H enc w base spare held fuel cs r hr
  have hlen : cs.length = 1 := (agg_len fieldOf_38_0 hr).trans (by kernel_rfl)
  obtain ⟨x0, a0, b0, c0⟩ := rd_part (j := 0) (off := 0) (n := 1) (fieldOf_38_0) (by kernel_rfl) rd_36 hr
  exact ⟨⟨x0⟩, parts_app (off := 0) (n := 1) a0 (parts_end hlen), parts_one (E := Ew w) (off := 0) (n := 1) b0 (ones_end hlen), hlen, c0⟩
def rd_39 := rd_slice (P := Try.prog) (T := 39) (e := 38) (n := 1) (L := Branch) (g := encBranch) (agg := true) (by kernel_rfl) (by kernel_rfl) (by decide) rd_38 (fun _ => rfl)
def Stack.fine (x : Stack) : Prop := Geo.fine x.geo ∧ Branch.fine x.upper ∧ (fun l : List Branch => l.length ≤ maxLen ∧ ∀ x ∈ l, Branch.fine x) x.lowers
theorem rd_41 : Rd Try.prog 41 6 (fun x : Stack => AV.cells (encStack x)) Stack.fine := by
  intro H enc w base spare held fuel cs r hr
  have hlen : cs.length = 6 := (agg_len fieldOf_41_0 hr).trans (by kernel_rfl)
  obtain ⟨x0, a0, b0, c0⟩ := rd_part (j := 0) (off := 0) (n := 4) (fieldOf_41_0) (by kernel_rfl) rd_35 hr
  obtain ⟨x1, a1, b1, c1⟩ := rd_part (j := 1) (off := 4) (n := 1) (fieldOf_41_1) (by kernel_rfl) rd_38 hr
  obtain ⟨x2, a2, b2, c2⟩ := rd_part (j := 2) (off := 5) (n := 1) (fieldOf_41_2) (by kernel_rfl) rd_39 hr
  exact ⟨⟨x0, x1, x2⟩, parts_app (off := 0) (n := 4) a0 (parts_app (off := 4) (n := 1) a1 (parts_app (off := 5) (n := 1) a2 (parts_end hlen))), parts_one (E := Ew w) (off := 0) (n := 4) b0 (parts_one (E := Ew w) (off := 4) (n := 1) b1 (parts_one (E := Ew w) (off := 5) (n := 1) b2 (ones_end hlen))), hlen, ⟨c0, c1, c2⟩⟩
def Place.fine (x : Place) : Prop := (fun n : Int => IntKind.i64.min ≤ n ∧ n ≤ IntKind.i64.max) x.layer ∧ (fun n : Int => IntKind.i64.min ≤ n ∧ n ≤ IntKind.i64.max) x.ino
theorem rd_48 : Rd Try.prog 48 2 (fun x : Place => AV.cells (encPlace x)) Place.fine := by
  intro H enc w base spare held fuel cs r hr
  have hlen : cs.length = 2 := (agg_len fieldOf_48_0 hr).trans (by kernel_rfl)
  obtain ⟨x0, a0, b0, c0⟩ := rd_part (j := 0) (off := 0) (n := 1) (fieldOf_48_0) (by kernel_rfl) rd_3 hr
  obtain ⟨x1, a1, b1, c1⟩ := rd_part (j := 1) (off := 1) (n := 1) (fieldOf_48_1) (by kernel_rfl) rd_3 hr
  exact ⟨⟨x0, x1⟩, parts_app (off := 0) (n := 1) a0 (parts_app (off := 1) (n := 1) a1 (parts_end hlen)), parts_one (E := Ew w) (off := 0) (n := 1) b0 (parts_one (E := Ew w) (off := 1) (n := 1) b1 (ones_end hlen)), hlen, ⟨c0, c1⟩⟩
def rd_42 := rd_slice (P := Try.prog) (T := 42) (e := 48) (n := 2) (L := Place) (g := encPlace) (agg := true) (by kernel_rfl) (by kernel_rfl) (by decide) rd_48 (fun _ => rfl)
def rd_30 := rd_slice (P := Try.prog) (T := 30) (e := 9) (n := 1) (L := ByteArray) (g := str) (agg := false) (by kernel_rfl) (by kernel_rfl) (by decide) rd_9 (fun _ => rfl)
end Go.Proofs.Ytlgikchfddhocaa.AL

