/- A law of the given program is proved: part 28 of 50. -/
import Derived.Test.YtapdjibjnfeipaaGreatDoorC27
set_option linter.all false
/- Readers of this seat's types, printed by linkgen.py. -/
set_option linter.all false
set_option maxRecDepth 100000
namespace Go.Proofs.YtapdjibjnfeipaaGreatDoor.AL
open Go Go.Proofs
def rd_3 := rd_int (P := Tryz.prog) (T := 3) (k := .i64) (by kernel_rfl)
def Geo.fine (x : Geo) : Prop := (fun n : Int => IntKind.i64.min ≤ n ∧ n ≤ IntKind.i64.max) x.lowers ∧ (fun n : Int => IntKind.i64.min ≤ n ∧ n ≤ IntKind.i64.max) x.inodes ∧ (fun n : Int => IntKind.i64.min ≤ n ∧ n ≤ IntKind.i64.max) x.blocks ∧ (fun n : Int => IntKind.i64.min ≤ n ∧ n ≤ IntKind.i64.max) x.log
theorem rd_23 : Rd Tryz.prog 23 4 (fun x : Geo => AV.cells (encGeo x)) Geo.fine := by
  intro H enc w base spare held fuel cs r hr
  have hlen : cs.length = 4 := (agg_len fieldOf_23_0 hr).trans (by kernel_rfl)
  obtain ⟨x0, a0, b0, c0⟩ := rd_part (j := 0) (off := 0) (n := 1) (fieldOf_23_0) (by kernel_rfl) rd_3 hr
  obtain ⟨x1, a1, b1, c1⟩ := rd_part (j := 1) (off := 1) (n := 1) (fieldOf_23_1) (by kernel_rfl) rd_3 hr
  obtain ⟨x2, a2, b2, c2⟩ := rd_part (j := 2) (off := 2) (n := 1) (fieldOf_23_2) (by kernel_rfl) rd_3 hr
  obtain ⟨x3, a3, b3, c3⟩ := rd_part (j := 3) (off := 3) (n := 1) (fieldOf_23_3) (by kernel_rfl) rd_3 hr
  exact ⟨⟨x0, x1, x2, x3⟩, parts_app (off := 0) (n := 1) a0 (parts_app (off := 1) (n := 1) a1 (parts_app (off := 2) (n := 1) a2 (parts_app (off := 3) (n := 1) a3 (parts_end hlen)))), parts_one (E := Ew w) (off := 0) (n := 1) b0 (parts_one (E := Ew w) (off := 1) (n := 1) b1 (parts_one (E := Ew w) (off := 2) (n := 1) b2 (parts_one (E := Ew w) (off := 3) (n := 1) b3 (ones_end hlen)))), hlen, ⟨c0, c1, c2, c3⟩⟩
def rd_61e := rd_u8 (P := Tryz.prog) (T := 5) (by kernel_rfl)
def rd_61 := rd_slice (P := Tryz.prog) (T := 61) (e := 5) (n := 1) (g := u8) (agg := false) (by kernel_rfl) (by kernel_rfl) (by decide) rd_61e (fun _ => rfl)
def rd_9 := rd_str (P := Tryz.prog) (T := 9) (by kernel_rfl)
def Entry.fine (x : Entry) : Prop := (fun n : Int => IntKind.i64.min ≤ n ∧ n ≤ IntKind.i64.max) x.slot ∧ (fun n : Int => IntKind.i64.min ≤ n ∧ n ≤ IntKind.i64.max) x.ino ∧ (fun s : ByteArray => s.size ≤ maxLen) x.name
theorem rd_55 : Rd Tryz.prog 55 3 (fun x : Entry => AV.cells (encEntry x)) Entry.fine := by
  intro H enc w base spare held fuel cs r hr
  have hlen : cs.length = 3 := (agg_len fieldOf_55_0 hr).trans (by kernel_rfl)
  obtain ⟨x0, a0, b0, c0⟩ := rd_part (j := 0) (off := 0) (n := 1) (fieldOf_55_0) (by kernel_rfl) rd_3 hr
  obtain ⟨x1, a1, b1, c1⟩ := rd_part (j := 1) (off := 1) (n := 1) (fieldOf_55_1) (by kernel_rfl) rd_3 hr
  obtain ⟨x2, a2, b2, c2⟩ := rd_part (j := 2) (off := 2) (n := 1) (fieldOf_55_2) (by kernel_rfl) rd_9 hr
  exact ⟨⟨x0, x1, x2⟩, parts_app (off := 0) (n := 1) a0 (parts_app (off := 1) (n := 1) a1 (parts_app (off := 2) (n := 1) a2 (parts_end hlen))), parts_one (E := Ew w) (off := 0) (n := 1) b0 (parts_one (E := Ew w) (off := 1) (n := 1) b1 (parts_one (E := Ew w) (off := 2) (n := 1) b2 (ones_end hlen))), hlen, ⟨c0, c1, c2⟩⟩
def rd_62 := rd_slice (P := Tryz.prog) (T := 62) (e := 55) (n := 3) (L := Entry) (g := encEntry) (agg := true) (by kernel_rfl) (by kernel_rfl) (by decide) rd_55 (fun _ => rfl)
def Origin.fine (x : Origin) : Prop := (fun n : Int => IntKind.i64.min ≤ n ∧ n ≤ IntKind.i64.max) x.layer ∧ (fun n : Int => IntKind.i64.min ≤ n ∧ n ≤ IntKind.i64.max) x.ino ∧ (fun n : Int => IntKind.i64.min ≤ n ∧ n ≤ IntKind.i64.max) x.gen
theorem rd_64 : Rd Tryz.prog 64 3 (fun x : Origin => AV.cells (encOrigin x)) Origin.fine := by
  intro H enc w base spare held fuel cs r hr
  have hlen : cs.length = 3 := (agg_len fieldOf_64_0 hr).trans (by kernel_rfl)
  obtain ⟨x0, a0, b0, c0⟩ := rd_part (j := 0) (off := 0) (n := 1) (fieldOf_64_0) (by kernel_rfl) rd_3 hr
  obtain ⟨x1, a1, b1, c1⟩ := rd_part (j := 1) (off := 1) (n := 1) (fieldOf_64_1) (by kernel_rfl) rd_3 hr
  obtain ⟨x2, a2, b2, c2⟩ := rd_part (j := 2) (off := 2) (n := 1) (fieldOf_64_2) (by kernel_rfl) rd_3 hr
  exact ⟨⟨x0, x1, x2⟩, parts_app (off := 0) (n := 1) a0 (parts_app (off := 1) (n := 1) a1 (parts_app (off := 2) (n := 1) a2 (parts_end hlen))), parts_one (E := Ew w) (off := 0) (n := 1) b0 (parts_one (E := Ew w) (off := 1) (n := 1) b1 (parts_one (E := Ew w) (off := 2) (n := 1) b2 (ones_end hlen))), hlen, ⟨c0, c1, c2⟩⟩
def Attr.fine (x : Attr) : Prop := (fun n : Int => IntKind.i64.min ≤ n ∧ n ≤ IntKind.i64.max) x.has ∧ (fun n : Int => IntKind.i64.min ≤ n ∧ n ≤ IntKind.i64.max) x.opaque0 ∧ (fun s : ByteArray => s.size ≤ maxLen) x.redirect ∧ Origin.fine x.origin ∧ (fun n : Int => IntKind.i64.min ≤ n ∧ n ≤ IntKind.i64.max) x.shown
theorem rd_66 : Rd Tryz.prog 66 7 (fun x : Attr => AV.cells (encAttr x)) Attr.fine := by
  intro H enc w base spare held fuel cs r hr
  have hlen : cs.length = 7 := (agg_len fieldOf_66_0 hr).trans (by kernel_rfl)
  obtain ⟨x0, a0, b0, c0⟩ := rd_part (j := 0) (off := 0) (n := 1) (fieldOf_66_0) (by kernel_rfl) rd_3 hr
  obtain ⟨x1, a1, b1, c1⟩ := rd_part (j := 1) (off := 1) (n := 1) (fieldOf_66_1) (by kernel_rfl) rd_3 hr
  obtain ⟨x2, a2, b2, c2⟩ := rd_part (j := 2) (off := 2) (n := 1) (fieldOf_66_2) (by kernel_rfl) rd_9 hr
  obtain ⟨x3, a3, b3, c3⟩ := rd_part (j := 3) (off := 3) (n := 3) (fieldOf_66_3) (by kernel_rfl) rd_64 hr
  obtain ⟨x4, a4, b4, c4⟩ := rd_part (j := 4) (off := 6) (n := 1) (fieldOf_66_4) (by kernel_rfl) rd_3 hr
  exact ⟨⟨x0, x1, x2, x3, x4⟩, parts_app (off := 0) (n := 1) a0 (parts_app (off := 1) (n := 1) a1 (parts_app (off := 2) (n := 1) a2 (parts_app (off := 3) (n := 3) a3 (parts_app (off := 6) (n := 1) a4 (parts_end hlen))))), parts_one (E := Ew w) (off := 0) (n := 1) b0 (parts_one (E := Ew w) (off := 1) (n := 1) b1 (parts_one (E := Ew w) (off := 2) (n := 1) b2 (parts_one (E := Ew w) (off := 3) (n := 3) b3 (parts_one (E := Ew w) (off := 6) (n := 1) b4 (ones_end hlen))))), hlen, ⟨c0, c1, c2, c3, c4⟩⟩
def Node.fine (x : Node) : Prop := (fun n : Int => IntKind.i64.min ≤ n ∧ n ≤ IntKind.i64.max) x.kind ∧ (fun n : Int => IntKind.i64.min ≤ n ∧ n ≤ IntKind.i64.max) x.impure ∧ (fun n : Int => IntKind.i64.min ≤ n ∧ n ≤ IntKind.i64.max) x.nlink ∧ (fun n : Int => IntKind.i64.min ≤ n ∧ n ≤ IntKind.i64.max) x.gen ∧ (fun l : List UInt8 => l.length ≤ maxLen ∧ ∀ x ∈ l, True) x.data ∧ (fun l : List Entry => l.length ≤ maxLen ∧ ∀ x ∈ l, Entry.fine x) x.entries ∧ Attr.fine x.attr
theorem rd_68 : Rd Tryz.prog 68 13 (fun x : Node => AV.cells (encNode x)) Node.fine := by
  intro H enc w base spare held fuel cs r hr
  have hlen : cs.length = 13 := (agg_len fieldOf_68_0 hr).trans (by kernel_rfl)
  obtain ⟨x0, a0, b0, c0⟩ := rd_part (j := 0) (off := 0) (n := 1) (fieldOf_68_0) (by kernel_rfl) rd_3 hr
  obtain ⟨x1, a1, b1, c1⟩ := rd_part (j := 1) (off := 1) (n := 1) (fieldOf_68_1) (by kernel_rfl) rd_3 hr
  obtain ⟨x2, a2, b2, c2⟩ := rd_part (j := 2) (off := 2) (n := 1) (fieldOf_68_2) (by kernel_rfl) rd_3 hr
  obtain ⟨x3, a3, b3, c3⟩ := rd_part (j := 3) (off := 3) (n := 1) (fieldOf_68_3) (by kernel_rfl) rd_3 hr
  obtain ⟨x4, a4, b4, c4⟩ := rd_part (j := 4) (off := 4) (n := 1) (fieldOf_68_4) (by kernel_rfl) rd_61 hr
  obtain ⟨x5, a5, b5, c5⟩ := rd_part (j := 5) (off := 5) (n := 1) (fieldOf_68_5) (by kernel_rfl) rd_62 hr
  obtain ⟨x6, a6, b6, c6⟩ := rd_part (j := 6) (off := 6) (n := 7) (fieldOf_68_6) (by kernel_rfl) rd_66 hr
  exact ⟨⟨x0, x1, x2, x3, x4, x5, x6⟩, parts_app (off := 0) (n := 1) a0 (parts_app (off := 1) (n := 1) a1 (parts_app (off := 2) (n := 1) a2 (parts_app (off := 3) (n := 1) a3 (parts_app (off := 4) (n := 1) a4 (parts_app (off := 5) (n := 1) a5 (parts_app (off := 6) (n := 7) a6 (parts_end hlen))))))), parts_one (E := Ew w) (off := 0) (n := 1) b0 (parts_one (E := Ew w) (off := 1) (n := 1) b1 (parts_one (E := Ew w) (off := 2) (n := 1) b2 (parts_one (E := Ew w) (off := 3) (n := 1) b3 (parts_one (E := Ew w) (off := 4) (n := 1) b4 (parts_one (E := Ew w) (off := 5) (n := 1) b5 (parts_one (E := Ew w) (off := 6) (n := 7) b6 (ones_end hlen))))))), hlen, ⟨c0, c1, c2, c3, c4, c5, c6⟩⟩
def rd_24 := rd_slice (P := Tryz.prog) (T := 24) (e := 68) (n := 13) (L := Node) (g := encNode) (agg := true) (by kernel_rfl) (by kernel_rfl) (by decide) rd_68 (fun _ => rfl)
def Branch.fine (x : Branch) : Prop := (fun l : List Node => l.length ≤ maxLen ∧ ∀ x ∈ l, Node.fine x) x.nodes
theorem rd_26 : Rd Tryz.prog 26 1 (fun x : Branch => AV.cells (encBranch x)) Branch.fine := by
  intro H enc w base spare held fuel cs r hr
  have hlen : cs.length = 1 := (agg_len fieldOf_26_0 hr).trans (by kernel_rfl)
  obtain ⟨x0, a0, b0, c0⟩ := rd_part (j := 0) (off := 0) (n := 1) (fieldOf_26_0) (by kernel_rfl) rd_24 hr
  exact ⟨⟨x0⟩, parts_app (off := 0) (n := 1) a0 (parts_end hlen), parts_one (E := Ew w) (off := 0) (n := 1) b0 (ones_end hlen), hlen, c0⟩
def rd_27 := rd_slice (P := Tryz.prog) (T := 27) (e := 26) (n := 1) (L := Branch) (g := encBranch) (agg := true) (by kernel_rfl) (by kernel_rfl) (by decide) rd_26 (fun _ => rfl)
def Stack.fine (x : Stack) : Prop := Geo.fine x.geo ∧ Branch.fine x.upper ∧ (fun l : List Branch => l.length ≤ maxLen ∧ ∀ x ∈ l, Branch.fine x) x.lowers
theorem rd_29 : Rd Tryz.prog 29 6 (fun x : Stack => AV.cells (encStack x)) Stack.fine := by
  intro H enc w base spare held fuel cs r hr
  have hlen : cs.length = 6 := (agg_len fieldOf_29_0 hr).trans (by kernel_rfl)
  obtain ⟨x0, a0, b0, c0⟩ := rd_part (j := 0) (off := 0) (n := 4) (fieldOf_29_0) (by kernel_rfl) rd_23 hr
  obtain ⟨x1, a1, b1, c1⟩ := rd_part (j := 1) (off := 4) (n := 1) (fieldOf_29_1) (by kernel_rfl) rd_26 hr
  obtain ⟨x2, a2, b2, c2⟩ := rd_part (j := 2) (off := 5) (n := 1) (fieldOf_29_2) (by kernel_rfl) rd_27 hr
  exact ⟨⟨x0, x1, x2⟩, parts_app (off := 0) (n := 4) a0 (parts_app (off := 4) (n := 1) a1 (parts_app (off := 5) (n := 1) a2 (parts_end hlen))), parts_one (E := Ew w) (off := 0) (n := 4) b0 (parts_one (E := Ew w) (off := 4) (n := 1) b1 (parts_one (E := Ew w) (off := 5) (n := 1) b2 (ones_end hlen))), hlen, ⟨c0, c1, c2⟩⟩
def Place.fine (x : Place) : Prop := (fun n : Int => IntKind.i64.min ≤ n ∧ n ≤ IntKind.i64.max) x.layer ∧ (fun n : Int => IntKind.i64.min ≤ n ∧ n ≤ IntKind.i64.max) x.ino
theorem rd_45 : Rd Tryz.prog 45 2 (fun x : Place => AV.cells (encPlace x)) Place.fine := by
  intro H enc w base spare held fuel cs r hr
  have hlen : cs.length = 2 := (agg_len fieldOf_45_0 hr).trans (by kernel_rfl)
  obtain ⟨x0, a0, b0, c0⟩ := rd_part (j := 0) (off := 0) (n := 1) (fieldOf_45_0) (by kernel_rfl) rd_3 hr
  obtain ⟨x1, a1, b1, c1⟩ := rd_part (j := 1) (off := 1) (n := 1) (fieldOf_45_1) (by kernel_rfl) rd_3 hr
  exact ⟨⟨x0, x1⟩, parts_app (off := 0) (n := 1) a0 (parts_app (off := 1) (n := 1) a1 (parts_end hlen)), parts_one (E := Ew w) (off := 0) (n := 1) b0 (parts_one (E := Ew w) (off := 1) (n := 1) b1 (ones_end hlen)), hlen, ⟨c0, c1⟩⟩
def rd_30 := rd_slice (P := Tryz.prog) (T := 30) (e := 45) (n := 2) (L := Place) (g := encPlace) (agg := true) (by kernel_rfl) (by kernel_rfl) (by decide) rd_45 (fun _ => rfl)
def View.fine (x : View) : Prop := (fun n : Int => IntKind.i64.min ≤ n ∧ n ≤ IntKind.i64.max) x.upper ∧ (fun l : List Place => l.length ≤ maxLen ∧ ∀ x ∈ l, Place.fine x) x.lower
theorem rd_32 : Rd Tryz.prog 32 2 (fun x : View => AV.cells (encView x)) View.fine := by
  intro H enc w base spare held fuel cs r hr
  have hlen : cs.length = 2 := (agg_len fieldOf_32_0 hr).trans (by kernel_rfl)
  obtain ⟨x0, a0, b0, c0⟩ := rd_part (j := 0) (off := 0) (n := 1) (fieldOf_32_0) (by kernel_rfl) rd_3 hr
  obtain ⟨x1, a1, b1, c1⟩ := rd_part (j := 1) (off := 1) (n := 1) (fieldOf_32_1) (by kernel_rfl) rd_30 hr
  exact ⟨⟨x0, x1⟩, parts_app (off := 0) (n := 1) a0 (parts_app (off := 1) (n := 1) a1 (parts_end hlen)), parts_one (E := Ew w) (off := 0) (n := 1) b0 (parts_one (E := Ew w) (off := 1) (n := 1) b1 (ones_end hlen)), hlen, ⟨c0, c1⟩⟩
end Go.Proofs.YtapdjibjnfeipaaGreatDoor.AL

