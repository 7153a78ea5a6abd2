/- What any node of any stack should say of copies, and which say otherwise, is what the document says: part 28 of 52. -/
import Derived.Test.YtapdjibjnfeipaaGreatDoorA27
set_option linter.all false
/- Readers of this seat's types, printed by linkgen.py. -/
set_option linter.all false
set_option maxRecDepth 100000
namespace Go.Proofs.YtapdjibjnfeipaaGreatDoor.AL
open Go Go.Proofs
def rd_3 := rd_int (P := Tryz.prog) (T := 3) (k := .i64) (by kernel_rfl)
def Geo.fine (x : Geo) : Prop := (fun n : Int => IntKind.i64.min ≤ n ∧ n ≤ IntKind.i64.max) x.lowers ∧ (fun n : Int => IntKind.i64.min ≤ n ∧ n ≤ IntKind.i64.max) x.inodes ∧ (fun n : Int => IntKind.i64.min ≤ n ∧ n ≤ IntKind.i64.max) x.blocks ∧ (fun n : Int => IntKind.i64.min ≤ n ∧ n ≤ IntKind.i64.max) x.log
theorem rd_23 : Rd Tryz.prog 23 4 (fun x : Geo => AV.cells (encGeo x)) Geo.fine := by
  intro H enc w base spare held fuel cs r hr
  have hlen : cs.length = 4 := (x8i x1t hr).trans (by kernel_rfl)
  obtain ⟨x0, a0, b0, c0⟩ := xsb (j := 0) (off := 0) (n := 1) (x1t) (by kernel_rfl) rd_3 hr
  obtain ⟨x1, a1, b1, c1⟩ := xsb (j := 1) (off := 1) (n := 1) (xs3) (by kernel_rfl) rd_3 hr
  obtain ⟨x2, a2, b2, c2⟩ := xsb (j := 2) (off := 2) (n := 1) (xl3) (by kernel_rfl) rd_3 hr
  obtain ⟨x3, a3, b3, c3⟩ := xsb (j := 3) (off := 3) (n := 1) (xv2) (by kernel_rfl) rd_3 hr
  exact ⟨⟨x0, x1, x2, x3⟩, xib (off := 0) (n := 1) a0 (xib (off := 1) (n := 1) a1 (xib (off := 2) (n := 1) a2 (xib (off := 3) (n := 1) a3 (xwf hlen)))), xhb (E := Ew w) (off := 0) (n := 1) b0 (xhb (E := Ew w) (off := 1) (n := 1) b1 (xhb (E := Ew w) (off := 2) (n := 1) b2 (xhb (E := Ew w) (off := 3) (n := 1) b3 (x2g hlen)))), hlen, ⟨c0, c1, c2, c3⟩⟩
def rd_61e := rd_u8 (P := Tryz.prog) (T := 5) (by kernel_rfl)
def rd_61 := xxo (P := Tryz.prog) (T := 61) (e := 5) (n := 1) (g := u8) (agg := false) (by kernel_rfl) (by kernel_rfl) (by decide) rd_61e (fun _ => rfl)
def rd_9 := rd_str (P := Tryz.prog) (T := 9) (by kernel_rfl)
def Entry.fine (x : Entry) : Prop := (fun n : Int => IntKind.i64.min ≤ n ∧ n ≤ IntKind.i64.max) x.slot ∧ (fun n : Int => IntKind.i64.min ≤ n ∧ n ≤ IntKind.i64.max) x.ino ∧ (fun s : ByteArray => s.size ≤ maxLen) x.name
theorem rd_55 : Rd Tryz.prog 55 3 (fun x : Entry => AV.cells (xx x)) Entry.fine := by
  intro H enc w base spare held fuel cs r hr
  have hlen : cs.length = 3 := (x8i xll hr).trans (by kernel_rfl)
  obtain ⟨x0, a0, b0, c0⟩ := xsb (j := 0) (off := 0) (n := 1) (xll) (by kernel_rfl) rd_3 hr
  obtain ⟨x1, a1, b1, c1⟩ := xsb (j := 1) (off := 1) (n := 1) (xpp) (by kernel_rfl) rd_3 hr
  obtain ⟨x2, a2, b2, c2⟩ := xsb (j := 2) (off := 2) (n := 1) (x0o) (by kernel_rfl) rd_9 hr
  exact ⟨⟨x0, x1, x2⟩, xib (off := 0) (n := 1) a0 (xib (off := 1) (n := 1) a1 (xib (off := 2) (n := 1) a2 (xwf hlen))), xhb (E := Ew w) (off := 0) (n := 1) b0 (xhb (E := Ew w) (off := 1) (n := 1) b1 (xhb (E := Ew w) (off := 2) (n := 1) b2 (x2g hlen))), hlen, ⟨c0, c1, c2⟩⟩
def rd_62 := xxo (P := Tryz.prog) (T := 62) (e := 55) (n := 3) (L := Entry) (g := xx) (agg := true) (by kernel_rfl) (by kernel_rfl) (by decide) rd_55 (fun _ => rfl)
def Origin.fine (x : Origin) : Prop := (fun n : Int => IntKind.i64.min ≤ n ∧ n ≤ IntKind.i64.max) x.layer ∧ (fun n : Int => IntKind.i64.min ≤ n ∧ n ≤ IntKind.i64.max) x.ino ∧ (fun n : Int => IntKind.i64.min ≤ n ∧ n ≤ IntKind.i64.max) x.gen
theorem rd_64 : Rd Tryz.prog 64 3 (fun x : Origin => AV.cells (xbn x)) Origin.fine := by
  intro H enc w base spare held fuel cs r hr
  have hlen : cs.length = 3 := (x8i xpu hr).trans (by kernel_rfl)
  obtain ⟨x0, a0, b0, c0⟩ := xsb (j := 0) (off := 0) (n := 1) (xpu) (by kernel_rfl) rd_3 hr
  obtain ⟨x1, a1, b1, c1⟩ := xsb (j := 1) (off := 1) (n := 1) (xq3) (by kernel_rfl) rd_3 hr
  obtain ⟨x2, a2, b2, c2⟩ := xsb (j := 2) (off := 2) (n := 1) (xz2) (by kernel_rfl) rd_3 hr
  exact ⟨⟨x0, x1, x2⟩, xib (off := 0) (n := 1) a0 (xib (off := 1) (n := 1) a1 (xib (off := 2) (n := 1) a2 (xwf hlen))), xhb (E := Ew w) (off := 0) (n := 1) b0 (xhb (E := Ew w) (off := 1) (n := 1) b1 (xhb (E := Ew w) (off := 2) (n := 1) b2 (x2g hlen))), hlen, ⟨c0, c1, c2⟩⟩
def Attr.fine (x : Attr) : Prop := (fun n : Int => IntKind.i64.min ≤ n ∧ n ≤ IntKind.i64.max) x.has ∧ (fun n : Int => IntKind.i64.min ≤ n ∧ n ≤ IntKind.i64.max) x.opaque0 ∧ (fun s : ByteArray => s.size ≤ maxLen) x.redirect ∧ Origin.fine x.origin ∧ (fun n : Int => IntKind.i64.min ≤ n ∧ n ≤ IntKind.i64.max) x.shown
theorem rd_66 : Rd Tryz.prog 66 7 (fun x : Attr => AV.cells (x5i x)) Attr.fine := by
  intro H enc w base spare held fuel cs r hr
  have hlen : cs.length = 7 := (x8i xso hr).trans (by kernel_rfl)
  obtain ⟨x0, a0, b0, c0⟩ := xsb (j := 0) (off := 0) (n := 1) (xso) (by kernel_rfl) rd_3 hr
  obtain ⟨x1, a1, b1, c1⟩ := xsb (j := 1) (off := 1) (n := 1) (x3t) (by kernel_rfl) rd_3 hr
  obtain ⟨x2, a2, b2, c2⟩ := xsb (j := 2) (off := 2) (n := 1) (x1u) (by kernel_rfl) rd_9 hr
  obtain ⟨x3, a3, b3, c3⟩ := xsb (j := 3) (off := 3) (n := 3) (xp3) (by kernel_rfl) rd_64 hr
  obtain ⟨x4, a4, b4, c4⟩ := xsb (j := 4) (off := 6) (n := 1) (xd2) (by kernel_rfl) rd_3 hr
  exact ⟨⟨x0, x1, x2, x3, x4⟩, xib (off := 0) (n := 1) a0 (xib (off := 1) (n := 1) a1 (xib (off := 2) (n := 1) a2 (xib (off := 3) (n := 3) a3 (xib (off := 6) (n := 1) a4 (xwf hlen))))), xhb (E := Ew w) (off := 0) (n := 1) b0 (xhb (E := Ew w) (off := 1) (n := 1) b1 (xhb (E := Ew w) (off := 2) (n := 1) b2 (xhb (E := Ew w) (off := 3) (n := 3) b3 (xhb (E := Ew w) (off := 6) (n := 1) b4 (x2g hlen))))), hlen, ⟨c0, c1, c2, c3, c4⟩⟩
def Node.fine (x : Node) : Prop := (fun n : Int => IntKind.i64.min ≤ n ∧ n ≤ IntKind.i64.max) x.kind ∧ (fun n : Int => IntKind.i64.min ≤ n ∧ n ≤ IntKind.i64.max) x.impure ∧ (fun n : Int => IntKind.i64.min ≤ n ∧ n ≤ IntKind.i64.max) x.nlink ∧ (fun n : Int => IntKind.i64.min ≤ n ∧ n ≤ IntKind.i64.max) x.gen ∧ (fun l : List UInt8 => l.length ≤ maxLen ∧ ∀ x ∈ l, True) x.data ∧ (fun l : List Entry => l.length ≤ maxLen ∧ ∀ x ∈ l, Entry.fine x) x.entries ∧ Attr.fine x.attr
theorem rd_68 : Rd Tryz.prog 68 13 (fun x : Node => AV.cells (xm x)) Node.fine := by
  intro H enc w base spare held fuel cs r hr
  have hlen : cs.length = 13 := (x8i x1h hr).trans (by kernel_rfl)
  obtain ⟨x0, a0, b0, c0⟩ := xsb (j := 0) (off := 0) (n := 1) (x1h) (by kernel_rfl) rd_3 hr
  obtain ⟨x1, a1, b1, c1⟩ := xsb (j := 1) (off := 1) (n := 1) (xp2) (by kernel_rfl) rd_3 hr
  obtain ⟨x2, a2, b2, c2⟩ := xsb (j := 2) (off := 2) (n := 1) (xbu) (by kernel_rfl) rd_3 hr
  obtain ⟨x3, a3, b3, c3⟩ := xsb (j := 3) (off := 3) (n := 1) (xm3) (by kernel_rfl) rd_3 hr
  obtain ⟨x4, a4, b4, c4⟩ := xsb (j := 4) (off := 4) (n := 1) (xjt) (by kernel_rfl) rd_61 hr
  obtain ⟨x5, a5, b5, c5⟩ := xsb (j := 5) (off := 5) (n := 1) (x7k) (by kernel_rfl) rd_62 hr
  obtain ⟨x6, a6, b6, c6⟩ := xsb (j := 6) (off := 6) (n := 7) (x9t) (by kernel_rfl) rd_66 hr
  exact ⟨⟨x0, x1, x2, x3, x4, x5, x6⟩, xib (off := 0) (n := 1) a0 (xib (off := 1) (n := 1) a1 (xib (off := 2) (n := 1) a2 (xib (off := 3) (n := 1) a3 (xib (off := 4) (n := 1) a4 (xib (off := 5) (n := 1) a5 (xib (off := 6) (n := 7) a6 (xwf hlen))))))), xhb (E := Ew w) (off := 0) (n := 1) b0 (xhb (E := Ew w) (off := 1) (n := 1) b1 (xhb (E := Ew w) (off := 2) (n := 1) b2 (xhb (E := Ew w) (off := 3) (n := 1) b3 (xhb (E := Ew w) (off := 4) (n := 1) b4 (xhb (E := Ew w) (off := 5) (n := 1) b5 (xhb (E := Ew w) (off := 6) (n := 7) b6 (x2g hlen))))))), hlen, ⟨c0, c1, c2, c3, c4, c5, c6⟩⟩
def rd_24 := xxo (P := Tryz.prog) (T := 24) (e := 68) (n := 13) (L := Node) (g := xm) (agg := true) (by kernel_rfl) (by kernel_rfl) (by decide) rd_68 (fun _ => rfl)
def Branch.fine (x : Branch) : Prop := (fun l : List Node => l.length ≤ maxLen ∧ ∀ x ∈ l, Node.fine x) x.nodes
theorem rd_26 : Rd Tryz.prog 26 1 (fun x : Branch => AV.cells (xp x)) Branch.fine := by
  intro H enc w base spare held fuel cs r hr
  have hlen : cs.length = 1 := (x8i xol hr).trans (by kernel_rfl)
  obtain ⟨x0, a0, b0, c0⟩ := xsb (j := 0) (off := 0) (n := 1) (xol) (by kernel_rfl) rd_24 hr
  exact ⟨⟨x0⟩, xib (off := 0) (n := 1) a0 (xwf hlen), xhb (E := Ew w) (off := 0) (n := 1) b0 (x2g hlen), hlen, c0⟩
def rd_27 := xxo (P := Tryz.prog) (T := 27) (e := 26) (n := 1) (L := Branch) (g := xp) (agg := true) (by kernel_rfl) (by kernel_rfl) (by decide) rd_26 (fun _ => rfl)
def Stack.fine (x : Stack) : Prop := Geo.fine x.geo ∧ Branch.fine x.upper ∧ (fun l : List Branch => l.length ≤ maxLen ∧ ∀ x ∈ l, Branch.fine x) x.lowers
theorem rd_29 : Rd Tryz.prog 29 6 (fun x : Stack => AV.cells (xe x)) Stack.fine := by
  intro H enc w base spare held fuel cs r hr
  have hlen : cs.length = 6 := (x8i xhl hr).trans (by kernel_rfl)
  obtain ⟨x0, a0, b0, c0⟩ := xsb (j := 0) (off := 0) (n := 4) (xhl) (by kernel_rfl) rd_23 hr
  obtain ⟨x1, a1, b1, c1⟩ := xsb (j := 1) (off := 4) (n := 1) (xav) (by kernel_rfl) rd_26 hr
  obtain ⟨x2, a2, b2, c2⟩ := xsb (j := 2) (off := 5) (n := 1) (x9u) (by kernel_rfl) rd_27 hr
  exact ⟨⟨x0, x1, x2⟩, xib (off := 0) (n := 4) a0 (xib (off := 4) (n := 1) a1 (xib (off := 5) (n := 1) a2 (xwf hlen))), xhb (E := Ew w) (off := 0) (n := 4) b0 (xhb (E := Ew w) (off := 4) (n := 1) b1 (xhb (E := Ew w) (off := 5) (n := 1) b2 (x2g hlen))), hlen, ⟨c0, c1, c2⟩⟩
def Place.fine (x : Place) : Prop := (fun n : Int => IntKind.i64.min ≤ n ∧ n ≤ IntKind.i64.max) x.layer ∧ (fun n : Int => IntKind.i64.min ≤ n ∧ n ≤ IntKind.i64.max) x.ino
theorem rd_45 : Rd Tryz.prog 45 2 (fun x : Place => AV.cells (xb x)) Place.fine := by
  intro H enc w base spare held fuel cs r hr
  have hlen : cs.length = 2 := (x8i xvo hr).trans (by kernel_rfl)
  obtain ⟨x0, a0, b0, c0⟩ := xsb (j := 0) (off := 0) (n := 1) (xvo) (by kernel_rfl) rd_3 hr
  obtain ⟨x1, a1, b1, c1⟩ := xsb (j := 1) (off := 1) (n := 1) (xau) (by kernel_rfl) rd_3 hr
  exact ⟨⟨x0, x1⟩, xib (off := 0) (n := 1) a0 (xib (off := 1) (n := 1) a1 (xwf hlen)), xhb (E := Ew w) (off := 0) (n := 1) b0 (xhb (E := Ew w) (off := 1) (n := 1) b1 (x2g hlen)), hlen, ⟨c0, c1⟩⟩
def rd_30 := xxo (P := Tryz.prog) (T := 30) (e := 45) (n := 2) (L := Place) (g := xb) (agg := true) (by kernel_rfl) (by kernel_rfl) (by decide) rd_45 (fun _ => rfl)
def View.fine (x : View) : Prop := (fun n : Int => IntKind.i64.min ≤ n ∧ n ≤ IntKind.i64.max) x.upper ∧ (fun l : List Place => l.length ≤ maxLen ∧ ∀ x ∈ l, Place.fine x) x.lower
theorem rd_32 : Rd Tryz.prog 32 2 (fun x : View => AV.cells (xl x)) View.fine := by
  intro H enc w base spare held fuel cs r hr
  have hlen : cs.length = 2 := (x8i xfi hr).trans (by kernel_rfl)
  obtain ⟨x0, a0, b0, c0⟩ := xsb (j := 0) (off := 0) (n := 1) (xfi) (by kernel_rfl) rd_3 hr
  obtain ⟨x1, a1, b1, c1⟩ := xsb (j := 1) (off := 1) (n := 1) (xbv) (by kernel_rfl) rd_30 hr
  exact ⟨⟨x0, x1⟩, xib (off := 0) (n := 1) a0 (xib (off := 1) (n := 1) a1 (xwf hlen)), xhb (E := Ew w) (off := 0) (n := 1) b0 (xhb (E := Ew w) (off := 1) (n := 1) b1 (x2g hlen)), hlen, ⟨c0, c1⟩⟩
end Go.Proofs.YtapdjibjnfeipaaGreatDoor.AL

