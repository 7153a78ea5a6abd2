/- A law of the given program is proved: part 29 of 50. -/
import Derived.Test.YtefdlpandfhcgaaGreatDoorA28
set_option linter.all false
/- Readers of this seat's types, printed by linkgen.py. -/
set_option linter.all false
set_option maxRecDepth 100000
namespace Go.Proofs.YtefdlpandfhcgaaGreatDoor.AL
open Go Go.Proofs
def rd_3 := rd_int (P := Tryz.prog) (T := 3) (k := .i64) (by kernel_rfl)
def Geo.fine (x : Geo) : Prop := (fun n : Int => IntKind.i64.min ≤ n ∧ n ≤ IntKind.i64.max) x.lowers ∧ (fun n : Int => IntKind.i64.min ≤ n ∧ n ≤ IntKind.i64.max) x.inodes ∧ (fun n : Int => IntKind.i64.min ≤ n ∧ n ≤ IntKind.i64.max) x.blocks ∧ (fun n : Int => IntKind.i64.min ≤ n ∧ n ≤ IntKind.i64.max) x.log
theorem rd_23 : Rd Tryz.prog 23 4 (fun x : Geo => AV.cells (encGeo x)) Geo.fine := by
  intro H enc w base spare held fuel cs r hr
  have hlen : cs.length = 4 := (x7i xip hr).trans (by kernel_rfl)
  obtain ⟨x0, a0, b0, c0⟩ := x4b (j := 0) (off := 0) (n := 1) (xip) (by kernel_rfl) rd_3 hr
  obtain ⟨x1, a1, b1, c1⟩ := x4b (j := 1) (off := 1) (n := 1) (x4v) (by kernel_rfl) rd_3 hr
  obtain ⟨x2, a2, b2, c2⟩ := x4b (j := 2) (off := 2) (n := 1) (xbw) (by kernel_rfl) rd_3 hr
  obtain ⟨x3, a3, b3, c3⟩ := x4b (j := 3) (off := 3) (n := 1) (xfw) (by kernel_rfl) rd_3 hr
  exact ⟨⟨x0, x1, x2, x3⟩, xqb (off := 0) (n := 1) a0 (xqb (off := 1) (n := 1) a1 (xqb (off := 2) (n := 1) a2 (xqb (off := 3) (n := 1) a3 (x1g hlen)))), xpb (E := Ew w) (off := 0) (n := 1) b0 (xpb (E := Ew w) (off := 1) (n := 1) b1 (xpb (E := Ew w) (off := 2) (n := 1) b2 (xpb (E := Ew w) (off := 3) (n := 1) b3 (x2h hlen)))), hlen, ⟨c0, c1, c2, c3⟩⟩
def rd_46e := rd_u8 (P := Tryz.prog) (T := 5) (by kernel_rfl)
def rd_46 := xxm (P := Tryz.prog) (T := 46) (e := 5) (n := 1) (g := u8) (agg := false) (by kernel_rfl) (by kernel_rfl) (by decide) rd_46e (fun _ => rfl)
def rd_9 := rd_str (P := Tryz.prog) (T := 9) (by kernel_rfl)
def Entry.fine (x : Entry) : Prop := (fun n : Int => IntKind.i64.min ≤ n ∧ n ≤ IntKind.i64.max) x.slot ∧ (fun n : Int => IntKind.i64.min ≤ n ∧ n ≤ IntKind.i64.max) x.ino ∧ (fun s : ByteArray => s.size ≤ maxLen) x.name
theorem rd_31 : Rd Tryz.prog 31 3 (fun x : Entry => AV.cells (xd x)) Entry.fine := by
  intro H enc w base spare held fuel cs r hr
  have hlen : cs.length = 3 := (x7i x3g hr).trans (by kernel_rfl)
  obtain ⟨x0, a0, b0, c0⟩ := x4b (j := 0) (off := 0) (n := 1) (x3g) (by kernel_rfl) rd_3 hr
  obtain ⟨x1, a1, b1, c1⟩ := x4b (j := 1) (off := 1) (n := 1) (xsk) (by kernel_rfl) rd_3 hr
  obtain ⟨x2, a2, b2, c2⟩ := x4b (j := 2) (off := 2) (n := 1) (xbk) (by kernel_rfl) rd_9 hr
  exact ⟨⟨x0, x1, x2⟩, xqb (off := 0) (n := 1) a0 (xqb (off := 1) (n := 1) a1 (xqb (off := 2) (n := 1) a2 (x1g hlen))), xpb (E := Ew w) (off := 0) (n := 1) b0 (xpb (E := Ew w) (off := 1) (n := 1) b1 (xpb (E := Ew w) (off := 2) (n := 1) b2 (x2h hlen))), hlen, ⟨c0, c1, c2⟩⟩
def rd_45 := xxm (P := Tryz.prog) (T := 45) (e := 31) (n := 3) (L := Entry) (g := xd) (agg := true) (by kernel_rfl) (by kernel_rfl) (by decide) rd_31 (fun _ => rfl)
def Origin.fine (x : Origin) : Prop := (fun n : Int => IntKind.i64.min ≤ n ∧ n ≤ IntKind.i64.max) x.layer ∧ (fun n : Int => IntKind.i64.min ≤ n ∧ n ≤ IntKind.i64.max) x.ino ∧ (fun n : Int => IntKind.i64.min ≤ n ∧ n ≤ IntKind.i64.max) x.gen
theorem rd_48 : Rd Tryz.prog 48 3 (fun x : Origin => AV.cells (xm x)) Origin.fine := by
  intro H enc w base spare held fuel cs r hr
  have hlen : cs.length = 3 := (x7i xok hr).trans (by kernel_rfl)
  obtain ⟨x0, a0, b0, c0⟩ := x4b (j := 0) (off := 0) (n := 1) (xok) (by kernel_rfl) rd_3 hr
  obtain ⟨x1, a1, b1, c1⟩ := x4b (j := 1) (off := 1) (n := 1) (x9n) (by kernel_rfl) rd_3 hr
  obtain ⟨x2, a2, b2, c2⟩ := x4b (j := 2) (off := 2) (n := 1) (x2o) (by kernel_rfl) rd_3 hr
  exact ⟨⟨x0, x1, x2⟩, xqb (off := 0) (n := 1) a0 (xqb (off := 1) (n := 1) a1 (xqb (off := 2) (n := 1) a2 (x1g hlen))), xpb (E := Ew w) (off := 0) (n := 1) b0 (xpb (E := Ew w) (off := 1) (n := 1) b1 (xpb (E := Ew w) (off := 2) (n := 1) b2 (x2h hlen))), hlen, ⟨c0, c1, c2⟩⟩
def Attr.fine (x : Attr) : Prop := (fun n : Int => IntKind.i64.min ≤ n ∧ n ≤ IntKind.i64.max) x.has ∧ (fun n : Int => IntKind.i64.min ≤ n ∧ n ≤ IntKind.i64.max) x.opaque0 ∧ (fun s : ByteArray => s.size ≤ maxLen) x.redirect ∧ Origin.fine x.origin ∧ (fun n : Int => IntKind.i64.min ≤ n ∧ n ≤ IntKind.i64.max) x.shown
theorem rd_50 : Rd Tryz.prog 50 7 (fun x : Attr => AV.cells (xlh x)) Attr.fine := by
  intro H enc w base spare held fuel cs r hr
  have hlen : cs.length = 7 := (x7i xlk hr).trans (by kernel_rfl)
  obtain ⟨x0, a0, b0, c0⟩ := x4b (j := 0) (off := 0) (n := 1) (xlk) (by kernel_rfl) rd_3 hr
  obtain ⟨x1, a1, b1, c1⟩ := x4b (j := 1) (off := 1) (n := 1) (xmx) (by kernel_rfl) rd_3 hr
  obtain ⟨x2, a2, b2, c2⟩ := x4b (j := 2) (off := 2) (n := 1) (x8o) (by kernel_rfl) rd_9 hr
  obtain ⟨x3, a3, b3, c3⟩ := x4b (j := 3) (off := 3) (n := 3) (x7n) (by kernel_rfl) rd_48 hr
  obtain ⟨x4, a4, b4, c4⟩ := x4b (j := 4) (off := 6) (n := 1) (xpw) (by kernel_rfl) rd_3 hr
  exact ⟨⟨x0, x1, x2, x3, x4⟩, xqb (off := 0) (n := 1) a0 (xqb (off := 1) (n := 1) a1 (xqb (off := 2) (n := 1) a2 (xqb (off := 3) (n := 3) a3 (xqb (off := 6) (n := 1) a4 (x1g hlen))))), xpb (E := Ew w) (off := 0) (n := 1) b0 (xpb (E := Ew w) (off := 1) (n := 1) b1 (xpb (E := Ew w) (off := 2) (n := 1) b2 (xpb (E := Ew w) (off := 3) (n := 3) b3 (xpb (E := Ew w) (off := 6) (n := 1) b4 (x2h hlen))))), hlen, ⟨c0, c1, c2, c3, c4⟩⟩
def Node.fine (x : Node) : Prop := (fun n : Int => IntKind.i64.min ≤ n ∧ n ≤ IntKind.i64.max) x.kind ∧ (fun n : Int => IntKind.i64.min ≤ n ∧ n ≤ IntKind.i64.max) x.impure ∧ (fun n : Int => IntKind.i64.min ≤ n ∧ n ≤ IntKind.i64.max) x.nlink ∧ (fun n : Int => IntKind.i64.min ≤ n ∧ n ≤ IntKind.i64.max) x.gen ∧ (fun l : List UInt8 => l.length ≤ maxLen ∧ ∀ x ∈ l, True) x.data ∧ (fun l : List Entry => l.length ≤ maxLen ∧ ∀ x ∈ l, Entry.fine x) x.entries ∧ Attr.fine x.attr
theorem rd_52 : Rd Tryz.prog 52 13 (fun x : Node => AV.cells (xj x)) Node.fine := by
  intro H enc w base spare held fuel cs r hr
  have hlen : cs.length = 13 := (x7i xwi hr).trans (by kernel_rfl)
  obtain ⟨x0, a0, b0, c0⟩ := x4b (j := 0) (off := 0) (n := 1) (xwi) (by kernel_rfl) rd_3 hr
  obtain ⟨x1, a1, b1, c1⟩ := x4b (j := 1) (off := 1) (n := 1) (xtw) (by kernel_rfl) rd_3 hr
  obtain ⟨x2, a2, b2, c2⟩ := x4b (j := 2) (off := 2) (n := 1) (xao) (by kernel_rfl) rd_3 hr
  obtain ⟨x3, a3, b3, c3⟩ := x4b (j := 3) (off := 3) (n := 1) (xko) (by kernel_rfl) rd_3 hr
  obtain ⟨x4, a4, b4, c4⟩ := x4b (j := 4) (off := 4) (n := 1) (xap) (by kernel_rfl) rd_46 hr
  obtain ⟨x5, a5, b5, c5⟩ := x4b (j := 5) (off := 5) (n := 1) (xdk) (by kernel_rfl) rd_45 hr
  obtain ⟨x6, a6, b6, c6⟩ := x4b (j := 6) (off := 6) (n := 7) (xgo) (by kernel_rfl) rd_50 hr
  exact ⟨⟨x0, x1, x2, x3, x4, x5, x6⟩, xqb (off := 0) (n := 1) a0 (xqb (off := 1) (n := 1) a1 (xqb (off := 2) (n := 1) a2 (xqb (off := 3) (n := 1) a3 (xqb (off := 4) (n := 1) a4 (xqb (off := 5) (n := 1) a5 (xqb (off := 6) (n := 7) a6 (x1g hlen))))))), xpb (E := Ew w) (off := 0) (n := 1) b0 (xpb (E := Ew w) (off := 1) (n := 1) b1 (xpb (E := Ew w) (off := 2) (n := 1) b2 (xpb (E := Ew w) (off := 3) (n := 1) b3 (xpb (E := Ew w) (off := 4) (n := 1) b4 (xpb (E := Ew w) (off := 5) (n := 1) b5 (xpb (E := Ew w) (off := 6) (n := 7) b6 (x2h hlen))))))), hlen, ⟨c0, c1, c2, c3, c4, c5, c6⟩⟩
def rd_24 := xxm (P := Tryz.prog) (T := 24) (e := 52) (n := 13) (L := Node) (g := xj) (agg := true) (by kernel_rfl) (by kernel_rfl) (by decide) rd_52 (fun _ => rfl)
def Branch.fine (x : Branch) : Prop := (fun l : List Node => l.length ≤ maxLen ∧ ∀ x ∈ l, Node.fine x) x.nodes
theorem rd_26 : Rd Tryz.prog 26 1 (fun x : Branch => AV.cells (xp x)) Branch.fine := by
  intro H enc w base spare held fuel cs r hr
  have hlen : cs.length = 1 := (x7i xji hr).trans (by kernel_rfl)
  obtain ⟨x0, a0, b0, c0⟩ := x4b (j := 0) (off := 0) (n := 1) (xji) (by kernel_rfl) rd_24 hr
  exact ⟨⟨x0⟩, xqb (off := 0) (n := 1) a0 (x1g hlen), xpb (E := Ew w) (off := 0) (n := 1) b0 (x2h hlen), hlen, c0⟩
def rd_27 := xxm (P := Tryz.prog) (T := 27) (e := 26) (n := 1) (L := Branch) (g := xp) (agg := true) (by kernel_rfl) (by kernel_rfl) (by decide) rd_26 (fun _ => rfl)
def Stack.fine (x : Stack) : Prop := Geo.fine x.geo ∧ Branch.fine x.upper ∧ (fun l : List Branch => l.length ≤ maxLen ∧ ∀ x ∈ l, Branch.fine x) x.lowers
theorem rd_29 : Rd Tryz.prog 29 6 (fun x : Stack => AV.cells (xnb x)) Stack.fine := by
  intro H enc w base spare held fuel cs r hr
  have hlen : cs.length = 6 := (x7i xvk hr).trans (by kernel_rfl)
  obtain ⟨x0, a0, b0, c0⟩ := x4b (j := 0) (off := 0) (n := 4) (xvk) (by kernel_rfl) rd_23 hr
  obtain ⟨x1, a1, b1, c1⟩ := x4b (j := 1) (off := 4) (n := 1) (xqp) (by kernel_rfl) rd_26 hr
  obtain ⟨x2, a2, b2, c2⟩ := x4b (j := 2) (off := 5) (n := 1) (xxo) (by kernel_rfl) rd_27 hr
  exact ⟨⟨x0, x1, x2⟩, xqb (off := 0) (n := 4) a0 (xqb (off := 4) (n := 1) a1 (xqb (off := 5) (n := 1) a2 (x1g hlen))), xpb (E := Ew w) (off := 0) (n := 4) b0 (xpb (E := Ew w) (off := 4) (n := 1) b1 (xpb (E := Ew w) (off := 5) (n := 1) b2 (x2h hlen))), hlen, ⟨c0, c1, c2⟩⟩
end Go.Proofs.YtefdlpandfhcgaaGreatDoor.AL

