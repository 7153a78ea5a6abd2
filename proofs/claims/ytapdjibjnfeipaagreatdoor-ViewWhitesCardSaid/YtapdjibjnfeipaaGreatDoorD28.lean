/- A law of the given program is proved: part 28 of 51. -/
import Derived.Test.YtapdjibjnfeipaaGreatDoorD27
set_option linter.all false
/- Readers of this seat's types, printed by linkgen.py. -/
set_option linter.all false
set_option maxRecDepth 100000
namespace Go.Proofs.YtapdjibjnfeipaaGreatDoor.AL
open Go Go.Proofs
def rd_3 := rd_int (P := Tryz.prog) (T := 3) (k := .i64) (by kernel_rfl)
def Geo.fine (x : Geo) : Prop := (fun n : Int => IntKind.i64.min ≤ n ∧ n ≤ IntKind.i64.max) x.lowers ∧ (fun n : Int => IntKind.i64.min ≤ n ∧ n ≤ IntKind.i64.max) x.inodes ∧ (fun n : Int => IntKind.i64.min ≤ n ∧ n ≤ IntKind.i64.max) x.blocks ∧ (fun n : Int => IntKind.i64.min ≤ n ∧ n ≤ IntKind.i64.max) x.log
theorem rd_23 : Rd Tryz.prog 23 4 (fun x : Geo => AV.cells (encGeo x)) Geo.fine := by
  intro H enc w base spare held fuel cs r hr
  have hlen : cs.length = 4 := (xyj x3q hr).trans (by kernel_rfl)
  obtain ⟨x0, a0, b0, c0⟩ := xsb (j := 0) (off := 0) (n := 1) (x3q) (by kernel_rfl) rd_3 hr
  obtain ⟨x1, a1, b1, c1⟩ := xsb (j := 1) (off := 1) (n := 1) (xax) (by kernel_rfl) rd_3 hr
  obtain ⟨x2, a2, b2, c2⟩ := xsb (j := 2) (off := 2) (n := 1) (xty) (by kernel_rfl) rd_3 hr
  obtain ⟨x3, a3, b3, c3⟩ := xsb (j := 3) (off := 3) (n := 1) (xsx) (by kernel_rfl) rd_3 hr
  exact ⟨⟨x0, x1, x2, x3⟩, xgb (off := 0) (n := 1) a0 (xgb (off := 1) (n := 1) a1 (xgb (off := 2) (n := 1) a2 (xgb (off := 3) (n := 1) a3 (xeg hlen)))), xhb (E := Ew w) (off := 0) (n := 1) b0 (xhb (E := Ew w) (off := 1) (n := 1) b1 (xhb (E := Ew w) (off := 2) (n := 1) b2 (xhb (E := Ew w) (off := 3) (n := 1) b3 (x0h hlen)))), hlen, ⟨c0, c1, c2, c3⟩⟩
def rd_61e := rd_u8 (P := Tryz.prog) (T := 5) (by kernel_rfl)
def rd_61 := xgp (P := Tryz.prog) (T := 61) (e := 5) (n := 1) (g := u8) (agg := false) (by kernel_rfl) (by kernel_rfl) (by decide) rd_61e (fun _ => rfl)
def rd_9 := rd_str (P := Tryz.prog) (T := 9) (by kernel_rfl)
def Entry.fine (x : Entry) : Prop := (fun n : Int => IntKind.i64.min ≤ n ∧ n ≤ IntKind.i64.max) x.slot ∧ (fun n : Int => IntKind.i64.min ≤ n ∧ n ≤ IntKind.i64.max) x.ino ∧ (fun s : ByteArray => s.size ≤ maxLen) x.name
theorem rd_55 : Rd Tryz.prog 55 3 (fun x : Entry => AV.cells (xr x)) Entry.fine := by
  intro H enc w base spare held fuel cs r hr
  have hlen : cs.length = 3 := (xyj x1i hr).trans (by kernel_rfl)
  obtain ⟨x0, a0, b0, c0⟩ := xsb (j := 0) (off := 0) (n := 1) (x1i) (by kernel_rfl) rd_3 hr
  obtain ⟨x1, a1, b1, c1⟩ := xsb (j := 1) (off := 1) (n := 1) (xbn) (by kernel_rfl) rd_3 hr
  obtain ⟨x2, a2, b2, c2⟩ := xsb (j := 2) (off := 2) (n := 1) (xum) (by kernel_rfl) rd_9 hr
  exact ⟨⟨x0, x1, x2⟩, xgb (off := 0) (n := 1) a0 (xgb (off := 1) (n := 1) a1 (xgb (off := 2) (n := 1) a2 (xeg hlen))), xhb (E := Ew w) (off := 0) (n := 1) b0 (xhb (E := Ew w) (off := 1) (n := 1) b1 (xhb (E := Ew w) (off := 2) (n := 1) b2 (x0h hlen))), hlen, ⟨c0, c1, c2⟩⟩
def rd_62 := xgp (P := Tryz.prog) (T := 62) (e := 55) (n := 3) (L := Entry) (g := xr) (agg := true) (by kernel_rfl) (by kernel_rfl) (by decide) rd_55 (fun _ => rfl)
def Origin.fine (x : Origin) : Prop := (fun n : Int => IntKind.i64.min ≤ n ∧ n ≤ IntKind.i64.max) x.layer ∧ (fun n : Int => IntKind.i64.min ≤ n ∧ n ≤ IntKind.i64.max) x.ino ∧ (fun n : Int => IntKind.i64.min ≤ n ∧ n ≤ IntKind.i64.max) x.gen
theorem rd_64 : Rd Tryz.prog 64 3 (fun x : Origin => AV.cells (x9k x)) Origin.fine := by
  intro H enc w base spare held fuel cs r hr
  have hlen : cs.length = 3 := (xyj xyq hr).trans (by kernel_rfl)
  obtain ⟨x0, a0, b0, c0⟩ := xsb (j := 0) (off := 0) (n := 1) (xyq) (by kernel_rfl) rd_3 hr
  obtain ⟨x1, a1, b1, c1⟩ := xsb (j := 1) (off := 1) (n := 1) (xoy) (by kernel_rfl) rd_3 hr
  obtain ⟨x2, a2, b2, c2⟩ := xsb (j := 2) (off := 2) (n := 1) (x7x) (by kernel_rfl) rd_3 hr
  exact ⟨⟨x0, x1, x2⟩, xgb (off := 0) (n := 1) a0 (xgb (off := 1) (n := 1) a1 (xgb (off := 2) (n := 1) a2 (xeg hlen))), xhb (E := Ew w) (off := 0) (n := 1) b0 (xhb (E := Ew w) (off := 1) (n := 1) b1 (xhb (E := Ew w) (off := 2) (n := 1) b2 (x0h hlen))), hlen, ⟨c0, c1, c2⟩⟩
def Attr.fine (x : Attr) : Prop := (fun n : Int => IntKind.i64.min ≤ n ∧ n ≤ IntKind.i64.max) x.has ∧ (fun n : Int => IntKind.i64.min ≤ n ∧ n ≤ IntKind.i64.max) x.opaque0 ∧ (fun s : ByteArray => s.size ≤ maxLen) x.redirect ∧ Origin.fine x.origin ∧ (fun n : Int => IntKind.i64.min ≤ n ∧ n ≤ IntKind.i64.max) x.shown
theorem rd_66 : Rd Tryz.prog 66 7 (fun x : Attr => AV.cells (x7h x)) Attr.fine := by
  intro H enc w base spare held fuel cs r hr
  have hlen : cs.length = 7 := (xyj x8m hr).trans (by kernel_rfl)
  obtain ⟨x0, a0, b0, c0⟩ := xsb (j := 0) (off := 0) (n := 1) (x8m) (by kernel_rfl) rd_3 hr
  obtain ⟨x1, a1, b1, c1⟩ := xsb (j := 1) (off := 1) (n := 1) (xlr) (by kernel_rfl) rd_3 hr
  obtain ⟨x2, a2, b2, c2⟩ := xsb (j := 2) (off := 2) (n := 1) (xiq) (by kernel_rfl) rd_9 hr
  obtain ⟨x3, a3, b3, c3⟩ := xsb (j := 3) (off := 3) (n := 3) (x1y) (by kernel_rfl) rd_64 hr
  obtain ⟨x4, a4, b4, c4⟩ := xsb (j := 4) (off := 6) (n := 1) (xdx) (by kernel_rfl) rd_3 hr
  exact ⟨⟨x0, x1, x2, x3, x4⟩, xgb (off := 0) (n := 1) a0 (xgb (off := 1) (n := 1) a1 (xgb (off := 2) (n := 1) a2 (xgb (off := 3) (n := 3) a3 (xgb (off := 6) (n := 1) a4 (xeg hlen))))), xhb (E := Ew w) (off := 0) (n := 1) b0 (xhb (E := Ew w) (off := 1) (n := 1) b1 (xhb (E := Ew w) (off := 2) (n := 1) b2 (xhb (E := Ew w) (off := 3) (n := 3) b3 (xhb (E := Ew w) (off := 6) (n := 1) b4 (x0h hlen))))), hlen, ⟨c0, c1, c2, c3, c4⟩⟩
def Node.fine (x : Node) : Prop := (fun n : Int => IntKind.i64.min ≤ n ∧ n ≤ IntKind.i64.max) x.kind ∧ (fun n : Int => IntKind.i64.min ≤ n ∧ n ≤ IntKind.i64.max) x.impure ∧ (fun n : Int => IntKind.i64.min ≤ n ∧ n ≤ IntKind.i64.max) x.nlink ∧ (fun n : Int => IntKind.i64.min ≤ n ∧ n ≤ IntKind.i64.max) x.gen ∧ (fun l : List UInt8 => l.length ≤ maxLen ∧ ∀ x ∈ l, True) x.data ∧ (fun l : List Entry => l.length ≤ maxLen ∧ ∀ x ∈ l, Entry.fine x) x.entries ∧ Attr.fine x.attr
theorem rd_68 : Rd Tryz.prog 68 13 (fun x : Node => AV.cells (xh x)) Node.fine := by
  intro H enc w base spare held fuel cs r hr
  have hlen : cs.length = 13 := (xyj x9f hr).trans (by kernel_rfl)
  obtain ⟨x0, a0, b0, c0⟩ := xsb (j := 0) (off := 0) (n := 1) (x9f) (by kernel_rfl) rd_3 hr
  obtain ⟨x1, a1, b1, c1⟩ := xsb (j := 1) (off := 1) (n := 1) (xpy) (by kernel_rfl) rd_3 hr
  obtain ⟨x2, a2, b2, c2⟩ := xsb (j := 2) (off := 2) (n := 1) (x4q) (by kernel_rfl) rd_3 hr
  obtain ⟨x3, a3, b3, c3⟩ := xsb (j := 3) (off := 3) (n := 1) (xay) (by kernel_rfl) rd_3 hr
  obtain ⟨x4, a4, b4, c4⟩ := xsb (j := 4) (off := 4) (n := 1) (xbq) (by kernel_rfl) rd_61 hr
  obtain ⟨x5, a5, b5, c5⟩ := xsb (j := 5) (off := 5) (n := 1) (xhj) (by kernel_rfl) rd_62 hr
  obtain ⟨x6, a6, b6, c6⟩ := xsb (j := 6) (off := 6) (n := 7) (xwq) (by kernel_rfl) rd_66 hr
  exact ⟨⟨x0, x1, x2, x3, x4, x5, x6⟩, xgb (off := 0) (n := 1) a0 (xgb (off := 1) (n := 1) a1 (xgb (off := 2) (n := 1) a2 (xgb (off := 3) (n := 1) a3 (xgb (off := 4) (n := 1) a4 (xgb (off := 5) (n := 1) a5 (xgb (off := 6) (n := 7) a6 (xeg hlen))))))), xhb (E := Ew w) (off := 0) (n := 1) b0 (xhb (E := Ew w) (off := 1) (n := 1) b1 (xhb (E := Ew w) (off := 2) (n := 1) b2 (xhb (E := Ew w) (off := 3) (n := 1) b3 (xhb (E := Ew w) (off := 4) (n := 1) b4 (xhb (E := Ew w) (off := 5) (n := 1) b5 (xhb (E := Ew w) (off := 6) (n := 7) b6 (x0h hlen))))))), hlen, ⟨c0, c1, c2, c3, c4, c5, c6⟩⟩
def rd_24 := xgp (P := Tryz.prog) (T := 24) (e := 68) (n := 13) (L := Node) (g := xh) (agg := true) (by kernel_rfl) (by kernel_rfl) (by decide) rd_68 (fun _ => rfl)
def Branch.fine (x : Branch) : Prop := (fun l : List Node => l.length ≤ maxLen ∧ ∀ x ∈ l, Node.fine x) x.nodes
theorem rd_26 : Rd Tryz.prog 26 1 (fun x : Branch => AV.cells (xk x)) Branch.fine := by
  intro H enc w base spare held fuel cs r hr
  have hlen : cs.length = 1 := (xyj xdj hr).trans (by kernel_rfl)
  obtain ⟨x0, a0, b0, c0⟩ := xsb (j := 0) (off := 0) (n := 1) (xdj) (by kernel_rfl) rd_24 hr
  exact ⟨⟨x0⟩, xgb (off := 0) (n := 1) a0 (xeg hlen), xhb (E := Ew w) (off := 0) (n := 1) b0 (x0h hlen), hlen, c0⟩
def rd_27 := xgp (P := Tryz.prog) (T := 27) (e := 26) (n := 1) (L := Branch) (g := xk) (agg := true) (by kernel_rfl) (by kernel_rfl) (by decide) rd_26 (fun _ => rfl)
def Stack.fine (x : Stack) : Prop := Geo.fine x.geo ∧ Branch.fine x.upper ∧ (fun l : List Branch => l.length ≤ maxLen ∧ ∀ x ∈ l, Branch.fine x) x.lowers
theorem rd_29 : Rd Tryz.prog 29 6 (fun x : Stack => AV.cells (xi x)) Stack.fine := by
  intro H enc w base spare held fuel cs r hr
  have hlen : cs.length = 6 := (xyj xxm hr).trans (by kernel_rfl)
  obtain ⟨x0, a0, b0, c0⟩ := xsb (j := 0) (off := 0) (n := 4) (xxm) (by kernel_rfl) rd_23 hr
  obtain ⟨x1, a1, b1, c1⟩ := xsb (j := 1) (off := 4) (n := 1) (x4m) (by kernel_rfl) rd_26 hr
  obtain ⟨x2, a2, b2, c2⟩ := xsb (j := 2) (off := 5) (n := 1) (xer) (by kernel_rfl) rd_27 hr
  exact ⟨⟨x0, x1, x2⟩, xgb (off := 0) (n := 4) a0 (xgb (off := 4) (n := 1) a1 (xgb (off := 5) (n := 1) a2 (xeg hlen))), xhb (E := Ew w) (off := 0) (n := 4) b0 (xhb (E := Ew w) (off := 4) (n := 1) b1 (xhb (E := Ew w) (off := 5) (n := 1) b2 (x0h hlen))), hlen, ⟨c0, c1, c2⟩⟩
def Place.fine (x : Place) : Prop := (fun n : Int => IntKind.i64.min ≤ n ∧ n ≤ IntKind.i64.max) x.layer ∧ (fun n : Int => IntKind.i64.min ≤ n ∧ n ≤ IntKind.i64.max) x.ino
def View.fine (x : View) : Prop := (fun n : Int => IntKind.i64.min ≤ n ∧ n ≤ IntKind.i64.max) x.upper ∧ (fun l : List Place => l.length ≤ maxLen ∧ ∀ x ∈ l, Place.fine x) x.lower
end Go.Proofs.YtapdjibjnfeipaaGreatDoor.AL

