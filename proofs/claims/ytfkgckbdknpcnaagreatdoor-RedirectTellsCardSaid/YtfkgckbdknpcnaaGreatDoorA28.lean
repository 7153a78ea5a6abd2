/- A law of the given program is proved: part 28 of 51. -/
import Derived.Test.YtfkgckbdknpcnaaGreatDoorA27
set_option linter.all false
/- Readers of this seat's types, printed by linkgen.py. -/
set_option linter.all false
set_option maxRecDepth 100000
namespace Go.Proofs.YtfkgckbdknpcnaaGreatDoor.AL
open Go Go.Proofs
def rd_3 := rd_int (P := Tryz.prog) (T := 3) (k := .i64) (by kernel_rfl)
def Geo.fine (x : Geo) : Prop := (fun n : Int => IntKind.i64.min ≤ n ∧ n ≤ IntKind.i64.max) x.lowers ∧ (fun n : Int => IntKind.i64.min ≤ n ∧ n ≤ IntKind.i64.max) x.inodes ∧ (fun n : Int => IntKind.i64.min ≤ n ∧ n ≤ IntKind.i64.max) x.blocks ∧ (fun n : Int => IntKind.i64.min ≤ n ∧ n ≤ IntKind.i64.max) x.log
theorem rd_23 : Rd Tryz.prog 23 4 (fun x : Geo => AV.cells (encGeo x)) Geo.fine := by
  intro H enc w base spare held fuel cs r hr
  have hlen : cs.length = 4 := (x4l xms hr).trans (by kernel_rfl)
  obtain ⟨x0, a0, b0, c0⟩ := xcc (j := 0) (off := 0) (n := 1) (xms) (by kernel_rfl) rd_3 hr
  obtain ⟨x1, a1, b1, c1⟩ := xcc (j := 1) (off := 1) (n := 1) (x02) (by kernel_rfl) rd_3 hr
  obtain ⟨x2, a2, b2, c2⟩ := xcc (j := 2) (off := 2) (n := 1) (xz4) (by kernel_rfl) rd_3 hr
  obtain ⟨x3, a3, b3, c3⟩ := xcc (j := 3) (off := 3) (n := 1) (xy2) (by kernel_rfl) rd_3 hr
  exact ⟨⟨x0, x1, x2, x3⟩, xwb (off := 0) (n := 1) a0 (xwb (off := 1) (n := 1) a1 (xwb (off := 2) (n := 1) a2 (xwb (off := 3) (n := 1) a3 (xgj hlen)))), xvb (E := Ew w) (off := 0) (n := 1) b0 (xvb (E := Ew w) (off := 1) (n := 1) b1 (xvb (E := Ew w) (off := 2) (n := 1) b2 (xvb (E := Ew w) (off := 3) (n := 1) b3 (xrk hlen)))), hlen, ⟨c0, c1, c2, c3⟩⟩
def rd_61e := rd_u8 (P := Tryz.prog) (T := 5) (by kernel_rfl)
def rd_61 := xgn (P := Tryz.prog) (T := 61) (e := 5) (n := 1) (g := u8) (agg := false) (by kernel_rfl) (by kernel_rfl) (by decide) rd_61e (fun _ => rfl)
def rd_9 := rd_str (P := Tryz.prog) (T := 9) (by kernel_rfl)
def Entry.fine (x : Entry) : Prop := (fun n : Int => IntKind.i64.min ≤ n ∧ n ≤ IntKind.i64.max) x.slot ∧ (fun n : Int => IntKind.i64.min ≤ n ∧ n ≤ IntKind.i64.max) x.ino ∧ (fun s : ByteArray => s.size ≤ maxLen) x.name
theorem rd_87 : Rd Tryz.prog 87 3 (fun x : Entry => AV.cells (xt x)) Entry.fine := by
  intro H enc w base spare held fuel cs r hr
  have hlen : cs.length = 3 := (x4l xpl hr).trans (by kernel_rfl)
  obtain ⟨x0, a0, b0, c0⟩ := xcc (j := 0) (off := 0) (n := 1) (xpl) (by kernel_rfl) rd_3 hr
  obtain ⟨x1, a1, b1, c1⟩ := xcc (j := 1) (off := 1) (n := 1) (xjn) (by kernel_rfl) rd_3 hr
  obtain ⟨x2, a2, b2, c2⟩ := xcc (j := 2) (off := 2) (n := 1) (xyn) (by kernel_rfl) rd_9 hr
  exact ⟨⟨x0, x1, x2⟩, xwb (off := 0) (n := 1) a0 (xwb (off := 1) (n := 1) a1 (xwb (off := 2) (n := 1) a2 (xgj hlen))), xvb (E := Ew w) (off := 0) (n := 1) b0 (xvb (E := Ew w) (off := 1) (n := 1) b1 (xvb (E := Ew w) (off := 2) (n := 1) b2 (xrk hlen))), hlen, ⟨c0, c1, c2⟩⟩
def rd_62 := xgn (P := Tryz.prog) (T := 62) (e := 87) (n := 3) (L := Entry) (g := xt) (agg := true) (by kernel_rfl) (by kernel_rfl) (by decide) rd_87 (fun _ => rfl)
def Origin.fine (x : Origin) : Prop := (fun n : Int => IntKind.i64.min ≤ n ∧ n ≤ IntKind.i64.max) x.layer ∧ (fun n : Int => IntKind.i64.min ≤ n ∧ n ≤ IntKind.i64.max) x.ino ∧ (fun n : Int => IntKind.i64.min ≤ n ∧ n ≤ IntKind.i64.max) x.gen
theorem rd_64 : Rd Tryz.prog 64 3 (fun x : Origin => AV.cells (xjm x)) Origin.fine := by
  intro H enc w base spare held fuel cs r hr
  have hlen : cs.length = 3 := (x4l xqs hr).trans (by kernel_rfl)
  obtain ⟨x0, a0, b0, c0⟩ := xcc (j := 0) (off := 0) (n := 1) (xqs) (by kernel_rfl) rd_3 hr
  obtain ⟨x1, a1, b1, c1⟩ := xcc (j := 1) (off := 1) (n := 1) (xm2) (by kernel_rfl) rd_3 hr
  obtain ⟨x2, a2, b2, c2⟩ := xcc (j := 2) (off := 2) (n := 1) (xs3) (by kernel_rfl) rd_3 hr
  exact ⟨⟨x0, x1, x2⟩, xwb (off := 0) (n := 1) a0 (xwb (off := 1) (n := 1) a1 (xwb (off := 2) (n := 1) a2 (xgj hlen))), xvb (E := Ew w) (off := 0) (n := 1) b0 (xvb (E := Ew w) (off := 1) (n := 1) b1 (xvb (E := Ew w) (off := 2) (n := 1) b2 (xrk hlen))), hlen, ⟨c0, c1, c2⟩⟩
def Attr.fine (x : Attr) : Prop := (fun n : Int => IntKind.i64.min ≤ n ∧ n ≤ IntKind.i64.max) x.has ∧ (fun n : Int => IntKind.i64.min ≤ n ∧ n ≤ IntKind.i64.max) x.opaque0 ∧ (fun s : ByteArray => s.size ≤ maxLen) x.redirect ∧ Origin.fine x.origin ∧ (fun n : Int => IntKind.i64.min ≤ n ∧ n ≤ IntKind.i64.max) x.shown
theorem rd_66 : Rd Tryz.prog 66 7 (fun x : Attr => AV.cells (xpi x)) Attr.fine := by
  intro H enc w base spare held fuel cs r hr
  have hlen : cs.length = 7 := (x4l x3n hr).trans (by kernel_rfl)
  obtain ⟨x0, a0, b0, c0⟩ := xcc (j := 0) (off := 0) (n := 1) (x3n) (by kernel_rfl) rd_3 hr
  obtain ⟨x1, a1, b1, c1⟩ := xcc (j := 1) (off := 1) (n := 1) (x9t) (by kernel_rfl) rd_3 hr
  obtain ⟨x2, a2, b2, c2⟩ := xcc (j := 2) (off := 2) (n := 1) (xbs) (by kernel_rfl) rd_9 hr
  obtain ⟨x3, a3, b3, c3⟩ := xcc (j := 3) (off := 3) (n := 3) (xg3) (by kernel_rfl) rd_64 hr
  obtain ⟨x4, a4, b4, c4⟩ := xcc (j := 4) (off := 6) (n := 1) (xo2) (by kernel_rfl) rd_3 hr
  exact ⟨⟨x0, x1, x2, x3, x4⟩, xwb (off := 0) (n := 1) a0 (xwb (off := 1) (n := 1) a1 (xwb (off := 2) (n := 1) a2 (xwb (off := 3) (n := 3) a3 (xwb (off := 6) (n := 1) a4 (xgj hlen))))), xvb (E := Ew w) (off := 0) (n := 1) b0 (xvb (E := Ew w) (off := 1) (n := 1) b1 (xvb (E := Ew w) (off := 2) (n := 1) b2 (xvb (E := Ew w) (off := 3) (n := 3) b3 (xvb (E := Ew w) (off := 6) (n := 1) b4 (xrk hlen))))), hlen, ⟨c0, c1, c2, c3, c4⟩⟩
def Node.fine (x : Node) : Prop := (fun n : Int => IntKind.i64.min ≤ n ∧ n ≤ IntKind.i64.max) x.kind ∧ (fun n : Int => IntKind.i64.min ≤ n ∧ n ≤ IntKind.i64.max) x.impure ∧ (fun n : Int => IntKind.i64.min ≤ n ∧ n ≤ IntKind.i64.max) x.nlink ∧ (fun n : Int => IntKind.i64.min ≤ n ∧ n ≤ IntKind.i64.max) x.gen ∧ (fun l : List UInt8 => l.length ≤ maxLen ∧ ∀ x ∈ l, True) x.data ∧ (fun l : List Entry => l.length ≤ maxLen ∧ ∀ x ∈ l, Entry.fine x) x.entries ∧ Attr.fine x.attr
theorem rd_68 : Rd Tryz.prog 68 13 (fun x : Node => AV.cells (xf x)) Node.fine := by
  intro H enc w base spare held fuel cs r hr
  have hlen : cs.length = 13 := (x4l xvl hr).trans (by kernel_rfl)
  obtain ⟨x0, a0, b0, c0⟩ := xcc (j := 0) (off := 0) (n := 1) (xvl) (by kernel_rfl) rd_3 hr
  obtain ⟨x1, a1, b1, c1⟩ := xcc (j := 1) (off := 1) (n := 1) (xv2) (by kernel_rfl) rd_3 hr
  obtain ⟨x2, a2, b2, c2⟩ := xcc (j := 2) (off := 2) (n := 1) (x8s) (by kernel_rfl) rd_3 hr
  obtain ⟨x3, a3, b3, c3⟩ := xcc (j := 3) (off := 3) (n := 1) (xq3) (by kernel_rfl) rd_3 hr
  obtain ⟨x4, a4, b4, c4⟩ := xcc (j := 4) (off := 4) (n := 1) (x0s) (by kernel_rfl) rd_61 hr
  obtain ⟨x5, a5, b5, c5⟩ := xcc (j := 5) (off := 5) (n := 1) (xhn) (by kernel_rfl) rd_62 hr
  obtain ⟨x6, a6, b6, c6⟩ := xcc (j := 6) (off := 6) (n := 7) (xmn) (by kernel_rfl) rd_66 hr
  exact ⟨⟨x0, x1, x2, x3, x4, x5, x6⟩, xwb (off := 0) (n := 1) a0 (xwb (off := 1) (n := 1) a1 (xwb (off := 2) (n := 1) a2 (xwb (off := 3) (n := 1) a3 (xwb (off := 4) (n := 1) a4 (xwb (off := 5) (n := 1) a5 (xwb (off := 6) (n := 7) a6 (xgj hlen))))))), xvb (E := Ew w) (off := 0) (n := 1) b0 (xvb (E := Ew w) (off := 1) (n := 1) b1 (xvb (E := Ew w) (off := 2) (n := 1) b2 (xvb (E := Ew w) (off := 3) (n := 1) b3 (xvb (E := Ew w) (off := 4) (n := 1) b4 (xvb (E := Ew w) (off := 5) (n := 1) b5 (xvb (E := Ew w) (off := 6) (n := 7) b6 (xrk hlen))))))), hlen, ⟨c0, c1, c2, c3, c4, c5, c6⟩⟩
def rd_24 := xgn (P := Tryz.prog) (T := 24) (e := 68) (n := 13) (L := Node) (g := xf) (agg := true) (by kernel_rfl) (by kernel_rfl) (by decide) rd_68 (fun _ => rfl)
def Branch.fine (x : Branch) : Prop := (fun l : List Node => l.length ≤ maxLen ∧ ∀ x ∈ l, Node.fine x) x.nodes
theorem rd_26 : Rd Tryz.prog 26 1 (fun x : Branch => AV.cells (xi x)) Branch.fine := by
  intro H enc w base spare held fuel cs r hr
  have hlen : cs.length = 1 := (x4l xml hr).trans (by kernel_rfl)
  obtain ⟨x0, a0, b0, c0⟩ := xcc (j := 0) (off := 0) (n := 1) (xml) (by kernel_rfl) rd_24 hr
  exact ⟨⟨x0⟩, xwb (off := 0) (n := 1) a0 (xgj hlen), xvb (E := Ew w) (off := 0) (n := 1) b0 (xrk hlen), hlen, c0⟩
def rd_27 := xgn (P := Tryz.prog) (T := 27) (e := 26) (n := 1) (L := Branch) (g := xi) (agg := true) (by kernel_rfl) (by kernel_rfl) (by decide) rd_26 (fun _ => rfl)
def Stack.fine (x : Stack) : Prop := Geo.fine x.geo ∧ Branch.fine x.upper ∧ (fun l : List Branch => l.length ≤ maxLen ∧ ∀ x ∈ l, Branch.fine x) x.lowers
theorem rd_29 : Rd Tryz.prog 29 6 (fun x : Stack => AV.cells (xl x)) Stack.fine := by
  intro H enc w base spare held fuel cs r hr
  have hlen : cs.length = 6 := (x4l x2n hr).trans (by kernel_rfl)
  obtain ⟨x0, a0, b0, c0⟩ := xcc (j := 0) (off := 0) (n := 4) (x2n) (by kernel_rfl) rd_23 hr
  obtain ⟨x1, a1, b1, c1⟩ := xcc (j := 1) (off := 4) (n := 1) (xdu) (by kernel_rfl) rd_26 hr
  obtain ⟨x2, a2, b2, c2⟩ := xcc (j := 2) (off := 5) (n := 1) (xet) (by kernel_rfl) rd_27 hr
  exact ⟨⟨x0, x1, x2⟩, xwb (off := 0) (n := 4) a0 (xwb (off := 4) (n := 1) a1 (xwb (off := 5) (n := 1) a2 (xgj hlen))), xvb (E := Ew w) (off := 0) (n := 4) b0 (xvb (E := Ew w) (off := 4) (n := 1) b1 (xvb (E := Ew w) (off := 5) (n := 1) b2 (xrk hlen))), hlen, ⟨c0, c1, c2⟩⟩
def rd_30 := xgn (P := Tryz.prog) (T := 30) (e := 9) (n := 1) (L := ByteArray) (g := str) (agg := false) (by kernel_rfl) (by kernel_rfl) (by decide) rd_9 (fun _ => rfl)
end Go.Proofs.YtfkgckbdknpcnaaGreatDoor.AL

