/- A law of the given program is proved: part 28 of 49. -/
import Derived.Test.YtmacnoajlofdbaaDoorA27
set_option linter.all false
/- Readers of this seat's types, printed by linkgen.py. -/
set_option linter.all false
set_option maxRecDepth 100000
namespace Go.Proofs.YtmacnoajlofdbaaDoor.AL
open Go Go.Proofs
def rd_3 := rd_int (P := Tryd.prog) (T := 3) (k := .i64) (by kernel_rfl)
def Geo.fine (x : Geo) : Prop := (fun n : Int => IntKind.i64.min ≤ n ∧ n ≤ IntKind.i64.max) x.lowers ∧ (fun n : Int => IntKind.i64.min ≤ n ∧ n ≤ IntKind.i64.max) x.inodes ∧ (fun n : Int => IntKind.i64.min ≤ n ∧ n ≤ IntKind.i64.max) x.blocks ∧ (fun n : Int => IntKind.i64.min ≤ n ∧ n ≤ IntKind.i64.max) x.log
theorem rd_23 : Rd Tryd.prog 23 4 (fun x : Geo => AV.cells (encGeo x)) Geo.fine := by
  intro H enc w base spare held fuel cs r hr
  have hlen : cs.length = 4 := (xfk x2p hr).trans (by kernel_rfl)
  obtain ⟨x0, a0, b0, c0⟩ := xbc (j := 0) (off := 0) (n := 1) (x2p) (by kernel_rfl) rd_3 hr
  obtain ⟨x1, a1, b1, c1⟩ := xbc (j := 1) (off := 1) (n := 1) (x9z) (by kernel_rfl) rd_3 hr
  obtain ⟨x2, a2, b2, c2⟩ := xbc (j := 2) (off := 2) (n := 1) (xfz) (by kernel_rfl) rd_3 hr
  obtain ⟨x3, a3, b3, c3⟩ := xbc (j := 3) (off := 3) (n := 1) (xp0) (by kernel_rfl) rd_3 hr
  exact ⟨⟨x0, x1, x2, x3⟩, xrb (off := 0) (n := 1) a0 (xrb (off := 1) (n := 1) a1 (xrb (off := 2) (n := 1) a2 (xrb (off := 3) (n := 1) a3 (x1h hlen)))), xsb (E := Ew w) (off := 0) (n := 1) b0 (xsb (E := Ew w) (off := 1) (n := 1) b1 (xsb (E := Ew w) (off := 2) (n := 1) b2 (xsb (E := Ew w) (off := 3) (n := 1) b3 (xaj hlen)))), hlen, ⟨c0, c1, c2, c3⟩⟩
def rd_40e := rd_u8 (P := Tryd.prog) (T := 5) (by kernel_rfl)
def rd_40 := x9n (P := Tryd.prog) (T := 40) (e := 5) (n := 1) (g := u8) (agg := false) (by kernel_rfl) (by kernel_rfl) (by decide) rd_40e (fun _ => rfl)
def rd_9 := rd_str (P := Tryd.prog) (T := 9) (by kernel_rfl)
def Entry.fine (x : Entry) : Prop := (fun n : Int => IntKind.i64.min ≤ n ∧ n ≤ IntKind.i64.max) x.slot ∧ (fun n : Int => IntKind.i64.min ≤ n ∧ n ≤ IntKind.i64.max) x.ino ∧ (fun s : ByteArray => s.size ≤ maxLen) x.name
theorem rd_74 : Rd Tryd.prog 74 3 (fun x : Entry => AV.cells (xp x)) Entry.fine := by
  intro H enc w base spare held fuel cs r hr
  have hlen : cs.length = 3 := (xfk x5j hr).trans (by kernel_rfl)
  obtain ⟨x0, a0, b0, c0⟩ := xbc (j := 0) (off := 0) (n := 1) (x5j) (by kernel_rfl) rd_3 hr
  obtain ⟨x1, a1, b1, c1⟩ := xbc (j := 1) (off := 1) (n := 1) (xnl) (by kernel_rfl) rd_3 hr
  obtain ⟨x2, a2, b2, c2⟩ := xbc (j := 2) (off := 2) (n := 1) (x1l) (by kernel_rfl) rd_9 hr
  exact ⟨⟨x0, x1, x2⟩, xrb (off := 0) (n := 1) a0 (xrb (off := 1) (n := 1) a1 (xrb (off := 2) (n := 1) a2 (x1h hlen))), xsb (E := Ew w) (off := 0) (n := 1) b0 (xsb (E := Ew w) (off := 1) (n := 1) b1 (xsb (E := Ew w) (off := 2) (n := 1) b2 (xaj hlen))), hlen, ⟨c0, c1, c2⟩⟩
def rd_41 := x9n (P := Tryd.prog) (T := 41) (e := 74) (n := 3) (L := Entry) (g := xp) (agg := true) (by kernel_rfl) (by kernel_rfl) (by decide) rd_74 (fun _ => rfl)
def Origin.fine (x : Origin) : Prop := (fun n : Int => IntKind.i64.min ≤ n ∧ n ≤ IntKind.i64.max) x.layer ∧ (fun n : Int => IntKind.i64.min ≤ n ∧ n ≤ IntKind.i64.max) x.ino ∧ (fun n : Int => IntKind.i64.min ≤ n ∧ n ≤ IntKind.i64.max) x.gen
theorem rd_43 : Rd Tryd.prog 43 3 (fun x : Origin => AV.cells (xge x)) Origin.fine := by
  intro H enc w base spare held fuel cs r hr
  have hlen : cs.length = 3 := (xfk xvr hr).trans (by kernel_rfl)
  obtain ⟨x0, a0, b0, c0⟩ := xbc (j := 0) (off := 0) (n := 1) (xvr) (by kernel_rfl) rd_3 hr
  obtain ⟨x1, a1, b1, c1⟩ := xbc (j := 1) (off := 1) (n := 1) (xnz) (by kernel_rfl) rd_3 hr
  obtain ⟨x2, a2, b2, c2⟩ := xbc (j := 2) (off := 2) (n := 1) (xo0) (by kernel_rfl) rd_3 hr
  exact ⟨⟨x0, x1, x2⟩, xrb (off := 0) (n := 1) a0 (xrb (off := 1) (n := 1) a1 (xrb (off := 2) (n := 1) a2 (x1h hlen))), xsb (E := Ew w) (off := 0) (n := 1) b0 (xsb (E := Ew w) (off := 1) (n := 1) b1 (xsb (E := Ew w) (off := 2) (n := 1) b2 (xaj hlen))), hlen, ⟨c0, c1, c2⟩⟩
def Attr.fine (x : Attr) : Prop := (fun n : Int => IntKind.i64.min ≤ n ∧ n ≤ IntKind.i64.max) x.has ∧ (fun n : Int => IntKind.i64.min ≤ n ∧ n ≤ IntKind.i64.max) x.opaque0 ∧ (fun s : ByteArray => s.size ≤ maxLen) x.redirect ∧ Origin.fine x.origin ∧ (fun n : Int => IntKind.i64.min ≤ n ∧ n ≤ IntKind.i64.max) x.shown
theorem rd_45 : Rd Tryd.prog 45 7 (fun x : Attr => AV.cells (x8b x)) Attr.fine := by
  intro H enc w base spare held fuel cs r hr
  have hlen : cs.length = 7 := (xfk xkl hr).trans (by kernel_rfl)
  obtain ⟨x0, a0, b0, c0⟩ := xbc (j := 0) (off := 0) (n := 1) (xkl) (by kernel_rfl) rd_3 hr
  obtain ⟨x1, a1, b1, c1⟩ := xbc (j := 1) (off := 1) (n := 1) (xnq) (by kernel_rfl) rd_3 hr
  obtain ⟨x2, a2, b2, c2⟩ := xbc (j := 2) (off := 2) (n := 1) (xgq) (by kernel_rfl) rd_9 hr
  obtain ⟨x3, a3, b3, c3⟩ := xbc (j := 3) (off := 3) (n := 3) (x5p) (by kernel_rfl) rd_43 hr
  obtain ⟨x4, a4, b4, c4⟩ := xbc (j := 4) (off := 6) (n := 1) (x8p) (by kernel_rfl) rd_3 hr
  exact ⟨⟨x0, x1, x2, x3, x4⟩, xrb (off := 0) (n := 1) a0 (xrb (off := 1) (n := 1) a1 (xrb (off := 2) (n := 1) a2 (xrb (off := 3) (n := 3) a3 (xrb (off := 6) (n := 1) a4 (x1h hlen))))), xsb (E := Ew w) (off := 0) (n := 1) b0 (xsb (E := Ew w) (off := 1) (n := 1) b1 (xsb (E := Ew w) (off := 2) (n := 1) b2 (xsb (E := Ew w) (off := 3) (n := 3) b3 (xsb (E := Ew w) (off := 6) (n := 1) b4 (xaj hlen))))), hlen, ⟨c0, c1, c2, c3, c4⟩⟩
def Node.fine (x : Node) : Prop := (fun n : Int => IntKind.i64.min ≤ n ∧ n ≤ IntKind.i64.max) x.kind ∧ (fun n : Int => IntKind.i64.min ≤ n ∧ n ≤ IntKind.i64.max) x.impure ∧ (fun n : Int => IntKind.i64.min ≤ n ∧ n ≤ IntKind.i64.max) x.nlink ∧ (fun n : Int => IntKind.i64.min ≤ n ∧ n ≤ IntKind.i64.max) x.gen ∧ (fun l : List UInt8 => l.length ≤ maxLen ∧ ∀ x ∈ l, True) x.data ∧ (fun l : List Entry => l.length ≤ maxLen ∧ ∀ x ∈ l, Entry.fine x) x.entries ∧ Attr.fine x.attr
theorem rd_47 : Rd Tryd.prog 47 13 (fun x : Node => AV.cells (xe x)) Node.fine := by
  intro H enc w base spare held fuel cs r hr
  have hlen : cs.length = 13 := (xfk xyj hr).trans (by kernel_rfl)
  obtain ⟨x0, a0, b0, c0⟩ := xbc (j := 0) (off := 0) (n := 1) (xyj) (by kernel_rfl) rd_3 hr
  obtain ⟨x1, a1, b1, c1⟩ := xbc (j := 1) (off := 1) (n := 1) (xj0) (by kernel_rfl) rd_3 hr
  obtain ⟨x2, a2, b2, c2⟩ := xbc (j := 2) (off := 2) (n := 1) (xtq) (by kernel_rfl) rd_3 hr
  obtain ⟨x3, a3, b3, c3⟩ := xbc (j := 3) (off := 3) (n := 1) (x7y) (by kernel_rfl) rd_3 hr
  obtain ⟨x4, a4, b4, c4⟩ := xbc (j := 4) (off := 4) (n := 1) (xwq) (by kernel_rfl) rd_40 hr
  obtain ⟨x5, a5, b5, c5⟩ := xbc (j := 5) (off := 5) (n := 1) (x3l) (by kernel_rfl) rd_41 hr
  obtain ⟨x6, a6, b6, c6⟩ := xbc (j := 6) (off := 6) (n := 7) (xyr) (by kernel_rfl) rd_45 hr
  exact ⟨⟨x0, x1, x2, x3, x4, x5, x6⟩, xrb (off := 0) (n := 1) a0 (xrb (off := 1) (n := 1) a1 (xrb (off := 2) (n := 1) a2 (xrb (off := 3) (n := 1) a3 (xrb (off := 4) (n := 1) a4 (xrb (off := 5) (n := 1) a5 (xrb (off := 6) (n := 7) a6 (x1h hlen))))))), xsb (E := Ew w) (off := 0) (n := 1) b0 (xsb (E := Ew w) (off := 1) (n := 1) b1 (xsb (E := Ew w) (off := 2) (n := 1) b2 (xsb (E := Ew w) (off := 3) (n := 1) b3 (xsb (E := Ew w) (off := 4) (n := 1) b4 (xsb (E := Ew w) (off := 5) (n := 1) b5 (xsb (E := Ew w) (off := 6) (n := 7) b6 (xaj hlen))))))), hlen, ⟨c0, c1, c2, c3, c4, c5, c6⟩⟩
def rd_24 := x9n (P := Tryd.prog) (T := 24) (e := 47) (n := 13) (L := Node) (g := xe) (agg := true) (by kernel_rfl) (by kernel_rfl) (by decide) rd_47 (fun _ => rfl)
def Branch.fine (x : Branch) : Prop := (fun l : List Node => l.length ≤ maxLen ∧ ∀ x ∈ l, Node.fine x) x.nodes
theorem rd_26 : Rd Tryd.prog 26 1 (fun x : Branch => AV.cells (xk x)) Branch.fine := by
  intro H enc w base spare held fuel cs r hr
  have hlen : cs.length = 1 := (xfk x2j hr).trans (by kernel_rfl)
  obtain ⟨x0, a0, b0, c0⟩ := xbc (j := 0) (off := 0) (n := 1) (x2j) (by kernel_rfl) rd_24 hr
  exact ⟨⟨x0⟩, xrb (off := 0) (n := 1) a0 (x1h hlen), xsb (E := Ew w) (off := 0) (n := 1) b0 (xaj hlen), hlen, c0⟩
def rd_27 := x9n (P := Tryd.prog) (T := 27) (e := 26) (n := 1) (L := Branch) (g := xk) (agg := true) (by kernel_rfl) (by kernel_rfl) (by decide) rd_26 (fun _ => rfl)
def Stack.fine (x : Stack) : Prop := Geo.fine x.geo ∧ Branch.fine x.upper ∧ (fun l : List Branch => l.length ≤ maxLen ∧ ∀ x ∈ l, Branch.fine x) x.lowers
theorem rd_29 : Rd Tryd.prog 29 6 (fun x : Stack => AV.cells (xx x)) Stack.fine := by
  intro H enc w base spare held fuel cs r hr
  have hlen : cs.length = 6 := (xfk x2l hr).trans (by kernel_rfl)
  obtain ⟨x0, a0, b0, c0⟩ := xbc (j := 0) (off := 0) (n := 4) (x2l) (by kernel_rfl) rd_23 hr
  obtain ⟨x1, a1, b1, c1⟩ := xbc (j := 1) (off := 4) (n := 1) (xwp) (by kernel_rfl) rd_26 hr
  obtain ⟨x2, a2, b2, c2⟩ := xbc (j := 2) (off := 5) (n := 1) (xoq) (by kernel_rfl) rd_27 hr
  exact ⟨⟨x0, x1, x2⟩, xrb (off := 0) (n := 4) a0 (xrb (off := 4) (n := 1) a1 (xrb (off := 5) (n := 1) a2 (x1h hlen))), xsb (E := Ew w) (off := 0) (n := 4) b0 (xsb (E := Ew w) (off := 4) (n := 1) b1 (xsb (E := Ew w) (off := 5) (n := 1) b2 (xaj hlen))), hlen, ⟨c0, c1, c2⟩⟩
end Go.Proofs.YtmacnoajlofdbaaDoor.AL

