/- What any node of any stack should say of copies, and which say otherwise, is what the document says: part 28 of 51. -/
import Derived.Test.YtfefidkblgendaaGreatDoorA27
set_option linter.all false
/- Readers of this seat's types, printed by linkgen.py. -/
set_option linter.all false
set_option maxRecDepth 100000
namespace Go.Proofs.YtfefidkblgendaaGreatDoor.AL
open Go Go.Proofs
def rd_3 := rd_int (P := Tryz.prog) (T := 3) (k := .i64) (by kernel_rfl)
def Geo.fine (x : Geo) : Prop := (fun n : Int => IntKind.i64.min ≤ n ∧ n ≤ IntKind.i64.max) x.lowers ∧ (fun n : Int => IntKind.i64.min ≤ n ∧ n ≤ IntKind.i64.max) x.inodes ∧ (fun n : Int => IntKind.i64.min ≤ n ∧ n ≤ IntKind.i64.max) x.blocks ∧ (fun n : Int => IntKind.i64.min ≤ n ∧ n ≤ IntKind.i64.max) x.log
theorem rd_23 : Rd Tryz.prog 23 4 (fun x : Geo => AV.cells (encGeo x)) Geo.fine := by
  intro H enc w base spare held fuel cs r hr
  have hlen : cs.length = 4 := (xaj xqv hr).trans (by kernel_rfl)
  obtain ⟨x0, a0, b0, c0⟩ := xsb (j := 0) (off := 0) (n := 1) (xqv) (by kernel_rfl) rd_3 hr
  obtain ⟨x1, a1, b1, c1⟩ := xsb (j := 1) (off := 1) (n := 1) (xr5) (by kernel_rfl) rd_3 hr
  obtain ⟨x2, a2, b2, c2⟩ := xsb (j := 2) (off := 2) (n := 1) (xi4) (by kernel_rfl) rd_3 hr
  obtain ⟨x3, a3, b3, c3⟩ := xsb (j := 3) (off := 3) (n := 1) (xg5) (by kernel_rfl) rd_3 hr
  exact ⟨⟨x0, x1, x2, x3⟩, xhb (off := 0) (n := 1) a0 (xhb (off := 1) (n := 1) a1 (xhb (off := 2) (n := 1) a2 (xhb (off := 3) (n := 1) a3 (x1f hlen)))), xib (E := Ew w) (off := 0) (n := 1) b0 (xib (E := Ew w) (off := 1) (n := 1) b1 (xib (E := Ew w) (off := 2) (n := 1) b2 (xib (E := Ew w) (off := 3) (n := 1) b3 (x5g hlen)))), hlen, ⟨c0, c1, c2, c3⟩⟩
def rd_30e := rd_u8 (P := Tryz.prog) (T := 5) (by kernel_rfl)
def rd_30 := xpp (P := Tryz.prog) (T := 30) (e := 5) (n := 1) (g := u8) (agg := false) (by kernel_rfl) (by kernel_rfl) (by decide) rd_30e (fun _ => rfl)
def rd_9 := rd_str (P := Tryz.prog) (T := 9) (by kernel_rfl)
def Entry.fine (x : Entry) : Prop := (fun n : Int => IntKind.i64.min ≤ n ∧ n ≤ IntKind.i64.max) x.slot ∧ (fun n : Int => IntKind.i64.min ≤ n ∧ n ≤ IntKind.i64.max) x.ino ∧ (fun s : ByteArray => s.size ≤ maxLen) x.name
theorem rd_76 : Rd Tryz.prog 76 3 (fun x : Entry => AV.cells (xab x)) Entry.fine := by
  intro H enc w base spare held fuel cs r hr
  have hlen : cs.length = 3 := (xaj xnl hr).trans (by kernel_rfl)
  obtain ⟨x0, a0, b0, c0⟩ := xsb (j := 0) (off := 0) (n := 1) (xnl) (by kernel_rfl) rd_3 hr
  obtain ⟨x1, a1, b1, c1⟩ := xsb (j := 1) (off := 1) (n := 1) (xtp) (by kernel_rfl) rd_3 hr
  obtain ⟨x2, a2, b2, c2⟩ := xsb (j := 2) (off := 2) (n := 1) (xbp) (by kernel_rfl) rd_9 hr
  exact ⟨⟨x0, x1, x2⟩, xhb (off := 0) (n := 1) a0 (xhb (off := 1) (n := 1) a1 (xhb (off := 2) (n := 1) a2 (x1f hlen))), xib (E := Ew w) (off := 0) (n := 1) b0 (xib (E := Ew w) (off := 1) (n := 1) b1 (xib (E := Ew w) (off := 2) (n := 1) b2 (x5g hlen))), hlen, ⟨c0, c1, c2⟩⟩
def rd_65 := xpp (P := Tryz.prog) (T := 65) (e := 76) (n := 3) (L := Entry) (g := xab) (agg := true) (by kernel_rfl) (by kernel_rfl) (by decide) rd_76 (fun _ => rfl)
def Origin.fine (x : Origin) : Prop := (fun n : Int => IntKind.i64.min ≤ n ∧ n ≤ IntKind.i64.max) x.layer ∧ (fun n : Int => IntKind.i64.min ≤ n ∧ n ≤ IntKind.i64.max) x.ino ∧ (fun n : Int => IntKind.i64.min ≤ n ∧ n ≤ IntKind.i64.max) x.gen
theorem rd_67 : Rd Tryz.prog 67 3 (fun x : Origin => AV.cells (xxd x)) Origin.fine := by
  intro H enc w base spare held fuel cs r hr
  have hlen : cs.length = 3 := (xaj xaq hr).trans (by kernel_rfl)
  obtain ⟨x0, a0, b0, c0⟩ := xsb (j := 0) (off := 0) (n := 1) (xaq) (by kernel_rfl) rd_3 hr
  obtain ⟨x1, a1, b1, c1⟩ := xsb (j := 1) (off := 1) (n := 1) (xvt) (by kernel_rfl) rd_3 hr
  obtain ⟨x2, a2, b2, c2⟩ := xsb (j := 2) (off := 2) (n := 1) (xzv) (by kernel_rfl) rd_3 hr
  exact ⟨⟨x0, x1, x2⟩, xhb (off := 0) (n := 1) a0 (xhb (off := 1) (n := 1) a1 (xhb (off := 2) (n := 1) a2 (x1f hlen))), xib (E := Ew w) (off := 0) (n := 1) b0 (xib (E := Ew w) (off := 1) (n := 1) b1 (xib (E := Ew w) (off := 2) (n := 1) b2 (x5g hlen))), hlen, ⟨c0, c1, c2⟩⟩
def Attr.fine (x : Attr) : Prop := (fun n : Int => IntKind.i64.min ≤ n ∧ n ≤ IntKind.i64.max) x.has ∧ (fun n : Int => IntKind.i64.min ≤ n ∧ n ≤ IntKind.i64.max) x.opaque0 ∧ (fun s : ByteArray => s.size ≤ maxLen) x.redirect ∧ Origin.fine x.origin ∧ (fun n : Int => IntKind.i64.min ≤ n ∧ n ≤ IntKind.i64.max) x.shown
theorem rd_69 : Rd Tryz.prog 69 7 (fun x : Attr => AV.cells (xwi x)) Attr.fine := by
  intro H enc w base spare held fuel cs r hr
  have hlen : cs.length = 7 := (xaj xgp hr).trans (by kernel_rfl)
  obtain ⟨x0, a0, b0, c0⟩ := xsb (j := 0) (off := 0) (n := 1) (xgp) (by kernel_rfl) rd_3 hr
  obtain ⟨x1, a1, b1, c1⟩ := xsb (j := 1) (off := 1) (n := 1) (xut) (by kernel_rfl) rd_3 hr
  obtain ⟨x2, a2, b2, c2⟩ := xsb (j := 2) (off := 2) (n := 1) (xuv) (by kernel_rfl) rd_9 hr
  obtain ⟨x3, a3, b3, c3⟩ := xsb (j := 3) (off := 3) (n := 3) (xfu) (by kernel_rfl) rd_67 hr
  obtain ⟨x4, a4, b4, c4⟩ := xsb (j := 4) (off := 6) (n := 1) (xw3) (by kernel_rfl) rd_3 hr
  exact ⟨⟨x0, x1, x2, x3, x4⟩, xhb (off := 0) (n := 1) a0 (xhb (off := 1) (n := 1) a1 (xhb (off := 2) (n := 1) a2 (xhb (off := 3) (n := 3) a3 (xhb (off := 6) (n := 1) a4 (x1f hlen))))), xib (E := Ew w) (off := 0) (n := 1) b0 (xib (E := Ew w) (off := 1) (n := 1) b1 (xib (E := Ew w) (off := 2) (n := 1) b2 (xib (E := Ew w) (off := 3) (n := 3) b3 (xib (E := Ew w) (off := 6) (n := 1) b4 (x5g hlen))))), hlen, ⟨c0, c1, c2, c3, c4⟩⟩
def Node.fine (x : Node) : Prop := (fun n : Int => IntKind.i64.min ≤ n ∧ n ≤ IntKind.i64.max) x.kind ∧ (fun n : Int => IntKind.i64.min ≤ n ∧ n ≤ IntKind.i64.max) x.impure ∧ (fun n : Int => IntKind.i64.min ≤ n ∧ n ≤ IntKind.i64.max) x.nlink ∧ (fun n : Int => IntKind.i64.min ≤ n ∧ n ≤ IntKind.i64.max) x.gen ∧ (fun l : List UInt8 => l.length ≤ maxLen ∧ ∀ x ∈ l, True) x.data ∧ (fun l : List Entry => l.length ≤ maxLen ∧ ∀ x ∈ l, Entry.fine x) x.entries ∧ Attr.fine x.attr
theorem rd_71 : Rd Tryz.prog 71 13 (fun x : Node => AV.cells (xo x)) Node.fine := by
  intro H enc w base spare held fuel cs r hr
  have hlen : cs.length = 13 := (xaj xzl hr).trans (by kernel_rfl)
  obtain ⟨x0, a0, b0, c0⟩ := xsb (j := 0) (off := 0) (n := 1) (xzl) (by kernel_rfl) rd_3 hr
  obtain ⟨x1, a1, b1, c1⟩ := xsb (j := 1) (off := 1) (n := 1) (xz5) (by kernel_rfl) rd_3 hr
  obtain ⟨x2, a2, b2, c2⟩ := xsb (j := 2) (off := 2) (n := 1) (xnv) (by kernel_rfl) rd_3 hr
  obtain ⟨x3, a3, b3, c3⟩ := xsb (j := 3) (off := 3) (n := 1) (xdv) (by kernel_rfl) rd_3 hr
  obtain ⟨x4, a4, b4, c4⟩ := xsb (j := 4) (off := 4) (n := 1) (xxu) (by kernel_rfl) rd_30 hr
  obtain ⟨x5, a5, b5, c5⟩ := xsb (j := 5) (off := 5) (n := 1) (xuu) (by kernel_rfl) rd_65 hr
  obtain ⟨x6, a6, b6, c6⟩ := xsb (j := 6) (off := 6) (n := 7) (xmu) (by kernel_rfl) rd_69 hr
  exact ⟨⟨x0, x1, x2, x3, x4, x5, x6⟩, xhb (off := 0) (n := 1) a0 (xhb (off := 1) (n := 1) a1 (xhb (off := 2) (n := 1) a2 (xhb (off := 3) (n := 1) a3 (xhb (off := 4) (n := 1) a4 (xhb (off := 5) (n := 1) a5 (xhb (off := 6) (n := 7) a6 (x1f hlen))))))), xib (E := Ew w) (off := 0) (n := 1) b0 (xib (E := Ew w) (off := 1) (n := 1) b1 (xib (E := Ew w) (off := 2) (n := 1) b2 (xib (E := Ew w) (off := 3) (n := 1) b3 (xib (E := Ew w) (off := 4) (n := 1) b4 (xib (E := Ew w) (off := 5) (n := 1) b5 (xib (E := Ew w) (off := 6) (n := 7) b6 (x5g hlen))))))), hlen, ⟨c0, c1, c2, c3, c4, c5, c6⟩⟩
def rd_24 := xpp (P := Tryz.prog) (T := 24) (e := 71) (n := 13) (L := Node) (g := xo) (agg := true) (by kernel_rfl) (by kernel_rfl) (by decide) rd_71 (fun _ => rfl)
def Branch.fine (x : Branch) : Prop := (fun l : List Node => l.length ≤ maxLen ∧ ∀ x ∈ l, Node.fine x) x.nodes
theorem rd_26 : Rd Tryz.prog 26 1 (fun x : Branch => AV.cells (xcb x)) Branch.fine := by
  intro H enc w base spare held fuel cs r hr
  have hlen : cs.length = 1 := (xaj xjl hr).trans (by kernel_rfl)
  obtain ⟨x0, a0, b0, c0⟩ := xsb (j := 0) (off := 0) (n := 1) (xjl) (by kernel_rfl) rd_24 hr
  exact ⟨⟨x0⟩, xhb (off := 0) (n := 1) a0 (x1f hlen), xib (E := Ew w) (off := 0) (n := 1) b0 (x5g hlen), hlen, c0⟩
def rd_27 := xpp (P := Tryz.prog) (T := 27) (e := 26) (n := 1) (L := Branch) (g := xcb) (agg := true) (by kernel_rfl) (by kernel_rfl) (by decide) rd_26 (fun _ => rfl)
def Stack.fine (x : Stack) : Prop := Geo.fine x.geo ∧ Branch.fine x.upper ∧ (fun l : List Branch => l.length ≤ maxLen ∧ ∀ x ∈ l, Branch.fine x) x.lowers
theorem rd_29 : Rd Tryz.prog 29 6 (fun x : Stack => AV.cells (xf x)) Stack.fine := by
  intro H enc w base spare held fuel cs r hr
  have hlen : cs.length = 6 := (xaj xki hr).trans (by kernel_rfl)
  obtain ⟨x0, a0, b0, c0⟩ := xsb (j := 0) (off := 0) (n := 4) (xki) (by kernel_rfl) rd_23 hr
  obtain ⟨x1, a1, b1, c1⟩ := xsb (j := 1) (off := 4) (n := 1) (x9u) (by kernel_rfl) rd_26 hr
  obtain ⟨x2, a2, b2, c2⟩ := xsb (j := 2) (off := 5) (n := 1) (xgv) (by kernel_rfl) rd_27 hr
  exact ⟨⟨x0, x1, x2⟩, xhb (off := 0) (n := 4) a0 (xhb (off := 4) (n := 1) a1 (xhb (off := 5) (n := 1) a2 (x1f hlen))), xib (E := Ew w) (off := 0) (n := 4) b0 (xib (E := Ew w) (off := 4) (n := 1) b1 (xib (E := Ew w) (off := 5) (n := 1) b2 (x5g hlen))), hlen, ⟨c0, c1, c2⟩⟩
def rd_31 := xpp (P := Tryz.prog) (T := 31) (e := 9) (n := 1) (L := ByteArray) (g := str) (agg := false) (by kernel_rfl) (by kernel_rfl) (by decide) rd_9 (fun _ => rfl)
def Seen.fine (x : Seen) : Prop := (fun n : Int => IntKind.i64.min ≤ n ∧ n ≤ IntKind.i64.max) x.kind ∧ (fun l : List UInt8 => l.length ≤ maxLen ∧ ∀ x ∈ l, True) x.data ∧ (fun l : List ByteArray => l.length ≤ maxLen ∧ ∀ x ∈ l, (fun s : ByteArray => s.size ≤ maxLen) x) x.names
theorem rd_33 : Rd Tryz.prog 33 3 (fun x : Seen => AV.cells (xub x)) Seen.fine := by
  intro H enc w base spare held fuel cs r hr
  have hlen : cs.length = 3 := (xaj xri hr).trans (by kernel_rfl)
  obtain ⟨x0, a0, b0, c0⟩ := xsb (j := 0) (off := 0) (n := 1) (xri) (by kernel_rfl) rd_3 hr
  obtain ⟨x1, a1, b1, c1⟩ := xsb (j := 1) (off := 1) (n := 1) (x6u) (by kernel_rfl) rd_30 hr
  obtain ⟨x2, a2, b2, c2⟩ := xsb (j := 2) (off := 2) (n := 1) (x0u) (by kernel_rfl) rd_31 hr
  exact ⟨⟨x0, x1, x2⟩, xhb (off := 0) (n := 1) a0 (xhb (off := 1) (n := 1) a1 (xhb (off := 2) (n := 1) a2 (x1f hlen))), xib (E := Ew w) (off := 0) (n := 1) b0 (xib (E := Ew w) (off := 1) (n := 1) b1 (xib (E := Ew w) (off := 2) (n := 1) b2 (x5g hlen))), hlen, ⟨c0, c1, c2⟩⟩
def Place.fine (x : Place) : Prop := (fun n : Int => IntKind.i64.min ≤ n ∧ n ≤ IntKind.i64.max) x.layer ∧ (fun n : Int => IntKind.i64.min ≤ n ∧ n ≤ IntKind.i64.max) x.ino
theorem rd_44 : Rd Tryz.prog 44 2 (fun x : Place => AV.cells (xc x)) Place.fine := by
  intro H enc w base spare held fuel cs r hr
  have hlen : cs.length = 2 := (xaj xkl hr).trans (by kernel_rfl)
  obtain ⟨x0, a0, b0, c0⟩ := xsb (j := 0) (off := 0) (n := 1) (xkl) (by kernel_rfl) rd_3 hr
  obtain ⟨x1, a1, b1, c1⟩ := xsb (j := 1) (off := 1) (n := 1) (xwt) (by kernel_rfl) rd_3 hr
  exact ⟨⟨x0, x1⟩, xhb (off := 0) (n := 1) a0 (xhb (off := 1) (n := 1) a1 (x1f hlen)), xib (E := Ew w) (off := 0) (n := 1) b0 (xib (E := Ew w) (off := 1) (n := 1) b1 (x5g hlen)), hlen, ⟨c0, c1⟩⟩
end Go.Proofs.YtfefidkblgendaaGreatDoor.AL

