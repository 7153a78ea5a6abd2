/- A law of the given program is proved: part 29 of 51. -/
import Derived.Test.YtefdlpandfhcgaaDoorB28
set_option linter.all false
/- Readers of this seat's types, printed by linkgen.py. -/
set_option linter.all false
set_option maxRecDepth 100000
namespace Go.Proofs.YtefdlpandfhcgaaDoor.AL
open Go Go.Proofs
def rd_3 := rd_int (P := Tryd.prog) (T := 3) (k := .i64) (by kernel_rfl)
def Geo.fine (x : Geo) : Prop := (fun n : Int => IntKind.i64.min ≤ n ∧ n ≤ IntKind.i64.max) x.lowers ∧ (fun n : Int => IntKind.i64.min ≤ n ∧ n ≤ IntKind.i64.max) x.inodes ∧ (fun n : Int => IntKind.i64.min ≤ n ∧ n ≤ IntKind.i64.max) x.blocks ∧ (fun n : Int => IntKind.i64.min ≤ n ∧ n ≤ IntKind.i64.max) x.log
theorem rd_31 : Rd Tryd.prog 31 4 (fun x : Geo => AV.cells (encGeo x)) Geo.fine := by
  intro H enc w base spare held fuel cs r hr
  have hlen : cs.length = 4 := (xuh x1m hr).trans (by kernel_rfl)
  obtain ⟨x0, a0, b0, c0⟩ := xtb (j := 0) (off := 0) (n := 1) (x1m) (by kernel_rfl) rd_3 hr
  obtain ⟨x1, a1, b1, c1⟩ := xtb (j := 1) (off := 1) (n := 1) (x9s) (by kernel_rfl) rd_3 hr
  obtain ⟨x2, a2, b2, c2⟩ := xtb (j := 2) (off := 2) (n := 1) (x2t) (by kernel_rfl) rd_3 hr
  obtain ⟨x3, a3, b3, c3⟩ := xtb (j := 3) (off := 3) (n := 1) (xmt) (by kernel_rfl) rd_3 hr
  exact ⟨⟨x0, x1, x2, x3⟩, xib (off := 0) (n := 1) a0 (xib (off := 1) (n := 1) a1 (xib (off := 2) (n := 1) a2 (xib (off := 3) (n := 1) a3 (x1f hlen)))), xjb (E := Ew w) (off := 0) (n := 1) b0 (xjb (E := Ew w) (off := 1) (n := 1) b1 (xjb (E := Ew w) (off := 2) (n := 1) b2 (xjb (E := Ew w) (off := 3) (n := 1) b3 (xyg hlen)))), hlen, ⟨c0, c1, c2, c3⟩⟩
def rd_39e := rd_u8 (P := Tryd.prog) (T := 5) (by kernel_rfl)
def rd_39 := xqk (P := Tryd.prog) (T := 39) (e := 5) (n := 1) (g := u8) (agg := false) (by kernel_rfl) (by kernel_rfl) (by decide) rd_39e (fun _ => rfl)
def rd_9 := rd_str (P := Tryd.prog) (T := 9) (by kernel_rfl)
def Entry.fine (x : Entry) : Prop := (fun n : Int => IntKind.i64.min ≤ n ∧ n ≤ IntKind.i64.max) x.slot ∧ (fun n : Int => IntKind.i64.min ≤ n ∧ n ≤ IntKind.i64.max) x.ino ∧ (fun s : ByteArray => s.size ≤ maxLen) x.name
theorem rd_51 : Rd Tryd.prog 51 3 (fun x : Entry => AV.cells (xk x)) Entry.fine := by
  intro H enc w base spare held fuel cs r hr
  have hlen : cs.length = 3 := (xuh xzf hr).trans (by kernel_rfl)
  obtain ⟨x0, a0, b0, c0⟩ := xtb (j := 0) (off := 0) (n := 1) (xzf) (by kernel_rfl) rd_3 hr
  obtain ⟨x1, a1, b1, c1⟩ := xtb (j := 1) (off := 1) (n := 1) (xej) (by kernel_rfl) rd_3 hr
  obtain ⟨x2, a2, b2, c2⟩ := xtb (j := 2) (off := 2) (n := 1) (x7l) (by kernel_rfl) rd_9 hr
  exact ⟨⟨x0, x1, x2⟩, xib (off := 0) (n := 1) a0 (xib (off := 1) (n := 1) a1 (xib (off := 2) (n := 1) a2 (x1f hlen))), xjb (E := Ew w) (off := 0) (n := 1) b0 (xjb (E := Ew w) (off := 1) (n := 1) b1 (xjb (E := Ew w) (off := 2) (n := 1) b2 (xyg hlen))), hlen, ⟨c0, c1, c2⟩⟩
def rd_40 := xqk (P := Tryd.prog) (T := 40) (e := 51) (n := 3) (L := Entry) (g := xk) (agg := true) (by kernel_rfl) (by kernel_rfl) (by decide) rd_51 (fun _ => rfl)
def Origin.fine (x : Origin) : Prop := (fun n : Int => IntKind.i64.min ≤ n ∧ n ≤ IntKind.i64.max) x.layer ∧ (fun n : Int => IntKind.i64.min ≤ n ∧ n ≤ IntKind.i64.max) x.ino ∧ (fun n : Int => IntKind.i64.min ≤ n ∧ n ≤ IntKind.i64.max) x.gen
theorem rd_23 : Rd Tryd.prog 23 3 (fun x : Origin => AV.cells (xo x)) Origin.fine := by
  intro H enc w base spare held fuel cs r hr
  have hlen : cs.length = 3 := (xuh xdj hr).trans (by kernel_rfl)
  obtain ⟨x0, a0, b0, c0⟩ := xtb (j := 0) (off := 0) (n := 1) (xdj) (by kernel_rfl) rd_3 hr
  obtain ⟨x1, a1, b1, c1⟩ := xtb (j := 1) (off := 1) (n := 1) (xgm) (by kernel_rfl) rd_3 hr
  obtain ⟨x2, a2, b2, c2⟩ := xtb (j := 2) (off := 2) (n := 1) (x2m) (by kernel_rfl) rd_3 hr
  exact ⟨⟨x0, x1, x2⟩, xib (off := 0) (n := 1) a0 (xib (off := 1) (n := 1) a1 (xib (off := 2) (n := 1) a2 (x1f hlen))), xjb (E := Ew w) (off := 0) (n := 1) b0 (xjb (E := Ew w) (off := 1) (n := 1) b1 (xjb (E := Ew w) (off := 2) (n := 1) b2 (xyg hlen))), hlen, ⟨c0, c1, c2⟩⟩
def Attr.fine (x : Attr) : Prop := (fun n : Int => IntKind.i64.min ≤ n ∧ n ≤ IntKind.i64.max) x.has ∧ (fun n : Int => IntKind.i64.min ≤ n ∧ n ≤ IntKind.i64.max) x.opaque0 ∧ (fun s : ByteArray => s.size ≤ maxLen) x.redirect ∧ Origin.fine x.origin ∧ (fun n : Int => IntKind.i64.min ≤ n ∧ n ≤ IntKind.i64.max) x.shown
theorem rd_42 : Rd Tryd.prog 42 7 (fun x : Attr => AV.cells (x0i x)) Attr.fine := by
  intro H enc w base spare held fuel cs r hr
  have hlen : cs.length = 7 := (xuh x8i hr).trans (by kernel_rfl)
  obtain ⟨x0, a0, b0, c0⟩ := xtb (j := 0) (off := 0) (n := 1) (x8i) (by kernel_rfl) rd_3 hr
  obtain ⟨x1, a1, b1, c1⟩ := xtb (j := 1) (off := 1) (n := 1) (xau) (by kernel_rfl) rd_3 hr
  obtain ⟨x2, a2, b2, c2⟩ := xtb (j := 2) (off := 2) (n := 1) (x6m) (by kernel_rfl) rd_9 hr
  obtain ⟨x3, a3, b3, c3⟩ := xtb (j := 3) (off := 3) (n := 3) (xkm) (by kernel_rfl) rd_23 hr
  obtain ⟨x4, a4, b4, c4⟩ := xtb (j := 4) (off := 6) (n := 1) (xfu) (by kernel_rfl) rd_3 hr
  exact ⟨⟨x0, x1, x2, x3, x4⟩, xib (off := 0) (n := 1) a0 (xib (off := 1) (n := 1) a1 (xib (off := 2) (n := 1) a2 (xib (off := 3) (n := 3) a3 (xib (off := 6) (n := 1) a4 (x1f hlen))))), xjb (E := Ew w) (off := 0) (n := 1) b0 (xjb (E := Ew w) (off := 1) (n := 1) b1 (xjb (E := Ew w) (off := 2) (n := 1) b2 (xjb (E := Ew w) (off := 3) (n := 3) b3 (xjb (E := Ew w) (off := 6) (n := 1) b4 (xyg hlen))))), hlen, ⟨c0, c1, c2, c3, c4⟩⟩
def Node.fine (x : Node) : Prop := (fun n : Int => IntKind.i64.min ≤ n ∧ n ≤ IntKind.i64.max) x.kind ∧ (fun n : Int => IntKind.i64.min ≤ n ∧ n ≤ IntKind.i64.max) x.impure ∧ (fun n : Int => IntKind.i64.min ≤ n ∧ n ≤ IntKind.i64.max) x.nlink ∧ (fun n : Int => IntKind.i64.min ≤ n ∧ n ≤ IntKind.i64.max) x.gen ∧ (fun l : List UInt8 => l.length ≤ maxLen ∧ ∀ x ∈ l, True) x.data ∧ (fun l : List Entry => l.length ≤ maxLen ∧ ∀ x ∈ l, Entry.fine x) x.entries ∧ Attr.fine x.attr
theorem rd_44 : Rd Tryd.prog 44 13 (fun x : Node => AV.cells (xd x)) Node.fine := by
  intro H enc w base spare held fuel cs r hr
  have hlen : cs.length = 13 := (xuh xag hr).trans (by kernel_rfl)
  obtain ⟨x0, a0, b0, c0⟩ := xtb (j := 0) (off := 0) (n := 1) (xag) (by kernel_rfl) rd_3 hr
  obtain ⟨x1, a1, b1, c1⟩ := xtb (j := 1) (off := 1) (n := 1) (xam) (by kernel_rfl) rd_3 hr
  obtain ⟨x2, a2, b2, c2⟩ := xtb (j := 2) (off := 2) (n := 1) (xcm) (by kernel_rfl) rd_3 hr
  obtain ⟨x3, a3, b3, c3⟩ := xtb (j := 3) (off := 3) (n := 1) (xym) (by kernel_rfl) rd_3 hr
  obtain ⟨x4, a4, b4, c4⟩ := xtb (j := 4) (off := 4) (n := 1) (xfn) (by kernel_rfl) rd_39 hr
  obtain ⟨x5, a5, b5, c5⟩ := xtb (j := 5) (off := 5) (n := 1) (x6i) (by kernel_rfl) rd_40 hr
  obtain ⟨x6, a6, b6, c6⟩ := xtb (j := 6) (off := 6) (n := 7) (xzm) (by kernel_rfl) rd_42 hr
  exact ⟨⟨x0, x1, x2, x3, x4, x5, x6⟩, xib (off := 0) (n := 1) a0 (xib (off := 1) (n := 1) a1 (xib (off := 2) (n := 1) a2 (xib (off := 3) (n := 1) a3 (xib (off := 4) (n := 1) a4 (xib (off := 5) (n := 1) a5 (xib (off := 6) (n := 7) a6 (x1f hlen))))))), xjb (E := Ew w) (off := 0) (n := 1) b0 (xjb (E := Ew w) (off := 1) (n := 1) b1 (xjb (E := Ew w) (off := 2) (n := 1) b2 (xjb (E := Ew w) (off := 3) (n := 1) b3 (xjb (E := Ew w) (off := 4) (n := 1) b4 (xjb (E := Ew w) (off := 5) (n := 1) b5 (xjb (E := Ew w) (off := 6) (n := 7) b6 (xyg hlen))))))), hlen, ⟨c0, c1, c2, c3, c4, c5, c6⟩⟩
def rd_32 := xqk (P := Tryd.prog) (T := 32) (e := 44) (n := 13) (L := Node) (g := xd) (agg := true) (by kernel_rfl) (by kernel_rfl) (by decide) rd_44 (fun _ => rfl)
def Branch.fine (x : Branch) : Prop := (fun l : List Node => l.length ≤ maxLen ∧ ∀ x ∈ l, Node.fine x) x.nodes
theorem rd_34 : Rd Tryd.prog 34 1 (fun x : Branch => AV.cells (xx x)) Branch.fine := by
  intro H enc w base spare held fuel cs r hr
  have hlen : cs.length = 1 := (xuh xch hr).trans (by kernel_rfl)
  obtain ⟨x0, a0, b0, c0⟩ := xtb (j := 0) (off := 0) (n := 1) (xch) (by kernel_rfl) rd_32 hr
  exact ⟨⟨x0⟩, xib (off := 0) (n := 1) a0 (x1f hlen), xjb (E := Ew w) (off := 0) (n := 1) b0 (xyg hlen), hlen, c0⟩
def rd_35 := xqk (P := Tryd.prog) (T := 35) (e := 34) (n := 1) (L := Branch) (g := xx) (agg := true) (by kernel_rfl) (by kernel_rfl) (by decide) rd_34 (fun _ => rfl)
def Stack.fine (x : Stack) : Prop := Geo.fine x.geo ∧ Branch.fine x.upper ∧ (fun l : List Branch => l.length ≤ maxLen ∧ ∀ x ∈ l, Branch.fine x) x.lowers
theorem rd_37 : Rd Tryd.prog 37 6 (fun x : Stack => AV.cells (xob x)) Stack.fine := by
  intro H enc w base spare held fuel cs r hr
  have hlen : cs.length = 6 := (xuh xhj hr).trans (by kernel_rfl)
  obtain ⟨x0, a0, b0, c0⟩ := xtb (j := 0) (off := 0) (n := 4) (xhj) (by kernel_rfl) rd_31 hr
  obtain ⟨x1, a1, b1, c1⟩ := xtb (j := 1) (off := 4) (n := 1) (xyl) (by kernel_rfl) rd_34 hr
  obtain ⟨x2, a2, b2, c2⟩ := xtb (j := 2) (off := 5) (n := 1) (x3l) (by kernel_rfl) rd_35 hr
  exact ⟨⟨x0, x1, x2⟩, xib (off := 0) (n := 4) a0 (xib (off := 4) (n := 1) a1 (xib (off := 5) (n := 1) a2 (x1f hlen))), xjb (E := Ew w) (off := 0) (n := 4) b0 (xjb (E := Ew w) (off := 4) (n := 1) b1 (xjb (E := Ew w) (off := 5) (n := 1) b2 (xyg hlen))), hlen, ⟨c0, c1, c2⟩⟩
end Go.Proofs.YtefdlpandfhcgaaDoor.AL

