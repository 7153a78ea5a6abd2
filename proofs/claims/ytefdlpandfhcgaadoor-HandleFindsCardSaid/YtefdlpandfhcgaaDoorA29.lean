/- A law of the given program is proved: part 29 of 50. -/
import Derived.Test.YtefdlpandfhcgaaDoorA28
set_option linter.all false
/- Readers of this seat's types, printed by linkgen.py. -/
set_option linter.all false
set_option maxRecDepth 100000
namespace Go.Proofs.YtefdlpandfhcgaaDoor.AL
open Go Go.Proofs
def rd_3 := rd_int (P := Tryd.prog) (T := 3) (k := .i64) (by kernel_rfl)
def Geo.fine (x : Geo) : Prop := (fun n : Int => IntKind.i64.min ≤ n ∧ n ≤ IntKind.i64.max) x.lowers ∧ (fun n : Int => IntKind.i64.min ≤ n ∧ n ≤ IntKind.i64.max) x.inodes ∧ (fun n : Int => IntKind.i64.min ≤ n ∧ n ≤ IntKind.i64.max) x.blocks ∧ (fun n : Int => IntKind.i64.min ≤ n ∧ n ≤ IntKind.i64.max) x.log
theorem rd_31 : Rd Tryd.prog 31 4 (fun x : Geo => AV.cells (encGeo x)) Geo.fine := by
  intro H enc w base spare held fuel cs r hr
  have hlen : cs.length = 4 := (xrg xwk hr).trans (by kernel_rfl)
  obtain ⟨x0, a0, b0, c0⟩ := xlb (j := 0) (off := 0) (n := 1) (xwk) (by kernel_rfl) rd_3 hr
  obtain ⟨x1, a1, b1, c1⟩ := xlb (j := 1) (off := 1) (n := 1) (x0p) (by kernel_rfl) rd_3 hr
  obtain ⟨x2, a2, b2, c2⟩ := xlb (j := 2) (off := 2) (n := 1) (x8q) (by kernel_rfl) rd_3 hr
  obtain ⟨x3, a3, b3, c3⟩ := xlb (j := 3) (off := 3) (n := 1) (xrp) (by kernel_rfl) rd_3 hr
  exact ⟨⟨x0, x1, x2, x3⟩, xab (off := 0) (n := 1) a0 (xab (off := 1) (n := 1) a1 (xab (off := 2) (n := 1) a2 (xab (off := 3) (n := 1) a3 (xaf hlen)))), x7 (E := Ew w) (off := 0) (n := 1) b0 (x7 (E := Ew w) (off := 1) (n := 1) b1 (x7 (E := Ew w) (off := 2) (n := 1) b2 (x7 (E := Ew w) (off := 3) (n := 1) b3 (x4f hlen)))), hlen, ⟨c0, c1, c2, c3⟩⟩
def rd_39e := rd_u8 (P := Tryd.prog) (T := 5) (by kernel_rfl)
def rd_39 := xfj (P := Tryd.prog) (T := 39) (e := 5) (n := 1) (g := u8) (agg := false) (by kernel_rfl) (by kernel_rfl) (by decide) rd_39e (fun _ => rfl)
def rd_9 := rd_str (P := Tryd.prog) (T := 9) (by kernel_rfl)
def Entry.fine (x : Entry) : Prop := (fun n : Int => IntKind.i64.min ≤ n ∧ n ≤ IntKind.i64.max) x.slot ∧ (fun n : Int => IntKind.i64.min ≤ n ∧ n ≤ IntKind.i64.max) x.ino ∧ (fun s : ByteArray => s.size ≤ maxLen) x.name
theorem rd_51 : Rd Tryd.prog 51 3 (fun x : Entry => AV.cells (xt x)) Entry.fine := by
  intro H enc w base spare held fuel cs r hr
  have hlen : cs.length = 3 := (xrg xfg hr).trans (by kernel_rfl)
  obtain ⟨x0, a0, b0, c0⟩ := xlb (j := 0) (off := 0) (n := 1) (xfg) (by kernel_rfl) rd_3 hr
  obtain ⟨x1, a1, b1, c1⟩ := xlb (j := 1) (off := 1) (n := 1) (xph) (by kernel_rfl) rd_3 hr
  obtain ⟨x2, a2, b2, c2⟩ := xlb (j := 2) (off := 2) (n := 1) (x5k) (by kernel_rfl) rd_9 hr
  exact ⟨⟨x0, x1, x2⟩, xab (off := 0) (n := 1) a0 (xab (off := 1) (n := 1) a1 (xab (off := 2) (n := 1) a2 (xaf hlen))), x7 (E := Ew w) (off := 0) (n := 1) b0 (x7 (E := Ew w) (off := 1) (n := 1) b1 (x7 (E := Ew w) (off := 2) (n := 1) b2 (x4f hlen))), hlen, ⟨c0, c1, c2⟩⟩
def rd_40 := xfj (P := Tryd.prog) (T := 40) (e := 51) (n := 3) (L := Entry) (g := xt) (agg := true) (by kernel_rfl) (by kernel_rfl) (by decide) rd_51 (fun _ => rfl)
def Origin.fine (x : Origin) : Prop := (fun n : Int => IntKind.i64.min ≤ n ∧ n ≤ IntKind.i64.max) x.layer ∧ (fun n : Int => IntKind.i64.min ≤ n ∧ n ≤ IntKind.i64.max) x.ino ∧ (fun n : Int => IntKind.i64.min ≤ n ∧ n ≤ IntKind.i64.max) x.gen
theorem rd_23 : Rd Tryd.prog 23 3 (fun x : Origin => AV.cells (xd x)) Origin.fine := by
  intro H enc w base spare held fuel cs r hr
  have hlen : cs.length = 3 := (xrg x0d hr).trans (by kernel_rfl)
  obtain ⟨x0, a0, b0, c0⟩ := xlb (j := 0) (off := 0) (n := 1) (x0d) (by kernel_rfl) rd_3 hr
  obtain ⟨x1, a1, b1, c1⟩ := xlb (j := 1) (off := 1) (n := 1) (xsk) (by kernel_rfl) rd_3 hr
  obtain ⟨x2, a2, b2, c2⟩ := xlb (j := 2) (off := 2) (n := 1) (xyk) (by kernel_rfl) rd_3 hr
  exact ⟨⟨x0, x1, x2⟩, xab (off := 0) (n := 1) a0 (xab (off := 1) (n := 1) a1 (xab (off := 2) (n := 1) a2 (xaf hlen))), x7 (E := Ew w) (off := 0) (n := 1) b0 (x7 (E := Ew w) (off := 1) (n := 1) b1 (x7 (E := Ew w) (off := 2) (n := 1) b2 (x4f hlen))), hlen, ⟨c0, c1, c2⟩⟩
def Attr.fine (x : Attr) : Prop := (fun n : Int => IntKind.i64.min ≤ n ∧ n ≤ IntKind.i64.max) x.has ∧ (fun n : Int => IntKind.i64.min ≤ n ∧ n ≤ IntKind.i64.max) x.opaque0 ∧ (fun s : ByteArray => s.size ≤ maxLen) x.redirect ∧ Origin.fine x.origin ∧ (fun n : Int => IntKind.i64.min ≤ n ∧ n ≤ IntKind.i64.max) x.shown
theorem rd_42 : Rd Tryd.prog 42 7 (fun x : Attr => AV.cells (x5c x)) Attr.fine := by
  intro H enc w base spare held fuel cs r hr
  have hlen : cs.length = 7 := (xrg xoh hr).trans (by kernel_rfl)
  obtain ⟨x0, a0, b0, c0⟩ := xlb (j := 0) (off := 0) (n := 1) (xoh) (by kernel_rfl) rd_3 hr
  obtain ⟨x1, a1, b1, c1⟩ := xlb (j := 1) (off := 1) (n := 1) (xsq) (by kernel_rfl) rd_3 hr
  obtain ⟨x2, a2, b2, c2⟩ := xlb (j := 2) (off := 2) (n := 1) (xuk) (by kernel_rfl) rd_9 hr
  obtain ⟨x3, a3, b3, c3⟩ := xlb (j := 3) (off := 3) (n := 3) (xhq) (by kernel_rfl) rd_23 hr
  obtain ⟨x4, a4, b4, c4⟩ := xlb (j := 4) (off := 6) (n := 1) (xsp) (by kernel_rfl) rd_3 hr
  exact ⟨⟨x0, x1, x2, x3, x4⟩, xab (off := 0) (n := 1) a0 (xab (off := 1) (n := 1) a1 (xab (off := 2) (n := 1) a2 (xab (off := 3) (n := 3) a3 (xab (off := 6) (n := 1) a4 (xaf hlen))))), x7 (E := Ew w) (off := 0) (n := 1) b0 (x7 (E := Ew w) (off := 1) (n := 1) b1 (x7 (E := Ew w) (off := 2) (n := 1) b2 (x7 (E := Ew w) (off := 3) (n := 3) b3 (x7 (E := Ew w) (off := 6) (n := 1) b4 (x4f hlen))))), hlen, ⟨c0, c1, c2, c3, c4⟩⟩
def Node.fine (x : Node) : Prop := (fun n : Int => IntKind.i64.min ≤ n ∧ n ≤ IntKind.i64.max) x.kind ∧ (fun n : Int => IntKind.i64.min ≤ n ∧ n ≤ IntKind.i64.max) x.impure ∧ (fun n : Int => IntKind.i64.min ≤ n ∧ n ≤ IntKind.i64.max) x.nlink ∧ (fun n : Int => IntKind.i64.min ≤ n ∧ n ≤ IntKind.i64.max) x.gen ∧ (fun l : List UInt8 => l.length ≤ maxLen ∧ ∀ x ∈ l, True) x.data ∧ (fun l : List Entry => l.length ≤ maxLen ∧ ∀ x ∈ l, Entry.fine x) x.entries ∧ Attr.fine x.attr
theorem rd_44 : Rd Tryd.prog 44 13 (fun x : Node => AV.cells (xv x)) Node.fine := by
  intro H enc w base spare held fuel cs r hr
  have hlen : cs.length = 13 := (xrg xhg hr).trans (by kernel_rfl)
  obtain ⟨x0, a0, b0, c0⟩ := xlb (j := 0) (off := 0) (n := 1) (xhg) (by kernel_rfl) rd_3 hr
  obtain ⟨x1, a1, b1, c1⟩ := xlb (j := 1) (off := 1) (n := 1) (xqk) (by kernel_rfl) rd_3 hr
  obtain ⟨x2, a2, b2, c2⟩ := xlb (j := 2) (off := 2) (n := 1) (xlk) (by kernel_rfl) rd_3 hr
  obtain ⟨x3, a3, b3, c3⟩ := xlb (j := 3) (off := 3) (n := 1) (xvk) (by kernel_rfl) rd_3 hr
  obtain ⟨x4, a4, b4, c4⟩ := xlb (j := 4) (off := 4) (n := 1) (x8k) (by kernel_rfl) rd_39 hr
  obtain ⟨x5, a5, b5, c5⟩ := xlb (j := 5) (off := 5) (n := 1) (xnh) (by kernel_rfl) rd_40 hr
  obtain ⟨x6, a6, b6, c6⟩ := xlb (j := 6) (off := 6) (n := 7) (xpk) (by kernel_rfl) rd_42 hr
  exact ⟨⟨x0, x1, x2, x3, x4, x5, x6⟩, xab (off := 0) (n := 1) a0 (xab (off := 1) (n := 1) a1 (xab (off := 2) (n := 1) a2 (xab (off := 3) (n := 1) a3 (xab (off := 4) (n := 1) a4 (xab (off := 5) (n := 1) a5 (xab (off := 6) (n := 7) a6 (xaf hlen))))))), x7 (E := Ew w) (off := 0) (n := 1) b0 (x7 (E := Ew w) (off := 1) (n := 1) b1 (x7 (E := Ew w) (off := 2) (n := 1) b2 (x7 (E := Ew w) (off := 3) (n := 1) b3 (x7 (E := Ew w) (off := 4) (n := 1) b4 (x7 (E := Ew w) (off := 5) (n := 1) b5 (x7 (E := Ew w) (off := 6) (n := 7) b6 (x4f hlen))))))), hlen, ⟨c0, c1, c2, c3, c4, c5, c6⟩⟩
def rd_32 := xfj (P := Tryd.prog) (T := 32) (e := 44) (n := 13) (L := Node) (g := xv) (agg := true) (by kernel_rfl) (by kernel_rfl) (by decide) rd_44 (fun _ => rfl)
def Branch.fine (x : Branch) : Prop := (fun l : List Node => l.length ≤ maxLen ∧ ∀ x ∈ l, Node.fine x) x.nodes
theorem rd_34 : Rd Tryd.prog 34 1 (fun x : Branch => AV.cells (xgb x)) Branch.fine := by
  intro H enc w base spare held fuel cs r hr
  have hlen : cs.length = 1 := (xrg x8f hr).trans (by kernel_rfl)
  obtain ⟨x0, a0, b0, c0⟩ := xlb (j := 0) (off := 0) (n := 1) (x8f) (by kernel_rfl) rd_32 hr
  exact ⟨⟨x0⟩, xab (off := 0) (n := 1) a0 (xaf hlen), x7 (E := Ew w) (off := 0) (n := 1) b0 (x4f hlen), hlen, c0⟩
def rd_35 := xfj (P := Tryd.prog) (T := 35) (e := 34) (n := 1) (L := Branch) (g := xgb) (agg := true) (by kernel_rfl) (by kernel_rfl) (by decide) rd_34 (fun _ => rfl)
def Stack.fine (x : Stack) : Prop := Geo.fine x.geo ∧ Branch.fine x.upper ∧ (fun l : List Branch => l.length ≤ maxLen ∧ ∀ x ∈ l, Branch.fine x) x.lowers
theorem rd_37 : Rd Tryd.prog 37 6 (fun x : Stack => AV.cells (xtb x)) Stack.fine := by
  intro H enc w base spare held fuel cs r hr
  have hlen : cs.length = 6 := (xrg xrh hr).trans (by kernel_rfl)
  obtain ⟨x0, a0, b0, c0⟩ := xlb (j := 0) (off := 0) (n := 4) (xrh) (by kernel_rfl) rd_31 hr
  obtain ⟨x1, a1, b1, c1⟩ := xlb (j := 1) (off := 4) (n := 1) (xal) (by kernel_rfl) rd_34 hr
  obtain ⟨x2, a2, b2, c2⟩ := xlb (j := 2) (off := 5) (n := 1) (x6k) (by kernel_rfl) rd_35 hr
  exact ⟨⟨x0, x1, x2⟩, xab (off := 0) (n := 4) a0 (xab (off := 4) (n := 1) a1 (xab (off := 5) (n := 1) a2 (xaf hlen))), x7 (E := Ew w) (off := 0) (n := 4) b0 (x7 (E := Ew w) (off := 4) (n := 1) b1 (x7 (E := Ew w) (off := 5) (n := 1) b2 (x4f hlen))), hlen, ⟨c0, c1, c2⟩⟩
end Go.Proofs.YtefdlpandfhcgaaDoor.AL

