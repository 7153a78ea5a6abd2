/- A law of the given program is proved: part 32 of 47. -/
import Derived.Test.YtjmnoaoeediodaaDoorC31
set_option linter.all false
/- Readers of this seat's types, printed by linkgen.py. -/
set_option linter.all false
set_option maxRecDepth 100000
namespace Go.Proofs.YtjmnoaoeediodaaDoor.AL
open Go Go.Proofs
def rd_3 := rd_int (P := Tryd.prog) (T := 3) (k := .i64) (by kernel_rfl)
def Finding.fine (x : Finding) : Prop := (fun n : Int => IntKind.i64.min ≤ n ∧ n ≤ IntKind.i64.max) x.clause ∧ (fun n : Int => IntKind.i64.min ≤ n ∧ n ≤ IntKind.i64.max) x.layer ∧ (fun n : Int => IntKind.i64.min ≤ n ∧ n ≤ IntKind.i64.max) x.ino ∧ (fun n : Int => IntKind.i64.min ≤ n ∧ n ≤ IntKind.i64.max) x.slot
theorem rd_23 : Rd Tryd.prog 23 4 (fun x : Finding => AV.cells (xd x)) Finding.fine := by
  intro H enc w base spare held fuel cs r hr
  have hlen : cs.length = 4 := (xen xwg hr).trans (by kernel_rfl)
  obtain ⟨x0, a0, b0, c0⟩ := xjc (j := 0) (off := 0) (n := 1) (xwg) (by kernel_rfl) rd_3 hr
  obtain ⟨x1, a1, b1, c1⟩ := xjc (j := 1) (off := 1) (n := 1) (xyl) (by kernel_rfl) rd_3 hr
  obtain ⟨x2, a2, b2, c2⟩ := xjc (j := 2) (off := 2) (n := 1) (x3l) (by kernel_rfl) rd_3 hr
  obtain ⟨x3, a3, b3, c3⟩ := xjc (j := 3) (off := 3) (n := 1) (xxm) (by kernel_rfl) rd_3 hr
  exact ⟨⟨x0, x1, x2, x3⟩, xub (off := 0) (n := 1) a0 (xub (off := 1) (n := 1) a1 (xub (off := 2) (n := 1) a2 (xub (off := 3) (n := 1) a3 (x1i hlen)))), xtb (E := Ew w) (off := 0) (n := 1) b0 (xtb (E := Ew w) (off := 1) (n := 1) b1 (xtb (E := Ew w) (off := 2) (n := 1) b2 (xtb (E := Ew w) (off := 3) (n := 1) b3 (xok hlen)))), hlen, ⟨c0, c1, c2, c3⟩⟩
def rd_9 := rd_str (P := Tryd.prog) (T := 9) (by kernel_rfl)
def rd_30 := x9r (P := Tryd.prog) (T := 30) (e := 23) (n := 4) (L := Finding) (g := xd) (agg := true) (by kernel_rfl) (by kernel_rfl) (by decide) rd_23 (fun _ => rfl)
def rd_4 := xa1 (P := Tryd.prog) (T := 4) (by kernel_rfl)
def Report.fine (x : Report) : Prop := (fun n : Int => IntKind.i64.min ≤ n ∧ n ≤ IntKind.i64.max) x.code ∧ (fun l : List Finding => l.length ≤ maxLen ∧ ∀ x ∈ l, Finding.fine x) x.found ∧ (fun l : List Finding => l.length ≤ maxLen ∧ ∀ x ∈ l, Finding.fine x) x.done ∧ (fun l : List Finding => l.length ≤ maxLen ∧ ∀ x ∈ l, Finding.fine x) x.left ∧ (fun n : Int => IntKind.i64.min ≤ n ∧ n ≤ IntKind.i64.max) x.passes ∧ (fun n : Int => IntKind.i64.min ≤ n ∧ n ≤ IntKind.i64.max) x.trans ∧ (fun n : Int => IntKind.i64.min ≤ n ∧ n ≤ IntKind.i64.max) x.writes ∧ (fun _ : Bool => True) x.replayed
theorem rd_32 : Rd Tryd.prog 32 8 (fun x : Report => AV.cells (xgb x)) Report.fine := by
  intro H enc w base spare held fuel cs r hr
  have hlen : cs.length = 8 := (xen xvg hr).trans (by kernel_rfl)
  obtain ⟨x0, a0, b0, c0⟩ := xjc (j := 0) (off := 0) (n := 1) (xvg) (by kernel_rfl) rd_3 hr
  obtain ⟨x1, a1, b1, c1⟩ := xjc (j := 1) (off := 1) (n := 1) (xwl) (by kernel_rfl) rd_30 hr
  obtain ⟨x2, a2, b2, c2⟩ := xjc (j := 2) (off := 2) (n := 1) (xnm) (by kernel_rfl) rd_30 hr
  obtain ⟨x3, a3, b3, c3⟩ := xjc (j := 3) (off := 3) (n := 1) (x6l) (by kernel_rfl) rd_30 hr
  obtain ⟨x4, a4, b4, c4⟩ := xjc (j := 4) (off := 4) (n := 1) (x5l) (by kernel_rfl) rd_3 hr
  obtain ⟨x5, a5, b5, c5⟩ := xjc (j := 5) (off := 5) (n := 1) (x1l) (by kernel_rfl) rd_3 hr
  obtain ⟨x6, a6, b6, c6⟩ := xjc (j := 6) (off := 6) (n := 1) (x4l) (by kernel_rfl) rd_3 hr
  obtain ⟨x7, a7, b7, c7⟩ := xjc (j := 7) (off := 7) (n := 1) (xsm) (by kernel_rfl) rd_4 hr
  exact ⟨⟨x0, x1, x2, x3, x4, x5, x6, x7⟩, xub (off := 0) (n := 1) a0 (xub (off := 1) (n := 1) a1 (xub (off := 2) (n := 1) a2 (xub (off := 3) (n := 1) a3 (xub (off := 4) (n := 1) a4 (xub (off := 5) (n := 1) a5 (xub (off := 6) (n := 1) a6 (xub (off := 7) (n := 1) a7 (x1i hlen)))))))), xtb (E := Ew w) (off := 0) (n := 1) b0 (xtb (E := Ew w) (off := 1) (n := 1) b1 (xtb (E := Ew w) (off := 2) (n := 1) b2 (xtb (E := Ew w) (off := 3) (n := 1) b3 (xtb (E := Ew w) (off := 4) (n := 1) b4 (xtb (E := Ew w) (off := 5) (n := 1) b5 (xtb (E := Ew w) (off := 6) (n := 1) b6 (xtb (E := Ew w) (off := 7) (n := 1) b7 (xok hlen)))))))), hlen, ⟨c0, c1, c2, c3, c4, c5, c6, c7⟩⟩
def Answer.fine (x : Answer) : Prop := (fun n : Int => IntKind.i64.min ≤ n ∧ n ≤ IntKind.i64.max) x.clause ∧ (fun n : Int => IntKind.i64.min ≤ n ∧ n ≤ IntKind.i64.max) x.ino ∧ (fun n : Int => IntKind.i64.min ≤ n ∧ n ≤ IntKind.i64.max) x.slot ∧ (fun _ : Bool => True) x.yes
theorem rd_36 : Rd Tryd.prog 36 4 (fun x : Answer => AV.cells (xc x)) Answer.fine := by
  intro H enc w base spare held fuel cs r hr
  have hlen : cs.length = 4 := (xen xsg hr).trans (by kernel_rfl)
  obtain ⟨x0, a0, b0, c0⟩ := xjc (j := 0) (off := 0) (n := 1) (xsg) (by kernel_rfl) rd_3 hr
  obtain ⟨x1, a1, b1, c1⟩ := xjc (j := 1) (off := 1) (n := 1) (xjm) (by kernel_rfl) rd_3 hr
  obtain ⟨x2, a2, b2, c2⟩ := xjc (j := 2) (off := 2) (n := 1) (xbm) (by kernel_rfl) rd_3 hr
  obtain ⟨x3, a3, b3, c3⟩ := xjc (j := 3) (off := 3) (n := 1) (xvm) (by kernel_rfl) rd_4 hr
  exact ⟨⟨x0, x1, x2, x3⟩, xub (off := 0) (n := 1) a0 (xub (off := 1) (n := 1) a1 (xub (off := 2) (n := 1) a2 (xub (off := 3) (n := 1) a3 (x1i hlen)))), xtb (E := Ew w) (off := 0) (n := 1) b0 (xtb (E := Ew w) (off := 1) (n := 1) b1 (xtb (E := Ew w) (off := 2) (n := 1) b2 (xtb (E := Ew w) (off := 3) (n := 1) b3 (xok hlen)))), hlen, ⟨c0, c1, c2, c3⟩⟩
def rd_37 := x9r (P := Tryd.prog) (T := 37) (e := 36) (n := 4) (L := Answer) (g := xc) (agg := true) (by kernel_rfl) (by kernel_rfl) (by decide) rd_36 (fun _ => rfl)
def Script.fine (x : Script) : Prop := (fun n : Int => IntKind.i64.min ≤ n ∧ n ≤ IntKind.i64.max) x.mode ∧ (fun l : List Answer => l.length ≤ maxLen ∧ ∀ x ∈ l, Answer.fine x) x.answers ∧ (fun _ : Bool => True) x.default
theorem rd_39 : Rd Tryd.prog 39 3 (fun x : Script => AV.cells (xl x)) Script.fine := by
  intro H enc w base spare held fuel cs r hr
  have hlen : cs.length = 3 := (xen xhf hr).trans (by kernel_rfl)
  obtain ⟨x0, a0, b0, c0⟩ := xjc (j := 0) (off := 0) (n := 1) (xhf) (by kernel_rfl) rd_3 hr
  obtain ⟨x1, a1, b1, c1⟩ := xjc (j := 1) (off := 1) (n := 1) (xzl) (by kernel_rfl) rd_37 hr
  obtain ⟨x2, a2, b2, c2⟩ := xjc (j := 2) (off := 2) (n := 1) (x7l) (by kernel_rfl) rd_4 hr
  exact ⟨⟨x0, x1, x2⟩, xub (off := 0) (n := 1) a0 (xub (off := 1) (n := 1) a1 (xub (off := 2) (n := 1) a2 (x1i hlen))), xtb (E := Ew w) (off := 0) (n := 1) b0 (xtb (E := Ew w) (off := 1) (n := 1) b1 (xtb (E := Ew w) (off := 2) (n := 1) b2 (xok hlen))), hlen, ⟨c0, c1, c2⟩⟩
end Go.Proofs.YtjmnoaoeediodaaDoor.AL

