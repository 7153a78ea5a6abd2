/- A law of the given program is proved: part 32 of 40. -/
import Derived.Test.YtjmnoaoeediodaaDoorA31
set_option linter.all false
/- Readers of this seat's types, printed by linkgen.py. -/
set_option linter.all false
set_option maxRecDepth 100000
namespace Go.Proofs.YtjmnoaoeediodaaDoor.AL
open Go Go.Proofs
def rd_3 := rd_int (P := Tryd.prog) (T := 3) (k := .i64) (by kernel_rfl)
def Finding.fine (x : Finding) : Prop := (fun n : Int => IntKind.i64.min ≤ n ∧ n ≤ IntKind.i64.max) x.clause ∧ (fun n : Int => IntKind.i64.min ≤ n ∧ n ≤ IntKind.i64.max) x.layer ∧ (fun n : Int => IntKind.i64.min ≤ n ∧ n ≤ IntKind.i64.max) x.ino ∧ (fun n : Int => IntKind.i64.min ≤ n ∧ n ≤ IntKind.i64.max) x.slot
theorem rd_23 : Rd Tryd.prog 23 4 (fun x : Finding => AV.cells (xb x)) Finding.fine := by
  intro H enc w base spare held fuel cs r hr
  have hlen : cs.length = 4 := (xeo xse hr).trans (by kernel_rfl)
  obtain ⟨x0, a0, b0, c0⟩ := xsc (j := 0) (off := 0) (n := 1) (xse) (by kernel_rfl) rd_3 hr
  obtain ⟨x1, a1, b1, c1⟩ := xsc (j := 1) (off := 1) (n := 1) (xki) (by kernel_rfl) rd_3 hr
  obtain ⟨x2, a2, b2, c2⟩ := xsc (j := 2) (off := 2) (n := 1) (xbi) (by kernel_rfl) rd_3 hr
  obtain ⟨x3, a3, b3, c3⟩ := xsc (j := 3) (off := 3) (n := 1) (x6h) (by kernel_rfl) rd_3 hr
  exact ⟨⟨x0, x1, x2, x3⟩, x3b (off := 0) (n := 1) a0 (x3b (off := 1) (n := 1) a1 (x3b (off := 2) (n := 1) a2 (x3b (off := 3) (n := 1) a3 (xil hlen)))), x2b (E := Ew w) (off := 0) (n := 1) b0 (x2b (E := Ew w) (off := 1) (n := 1) b1 (x2b (E := Ew w) (off := 2) (n := 1) b2 (x2b (E := Ew w) (off := 3) (n := 1) b3 (xwm hlen)))), hlen, ⟨c0, c1, c2, c3⟩⟩
def rd_9 := rd_str (P := Tryd.prog) (T := 9) (by kernel_rfl)
def rd_30 := x0r (P := Tryd.prog) (T := 30) (e := 23) (n := 4) (L := Finding) (g := xb) (agg := true) (by kernel_rfl) (by kernel_rfl) (by decide) rd_23 (fun _ => rfl)
def rd_4 := x5t (P := Tryd.prog) (T := 4) (by kernel_rfl)
def Report.fine (x : Report) : Prop := (fun n : Int => IntKind.i64.min ≤ n ∧ n ≤ IntKind.i64.max) x.code ∧ (fun l : List Finding => l.length ≤ maxLen ∧ ∀ x ∈ l, Finding.fine x) x.found ∧ (fun l : List Finding => l.length ≤ maxLen ∧ ∀ x ∈ l, Finding.fine x) x.done ∧ (fun l : List Finding => l.length ≤ maxLen ∧ ∀ x ∈ l, Finding.fine x) x.left ∧ (fun n : Int => IntKind.i64.min ≤ n ∧ n ≤ IntKind.i64.max) x.passes ∧ (fun n : Int => IntKind.i64.min ≤ n ∧ n ≤ IntKind.i64.max) x.trans ∧ (fun n : Int => IntKind.i64.min ≤ n ∧ n ≤ IntKind.i64.max) x.writes ∧ (fun _ : Bool => True) x.replayed
theorem rd_32 : Rd Tryd.prog 32 8 (fun x : Report => AV.cells (xp x)) Report.fine := by
  intro H enc w base spare held fuel cs r hr
  have hlen : cs.length = 8 := (xeo xoe hr).trans (by kernel_rfl)
  obtain ⟨x0, a0, b0, c0⟩ := xsc (j := 0) (off := 0) (n := 1) (xoe) (by kernel_rfl) rd_3 hr
  obtain ⟨x1, a1, b1, c1⟩ := xsc (j := 1) (off := 1) (n := 1) (x2h) (by kernel_rfl) rd_30 hr
  obtain ⟨x2, a2, b2, c2⟩ := xsc (j := 2) (off := 2) (n := 1) (x7h) (by kernel_rfl) rd_30 hr
  obtain ⟨x3, a3, b3, c3⟩ := xsc (j := 3) (off := 3) (n := 1) (xli) (by kernel_rfl) rd_30 hr
  obtain ⟨x4, a4, b4, c4⟩ := xsc (j := 4) (off := 4) (n := 1) (xii) (by kernel_rfl) rd_3 hr
  obtain ⟨x5, a5, b5, c5⟩ := xsc (j := 5) (off := 5) (n := 1) (xrh) (by kernel_rfl) rd_3 hr
  obtain ⟨x6, a6, b6, c6⟩ := xsc (j := 6) (off := 6) (n := 1) (x8h) (by kernel_rfl) rd_3 hr
  obtain ⟨x7, a7, b7, c7⟩ := xsc (j := 7) (off := 7) (n := 1) (xvh) (by kernel_rfl) rd_4 hr
  exact ⟨⟨x0, x1, x2, x3, x4, x5, x6, x7⟩, x3b (off := 0) (n := 1) a0 (x3b (off := 1) (n := 1) a1 (x3b (off := 2) (n := 1) a2 (x3b (off := 3) (n := 1) a3 (x3b (off := 4) (n := 1) a4 (x3b (off := 5) (n := 1) a5 (x3b (off := 6) (n := 1) a6 (x3b (off := 7) (n := 1) a7 (xil hlen)))))))), x2b (E := Ew w) (off := 0) (n := 1) b0 (x2b (E := Ew w) (off := 1) (n := 1) b1 (x2b (E := Ew w) (off := 2) (n := 1) b2 (x2b (E := Ew w) (off := 3) (n := 1) b3 (x2b (E := Ew w) (off := 4) (n := 1) b4 (x2b (E := Ew w) (off := 5) (n := 1) b5 (x2b (E := Ew w) (off := 6) (n := 1) b6 (x2b (E := Ew w) (off := 7) (n := 1) b7 (xwm hlen)))))))), hlen, ⟨c0, c1, c2, c3, c4, c5, c6, c7⟩⟩
def Answer.fine (x : Answer) : Prop := (fun n : Int => IntKind.i64.min ≤ n ∧ n ≤ IntKind.i64.max) x.clause ∧ (fun n : Int => IntKind.i64.min ≤ n ∧ n ≤ IntKind.i64.max) x.ino ∧ (fun n : Int => IntKind.i64.min ≤ n ∧ n ≤ IntKind.i64.max) x.slot ∧ (fun _ : Bool => True) x.yes
def Script.fine (x : Script) : Prop := (fun n : Int => IntKind.i64.min ≤ n ∧ n ≤ IntKind.i64.max) x.mode ∧ (fun l : List Answer => l.length ≤ maxLen ∧ ∀ x ∈ l, Answer.fine x) x.answers ∧ (fun _ : Bool => True) x.default
end Go.Proofs.YtjmnoaoeediodaaDoor.AL

