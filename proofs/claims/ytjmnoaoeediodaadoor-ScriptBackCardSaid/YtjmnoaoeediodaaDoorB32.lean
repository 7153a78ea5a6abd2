/- A law of the given program is proved: part 32 of 45. -/
import Derived.Test.YtjmnoaoeediodaaDoorB31
set_option linter.all false
/- Readers of this seat's types, printed by linkgen.py. -/
set_option linter.all false
set_option maxRecDepth 100000
namespace Go.Proofs.YtjmnoaoeediodaaDoor.AL
open Go Go.Proofs
def rd_3 := rd_int (P := Tryd.prog) (T := 3) (k := .i64) (by kernel_rfl)
def Finding.fine (x : Finding) : Prop := (fun n : Int => IntKind.i64.min ≤ n ∧ n ≤ IntKind.i64.max) x.clause ∧ (fun n : Int => IntKind.i64.min ≤ n ∧ n ≤ IntKind.i64.max) x.layer ∧ (fun n : Int => IntKind.i64.min ≤ n ∧ n ≤ IntKind.i64.max) x.ino ∧ (fun n : Int => IntKind.i64.min ≤ n ∧ n ≤ IntKind.i64.max) x.slot
def rd_9 := rd_str (P := Tryd.prog) (T := 9) (by kernel_rfl)
def rd_4 := xmy (P := Tryd.prog) (T := 4) (by kernel_rfl)
def Report.fine (x : Report) : Prop := (fun n : Int => IntKind.i64.min ≤ n ∧ n ≤ IntKind.i64.max) x.code ∧ (fun l : List Finding => l.length ≤ maxLen ∧ ∀ x ∈ l, Finding.fine x) x.found ∧ (fun l : List Finding => l.length ≤ maxLen ∧ ∀ x ∈ l, Finding.fine x) x.done ∧ (fun l : List Finding => l.length ≤ maxLen ∧ ∀ x ∈ l, Finding.fine x) x.left ∧ (fun n : Int => IntKind.i64.min ≤ n ∧ n ≤ IntKind.i64.max) x.passes ∧ (fun n : Int => IntKind.i64.min ≤ n ∧ n ≤ IntKind.i64.max) x.trans ∧ (fun n : Int => IntKind.i64.min ≤ n ∧ n ≤ IntKind.i64.max) x.writes ∧ (fun _ : Bool => True) x.replayed
def Answer.fine (x : Answer) : Prop := (fun n : Int => IntKind.i64.min ≤ n ∧ n ≤ IntKind.i64.max) x.clause ∧ (fun n : Int => IntKind.i64.min ≤ n ∧ n ≤ IntKind.i64.max) x.ino ∧ (fun n : Int => IntKind.i64.min ≤ n ∧ n ≤ IntKind.i64.max) x.slot ∧ (fun _ : Bool => True) x.yes
theorem rd_36 : Rd Tryd.prog 36 4 (fun x : Answer => AV.cells (xc x)) Answer.fine := by
  intro H enc w base spare held fuel cs r hr
  have hlen : cs.length = 4 := (xyr xlf hr).trans (by kernel_rfl)
  obtain ⟨x0, a0, b0, c0⟩ := xag (j := 0) (off := 0) (n := 1) (xlf) (by kernel_rfl) rd_3 hr
  obtain ⟨x1, a1, b1, c1⟩ := xag (j := 1) (off := 1) (n := 1) (xhk) (by kernel_rfl) rd_3 hr
  obtain ⟨x2, a2, b2, c2⟩ := xag (j := 2) (off := 2) (n := 1) (xzk) (by kernel_rfl) rd_3 hr
  obtain ⟨x3, a3, b3, c3⟩ := xag (j := 3) (off := 3) (n := 1) (xsk) (by kernel_rfl) rd_4 hr
  exact ⟨⟨x0, x1, x2, x3⟩, xke (off := 0) (n := 1) a0 (xke (off := 1) (n := 1) a1 (xke (off := 2) (n := 1) a2 (xke (off := 3) (n := 1) a3 (xto hlen)))), xle (E := Ew w) (off := 0) (n := 1) b0 (xle (E := Ew w) (off := 1) (n := 1) b1 (xle (E := Ew w) (off := 2) (n := 1) b2 (xle (E := Ew w) (off := 3) (n := 1) b3 (xrq hlen)))), hlen, ⟨c0, c1, c2, c3⟩⟩
def rd_37 := x0x (P := Tryd.prog) (T := 37) (e := 36) (n := 4) (L := Answer) (g := xc) (agg := true) (by kernel_rfl) (by kernel_rfl) (by decide) rd_36 (fun _ => rfl)
def Script.fine (x : Script) : Prop := (fun n : Int => IntKind.i64.min ≤ n ∧ n ≤ IntKind.i64.max) x.mode ∧ (fun l : List Answer => l.length ≤ maxLen ∧ ∀ x ∈ l, Answer.fine x) x.answers ∧ (fun _ : Bool => True) x.default
theorem rd_39 : Rd Tryd.prog 39 3 (fun x : Script => AV.cells (xk x)) Script.fine := by
  intro H enc w base spare held fuel cs r hr
  have hlen : cs.length = 3 := (xyr xhe hr).trans (by kernel_rfl)
  obtain ⟨x0, a0, b0, c0⟩ := xag (j := 0) (off := 0) (n := 1) (xhe) (by kernel_rfl) rd_3 hr
  obtain ⟨x1, a1, b1, c1⟩ := xag (j := 1) (off := 1) (n := 1) (x1k) (by kernel_rfl) rd_37 hr
  obtain ⟨x2, a2, b2, c2⟩ := xag (j := 2) (off := 2) (n := 1) (xmk) (by kernel_rfl) rd_4 hr
  exact ⟨⟨x0, x1, x2⟩, xke (off := 0) (n := 1) a0 (xke (off := 1) (n := 1) a1 (xke (off := 2) (n := 1) a2 (xto hlen))), xle (E := Ew w) (off := 0) (n := 1) b0 (xle (E := Ew w) (off := 1) (n := 1) b1 (xle (E := Ew w) (off := 2) (n := 1) b2 (xrq hlen))), hlen, ⟨c0, c1, c2⟩⟩
end Go.Proofs.YtjmnoaoeediodaaDoor.AL

