/- A law of the given program is proved: part 38 of 45. -/
import Derived.Test.YtjmnoaoeediodaaDoorB37
set_option linter.all false
/- report.Text, in the world. -/
set_option linter.all false
namespace Go.Proofs.YtjmnoaoeediodaaDoor.AL
open Go Go.Proofs Go.RowKit
structure ST (T B b : Nat) (wA : World) (t : List UInt8) (wi : World) : Prop where
  gw : GW wi
  bld : Lib.IsBuilderF T 5 B b (Lib.byteCells t) wi
  bel : Below B wA wi
  sz : B ≤ wi.heap.size
theorem ST.call {T B b : Nat} {wA : World} {t : List UInt8} {wi wj : World} (h : ST T B b wA t wi) (hb : Below wi.heap.size wi wj) : ST T B b wA t wj :=
  ⟨h.gw.mono hb h.gw.size, x6u h.bld hb, h.bel.trans (hb.mono h.sz), Nat.le_trans h.sz hb.size⟩
theorem ST.write {T B b : Nat} {wA : World} {t : List UInt8} {wi wj : World} {s : List UInt8} (h : ST T B b wA t wi) (hB : gN ≤ B) (hw : Lib.BuilderAtF T 5 B b (.pointer (some ⟨b, 0, none⟩)) (Lib.byteCells t ++ Lib.strCells (bB s)) wj) (hb : Below B wi wj) : ST T B b wA (t ++ s) wj := by
  refine ⟨h.gw.mono hb hB, .inr ?_, h.bel.trans hb, Nat.le_trans h.sz hb.size⟩
  have e : Lib.byteCells (t ++ s) = Lib.byteCells t ++ Lib.strCells (bB s) := by
    rw [Lib.strCells_eq, xii]
    simp [Lib.byteCells]
  rw [e]
  exact hw
theorem ST.start {T : Nat} {w : World} (hg : GW w) (o : Obj) : ST T (w.heap.size + 1) (w.heap.size + 1) (w.alloc o) [] ((w.alloc o).alloc (.cells #[.pointer none, .slice none 0 0] T (0, 0))) := by
  have b1 : Below w.heap.size w ((w.alloc o).alloc (.cells #[.pointer none, .slice none 0 0] T (0, 0))) := ((Below.refl _ w).alloc (Nat.le_refl _) o).alloc (by simp) _
  refine ⟨hg.mono b1 hg.size, .inl ⟨Nat.le_refl _, .slice none 0 0, ?_, ⟨rfl, .inl ⟨rfl, rfl⟩⟩, by simp [Value.ownBlock]⟩, (Below.refl _ _).alloc (by simp) _, by simp⟩
  show ((w.heap.push o).push _)[w.heap.size + 1]? = _
  have : w.heap.size + 1 = (w.heap.push o).size := by simp
  rw [this, Array.getElem?_push_size]
theorem ST.cell {T B b : Nat} {wA : World} {t : List UInt8} {wi : World} (h : ST T B b wA t wi) {blk j : Nat} {v : Value} (hlt : blk < B) (hc : wA.cell? ⟨blk, j, none⟩ = some v) : wi.cell? ⟨blk, j, none⟩ = some v :=
  (h.bel.cell (p := ⟨blk, j, none⟩) hlt).trans hc
def countL (r : Report) : List UInt8 := [112, 97, 115, 115, 101, 115, 32] ++ (Lib.itoa r.passes ++ ([32, 116, 114, 97, 110, 115, 32] ++ (Lib.itoa r.trans ++ ([32, 119, 114, 105, 116, 101, 115, 32] ++ (Lib.itoa r.writes ++ [10])))))
structure FR (r : Report) : Prop where
  code : i64 r.code
  passes : i64 r.passes
  trans : i64 r.trans
  writes : i64 r.writes
  found : r.found.length ≤ 60 ∧ ∀ f ∈ r.found, F64 f
  done : r.done.length ≤ 60 ∧ ∀ f ∈ r.done, F64 f
  left : r.left.length ≤ 60 ∧ ∀ f ∈ r.left, F64 f
theorem countB (r : Report) : ByteArray.mk #[112, 97, 115, 115, 101, 115, 32] ++ bB (Lib.itoa r.passes) ++ ByteArray.mk #[32, 116, 114, 97, 110, 115, 32] ++ bB (Lib.itoa r.trans) ++ ByteArray.mk #[32, 119, 114, 105, 116, 101, 115, 32] ++ bB (Lib.itoa r.writes) ++ ByteArray.mk #[10] = bB (countL r) := by
  rw [show ByteArray.mk #[112, 97, 115, 115, 101, 115, 32] = bB [112, 97, 115, 115, 101, 115, 32] from rfl, show ByteArray.mk #[32, 116, 114, 97, 110, 115, 32] = bB [32, 116, 114, 97, 110, 115, 32] from rfl, show ByteArray.mk #[32, 119, 114, 105, 116, 101, 115, 32] = bB [32, 119, 114, 105, 116, 101, 115, 32] from rfl, c10, bB_app, bB_app, bB_app, bB_app, bB_app, bB_app]
  unfold countL
  simp
end Go.Proofs.YtjmnoaoeediodaaDoor.AL

