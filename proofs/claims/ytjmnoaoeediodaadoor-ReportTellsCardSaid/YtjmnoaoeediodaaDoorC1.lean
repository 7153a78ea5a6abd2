/- A law of the given program is proved: part 1 of 47. -/
import Derived.OwnWalk
import Derived.ScopeJumps
import Derived.KernelRfl
import Derived.Below
import Derived.Lib.ItoaNum
import Derived.Lib.Space
set_option linter.all false
/- AL: what every world of a call knows of the program's own cells; written by g0.py. -/
set_option linter.all false
namespace Go.Proofs.YtjmnoaoeediodaaDoor.AL
open Go Go.Proofs Go.RowKit
def gN : Nat := 6
def GB (w : World) (g : Nat) (cs : Array Value) : Prop := ∃ T fr, w.heap[g]? = some (.cells cs T fr)
def GC (w : World) (g : Nat) (p : Value → Prop) : Prop := ∃ v, w.cell? ⟨g, 0, none⟩ = some v ∧ p v
theorem aI {a b : Prop} (x : a) (y : b) : a ∧ b := ⟨x, y⟩
theorem GB.of {w w' : World} {g : Nat} {cs : Array Value} (h : GB w g cs) (e : w'.heap[g]? = w.heap[g]?) : GB w' g cs := by
  obtain ⟨T, fr, h⟩ := h
  exact ⟨T, fr, e.trans h⟩
theorem GC.of {w w' : World} {g : Nat} {p : Value → Prop} (h : GC w g p) (e : w'.heap[g]? = w.heap[g]?) : GC w' g p := by
  obtain ⟨v, h, hp⟩ := h
  exact ⟨v, (World.cell?_of_block (a := ⟨g, 0, none⟩) e).trans h, hp⟩
def GW (w : World) : Prop := 6 ≤ w.heap.size ∧ GC w 2 (fun v => ∃ m, v = .int .i64 m) ∧ GB w 0 (Lib.asciiSpaceTab.map fun z => Value.int .u8 z).toArray ∧ GB w 5 (Lib.pow10Tab.map fun z => Value.int .u64 z).toArray ∧ GC w 3 (fun v => v = .nilIface ∨ ∃ t p, v = .iface t p) ∧ GC w 4 (fun v => v = .nilIface ∨ ∃ t p, v = .iface t p)
theorem GW.mono {n : Nat} {w w' : World} (h : GW w) (hb : Below n w w') (hn : gN ≤ n) : GW w' := by
  obtain ⟨h0, h1, h2, h3, h4, h5⟩ := h
  exact ⟨Nat.le_trans h0 hb.size, h1.of ((hb.block 2 (by have := hn; unfold gN at this; omega))), h2.of ((hb.block 0 (by have := hn; unfold gN at this; omega))), h3.of ((hb.block 5 (by have := hn; unfold gN at this; omega))), h4.of ((hb.block 3 (by have := hn; unfold gN at this; omega))), h5.of ((hb.block 4 (by have := hn; unfold gN at this; omega)))⟩
theorem GW.size {w : World} (h : GW w) : gN ≤ w.heap.size := h.1
theorem GW.maxLen {w : World} (h : GW w) : ∃ m, w.cell? ⟨2, 0, none⟩ = some (.int .i64 m) := by
  obtain ⟨h0, h1, h2, h3, h4, h5⟩ := h
  obtain ⟨v, e, m, rfl⟩ := h1
  exact ⟨m, e⟩
end Go.Proofs.YtjmnoaoeediodaaDoor.AL

