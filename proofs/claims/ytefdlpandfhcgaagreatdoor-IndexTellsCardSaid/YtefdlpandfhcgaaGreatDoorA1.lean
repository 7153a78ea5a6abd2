/- A law of the given program is proved: part 1 of 50. -/
import Derived.OwnWalk
import Derived.ScopeJumps
import Derived.KernelRfl
import Derived.Below
import Derived.Lib.TrailingZeros
import Derived.Lib.Space
set_option linter.all false
/- AL: what every world of a call knows of the program's own cells; written by g0.py. -/
set_option linter.all false
namespace Go.Proofs.YtefdlpandfhcgaaGreatDoor.AL
open Go Go.Proofs Go.RowKit
def gN : Nat := 6
def GB (w : World) (g : Nat) (cs : Array Value) : Prop := ∃ T fr, w.heap[g]? = some (.cells cs T fr)
def GC (w : World) (g : Nat) (p : Value → Prop) : Prop := ∃ v, w.cell? ⟨g, 0, none⟩ = some v ∧ p v
theorem aI {a b : Prop} (x : a) (y : b) : a ∧ b := ⟨x, y⟩
theorem GB.of {w w' : World} {g : Nat} {cs : Array Value} (h : GB w g cs) (e : w'.heap[g]? = w.heap[g]?) : GB w' g cs := by
  obtain ⟨T, fr, h⟩ := h
  exact ⟨T, fr, e.trans h⟩
theorem GC.of {w w' : World} {g : Nat} {p : Value → Prop} (h : GC w g p) (e : w'.heap[g]? = w.heap[g]?) : GC w' g p := by
  obtain ⟨v, h, hp⟩ := h
  exact ⟨v, (World.cell?_of_block (a := ⟨g, 0, none⟩) e).trans h, hp⟩
def GW (w : World) : Prop := 6 ≤ w.heap.size ∧ GB w 5 ((Lib.deBruijn64tab.map Int.ofNat).map fun z => Value.int .u8 z).toArray ∧ GC w 0 (fun v => v = .nilIface ∨ ∃ t p, v = .iface t p) ∧ GC w 1 (fun v => v = .nilIface ∨ ∃ t p, v = .iface t p)
theorem GW.mono {n : Nat} {w w' : World} (h : GW w) (hb : Below n w w') (hn : gN ≤ n) : GW w' := by
  obtain ⟨h0, h1, h2, h3⟩ := h
  exact ⟨Nat.le_trans h0 hb.size, h1.of ((hb.block 5 (by have := hn; unfold gN at this; omega))), h2.of ((hb.block 0 (by have := hn; unfold gN at this; omega))), h3.of ((hb.block 1 (by have := hn; unfold gN at this; omega)))⟩
theorem GW.size {w : World} (h : GW w) : gN ≤ w.heap.size := h.1
end Go.Proofs.YtefdlpandfhcgaaGreatDoor.AL

