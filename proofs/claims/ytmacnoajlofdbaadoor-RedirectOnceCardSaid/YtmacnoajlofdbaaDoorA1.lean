/- A law of the given program is proved: part 1 of 49. -/
import Derived.OwnWalk
import Derived.ScopeJumps
import Derived.KernelRfl
import Derived.Below
set_option linter.all false
/- AL: what every world of a call knows of the program's own cells; written by g0.py. -/
set_option linter.all false
namespace Go.Proofs.YtmacnoajlofdbaaDoor.AL
open Go Go.Proofs Go.RowKit
def gN : Nat := 1
def GW (w : World) : Prop := 1 ≤ w.heap.size ∧ (∃ m, w.cell? ⟨0, 0, none⟩ = some (.int .i64 m))
theorem aI {a b : Prop} (x : a) (y : b) : a ∧ b := ⟨x, y⟩
theorem GW.mono {n : Nat} {w w' : World} (h : GW w) (hb : Below n w w') (hn : gN ≤ n) : GW w' := by
  obtain ⟨h0, ⟨m0, h1⟩⟩ := h
  exact ⟨Nat.le_trans h0 hb.size, ⟨m0, (World.cell?_of_block (a := ⟨0, 0, none⟩) (hb.block 0 (by have := hn; unfold gN at this; omega))).trans h1⟩⟩
theorem GW.size {w : World} (h : GW w) : gN ≤ w.heap.size := h.1
end Go.Proofs.YtmacnoajlofdbaaDoor.AL

