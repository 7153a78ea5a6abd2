/- A law of the given program is proved: part 38 of 50. -/
import Derived.RangeFuncNested
import Derived.Test.YtefdlpandfhcgaaGreatDoorA37
set_option linter.all false
/- AL: the program's own cells, where all cells are kept; written by g0.py. -/
set_option linter.all false
namespace Go.Proofs.YtefdlpandfhcgaaGreatDoor.AL
open Go Go.Proofs Go.RowKit
theorem xd5 {w : World} {b o : Nat} {v : Value} (h : w.cell? ⟨b, o, none⟩ = some v) : ∃ ob, w.heap[b]? = some ob ∧ ob.isCells = true := by
  unfold World.cell? at h
  simp only at h
  split at h
  · rename_i c T fr hb
    exact ⟨_, hb, rfl⟩
  · cases h
theorem GB.keep {w w' : World} {g : Nat} {cs : Array Value} (h : GB w g cs) (hk : ∀ o, w.heap[g]? = some o → o.isCells = true → w'.heap[g]? = some o) : GB w' g cs := by
  obtain ⟨T, fr, h⟩ := h
  exact ⟨T, fr, hk _ h rfl⟩
theorem GC.keep {w w' : World} {g : Nat} {p : Value → Prop} (h : GC w g p) (hk : ∀ o, w.heap[g]? = some o → o.isCells = true → w'.heap[g]? = some o) : GC w' g p := by
  obtain ⟨v, h, hp⟩ := h
  obtain ⟨ob, ho, hc⟩ := xd5 h
  exact ⟨v, (World.cell?_of_block (a := ⟨g, 0, none⟩) ((hk ob ho hc).trans ho.symm)).trans h, hp⟩
theorem GW.keep {w w' : World} (h : GW w) (hs : w.heap.size ≤ w'.heap.size) (hk : ∀ b o, b < gN → w.heap[b]? = some o → o.isCells = true → w'.heap[b]? = some o) : GW w' := by
  obtain ⟨h0, h1, h2, h3⟩ := h
  exact ⟨Nat.le_trans h0 hs, h1.keep fun o => hk 5 o (by unfold gN; omega), h2.keep fun o => hk 0 o (by unfold gN; omega), h3.keep fun o => hk 1 o (by unfold gN; omega)⟩
end Go.Proofs.YtefdlpandfhcgaaGreatDoor.AL

