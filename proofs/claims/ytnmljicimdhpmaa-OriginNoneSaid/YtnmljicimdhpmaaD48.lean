/- A law of the given program is proved: part 48 of 51. -/
import Derived.Test.YtnmljicimdhpmaaD47
set_option linter.all false
/- The table of functions for closed runs; written by tabgen.py. -/
set_option linter.all false
namespace Go.Proofs.Ytnmljicimdhpmaa.AL
open Go Go.Proofs
end Go.Proofs.Ytnmljicimdhpmaa.AL

/- Models of functions, and that the functions are as their models: written by gen.py. -/
set_option linter.all false
set_option maxRecDepth 100000
namespace Go.Proofs.Ytnmljicimdhpmaa.AL
open Go Go.Proofs
end Go.Proofs.Ytnmljicimdhpmaa.AL

/- Plain laws, part 5: chapter 24. -/
set_option linter.all false
namespace Go.Proofs.Ytnmljicimdhpmaa.AL
open Go Go.Proofs

theorem bits (k : Fin 32) : bAnd .i64 (k.val : Int) 4 = 0 ↔ ¬ (wr ((k.val : Int).tdiv 4)).tmod 2 = 1 := by
  revert k
  decide +kernel
structure PN (b : Branch) : Prop where
  len : b.nodes.length ≤ 24
  nb : ∀ x ∈ b.nodes, NB x
theorem PN.pb {b : Branch} (h : PN b) : PB b := ⟨h.len, fun x hx => (h.nb x hx).ents⟩
theorem nodeP_nb {b : Branch} (h : PN b) (ino : Int) : NB (nodeP b ino) := by
  unfold nodeP
  split
  · exact ⟨by simp [zeroNode], by simp [zeroNode], by simp [zeroNode]⟩
  · split
    · exact ⟨by simp [zeroNode], by simp [zeroNode], by simp [zeroNode]⟩
    · have hlt : (ino - 1).toNat < b.nodes.length := by omega
      simp only [List.getElem?_eq_getElem hlt, Option.getD_some]
      exact h.nb _ (List.getElem_mem hlt)
def inB (b : Branch) (ino : Int) : Bool := ((reachP b [1])[(ino - 1).toNat]?).getD false
theorem reach_ix {b : Branch} {ino : Int} (h1 : 1 ≤ ino) (h2 : ino ≤ (b.nodes.length : Int)) (hn : b.nodes.length ≤ 24) : ix (reachP b [1]) (wr (ino - 1)) = some (inB b ino) := by
  have hl := reachP_len b [1]
  rw [wr_in (by omega) (by omega), ix_of (by omega) (by omega)]
  unfold inB
  rw [List.getElem?_eq_getElem (by omega)]
  rfl
/-! ### The findings -/
end Go.Proofs.Ytnmljicimdhpmaa.AL

/- Plain laws, part 6: ImpureTells. -/
set_option linter.all false
namespace Go.Proofs.Ytnmljicimdhpmaa.AL
open Go Go.Proofs

theorem SB.pn {s : Stack} (h : SB s) : PN s.upper := ⟨h.up.1, h.up.2⟩
end Go.Proofs.Ytnmljicimdhpmaa.AL

