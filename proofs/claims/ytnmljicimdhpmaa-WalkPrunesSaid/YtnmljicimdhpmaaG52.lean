/- A law of the given program is proved: part 52 of 55. -/
import Derived.Test.YtnmljicimdhpmaaG51
set_option linter.all false
/- The table of functions for closed runs; written by tabgen.py. -/
set_option linter.all false
namespace Go.Proofs.Ytnmljicimdhpmaa.AL
open Go Go.Proofs
end Go.Proofs.Ytnmljicimdhpmaa.AL

/- Models of functions, and that the functions are as their models: written by gen.py. -/
set_option linter.all false
set_option maxRecDepth 100000
namespace Go.Proofs.Ytnmljicimdhpmaa.AL
open Go Go.Proofs
end Go.Proofs.Ytnmljicimdhpmaa.AL

/- Plain laws, part 5: chapter 24. -/
set_option linter.all false
namespace Go.Proofs.Ytnmljicimdhpmaa.AL
open Go Go.Proofs

theorem bits (k : Fin 32) : bAnd .i64 (k.val : Int) 4 = 0 ↔ ¬ (wr ((k.val : Int).tdiv 4)).tmod 2 = 1 := by
  revert k
  decide +kernel
structure PN (b : Branch) : Prop where
  len : b.nodes.length ≤ 24
  nb : ∀ x ∈ b.nodes, NB x
theorem PN.pb {b : Branch} (h : PN b) : PB b := ⟨h.len, fun x hx => (h.nb x hx).ents⟩
/-! ### The findings -/
end Go.Proofs.Ytnmljicimdhpmaa.AL

/- Plain laws, part 6: ImpureTells. -/
set_option linter.all false
namespace Go.Proofs.Ytnmljicimdhpmaa.AL
open Go Go.Proofs

end Go.Proofs.Ytnmljicimdhpmaa.AL

