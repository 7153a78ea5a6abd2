/- A law of the given program is proved: part 42 of 50. -/
import Derived.Test.YtefdlpandfhcgaaDoorA41
set_option linter.all false
/- (*walk.trail).reach: the range over a function, and what is handed back. -/
set_option linter.all false
namespace Go.Proofs.YtefdlpandfhcgaaDoor.AL
open Go Go.Proofs Go.RowKit
theorem VReps.bools {E E' : Env} : ∀ (bs : List Bool) (us : List Value), VReps E (bs.map bool) us → VReps E' (bs.map bool) us
  | [], us, h => by simpa only [List.map_nil, VReps] using h
  | x :: bs, us, h => by
    simp only [List.map_cons, VReps] at h ⊢
    obtain ⟨u, us', h1, h2, h3⟩ := h
    exact ⟨u, us', by simpa only [bool, VRep] using h1, VReps.bools bs us' h2, h3⟩
section
variable {T : Nat → AV} {H : Nat → Option AO} {nx n : Nat} {x : Entry} {bs : List Bool}
end
end Go.Proofs.YtefdlpandfhcgaaDoor.AL

