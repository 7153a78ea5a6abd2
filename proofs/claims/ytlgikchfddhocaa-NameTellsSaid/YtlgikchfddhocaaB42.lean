/- What of the attributes of any stack, and of any node, may not be, is what the document says: part 42 of 46. -/
import Derived.Test.YtlgikchfddhocaaB41
set_option linter.all false
/- AL: the interpreter tells the truth. -/
set_option linter.all false
namespace Go.Proofs.Ytlgikchfddhocaa.AL
open Go Go.Proofs Go.RowKit
section
variable {P : Program} {tab : FuncId → Option (Nat × List ResultVar × AC)} {told : FuncId → Option (List AV → Option AV)}
theorem OkN.ok {f : FuncId} {ag : List AV} {r : AV} (h : OkN P f ag r) : Ok P f ag r :=
  ⟨h.1, fun Z w vals hZ hv => (h.2 Z w vals hZ hv).mono fun e w' ⟨v, h1, h2, h3⟩ => ⟨v, h1, h2, VRep.stab (E := Ec (fun b => w.heap.size ≤ b ∧ b < w'.heap.size) w') (E' := Ec (fun b => Z b ∨ (w.heap.size ≤ b ∧ b < w'.heap.size)) w') ⟨fun _ h => h, fun _ h => h.elim, fun b hb => ⟨.inr hb, rfl⟩⟩ _ _ h3⟩⟩
end
end Go.Proofs.Ytlgikchfddhocaa.AL

