/- What of the attributes of any stack, and of any node, may not be, is what the document says: part 39 of 46. -/
import Derived.Test.YtlgikchfddhocaaB38
set_option linter.all false
/- AL: what a call hands back lies in new memory alone. -/
set_option linter.all false
namespace Go.Proofs.Ytlgikchfddhocaa.AL
open Go Go.Proofs Go.RowKit
mutual
/-- A value of the run's own objects alone, these read off. -/
def frN (H : Nat → Option AO) : Nat → AV → Option AV
  | 0, _ => none
  | k + 1, x => match x with
    | .val v => some (.val v)
    | .agg cs => (frNs H k cs).map .agg
    | .tup cs => (frNs H k cs).map .tup
    | .sl s [] => some (.sl s [])
    | .e0 => some .e0
    | .msl l n => match H l with
      | some (.row _ s xs) => if n = xs.length then (frNs H k xs).map (.sl s) else none
      | _ => none
    | .mtl l sz q n => match H l with
      | some (.row _ s xs) => if sz = s ∧ q + n ≤ xs.length then (frNs H k ((xs.drop q).take n)).map (.sl s) else none
      | _ => none
    | _ => none
def frNs (H : Nat → Option AO) : Nat → List AV → Option (List AV)
  | 0, _ => none
  | k + 1, xs => match xs with
    | [] => some []
    | x :: xs => match frN H k x, frNs H k xs with
      | some y, some ys => some (y :: ys)
      | _, _ => none
end
end Go.Proofs.Ytlgikchfddhocaa.AL

