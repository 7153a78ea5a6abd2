/- A law of the given program is proved: part 47 of 49. -/
import Derived.Test.YtnmljicimdhpmaaH46
set_option linter.all false
/- What closed runs are told: (*walk.trail).reach by its contract. -/
set_option linter.all false
namespace Go.Proofs.Ytnmljicimdhpmaa.AL
open Go Go.Proofs Go.RowKit
def dInt : AV → Option Int
  | .val (.int .i64 n) => some n
  | _ => none
def dStr : AV → Option ByteArray
  | .val (.string s) => some s
  | _ => none
def dU8 : AV → Option UInt8
  | .val (.int .u8 n) => if 0 ≤ n ∧ n < 256 then some (UInt8.ofNat n.toNat) else none
  | _ => none
def dList {α : Type} (d : AV → Option α) : List AV → Option (List α)
  | [] => some []
  | x :: xs => match d x, dList d xs with
    | some y, some ys => some (y :: ys)
    | _, _ => none
def dSl {α : Type} (k : Nat) (d : AV → Option α) : AV → Option (List α)
  | .sl s xs => bif Nat.beq s k then dList d xs else none
  | .val (.slice none 0 0) => some []
  | _ => none
def dEntry : AV → Option Entry
  | .agg [a, b, c] => match dInt a, dInt b, dStr c with
    | some a, some b, some c => some ⟨a, b, c⟩
    | _, _, _ => none
  | _ => none
def dWay : AV → Option Way
  | .agg [a, b, c] => match dInt a, dInt b, dStr c with
    | some a, some b, some c => some ⟨a, b, c⟩
    | _, _, _ => none
  | _ => none
def dNode : AV → Option Node
  | .agg [a0, a1, a2, a3, a4, a5, a6, a7, a8, a9, a10, a11, a12] => match dInt a0, dInt a1, dInt a2, dInt a3, dSl 1 dU8 a4, dSl 3 dEntry a5, dInt a6, dInt a7, dStr a8, dInt a9, dInt a10, dInt a11, dInt a12 with
    | some a0, some a1, some a2, some a3, some a4, some a5, some a6, some a7, some a8, some a9, some a10, some a11, some a12 => some ⟨a0, a1, a2, a3, a4, a5, ⟨a6, a7, a8, ⟨a9, a10, a11⟩, a12⟩⟩
    | _, _, _, _, _, _, _, _, _, _, _, _, _ => none
  | _ => none
theorem dInt_eq {x : AV} {n : Int} (h : dInt x = some n) : x = int n := by
  unfold dInt at h
  split at h
  · injection h with h; subst h; rfl
  · cases h
theorem dStr_eq {x : AV} {n : ByteArray} (h : dStr x = some n) : x = str n := by
  unfold dStr at h
  split at h
  · injection h with h; subst h; rfl
  · cases h
theorem dU8_eq {x : AV} {n : UInt8} (h : dU8 x = some n) : x = u8 n := by
  unfold dU8 at h
  split at h
  · rename_i m
    split at h
    · rename_i hm
      injection h with h
      subst h
      simp only [u8]
      congr 2
      simp
      omega
    · cases h
  · cases h
theorem dList_sub {α : Type} {d : AV → Option α} {f : α → AV} (h : ∀ x y, d x = some y → Sub x (f y)) : ∀ (xs : List AV) (ys : List α), dList d xs = some ys → Subs xs (ys.map f)
  | [], ys, e => by simp only [dList, Option.some.injEq] at e; subst e; exact Subs.nil
  | x :: xs, ys, e => by
    simp only [dList] at e
    split at e
    · rename_i y ys' h1 h2
      injection e with e
      subst e
      exact Subs.cons (h x y h1) (dList_sub h xs ys' h2)
    · cases e
theorem dSl_sub {α : Type} {d : AV → Option α} {f : α → AV} {k : Nat} (h : ∀ x y, d x = some y → Sub x (f y)) {x : AV} {ys : List α} (e : dSl k d x = some ys) : Sub x (.sl k (ys.map f)) := by
  unfold dSl at e
  split at e
  · rename_i s xs
    cases hb : Nat.beq s k with
    | true =>
      rw [hb] at e
      obtain rfl := Nat.eq_of_beq_eq_true hb
      exact Sub.sl (dList_sub h _ _ e)
    | false => rw [hb] at e; cases e
  · injection e with e; subst e; exact Sub.nilS k
  · cases e
theorem dEntry_sub {x : AV} {y : Entry} (h : dEntry x = some y) : Sub x (encEntry y) := by
  unfold dEntry at h
  split at h
  · rename_i a b c
    split at h
    · rename_i a' b' c' h1 h2 h3
      injection h with h
      subst h
      rw [dInt_eq h1, dInt_eq h2, dStr_eq h3]
      exact Sub.refl _
    · cases h
  · cases h
theorem dWay_sub {x : AV} {y : Way} (h : dWay x = some y) : Sub x (encWay y) := by
  unfold dWay at h
  split at h
  · rename_i a b c
    split at h
    · rename_i a' b' c' h1 h2 h3
      injection h with h
      subst h
      rw [dInt_eq h1, dInt_eq h2, dStr_eq h3]
      exact Sub.refl _
    · cases h
  · cases h
theorem dU8_sub {x : AV} {y : UInt8} (h : dU8 x = some y) : Sub x (u8 y) := by rw [dU8_eq h]; exact Sub.refl _
theorem dNode_sub {x : AV} {y : Node} (h : dNode x = some y) : Sub x (encNode y) := by
  unfold dNode at h
  split at h
  · split at h
    · rename_i h0 h1 h2 h3 h4 h5 h6 h7 h8 h9 h10 h11 h12
      injection h with h
      subst h
      rw [dInt_eq h0, dInt_eq h1, dInt_eq h2, dInt_eq h3, dInt_eq h6, dInt_eq h7, dStr_eq h8, dInt_eq h9, dInt_eq h10, dInt_eq h11, dInt_eq h12]
      exact Sub.agg (.cons (.refl _) (.cons (.refl _) (.cons (.refl _) (.cons (.refl _) (.cons (dSl_sub (fun x y h => dU8_sub h) h4) (.cons (dSl_sub (fun x y h => dEntry_sub h) h5) (Subs.refl _)))))))
    · cases h
  · cases h
def toldReach : List AV → Option AV
  | [.ptr (.agg [ns, ws, _, _]) 0] => match dSl 13 dNode ns, dSl 3 dWay ws with
    | some ns, some ws => match m_walk_trail_reach ⟨ns⟩ ws with
      | some r => some (.sl 1 (r.map bool))
      | none => none
    | _, _ => none
  | _ => none
theorem Sub.ptr {x y : AV} {o : Nat} (h : Sub x y) : Sub (.ptr x o) (.ptr y o) := by
  intro E u hu
  rw [VRep] at hu ⊢
  obtain ⟨v, b, o', k1, k2⟩ := hu
  exact ⟨v, b, o', h E v k1, k2⟩
theorem Sub.junk {x : AV} : Sub x .junk := fun _ _ _ => by simp only [VRep]
theorem toldReach_ok {ag : List AV} {r : AV} (h : toldReach ag = some r) : OkN Try.prog 75 ag r := by
  unfold toldReach at h
  split at h
  · rename_i ns ws x3 x4
    split at h
    · rename_i ns' ws' h1 h2
      split at h
      · rename_i r' h3
        injection h with h
        subst h
        exact OkN.sub (okn_walk_trail_reach ⟨ns'⟩ ws' x4 r' h3) (.cons (Sub.ptr (Sub.agg (.cons (dSl_sub (fun x y h => dNode_sub h) h1) (.cons (dSl_sub (fun x y h => dWay_sub h) h2) (.cons Sub.junk (Subs.refl _)))))) .nil)
      · cases h
    · cases h
  · cases h
def toldJoin : List AV → Option AV
  | [.sl 1 xs, .val (.string sep)] => match dSl 1 dStr (.sl 1 xs) with
    | some l => match m_strings_Join l sep with
      | some r => some (str r)
      | none => none
    | none => none
  | [.val (.slice none 0 0), .val (.string sep)] => match m_strings_Join [] sep with
    | some r => some (str r)
    | none => none
  | _ => none
theorem dStr_sub {x : AV} {y : ByteArray} (h : dStr x = some y) : Sub x (str y) := by rw [dStr_eq h]; exact Sub.refl _
theorem toldJoin_ok {ag : List AV} {r : AV} (h : toldJoin ag = some r) : OkN Try.prog 99 ag r := by
  unfold toldJoin at h
  split at h
  · rename_i xs sep
    split at h
    · rename_i l h1
      split at h
      · rename_i r' h3
        injection h with h
        subst h
        exact OkN.sub (okn_strings_Join l sep r' h3) (.cons (dSl_sub (fun x y h => dStr_sub h) h1) (Subs.refl _))
      · cases h
    · cases h
  · rename_i sep
    split at h
    · rename_i r' h3
      injection h with h
      subst h
      exact OkN.sub (okn_strings_Join [] sep r' h3) (.cons (Sub.nilS _) (Subs.refl _))
    · cases h
  · cases h
def told (f : FuncId) : Option (List AV → Option AV) := bif Nat.beq f 75 then some toldReach else bif Nat.beq f 99 then some toldJoin else none
theorem told_ok : ∀ f g, told f = some g → ∀ ag r, g ag = some r → OkN Try.prog f ag r := by
  intro f g h ag r hr
  unfold told at h
  cases hb : Nat.beq f 75 with
  | true =>
    rw [hb] at h
    obtain rfl := Nat.eq_of_beq_eq_true hb
    simp only [cond_true, Option.some.injEq] at h
    subst h
    exact toldReach_ok hr
  | false =>
    rw [hb] at h
    cases hj : Nat.beq f 99 with
    | true =>
      rw [hj] at h
      obtain rfl := Nat.eq_of_beq_eq_true hj
      simp only [cond_true, cond_false, Option.some.injEq] at h
      subst h
      exact toldJoin_ok hr
    | false => rw [hj] at h; cases h
end Go.Proofs.Ytnmljicimdhpmaa.AL

