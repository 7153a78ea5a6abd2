/- A law of the given program is proved: part 46 of 51. -/
import Derived.Test.YtefdlpandfhcgaaDoorB45
set_option linter.all false
/- AL: closed runs that hand back data; nothing is told. -/
set_option linter.all false
namespace Go.Proofs.YtefdlpandfhcgaaDoor.AL
open Go Go.Proofs Go.RowKit
def subV : Value → Value → Bool
  | .int k a, .int k' b => decide (k = k') && decide (a = b)
  | .string a, .string b => decide (a = b)
  | .bool a, .bool b => a == b
  | _, _ => false
theorem x73 {v w : Value} (h : subV v w = true) : v = w := by
  unfold subV at h
  split at h
  · simp only [Bool.and_eq_true, decide_eq_true_eq] at h
    rw [h.1, h.2]
  · simp only [decide_eq_true_eq] at h
    rw [h]
  · rw [eq_of_beq h]
  · cases h
def isNilV : Value → Bool
  | .slice none 0 0 => true
  | _ => false
mutual
def subB : AV → AV → Bool
  | .val v, .val w => subV v w
  | .val v, .sl _ [] => isNilV v
  | .agg xs, .agg ys => subBs xs ys
  | .sl s xs, .sl s' ys => Nat.beq s s' && subBs xs ys
  | _, _ => false
def subBs : List AV → List AV → Bool
  | [], [] => true
  | x :: xs, y :: ys => subB x y && subBs xs ys
  | _, _ => false
end
mutual
theorem subB_sound : ∀ (x y : AV), subB x y = true → Sub x y
  | .val v, y, h => by
    cases y with
    | val w => simp only [subB] at h; rw [x73 h]; exact Sub.refl _
    | sl s ys =>
      cases ys with
      | nil =>
        simp only [subB] at h
        unfold isNilV at h
        split at h
        · exact Sub.nilS _
        · cases h
      | cons a l => simp [subB] at h
    | _ => simp [subB] at h
  | .agg xs, y, h => by
    cases y with
    | agg ys => simp only [subB] at h; exact Sub.agg (subBs_sound xs ys h)
    | _ => simp [subB] at h
  | .sl s xs, y, h => by
    cases y with
    | sl s' ys =>
      simp only [subB, Bool.and_eq_true] at h
      obtain rfl := Nat.eq_of_beq_eq_true h.1
      exact Sub.sl (subBs_sound xs ys h.2)
    | _ => simp [subB] at h
  | .tup xs, y, h => by cases y <;> simp [subB] at h
  | .ptr _ _, y, h => by cases y <;> simp [subB] at h
  | .loc _ _ _ _, y, h => by cases y <;> simp [subB] at h
  | .msl _ _, y, h => by cases y <;> simp [subB] at h
  | .mp _, y, h => by cases y <;> simp [subB] at h
  | .mtl _ _ _ _, y, h => by cases y <;> simp [subB] at h
  | .fn _ _ _, y, h => by cases y <;> simp [subB] at h
  | .ifc _ _, y, h => by cases y <;> simp [subB] at h
  | .e0, y, h => by cases y <;> simp [subB] at h
  | .junk, y, h => by cases y <;> simp [subB] at h
theorem subBs_sound : ∀ (xs ys : List AV), subBs xs ys = true → Subs xs ys
  | [], ys, h => by
    cases ys with
    | nil => exact Subs.nil
    | cons y ys => simp [subBs] at h
  | x :: xs, ys, h => by
    cases ys with
    | nil => simp [subBs] at h
    | cons y ys =>
      simp only [subBs, Bool.and_eq_true] at h
      exact Subs.cons (subB_sound x y h.1) (subBs_sound xs ys h.2)
end
end Go.Proofs.YtefdlpandfhcgaaDoor.AL

/- The table of functions for closed runs; written by tabgen.py. -/
set_option linter.all false
namespace Go.Proofs.YtefdlpandfhcgaaDoor.AL
open Go Go.Proofs
end Go.Proofs.YtefdlpandfhcgaaDoor.AL

