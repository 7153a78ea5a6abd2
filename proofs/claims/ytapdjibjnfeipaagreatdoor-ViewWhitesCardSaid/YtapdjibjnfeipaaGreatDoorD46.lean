/- A law of the given program is proved: part 46 of 51. -/
import Derived.Test.YtapdjibjnfeipaaGreatDoorD45
set_option linter.all false
/- Models of functions, and that the functions are as their models: written by gen.py. -/
set_option linter.all false
set_option maxRecDepth 100000
namespace Go.Proofs.YtapdjibjnfeipaaGreatDoor.AL
open Go Go.Proofs
end Go.Proofs.YtapdjibjnfeipaaGreatDoor.AL

/- Plain laws of chapters 17 and 20: trees, whiteouts. -/
set_option linter.all false
namespace Go.Proofs.YtapdjibjnfeipaaGreatDoor.AL
open Go Go.Proofs
def treeSt (s : Stack) (acc : List View) (w : Way) : List View := acc ++ [if 0 ≤ w.up then ⟨w.ino, partV s ((acc[w.up.toNat]?).getD ⟨0, []⟩) (nodeP s.upper w.ino) w.name⟩ else rootV s]
structure TV (s : Stack) (ws : List Way) (i : Nat) (acc : List View) : Prop where
  len : acc.length = i
  low : ∀ x ∈ acc, x.lower.length ≤ 3
  at' : ∀ (j : Nat) (x : View), acc[j]? = some x → ∃ w, ws[j]? = some w ∧ x.upper = w.ino ∧ (opqV (nodeP s.upper w.ino) = true → x.lower = [])
theorem TV.nil (s : Stack) (ws : List Way) : TV s ws 0 [] := ⟨rfl, by simp, by simp⟩
theorem TV.step {s : Stack} (h : SV s) {ws : List Way} {i : Nat} {acc : List View} (t : TV s ws i acc) {w : Way} (hw : ws[i]? = some w) (hu : w.up < (i : Int)) (hf : w.up < 0 → w.ino ∈ [(1 : Int)]) (hk : (nodeP s.upper w.ino).kind = 1) : TV s ws (i + 1) (treeSt s acc w) := by
  have hlen := t.len
  have hx : ∀ x, x = (if 0 ≤ w.up then (⟨w.ino, partV s ((acc[w.up.toNat]?).getD ⟨0, []⟩) (nodeP s.upper w.ino) w.name⟩ : View) else rootV s) → x.lower.length ≤ 3 ∧ x.upper = w.ino ∧ (opqV (nodeP s.upper w.ino) = true → x.lower = []) := by
    rintro x rfl
    by_cases h0 : 0 ≤ w.up
    · rw [if_pos h0]
      have hlt : w.up.toNat < acc.length := by omega
      rw [List.getElem?_eq_getElem hlt, Option.getD_some]
      exact ⟨xc2 h (t.low _ (List.getElem_mem hlt)) (Nat.le_refl 3) _ _, rfl, fun ho => xe3 ho⟩
    · rw [if_neg h0]
      have h1 : w.ino = 1 := by simpa using hf (by omega)
      rw [h1] at hk ⊢
      refine ⟨xfw h, ?_, fun ho => ?_⟩
      · unfold rootV
        exact if_pos hk
      · unfold rootV
        exact if_pos ho
  obtain ⟨x1, x2, x3⟩ := hx _ rfl
  unfold treeSt
  refine ⟨by rw [List.length_append, hlen]; rfl, ?_, ?_⟩
  · intro x hx
    rcases List.mem_append.1 hx with hx | hx
    · exact t.low x hx
    · obtain rfl := List.mem_singleton.1 hx
      exact x1
  · intro j x hj
    rw [List.getElem?_append] at hj
    split at hj
    · exact t.at' j x hj
    · rename_i hnj
      have hj2 : j = i := by
        have := (List.getElem?_eq_some_iff.1 hj).1
        simp at this
        omega
      subst hj2
      rw [hlen, Nat.sub_self] at hj
      obtain rfl : _ = x := by simpa using hj
      exact ⟨w, hw, x2, x3⟩
end Go.Proofs.YtapdjibjnfeipaaGreatDoor.AL

