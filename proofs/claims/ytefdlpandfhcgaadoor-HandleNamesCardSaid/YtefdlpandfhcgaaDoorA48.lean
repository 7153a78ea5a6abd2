/- A law of the given program is proved: part 48 of 50. -/
import Derived.Test.YtefdlpandfhcgaaDoorA47
set_option linter.all false
/- AL: closed runs that hand back data; nothing is told. -/
set_option linter.all false
namespace Go.Proofs.YtefdlpandfhcgaaDoor.AL
open Go Go.Proofs Go.RowKit
def subV : Value → Value → Bool
  | .int k a, .int k' b => decide (k = k') && decide (a = b)
  | .string a, .string b => decide (a = b)
  | .bool a, .bool b => a == b
  | _, _ => false
theorem x4z {v w : Value} (h : subV v w = true) : v = w := by
  unfold subV at h
  split at h
  · simp only [Bool.and_eq_true, decide_eq_true_eq] at h
    rw [h.1, h.2]
  · simp only [decide_eq_true_eq] at h
    rw [h]
  · rw [eq_of_beq h]
  · cases h
def isNilV : Value → Bool
  | .slice none 0 0 => true
  | _ => false
mutual
def subB : AV → AV → Bool
  | .val v, .val w => subV v w
  | .val v, .sl _ [] => isNilV v
  | .agg xs, .agg ys => subBs xs ys
  | .sl s xs, .sl s' ys => Nat.beq s s' && subBs xs ys
  | _, _ => false
def subBs : List AV → List AV → Bool
  | [], [] => true
  | x :: xs, y :: ys => subB x y && subBs xs ys
  | _, _ => false
end
mutual
theorem subB_sound : ∀ (x y : AV), subB x y = true → Sub x y
  | .val v, y, h => by
    cases y with
    | val w => simp only [subB] at h; rw [x4z h]; exact Sub.refl _
    | sl s ys =>
      cases ys with
      | nil =>
        simp only [subB] at h
        unfold isNilV at h
        split at h
        · exact Sub.nilS _
        · cases h
      | cons a l => simp [subB] at h
    | _ => simp [subB] at h
  | .agg xs, y, h => by
    cases y with
    | agg ys => simp only [subB] at h; exact Sub.agg (subBs_sound xs ys h)
    | _ => simp [subB] at h
  | .sl s xs, y, h => by
    cases y with
    | sl s' ys =>
      simp only [subB, Bool.and_eq_true] at h
      obtain rfl := Nat.eq_of_beq_eq_true h.1
      exact Sub.sl (subBs_sound xs ys h.2)
    | _ => simp [subB] at h
  | .tup xs, y, h => by cases y <;> simp [subB] at h
  | .ptr _ _, y, h => by cases y <;> simp [subB] at h
  | .loc _ _ _ _, y, h => by cases y <;> simp [subB] at h
  | .msl _ _, y, h => by cases y <;> simp [subB] at h
  | .mp _, y, h => by cases y <;> simp [subB] at h
  | .mtl _ _ _ _, y, h => by cases y <;> simp [subB] at h
  | .fn _ _ _, y, h => by cases y <;> simp [subB] at h
  | .ifc _ _, y, h => by cases y <;> simp [subB] at h
  | .e0, y, h => by cases y <;> simp [subB] at h
  | .junk, y, h => by cases y <;> simp [subB] at h
theorem subBs_sound : ∀ (xs ys : List AV), subBs xs ys = true → Subs xs ys
  | [], ys, h => by
    cases ys with
    | nil => exact Subs.nil
    | cons y ys => simp [subBs] at h
  | x :: xs, ys, h => by
    cases ys with
    | nil => simp [subBs] at h
    | cons y ys =>
      simp only [subBs, Bool.and_eq_true] at h
      exact Subs.cons (subB_sound x y h.1) (subBs_sound xs ys h.2)
end
def told0 (f : FuncId) : Option (List AV → Option AV) := none
theorem xzw : ∀ f g, told0 f = some g → ∀ ag r, g ag = some r → OkN Tryd.prog f ag r := fun f g h => by cases h
def runVal (P : Program) (tab : FuncId → Option (Nat × List ResultVar × AC)) (tl : FuncId → Option (List AV → Option AV)) (k m : Nat) (f : FuncId) (r : AV) (ag : List AV := []) : Bool :=
  match xF P tab tl (xC P tab tl k) f ag [] 0 with
  | some (v, H, _) => match frz (hOf H) m v with
    | some y => subB y r
    | none => false
  | none => false
theorem xmt {P : Program} {tab : FuncId → Option (Nat × List ResultVar × AC)} {tl : FuncId → Option (List AV → Option AV)} (htab : ∀ f n rs ac, tab f = some (n, rs, ac) → FnC P f n rs ac) (htold : ∀ f g, tl f = some g → ∀ ag r, g ag = some r → OkN P f ag r) (hmix : P.follows .mixedOrders = true) {k m : Nat} {f : FuncId} {r : AV} {ag : List AV} (hf : tl f = none) (h : runVal P tab tl k m f r ag = true) : Ok P f ag r := by
  unfold runVal at h
  split at h
  · rename_i v H nx hr
    split at h
    · rename_i y hy
      refine xak ((xjl htab (xox htab htold hmix k) hf hr).mono ?_)
      rintro r' H2 n2 ⟨rfl, rfl, rfl⟩
      exact ⟨_, Sub.refl _, m, y, hy, subB_sound _ _ h⟩
    · cases h
  · cases h
end Go.Proofs.YtefdlpandfhcgaaDoor.AL

/- The table of functions for closed runs; written by tabgen.py. -/
set_option linter.all false
namespace Go.Proofs.YtefdlpandfhcgaaDoor.AL
open Go Go.Proofs
def xno : List (Nat × Nat × List ResultVar × AC) := [(21, 25, [.cell 0 37], x1k), (34, 28, [.cell 2 37], xfk), (39, 5, [.cell 2 44], x1l)]
def xxh : List (Nat × Nat × List ResultVar × AC) → FuncId → Option (Nat × List ResultVar × AC)
  | [], _ => none
  | p :: l, f => bif Nat.beq p.1 f then some p.2 else xxh l f
theorem xjq : ∀ p ∈ xno, FnC Tryd.prog p.1 p.2.1 p.2.2.1 p.2.2.2 := by
  unfold xno
  simp only [List.forall_mem_cons]
  exact ⟨xlp, xdp, xmq, fun p h => by cases h⟩
theorem xxp {l : List (Nat × Nat × List ResultVar × AC)} (h : ∀ p ∈ l, FnC Tryd.prog p.1 p.2.1 p.2.2.1 p.2.2.2) : ∀ f n rs ac, xxh l f = some (n, rs, ac) → FnC Tryd.prog f n rs ac := by
  induction l with
  | nil => intro f n rs ac e; simp [xxh] at e
  | cons p l ih =>
    intro f n rs ac e
    unfold xxh at e
    cases hb : Nat.beq p.1 f with
    | true =>
      rw [hb] at e
      simp only [cond_true, Option.some.injEq] at e
      have := h p (by simp)
      rw [e, Nat.eq_of_beq_eq_true hb] at this
      exact this
    | false =>
      rw [hb] at e
      exact ih (fun q hq => h q (by simp [hq])) f n rs ac e
def xdk : Option Stack := some ⟨⟨1, 5, 6, 5⟩, ⟨[⟨1, 0, 2, 0, [], [], ⟨0, 0, xp, ⟨0, 0, 0⟩, 0⟩⟩, ⟨1, 0, 2, 0, [], [], ⟨0, 0, xp, ⟨0, 0, 0⟩, 0⟩⟩, ⟨1, 0, 2, 0, [], [], ⟨0, 0, xp, ⟨0, 0, 0⟩, 0⟩⟩, ⟨0, 0, 0, 0, [], [], ⟨0, 0, xp, ⟨0, 0, 0⟩, 0⟩⟩, ⟨0, 0, 0, 0, [], [], ⟨0, 0, xp, ⟨0, 0, 0⟩, 0⟩⟩]⟩, [⟨[⟨1, 0, 2, 0, [], [⟨0, 2, ByteArray.mk #[97]⟩], ⟨0, 0, xp, ⟨0, 0, 0⟩, 0⟩⟩, ⟨2, 0, 1, 3, [120], [], ⟨0, 0, xp, ⟨0, 0, 0⟩, 0⟩⟩, ⟨0, 0, 0, 0, [], [], ⟨0, 0, xp, ⟨0, 0, 0⟩, 0⟩⟩, ⟨0, 0, 0, 0, [], [], ⟨0, 0, xp, ⟨0, 0, 0⟩, 0⟩⟩, ⟨0, 0, 0, 0, [], [], ⟨0, 0, xp, ⟨0, 0, 0⟩, 0⟩⟩]⟩]⟩
theorem x3o (r : Stack) (h : xdk = some r) : Ok Tryd.prog 21 [] (xtb r) := by
  injection h with h
  subst h
  exact xmt (xxp xjq) xzw (by kernel_rfl) (k := 3000) (m := 30) (by kernel_rfl) (by kernel_rfl)
end Go.Proofs.YtefdlpandfhcgaaDoor.AL

