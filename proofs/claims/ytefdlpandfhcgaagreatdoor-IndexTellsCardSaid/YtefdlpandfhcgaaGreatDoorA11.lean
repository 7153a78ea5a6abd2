/- A law of the given program is proved: part 11 of 50. -/
import Derived.Laws.BytesArg
import Derived.Laws.Build
import Derived.Test.YtefdlpandfhcgaaGreatDoorA10
set_option linter.all false
/- AL, part 10: one operation: the evaluator for all that is no call of a function (evalOp), and that it is right (OpS). -/
set_option linter.unusedSimpArgs false
namespace Go.Proofs.YtefdlpandfhcgaaGreatDoor.AL
open Go.RowKit
def ev (T : Nat → AV) : Operand → AV
  | .tmp t => T t
  | .const v => xrg v
  | .global g => .val (.pointer (some ⟨g, 0, none⟩))
  | .func f => .fn (.func f) [] []
def opt (ρ : Operand → AV) : Option Operand → Option AV
  | none => none
  | some x => some (ρ x)
def xzl : List AV → Option (List Int)
  | [] => some []
  | .val (.int .u8 n) :: xs => (xzl xs).map (n :: ·)
  | _ :: _ => none
theorem x6n {E : Env} : ∀ {xs : List AV} {us : List Value} {l : List Int}, VReps E xs us → xzl xs = some l → us = l.map (Value.int .u8)
  | [], us, l, h, hb => by
    simp only [xzl, Option.some.injEq] at hb
    subst hb
    simpa only [VReps, List.map_nil] using h
  | x :: xs, us, l, h, hb => by
    simp only [VReps] at h
    obtain ⟨u, us', h1, h2, rfl⟩ := h
    unfold xzl at hb
    split at hb
    · rename_i e; cases e
    · rename_i n xs' e
      injection e with e1 e2
      subst e1; subst e2
      obtain ⟨l', g1, g2⟩ := Option.map_eq_some_iff.1 hb
      subst g2
      simp only [VRep] at h1
      subst h1
      rw [x6n h2 g1]
      rfl
    · cases hb
def x5h (P : Program) (S D : TypeId) (xs : List AV) : Option AV :=
  match P.underlying S, P.underlying D with
  | some (.slice e), some .string => match P.underlying e with
    | some (.int .u8) => (xzl xs).map fun l => .val (.string (strOfNums l))
    | _ => none
  | _, _ => none
theorem xdl {P : Program} {E : Env} {S D : TypeId} {xs : List AV} {u : Value} {v : AV} (hx : VRep E (.sl 1 xs) u) (h : x5h P S D xs = some v) : ∃ z, (convert S D u).run P E.w = .ok z E.w ∧ VRep E v z := by
  unfold x5h at h
  split at h
  · rename_i e hS hD
    split at h
    · rename_i he
      obtain ⟨l, hl, hv⟩ := Option.map_eq_some_iff.1 h
      subst hv
      simp only [VRep] at hx
      obtain ⟨us, A, cap, h1, rfl, h2, h3⟩ := hx
      have hlen := h1.length
      have hus := x6n h1 hl
      refine ⟨.string (strOfNums l), ?_, by simp only [VRep]⟩
      rcases h3 with h3 | ⟨b, o, rfl, hz, h3⟩
      · have hl0 : l = [] := by rw [hus] at h3; simpa using h3
        subst hl0
        subst h3
        rw [run_convert_bytes_string E.w S D e A xs.length cap hS he hD]
        have hx0 : xs.length = 0 := by rw [← hlen]; rfl
        rw [hx0]
        cases A with
        | none =>
          simp [Conv.bytesToString, strOfNums]
          rfl
        | some a =>
          rw [run_bytesToString E.w a 0 cap [] (by simp [loadCells, loadCellsFrom])]
          rfl
      · refine run_convert_bytes_arg E.w S e hS he b o xs.length cap l (by rw [← hlen, hus]; simp) (fun i hi => ?_) D hD
        have hi' : i < l.length := by rw [← hlen, hus] at hi; simpa using hi
        have hu : us[i]? = some (.int .u8 l[i]) := by rw [hus, List.getElem?_map, List.getElem?_eq_getElem hi']; rfl
        have := (h3 i _ hu).2.2 0 (.int .u8 l[i]) rfl
        rw [show o + i = o + i * 1 + 0 by omega, this]
        simp [List.getD, List.getElem?_eq_getElem hi']
    · cases h
  · cases h
def xpc (P : Program) (op : Op) (ρ : Operand → AV) : Option AV :=
  match op with
  | .move x => some (ρ x)
  | .assign x => some (ρ x)
  | .pick c a b => match ρ c with
    | .val (.bool t) => some (if t = true then ρ a else ρ b)
    | _ => none
  | .build T parts => xwb P T (parts.toList.map fun p => (p.1, ρ p.2))
  | .nilCheck x => match ρ x with
    | .loc l sz i off => some (.loc l sz i off)
    | .ptr y off => some (.ptr y off)
    | .fn (.func f) a b => some (.fn (.func f) a b)
    | _ => none
  | .binOp op T x y _ => match y with
    | .const .nilIface => x0b P op T (ρ x) (.val .nilIface)
    | y => match ρ y with
      | .val .nilIface => none
      | v => x0b P op T (ρ x) v
  | .unOp op _ x => match op with
    | .not => match ρ x with
      | .val (.bool b) => some (.val (.bool !b))
      | _ => none
    | .neg => match ρ x with
      | .val (.int k n) => some (.val (.int k (k.wrap (0 - n))))
      | _ => none
    | _ => none
  | .convert S D x => match P.underlying S with
    | some _ => match ρ x with
      | .val (.int _ n) => (intOfT P D).map fun k' => .val (.int k' (k'.wrap n))
      | .val (.string s) => match kindOf P D with
        | .str => some (.val (.string s))
        | _ => none
      | .sl sz xs => if sz = 1 then x5h P S D xs else none
      | _ => none
    | none => none
  | .makeFunc f a b => some (.fn f (a.toList.map ρ) (b.toList.map ρ))
  | .makeInterface T x => if P.concrete T = true then some (.ifc T (ρ x)) else none
  | .slice T x lo hi mx => x9b P T (ρ x) (opt ρ lo) (opt ρ hi) (opt ρ mx)
  | .fieldAddr T x f => xe P T f (ρ x)
  | .field T x f => xzf P T f (ρ x)
  | .indexAddr T x i => xjb P T (ρ x) (ρ i)
  | .index T x i => xh P T (ρ x) (ρ i)
  | .extract x i => match ρ x with
    | .tup vs => vs[i]?
    | _ => none
  | .call c => match c.callee with
    | .builtin .len => match c.args.toList, c.argTypes.toList with
      | [x], [T] => xdc P T (ρ x)
      | _, _ => none
    | _ => none
  | _ => none
def OpF (P : Program) (o : Oper) (ρ : Operand → AV) (v : AV) : Prop :=
  ∀ (E : Env) (a : Act), (∀ x ∈ o.op.operands.toList, VRep E (ρ x) (a.eval x)) → ∃ u, (execOp a.eval o).run P E.w = .ok (.value u) E.w ∧ VRep E v u
theorem PReps.of {E : Env} (ρ : Operand → AV) (ρc : Operand → Value) : ∀ (ps : List (Nat × Operand)), (∀ p ∈ ps, VRep E (ρ p.2) (ρc p.2)) → PReps E (ps.map fun p => (p.1, ρ p.2)) (ps.map fun p => (p.1, ρc p.2))
  | [], _ => by simp [PReps]
  | p :: ps, h => by
    simp only [List.map_cons, PReps]
    exact ⟨_, _, h p (by simp), PReps.of ρ ρc ps (fun q hq => h q (by simp [hq])), rfl⟩
theorem VReps.of_map {E : Env} (ρ : Operand → AV) (ρc : Operand → Value) : ∀ (ps : List Operand), (∀ p ∈ ps, VRep E (ρ p) (ρc p)) → VReps E (ps.map ρ) (ps.map ρc)
  | [], _ => .nil
  | p :: ps, h => .cons (h p (by simp)) (VReps.of_map ρ ρc ps fun q hq => h q (by simp [hq]))
theorem x4s {E : Env} {ρ : Operand → AV} {ρc : Operand → Value} (x : Option Operand) (h : ∀ y, x = some y → VRep E (ρ y) (ρc y)) : OptRep E (opt ρ x) (x.map ρc) := by
  cases x with
  | none => trivial
  | some y => exact h y rfl
theorem VRep.fn_mk {E : Env} {f : Fn} {a b : List AV} {va vb : Array Value} (h : VReps E a va.toList) (k : VReps E b vb.toList) : VRep E (.fn f a b) (.func f va vb) := by
  simp only [VRep]
  exact ⟨_, _, h, k, by simp⟩
theorem x4t {P : Program} {o : Oper} {ρ : Operand → AV} {v : AV} (h : xpc P o.op ρ = some v) : OpF P o ρ v := by
  intro E a hρ
  unfold xpc at h
  split at h
  · rename_i x e
    injection h with h
    subst h
    exact ⟨a.eval x, by simp [execOp, e], hρ x (by simp [e, Op.operands])⟩
  · rename_i x e
    injection h with h
    subst h
    exact ⟨a.eval x, by simp [execOp, e], hρ x (by simp [e, Op.operands])⟩
  · rename_i c x y e
    split at h
    · rename_i t ht
      injection h with h
      subst h
      have hc := hρ c (by simp [e, Op.operands])
      rw [ht] at hc
      simp only [VRep] at hc
      refine ⟨if t = true then a.eval x else a.eval y, by simp [execOp, e, hc, asBool], ?_⟩
      cases t
      · exact hρ y (by simp [e, Op.operands])
      · exact hρ x (by simp [e, Op.operands])
    · cases h
  · rename_i T parts e
    have hp := PReps.of (E := E) ρ a.eval parts.toList (fun p hp => hρ p.2 (by
      simp only [e, Op.operands]
      exact List.mem_map.2 ⟨p, hp, rfl⟩))
    obtain ⟨z, hz, hr⟩ := xsr (P := P) (ps := parts.map fun p => (p.1, a.eval p.2)) (by simpa using hp) h
    exact ⟨z, by simp [execOp, e, hz], hr⟩
  · rename_i x e
    have hx := hρ x (by simp [e, Op.operands])
    split at h
    · rename_i l sz i off he
      injection h with h
      subst h
      rw [he] at hx
      refine ⟨a.eval x, ?_, hx⟩
      simp only [VRep] at hx
      obtain ⟨b0, _, hx, _⟩ := hx
      simp [execOp, e, hx]
    · rename_i y off he
      injection h with h
      subst h
      rw [he] at hx
      refine ⟨a.eval x, ?_, hx⟩
      simp only [VRep] at hx
      obtain ⟨_, _, _, _, hx, _⟩ := hx
      simp [execOp, e, hx]
    · rename_i f fa fb he
      injection h with h
      subst h
      rw [he] at hx
      refine ⟨a.eval x, ?_, hx⟩
      simp only [VRep] at hx
      obtain ⟨_, _, _, _, hx⟩ := hx
      simp [execOp, e, hx]
    · cases h
  · rename_i op T x y yT e
    have hx := hρ x (by simp [e, Op.operands])
    have hy := hρ y (by simp [e, Op.operands])
    split at h
    · rename_i e2
      have hy' : VRep E (.val .nilIface) (a.eval (.const .nilIface)) := by simp only [VRep]; rfl
      obtain ⟨z, hz, hr⟩ := x9m (P := P) (ox := x) (oy := .const .nilIface) rfl hx hy' h
      refine ⟨z, ?_, hr⟩
      simp only [Sem.run_bind] at hz
      simp only [execOp, e, Sem.run_bind]
      rw [hz]
      rfl
    · split at h
      · cases h
      · rename_i hne
        obtain ⟨z, hz, hr⟩ := x9m (P := P) (ox := x) (oy := y) (by
          split
          · rename_i hq; exact absurd hq (hne)
          · rfl) hx hy h
        refine ⟨z, ?_, hr⟩
        simp only [Sem.run_bind] at hz
        simp only [execOp, e, Sem.run_bind]
        rw [hz]
        rfl
  · rename_i op T x e
    have hx := hρ x (by simp [e, Op.operands])
    split at h
    · split at h
      · rename_i b hb
        injection h with h
        subst h
        rw [hb] at hx
        simp only [VRep] at hx
        exact ⟨.bool !b, by simp [execOp, e, hx, Op.unary], by simp only [VRep]⟩
      · cases h
    · split at h
      · rename_i k n hb
        injection h with h
        subst h
        rw [hb] at hx
        simp only [VRep] at hx
        exact ⟨.int k (k.wrap (0 - n)), by simp [execOp, e, hx, Op.unary, Op.intArith], by simp only [VRep]⟩
      · cases h
    · cases h
  · rename_i S D x e
    have hx := hρ x (by simp [e, Op.operands])
    split at h
    · rename_i d hd
      split at h
      · rename_i k n hb
        obtain ⟨k', hk', hv⟩ := Option.map_eq_some_iff.1 h
        subst hv
        rw [hb] at hx
        simp only [VRep] at hx
        unfold intOfT at hk'
        split at hk'
        · rename_i k2 hu
          injection hk' with hk'
          subst hk'
          exact ⟨_, by simp [execOp, e, hx, convert, run_underlying hd, run_underlying hu, Conv.intToInt]; rfl, by simp only [VRep]⟩
        · cases hk'
      · rename_i s hb
        split at h
        · rename_i hk
          injection h with h
          subst h
          rw [hb] at hx
          simp only [VRep] at hx
          have hu := xri hk
          exact ⟨_, by simp [execOp, e, hx, convert, run_underlying hd, run_underlying hu]; rfl, by simp only [VRep]⟩
        · cases h
      · rename_i sz xs hb
        split at h
        · rename_i hsz
          subst hsz
          rw [hb] at hx
          obtain ⟨z, hz, hr⟩ := xdl (P := P) hx h
          exact ⟨z, by simp [execOp, e, hz], hr⟩
        · cases h
      · cases h
    · cases h
  · rename_i f fa fb e
    injection h with h
    subst h
    refine ⟨.func f (fa.map a.eval) (fb.map a.eval), by simp [execOp, e, Instr.makeFunc], VRep.fn_mk ?_ ?_⟩
    · rw [Array.toList_map]
      exact VReps.of_map ρ a.eval _ fun p hp => hρ p (by simp [e, Op.operands]; exact .inl (by simpa using hp))
    · rw [Array.toList_map]
      exact VReps.of_map ρ a.eval _ fun p hp => hρ p (by simp [e, Op.operands]; exact .inr (by simpa using hp))
  · rename_i T x e
    split at h
    · rename_i hc
      injection h with h
      subst h
      have hx := hρ x (by simp [e, Op.operands])
      exact ⟨.iface T (a.eval x), by simp [execOp, e, run_makeInterface E.w T _ hc], by simp only [VRep]; exact ⟨_, hx, rfl⟩⟩
    · cases h
  · rename_i T x lo hi mx e
    have hx := hρ x (by simp [e, Op.operands])
    obtain ⟨z, hz, hr⟩ := xgs (P := P) hx
      (x4s (ρc := a.eval) lo fun y hy => hρ y (by simp [e, Op.operands, hy]))
      (x4s (ρc := a.eval) hi fun y hy => hρ y (by simp [e, Op.operands, hy]))
      (x4s (ρc := a.eval) mx fun y hy => hρ y (by simp [e, Op.operands, hy])) h
    exact ⟨z, by simp [execOp, e, hz], hr⟩
  · rename_i T x f e
    obtain ⟨z, hz, hr⟩ := xvn (P := P) (hρ x (by simp [e, Op.operands])) h
    exact ⟨z, by simp [execOp, e, hz], hr⟩
  · rename_i T x f e
    obtain ⟨z, hz, hr⟩ := x7r (P := P) (hρ x (by simp [e, Op.operands])) h
    exact ⟨z, by simp [execOp, e, hz], hr⟩
  · rename_i T x i e
    obtain ⟨z, hz, hr⟩ := xrn (P := P) (hρ x (by simp [e, Op.operands])) (hρ i (by simp [e, Op.operands])) h
    exact ⟨z, by simp [execOp, e, hz], hr⟩
  · rename_i T x i e
    obtain ⟨z, hz, hr⟩ := xms (P := P) (hρ x (by simp [e, Op.operands])) (hρ i (by simp [e, Op.operands])) h
    exact ⟨z, by simp [execOp, e, hz], hr⟩
  · rename_i x i e
    have hx := hρ x (by simp [e, Op.operands])
    split at h
    · rename_i vs hb
      rw [hb] at hx
      simp only [VRep] at hx
      obtain ⟨us, hus, hx⟩ := hx
      obtain ⟨z, hz, hr⟩ := hus.get _ _ h
      exact ⟨z, by simp [execOp, e, hx, Instr.extract, hz], hr⟩
    · cases h
  · rename_i c e
    split at h
    · rename_i hcal
      split at h
      · rename_i x T ha hT
        obtain ⟨cal, args, tys⟩ := c
        obtain ⟨args⟩ := args
        obtain ⟨tys⟩ := tys
        simp only at ha hT hcal
        subst ha; subst hT; subst hcal
        obtain ⟨z, hz, hr⟩ := xbv (P := P) (ty := o.type) (hρ x (by simp [e, Op.operands, Call.operands])) h
        exact ⟨z, by simp [execOp, e, resolve, invoke, builtin, hz], hr⟩
      · cases h
    · cases h
  · cases h
end Go.Proofs.YtefdlpandfhcgaaGreatDoor.AL

