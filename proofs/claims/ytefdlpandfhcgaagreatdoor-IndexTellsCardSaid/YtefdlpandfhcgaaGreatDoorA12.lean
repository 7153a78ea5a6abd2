/- A law of the given program is proved: part 12 of 50. -/
import Derived.MapKept
import Derived.Carry
import Derived.Test.YtefdlpandfhcgaaGreatDoorA11
set_option linter.all false
/- AL, part 20 (it stands ahead of part 11): maps whose keys are numbers, texts, or truth values. -/
set_option linter.unusedSimpArgs false
namespace Go.Proofs.YtefdlpandfhcgaaGreatDoor.AL
open Go.RowKit
def isKeyB (d : TypeDesc) (k : Value) : Bool :=
  match d, k with
  | .bool, .bool _ => true
  | .int k, .int k' _ => decide (k' = k)
  | .string, .string _ => true
  | _, _ => false
theorem xwh {d : TypeDesc} {k : Value} (h : isKeyB d k = true) : MapKept.IsKey d k := by
  unfold isKeyB at h
  unfold MapKept.IsKey
  split at h <;> simp_all
def keyEq (a b : Value) : Bool :=
  match a, b with
  | .bool x, .bool y => x == y
  | .int _ x, .int _ y => x == y
  | .string x, .string y => x == y
  | _, _ => false
theorem xhq {d : TypeDesc} {a b : Value} (ha : isKeyB d a = true) (hb : isKeyB d b = true) : Instr.sameNow d a b = some (keyEq a b) := by
  unfold isKeyB at ha hb
  split at ha <;> split at hb <;> simp_all [Instr.sameNow, keyEq]
theorem xv1 {d : TypeDesc} {a b : Value} (ha : isKeyB d a = true) (hb : isKeyB d b = true) : keyEq a b = true ↔ a = b := by
  obtain ⟨r, h1, h2⟩ := MapKept.sameNow_of_keys (xwh ha) (xwh hb)
  rw [xhq ha hb] at h1
  injection h1 with h1
  rw [h1]
  exact h2
theorem xim {d : TypeDesc} {k : Value} (hk : isKeyB d k = true) : ∀ (l : List MapEntry) (i : Nat), (∀ x ∈ l, isKeyB d x.key = true) →
    Instr.findNow d k l i = some (((l.map (·.key)).findIdx? (keyEq k)).bind fun j => (l[j]?).map fun e => (i + j, e.val))
  | [], i, _ => rfl
  | e :: l, i, h => by
    simp only [Instr.findNow, xhq hk (h e (by simp)), List.map_cons, List.findIdx?_cons]
    cases hq : keyEq k e.key
    · simp only [Bool.false_eq_true, if_false]
      rw [xim hk l (i + 1) fun x hx => h x (by simp [hx])]
      congr 1
      cases (l.map (·.key)).findIdx? (keyEq k) with
      | none => rfl
      | some j =>
        simp only [Option.bind_some, Option.map_some, List.getElem?_cons_succ]
        congr 1
        funext e'
        congr 1
        omega
    · simp
def mapOf (P : Program) (T : TypeId) : Option (TypeDesc × TypeId) :=
  match P.underlying T with
  | some (.map kt et) => (P.underlying kt).map fun d => (d, et)
  | _ => none
theorem xcx {P : Program} {T : TypeId} {d : TypeDesc} {et : TypeId} (h : mapOf P T = some (d, et)) : ∃ kt, P.underlying T = some (.map kt et) ∧ P.underlying kt = some d := by
  unfold mapOf at h
  split at h
  · rename_i kt et' hu
    obtain ⟨d', h1, h2⟩ := Option.map_eq_some_iff.1 h
    injection h2 with h2 h3
    subst h2; subst h3
    exact ⟨kt, hu, h1⟩
  · cases h
def valsOf : List AV → Option (List Value)
  | [] => some []
  | .val v :: r => (valsOf r).map (v :: ·)
  | _ :: _ => none
theorem xks {E : Env} : ∀ (cs : List AV) (vs us : List Value), valsOf cs = some vs → VReps E cs us → us = vs
  | [], vs, us, h, hr => by
    simp only [valsOf, Option.some.injEq] at h
    subst h
    simpa only [VReps] using hr
  | x :: r, vs, us, h, hr => by
    cases x with
    | val v =>
      simp only [valsOf, Option.map_eq_some_iff] at h
      obtain ⟨ws, h1, rfl⟩ := h
      simp only [VReps, VRep] at hr
      obtain ⟨u, us', hu, hus, rfl⟩ := hr
      rw [hu, xks r ws us' h1 hus]
    | _ => simp [valsOf] at h
def keyAV (v : Value) : AV := match v with
  | .agg a => .agg (a.toList.map .val)
  | v => .val v
theorem xgl (E : Env) (v : Value) : VRep E (keyAV v) v := by
  unfold keyAV
  split
  · rename_i a
    simp only [VRep]
    exact ⟨a.toList, VReps.vals E _, by simp⟩
  · simp only [VRep]
def intT (P : Program) (t : TypeId) : Bool := match aggN P t, P.underlying t with
  | some (false, 1), some (.int _) => true
  | _, _ => false
def chkB (P : Program) (kt : TypeId) (kv : Value) : Bool := match P.underlying kt, kv with
  | some (.struct fs), .agg cs => fs.toList.all fun f => decide (f.name ≠ "_") && (intT P f.type && decide (f.offset < cs.size))
  | some (.array n e), .agg cs => intT P e && decide (n ≤ cs.size)
  | _, _ => false
theorem xnn {P : Program} {t : TypeId} (h : intT P t = true) (em : Bool) (n : Nat) (v : Value) (w : World) : (Instr.checkKey em (n + 1) t v).run P w = .ok () w := by
  unfold intT at h
  split at h
  · rename_i k h1 h2
    unfold Instr.checkKey
    simp only [Sem.run_bind, run_underlying h2, Result.andThen]
    cases v <;> simp
  · cases h
theorem xuo {P : Program} {t : TypeId} (h : intT P t = true) {cs : Array Value} {off : Nat} (ho : off < cs.size) (w : World) : (part t cs off).run P w = .ok cs[off] w ∧ (sizeOf t).run P w = .ok 1 w := by
  unfold intT at h
  split at h
  · rename_i k h1 h2
    obtain ⟨g1, g2, _⟩ := xlc h1 w
    exact ⟨by simp [part, g1, ho], g2⟩
  · cases h
theorem xtp {P : Program} {kt : TypeId} {kv : Value} (h : chkB P kt kv = true) (em : Bool) (n : Nat) (w : World) : (Instr.checkKey em (n + 1 + 1) kt kv).run P w = .ok () w := by
  unfold chkB at h
  split at h
  · rename_i fs cs hu
    rw [Instr.checkKey]
    simp only [Sem.run_bind, run_underlying hu, Result.andThen_ok]
    rw [← Array.forIn_toList]
    generalize fs.toList = L at h
    induction L with
    | nil => simp
    | cons f L ih =>
      simp only [List.all_cons, Bool.and_eq_true, decide_eq_true_eq] at h
      obtain ⟨⟨hn, hi, ho⟩, hr⟩ := h
      obtain ⟨p1, _⟩ := xuo hi ho w
      have p2 := xnn hi em n cs[f.offset] w
      simp only [List.forIn_cons, Sem.run_bind, hn, ne_eq, not_false_eq_true, if_true, Result.andThen_ok, p1, p2, Sem.run_pure]
      exact ih (by simpa using hr)
  · rename_i m e cs hu
    simp only [Bool.and_eq_true, decide_eq_true_eq] at h
    obtain ⟨hi, hm⟩ := h
    rw [Instr.checkKey]
    simp only [Sem.run_bind, run_underlying hu, Result.andThen_ok]
    simp only [Std.Legacy.Range.forIn_eq_forIn_range', Std.Legacy.Range.size, Nat.sub_zero, Nat.add_one_sub_one, Nat.div_one]
    have each : ∀ j ∈ List.range' 0 m, j < cs.size := fun j hj => by
      have := List.mem_range'_1.1 hj
      omega
    generalize List.range' 0 m = is at each
    induction is with
    | nil => simp
    | cons j is ih =>
      have hj := each j (by simp)
      obtain ⟨p1, p3⟩ := xuo (off := j) hi hj w
      have p2 := xnn hi em n cs[j] w
      simp only [List.forIn_cons, Sem.run_bind, p3, Nat.mul_one, Result.andThen_ok, p1, p2, Sem.run_pure]
      exact ih fun y hy => each y (by simp [hy])
  · cases h
def findKx (P : Program) (kt : TypeId) (kv : Value) : List Value → Nat → Option (Option Nat)
  | [], _ => some none
  | q :: qs, i => match evalEq P 40 kt (keyAV kv) (keyAV q) with
    | some true => some (some i)
    | some false => findKx P kt kv qs (i + 1)
    | none => none
theorem xge {P : Program} {kt : TypeId} {kv : Value} (E : Env) : ∀ (es : List MapEntry) (i : Nat) (r : Option Nat), findKx P kt kv (es.map (·.key)) i = some r →
    match r with
    | none => (Instr.findAsking kt kv es i).run P E.w = .ok none E.w
    | some j => ∃ e, i ≤ j ∧ es[j - i]? = some e ∧ (Instr.findAsking kt kv es i).run P E.w = .ok (some (j, e.val)) E.w
  | [], i, r, h => by
    simp only [List.map_nil, findKx, Option.some.injEq] at h
    subst h
    simp [Instr.findAsking]
  | e :: es, i, r, h => by
    simp only [List.map_cons, findKx] at h
    split at h
    · rename_i he
      injection h with h
      subst h
      have q := (xqi (P := P) (E := E) 40).1 kt _ _ _ _ true (xgl E kv) (xgl E e.key) he Op.maxDepth (by decide)
      refine ⟨e, Nat.le_refl _, by simp, ?_⟩
      simp [Instr.findAsking, Op.equal, q]
    · rename_i he
      have q := (xqi (P := P) (E := E) 40).1 kt _ _ _ _ false (xgl E kv) (xgl E e.key) he Op.maxDepth (by decide)
      have ih := xge (P := P) (kt := kt) (kv := kv) E es (i + 1) r h
      cases r with
      | none =>
        simp only at ih ⊢
        simp [Instr.findAsking, Op.equal, q, ih]
      | some j =>
        simp only at ih ⊢
        obtain ⟨e', h1, h2, h3⟩ := ih
        refine ⟨e', by omega, ?_, by simp [Instr.findAsking, Op.equal, q, h3]⟩
        have : j - i = (j - (i + 1)) + 1 := by omega
        rw [this, List.getElem?_cons_succ]
        exact h2
    · cases h
def wideB (P : Program) (kt : TypeId) : Bool := match P.underlying kt with
  | some (.array _ _) | some (.struct _) => true
  | _ => false
theorem xki {P : Program} {kt : TypeId} (h : wideB P kt = true) (kv : Value) (es : List MapEntry) (w : World) : (Instr.findKey kt kv es).run P w = (Instr.findAsking kt kv es).run P w := by
  unfold wideB at h
  cases hu : P.underlying kt with
  | none => simp [hu] at h
  | some kd =>
    cases es with
    | nil => simp [Instr.findKey, run_underlying hu, Instr.findNow, Instr.findAsking]
    | cons e es => cases kd <;> simp [hu] at h <;> simp [Instr.findKey, run_underlying hu, Instr.findNow, Instr.sameNow]
theorem xml {P : Program} {kt : TypeId} {kv : Value} (h : chkB P kt kv = true) : wideB P kt = true := by
  unfold chkB at h
  unfold wideB
  split at h
  · rename_i hu; rw [hu]
  · rename_i hu; rw [hu]
  · cases h
def xoe (c : Bool) (v : AV) (ok : Bool) : AV := if c = true then .tup [v, .val (.bool ok)] else v
def xvh (P : Program) (T : TypeId) (c : Bool) (o : Option AO) (cs : List AV) : Option AV :=
  match P.underlying T, o, valsOf cs with
  | some (.map kt et), some (.mapb _ _ ks vs), some kvs =>
    if chkB P kt (.agg kvs.toArray) = true then
      match findKx P kt (.agg kvs.toArray) ks 0 with
      | some (some j) => (vs[j]?).map fun v => xoe c v true
      | some none => (zeroOf P et).map fun z => xoe c z false
      | none => none
    else none
  | _, _, _ => none
def xkh (P : Program) (T : TypeId) (l : Nat) (o : Option AO) (cs : List AV) (x : AV) : Option Upds :=
  match P.underlying T, o, valsOf cs with
  | some (.map kt _), some (.mapb bs ck ks vs), some kvs =>
    if chkB P kt (.agg kvs.toArray) = true then
      match findKx P kt (.agg kvs.toArray) ks 0 with
      | some (some j) => if (ks[j]?).any (fun q => Instr.sameBits 10000 q (.agg kvs.toArray)) = true then some [(l, some (.mapb bs ck (ks.set j (.agg kvs.toArray)) (vs.set j x)))] else none
      | some none => some [(l, some (.mapb (bs ++ [ck]) (ck + 1) (ks ++ [.agg kvs.toArray]) (vs ++ [x])))]
      | none => none
    else none
  | _, _, _ => none
def xyj (P : Program) (T : TypeId) (V : Nat → Option AO) (m k : AV) : Option (AV × Upds) :=
  match m, k with
  | .mp l, .agg cs =>
    match P.underlying T, V l, valsOf cs with
    | some (.map kt _), some (.mapb bs ck ks vs), some kvs =>
      if chkB P kt (.agg kvs.toArray) = true then
        match findKx P kt (.agg kvs.toArray) ks 0 with
        | some (some j) => some (.tup [], [(l, some (.mapb (bs.eraseIdx j) ck (ks.eraseIdx j) (vs.eraseIdx j)))])
        | some none => some (.tup [], [(l, some (.mapb bs ck ks vs))])
        | none => none
      else none
    | _, _, _ => none
  | _, _ => none
def xkf (P : Program) (T : TypeId) (V : Nat → Option AO) (m k : AV) : Option (AV × Upds) :=
  match m, k with
  | .mp l, .agg cs =>
    match P.underlying T, V l, valsOf cs with
    | some (.map kt et), some (.mapb bs ck ks vs), some kvs =>
      if chkB P kt (.agg kvs.toArray) = true ∧ evalEq P 40 kt (keyAV (.agg kvs.toArray)) (keyAV (.agg kvs.toArray)) = some true ∧ ks.length = vs.length then
        match findKx P kt (.agg kvs.toArray) ks 0 with
        | some (some j) => if (ks[j]?).any (fun q => Instr.sameBits 10000 q (.agg kvs.toArray)) = true then (match vs[j]?, bs[j]? with
          | some v, some b => some (.tup [v, .val (.int .i64 b)], [(l, some (.mapb bs ck (ks.set j (.agg kvs.toArray)) vs))])
          | _, _ => none) else none
        | some none => (zeroOf P et).map fun z => (.tup [z, .val (.int .i64 ck)], [(l, some (.mapb (bs ++ [ck]) (ck + 1) (ks ++ [.agg kvs.toArray]) (vs ++ [z])))])
        | none => none
      else none
    | _, _, _ => none
  | _, _ => none
def xgh (V : Nat → Option AO) (m s x : AV) : Option Upds :=
  match m, s with
  | .mp l, .val (.int .i64 n) =>
    match V l with
    | some (.mapb bs ck ks vs) => (bs.findIdx? fun b : Nat => ((b : Int)) == n).map fun j => [(l, some (.mapb bs ck ks (vs.set j x)))]
    | _ => none
  | _, _ => none
def xgab (P : Program) (T : TypeId) : Bool := match P.underlying T with
  | some (.map kt _) => wideB P kt
  | _ => false
def xxd (P : Program) (T : TypeId) (c : Bool) (V : Nat → Option AO) (m k : AV) : Option AV :=
  match m, k with
  | .mp l, .val kv =>
    match mapOf P T, V l with
    | some (d, et), some (.map ks vs) =>
      if isKeyB d kv = true ∧ ks.all (isKeyB d) = true then
        match ks.findIdx? (keyEq kv) with
        | some j => (vs[j]?).map fun v => xoe c v true
        | none => (zeroOf P et).map fun z => xoe c z false
      else none
    | _, _ => none
  | .mp l, .agg cs => xvh P T c (V l) cs
  | _, _ => none
def xjd (P : Program) (T : TypeId) (V : Nat → Option AO) (m k x : AV) : Option Upds :=
  match m, k with
  | .mp l, .val kv =>
    match mapOf P T, V l with
    | some (d, _), some (.map ks vs) =>
      if isKeyB d kv = true ∧ ks.all (isKeyB d) = true then
        match ks.findIdx? (keyEq kv) with
        | some j => some [(l, some (.map ks (vs.set j x)))]
        | none => some [(l, some (.map (ks ++ [kv]) (vs ++ [x])))]
      else none
    | _, _ => none
  | .mp l, .agg cs => xkh P T l (V l) cs x
  | _, _ => none
def xog (P : Program) (T : TypeId) (new : Nat) : Option (AV × Upds) := some (.mp new, [(new, some (if xgab P T = true then .mapb [] 0 [] [] else .map [] []))])
theorem x7p {P : Program} {C : Ctx} {E : Env} {H : Nat → Option AO} (hR : HR C E H) {o : Oper} {ρ : Operand → Value} {new T : Nat} (hn : ¬ E.K new) (ho : o.op = .makeMap T none) {v : AV} {us : Upds} (h : xog P T new = some (v, us)) : OpOut P o ρ C E H new v us := by
  unfold xog at h
  injection h with h
  injection h with h1 h2
  subst h1; subst h2
  have s' := Env.alloc_stab hR hn (.map #[] 0) 0
  refine ⟨.map (some E.w.heap.size), E.alloc (.map #[] 0) new 0, .inl ?_, ?_, hR.alloc hn _ 0 _ ?_, s', fun l k => k⟩
  · have := run_makeMap (P := P) T E.w
    simp [execOp, ho, this]
    rfl
  · simp only [VRep]
    refine ⟨E.w.heap.size, .inr rfl, rfl, fun b c' hb => ?_⟩
    simp only [Env.alloc, upd_same] at hb
    injection hb with hb
    injection hb with hb
    injection hb
  · split
    · simp only [ORep]
      exact ⟨#[], (heap_alloc_new _ _), rfl, rfl, .nil⟩
    · simp only [ORep]
      refine ⟨#[], 0, (heap_alloc_new _ _), rfl, ?_⟩
      exact .nil
theorem xej {C : Ctx} {E : Env} {H : Nat → Option AO} (hR : HR C E H) {l : Nat} {bs : List Nat} {ck : Nat} {ks : List Value} {vs : List AV} (h : H l = some (.mapb bs ck ks vs)) {u : Value} (hu : VRep E (.mp l) u) :
    ∃ b c es, E.L l = some (some (b, c)) ∧ u = .map (some b) ∧ E.w.heap[b]? = some (.map es ck) ∧ es.toList.map (·.key) = ks ∧ es.toList.map (·.born) = bs ∧ VReps E vs (es.toList.map (·.val)) := by
  obtain ⟨p, hp, hob⟩ := hR.live h
  cases p with
  | none => simp only [ORep] at hob
  | some q =>
    obtain ⟨b, c⟩ := q
    simp only [ORep] at hob
    obtain ⟨es, h1, h2, h4, h3⟩ := hob
    simp only [VRep] at hu
    obtain ⟨b0, _, hb0, hb⟩ := hu
    obtain rfl := hb b c hp
    exact ⟨b0, c, es, hp, hb0, h1, h2, h4, h3⟩
theorem xax {C : Ctx} {E : Env} {H : Nat → Option AO} (hR : HR C E H) {l : Nat} {ks : List Value} {vs : List AV} (h : H l = some (.map ks vs)) {u : Value} (hu : VRep E (.mp l) u) :
    ∃ b c es clock, E.L l = some (some (b, c)) ∧ u = .map (some b) ∧ E.w.heap[b]? = some (.map es clock) ∧ es.toList.map (·.key) = ks ∧ VReps E vs (es.toList.map (·.val)) := by
  obtain ⟨p, hp, hob⟩ := hR.live h
  cases p with
  | none => simp only [ORep] at hob
  | some q =>
    obtain ⟨b, c⟩ := q
    simp only [ORep] at hob
    obtain ⟨es, clock, h1, h2, h3⟩ := hob
    simp only [VRep] at hu
    obtain ⟨b0, _, hb0, hb⟩ := hu
    obtain rfl := hb b c hp
    exact ⟨b0, c, es, clock, hp, hb0, h1, h2, h3⟩
theorem xvp {E : Env} {cs : List AV} {kvs : List Value} {u : Value} (h : valsOf cs = some kvs) (hr : VRep E (.agg cs) u) : u = .agg kvs.toArray := by
  simp only [VRep] at hr
  obtain ⟨us, h1, rfl⟩ := hr
  rw [xks cs kvs us h h1]
theorem x5p {P : Program} {C : Ctx} {E : Env} {H V : Nat → Option AO} (hR : HR C E H) (hV : SubH V H) {o : Oper} {ρ : Operand → Value} {T : Nat} {c : Bool} {om ok : Operand} {l : Nat} {cs : List AV} (ho : o.op = .lookup T om ok c)
    (hm : VRep E (.mp l) (ρ om)) (hk : VRep E (.agg cs) (ρ ok)) {v : AV} (h : xvh P T c (V l) cs = some v) : ∃ u, (execOp ρ o).run P E.w = .ok (.value u) E.w ∧ VRep E v u := by
  unfold xvh at h
  split at h
  · rename_i kt et bs ck ks vs kvs hu hl hvk
    have hkv := xvp hvk hk
    split at h
    · rename_i hc
      obtain ⟨b, c', es, hp, hmv, hb, hks, hbs, hvs⟩ := xej hR (hV _ _ hl) hm
      have hck := xtp hc es.isEmpty 9998 E.w
      have hfk := xki (xml hc) (.agg kvs.toArray) es.toList E.w
      rw [← hks] at h
      split at h
      · rename_i j hj
        have hf := xge E es.toList 0 _ hj
        simp only at hf
        obtain ⟨e, _, he, hrun⟩ := hf
        rw [Nat.sub_zero] at he
        rw [hrun] at hfk
        obtain ⟨x, hx, hv⟩ := Option.map_eq_some_iff.1 h
        subst hv
        obtain ⟨u, hu', hru⟩ := hvs.get j x hx
        rw [List.getElem?_map, he] at hu'
        simp only [Option.map_some, Option.some.injEq] at hu'
        refine ⟨if c = true then .tuple #[e.val, .bool true] else e.val, ?_, ?_⟩
        · simp [execOp, ho, hmv, hkv, Instr.lookup, run_underlying hu, MapKept.run_getObj_map hb, hck, hfk]
        · rw [hu']
          cases c
          · exact hru
          · simp only [xoe, if_true, VRep]
            exact ⟨[u, .bool true], .cons hru (.cons (by simp only [VRep]) .nil), rfl⟩
      · rename_i hj
        have hf := xge E es.toList 0 _ hj
        simp only at hf
        rw [hf] at hfk
        obtain ⟨z, hz, hv⟩ := Option.map_eq_some_iff.1 h
        subst hv
        obtain ⟨i, zv, hi, hzv, rfl⟩ := xvf hz
        have hru := VRep.ofConst E zv
        refine ⟨if c = true then .tuple #[zv, .bool false] else zv, ?_, ?_⟩
        · simp [execOp, ho, hmv, hkv, Instr.lookup, run_underlying hu, MapKept.run_getObj_map hb, hck, hfk, zeroValue, typeInfo, hi, hzv]
        · cases c
          · exact hru
          · simp only [xoe, if_true, VRep]
            exact ⟨[zv, .bool false], .cons hru (.cons (by simp only [VRep]) .nil), rfl⟩
      · cases h
    · cases h
  · cases h
theorem x3q {P : Program} {C : Ctx} {E : Env} {H V : Nat → Option AO} (hR : HR C E H) (hV : SubH V H) {o : Oper} {ρ : Operand → Value} {T : Nat} {c : Bool} {om ok : Operand} {m k : AV} (ho : o.op = .lookup T om ok c)
    (hm : VRep E m (ρ om)) (hk : VRep E k (ρ ok)) {v : AV} (h : xxd P T c V m k = some v) : ∃ u, (execOp ρ o).run P E.w = .ok (.value u) E.w ∧ VRep E v u := by
  unfold xxd at h
  split at h
  · rename_i l kv
    split at h
    · rename_i d et ks vs hmo hl
      obtain ⟨kt, hu, hd⟩ := xcx hmo
      split at h
      · rename_i hc
        obtain ⟨b, c', es, clock, hp, hmv, hb, hks, hvs⟩ := xax hR (hV _ _ hl) hm
        simp only [VRep] at hk
        have hall : ∀ x ∈ es.toList, isKeyB d x.key = true := fun x hx => List.all_eq_true.1 hc.2 _ (by rw [← hks]; exact List.mem_map.2 ⟨x, hx, rfl⟩)
        have hf := MapKept.run_findKey (P := P) (w := E.w) hd (xim hc.1 es.toList 0 hall)
        rw [hks] at hf
        have hck := MapKept.run_checkKey (P := P) (w := E.w) hd (xwh hc.1) es.isEmpty 9999
        split at h
        · rename_i j hj
          rw [hj] at hf
          obtain ⟨x, hx, hv⟩ := Option.map_eq_some_iff.1 h
          subst hv
          obtain ⟨u, hu', hru⟩ := hvs.get j x hx
          have he : ∃ e, es.toList[j]? = some e ∧ e.val = u := by
            rw [List.getElem?_map] at hu'
            exact Option.map_eq_some_iff.1 hu'
          obtain ⟨e, he, hev⟩ := he
          simp only [Option.bind_some, he, Option.map_some, hev] at hf
          refine ⟨if c = true then .tuple #[u, .bool true] else u, ?_, ?_⟩
          · simp [execOp, ho, hmv, hk, Instr.lookup, run_underlying hu, MapKept.run_getObj_map hb, hck, hf]
          · cases c
            · exact hru
            · simp only [xoe, if_true, VRep]
              exact ⟨[u, .bool true], .cons hru (.cons (by simp only [VRep]) .nil), rfl⟩
        · rename_i hj
          rw [hj] at hf
          obtain ⟨z, hz, hv⟩ := Option.map_eq_some_iff.1 h
          subst hv
          obtain ⟨i, zv, hi, hzv, rfl⟩ := xvf hz
          have hru := VRep.ofConst E zv
          simp only [Option.bind_none] at hf
          refine ⟨if c = true then .tuple #[zv, .bool false] else zv, ?_, ?_⟩
          · simp [execOp, ho, hmv, hk, Instr.lookup, run_underlying hu, MapKept.run_getObj_map hb, hck, hf, zeroValue, typeInfo, hi, hzv]
          · cases c
            · exact hru
            · simp only [xoe, if_true, VRep]
              exact ⟨[zv, .bool false], .cons hru (.cons (by simp only [VRep]) .nil), rfl⟩
      · cases h
    · cases h
  · exact x5p hR hV ho hm hk h
  · cases h
theorem xlg {α β : Type} (l : List α) (f : α → β) (g : α → α) (j : Nat) (x : β) (e : α) (he : l[j]? = some e) (hg : f (g e) = x) : (l.modify j g).map f = (l.map f).set j x := by
  apply List.ext_getElem?
  intro i
  simp only [List.getElem?_map, List.getElem?_modify, List.getElem?_set, List.length_map]
  by_cases h : j = i
  · subst h
    obtain ⟨hlt, he'⟩ := List.getElem?_eq_some_iff.1 he
    simp [hlt, he', hg]
  · simp [h]
theorem xqg {α β : Type} (l : List α) (f : α → β) (g : α → α) (j : Nat) (e : α) (he : l[j]? = some e) (hg : f (g e) = f e) : (l.modify j g).map f = l.map f := by
  rw [xlg l f g j (f e) e he hg]
  apply List.ext_getElem?
  intro i
  simp only [List.getElem?_set, List.length_map]
  by_cases h : j = i
  · subst h
    obtain ⟨hlt, he'⟩ := List.getElem?_eq_some_iff.1 he
    simp [hlt, he']
  · simp [h]
theorem VReps.eraseIdx {E : Env} : ∀ {cs : List AV} {us : List Value} (j : Nat), VReps E cs us → VReps E (cs.eraseIdx j) (us.eraseIdx j)
  | [], us, j, h => by
    simp only [VReps] at h
    subst h
    simpa using VReps.nil
  | x :: cs, us, j, h => by
    simp only [VReps] at h
    obtain ⟨u, us', h1, h2, rfl⟩ := h
    cases j with
    | zero => simpa using h2
    | succ j =>
      simp only [List.eraseIdx_cons_succ]
      exact .cons h1 (VReps.eraseIdx j h2)
theorem x1k {α β : Type} (f : α → β) : ∀ (l : List α) (j : Nat), (l.eraseIdx j).map f = (l.map f).eraseIdx j
  | [], j => by simp
  | x :: l, 0 => rfl
  | x :: l, j + 1 => by simp only [List.eraseIdx_cons_succ, List.map_cons, x1k f l j]
theorem x1i {P : Program} {C : Ctx} {E : Env} {H : Nat → Option AO} (hR : HR C E H) {o : Oper} {ρ : Operand → Value} {new l b c' clock0 : Nat} {es : Array MapEntry} (hp : E.L l = some (some (b, c'))) (hb : E.w.heap[b]? = some (.map es clock0)) {us : Upds} {v : AV} {u : Value} (hvu : ∀ E' : Env, Stab E E' → VRep E' v u)
    (es' : Array MapEntry) (clock' : Nat) (bs' : List Nat) (ks' : List Value) (vs' : List AV) (e : us = [(l, some (.mapb bs' clock' ks' vs'))])
    (hrun : (execOp ρ o).run P E.w = .ok .skip { E.w with heap := E.w.heap.setIfInBounds b (.map es' clock') } ∧ u = undef ∨ (execOp ρ o).run P E.w = .ok (.value u) { E.w with heap := E.w.heap.setIfInBounds b (.map es' clock') }) (hk' : es'.toList.map (·.key) = ks') (hb' : es'.toList.map (·.born) = bs') (hv' : VReps E vs' (es'.toList.map (·.val))) : OpOut P o ρ C E H new v us := by
  subst e
  have hOnly : Only E.w { E.w with heap := E.w.heap.setIfInBounds b (.map es' clock') } b := Only.setObj _ _ _
  have hstab := Env.only_stab hR hp hOnly
  refine ⟨u, { E with w := { E.w with heap := E.w.heap.setIfInBounds b (.map es' clock') } }, ?_, hvu _ hstab, hR.only hp hOnly _ ?_, hstab, fun l k => .inl k⟩
  · rcases hrun with ⟨h1, rfl⟩ | h1
    · exact .inr ⟨h1, rfl⟩
    · exact .inl h1
  · simp only [ORep]
    exact ⟨es', (MapKept.heap_set hb).1, hk', hb', hv'.stab hstab⟩
theorem xju {old new : Value} (h : Instr.sameBits 10000 old new = true) {P : Program} (w : World) : (Instr.keyThatStays old new).run P w = .ok new w := by
  simp [Instr.keyThatStays, h]
theorem xyo (E : Env) : VRep E (.val undef) undef := by simp only [VRep]
theorem xpm {P : Program} {C : Ctx} {E : Env} {H V : Nat → Option AO} (hR : HR C E H) (hV : SubH V H) {o : Oper} {ρ : Operand → Value} {new T : Nat} {om ok ox : Operand} {l : Nat} {cs : List AV} {x : AV} (ho : o.op = .mapUpdate T om ok ox)
    (hm : VRep E (.mp l) (ρ om)) (hk : VRep E (.agg cs) (ρ ok)) (hx : VRep E x (ρ ox)) {us : Upds} (h : xkh P T l (V l) cs x = some us) : OpOut P o ρ C E H new (.val undef) us := by
  unfold xkh at h
  split at h
  · rename_i kt et bs ck ks vs kvs hu hl hvk
    have hkv := xvp hvk hk
    split at h
    · rename_i hc
      obtain ⟨b, c', es, hp, hmv, hb, hks, hbs, hvs⟩ := xej hR (hV _ _ hl) hm
      have hck := xtp hc false 9998 E.w
      have hfk := xki (xml hc) (.agg kvs.toArray) es.toList E.w
      rw [← hks] at h
      split at h
      · rename_i j hj
        have hf := xge E es.toList 0 _ hj
        simp only at hf
        obtain ⟨e, _, he, hrun⟩ := hf
        rw [Nat.sub_zero] at he
        rw [hrun] at hfk
        split at h
        · rename_i hsb
          injection h with h
          rw [List.getElem?_map, he] at hsb
          simp only [Option.map_some, Option.any_some] at hsb
          obtain ⟨hjl, hje⟩ := List.getElem?_eq_some_iff.1 he
          have hjs : j < es.size := by simpa using hjl
          have hee : es[j] = e := by simpa using hje
          have hst := xju hsb (P := P) E.w
          refine x1i hR hp hb (fun E' _ => xyo E') (es.modify j fun e => { e with key := .agg kvs.toArray, val := ρ ox }) ck bs _ (vs.set j x) h.symm (.inl ⟨?_, rfl⟩) ?_ ?_ ?_
          · simp [execOp, ho, hmv, hkv, Instr.mapUpdate, run_underlying hu, MapKept.run_getObj_map hb, hck, hfk, hjs, hee, hst, MapKept.run_setObj_map _ hb]
          · rw [Array.toList_modify, xlg (f := fun e : MapEntry => e.key) _ _ j (.agg kvs.toArray) _ he rfl]
          · rw [Array.toList_modify, xqg (f := fun e : MapEntry => e.born) _ _ j _ he rfl, hbs]
          · rw [Array.toList_modify, xlg (f := fun e : MapEntry => e.val) _ _ j (ρ ox) _ he rfl]
            exact hvs.set j hx
        · cases h
      · rename_i hj
        have hf := xge E es.toList 0 _ hj
        simp only at hf
        rw [hf] at hfk
        injection h with h
        refine x1i hR hp hb (fun E' _ => xyo E') (es.push { key := .agg kvs.toArray, val := ρ ox, born := ck }) (ck + 1) (bs ++ [ck]) _ (vs ++ [x]) h.symm (.inl ⟨?_, rfl⟩) ?_ ?_ ?_
        · simp [execOp, ho, hmv, hkv, Instr.mapUpdate, run_underlying hu, MapKept.run_getObj_map hb, hck, hfk, MapKept.run_setObj_map _ hb]
        · simp
        · simp [hbs]
        · simp only [Array.toList_push, List.map_append, List.map_cons, List.map_nil]
          exact hvs.append (.cons hx .nil)
      · cases h
    · cases h
  · cases h
theorem xzq {P : Program} {C : Ctx} {E : Env} {H V : Nat → Option AO} (hR : HR C E H) (hV : SubH V H) {o : Oper} {ρ : Operand → Value} {new T kT : Nat} {om ok : Operand} {m k : AV} (ho : o.op = .call ⟨.builtin .delete, #[om, ok], #[T, kT]⟩)
    (hm : VRep E m (ρ om)) (hk : VRep E k (ρ ok)) {v : AV} {us : Upds} (h : xyj P T V m k = some (v, us)) : OpOut P o ρ C E H new v us := by
  unfold xyj at h
  split at h
  · rename_i l cs
    split at h
    · rename_i kt et bs ck ks vs kvs hu hl hvk
      have hkv := xvp hvk hk
      split at h
      · rename_i hc
        obtain ⟨b, c', es, hp, hmv, hb, hks, hbs, hvs⟩ := xej hR (hV _ _ hl) hm
        have hck := xtp hc es.isEmpty 9998 E.w
        have hfk := xki (xml hc) (.agg kvs.toArray) es.toList E.w
        have hvu : ∀ E' : Env, Stab E E' → VRep E' (.tup []) (.tuple #[]) := fun _ _ => by simp only [VRep, VReps]; exact ⟨[], rfl, rfl⟩
        rw [← hks] at h
        split at h
        · rename_i j hj
          have hf := xge E es.toList 0 _ hj
          simp only at hf
          obtain ⟨e, _, he, hrun⟩ := hf
          rw [Nat.sub_zero] at he
          rw [hrun] at hfk
          injection h with h
          injection h with h1 h2
          subst h1
          obtain ⟨hjl, hje⟩ := List.getElem?_eq_some_iff.1 he
          have hjs : j < es.size := by simpa using hjl
          refine x1i hR hp hb hvu (es.eraseIdxIfInBounds j) ck _ _ (vs.eraseIdx j) h2.symm (.inr ?_) ?_ ?_ ?_
          · simp [execOp, ho, resolve, invoke, builtin, hmv, hkv, Builtin.delete_, run_underlying hu, MapKept.run_getObj_map hb, hck, hfk, MapKept.run_setObj_map _ hb]
          · rw [Array.toList_eraseIdxIfInBounds, x1k]
          · rw [Array.toList_eraseIdxIfInBounds, x1k, hbs]
          · rw [Array.toList_eraseIdxIfInBounds, x1k]
            exact hvs.eraseIdx j
        · rename_i hj
          have hf := xge E es.toList 0 _ hj
          simp only at hf
          rw [hf] at hfk
          injection h with h
          injection h with h1 h2
          subst h1
          refine x1i hR hp hb hvu es ck _ _ vs h2.symm (.inr ?_) rfl hbs hvs
          simp [execOp, ho, resolve, invoke, builtin, hmv, hkv, Builtin.delete_, run_underlying hu, MapKept.run_getObj_map hb, hck, hfk, MapKept.run_setObj_map _ hb]
        · cases h
      · cases h
    · cases h
  · cases h
theorem x9v {E : Env} {x : AV} {u : Value} (h : VRep E x u) (n : Int) : VRep E (.tup [x, .val (.int .i64 n)]) (.tuple #[u, .int .i64 n]) := by
  simp only [VRep]
  exact ⟨[u, .int .i64 n], .cons h (.cons (by simp only [VRep]) .nil), rfl⟩
theorem xpo {P : Program} {C : Ctx} {E : Env} {H V : Nat → Option AO} (hR : HR C E H) (hV : SubH V H) {o : Oper} {ρ : Operand → Value} {new T : Nat} {om ok : Operand} {m k : AV} (ho : o.op = .mapEntry T om ok)
    (hm : VRep E m (ρ om)) (hk : VRep E k (ρ ok)) {v : AV} {us : Upds} (h : xkf P T V m k = some (v, us)) : OpOut P o ρ C E H new v us := by
  unfold xkf at h
  split at h
  · rename_i l cs
    split at h
    · rename_i kt et bs ck ks vs kvs hu hl hvk
      have hkv := xvp hvk hk
      split at h
      · rename_i hc
        have hc := hc.1
        obtain ⟨b, c', es, hp, hmv, hb, hks, hbs, hvs⟩ := xej hR (hV _ _ hl) hm
        have hck := xtp hc false 9998 E.w
        have hfk := xki (xml hc) (.agg kvs.toArray) es.toList E.w
        rw [← hks] at h
        split at h
        · rename_i j hj
          have hf := xge E es.toList 0 _ hj
          simp only at hf
          obtain ⟨e, _, he, hrun⟩ := hf
          rw [Nat.sub_zero] at he
          rw [hrun] at hfk
          split at h
          · rename_i hsb
            split at h
            · rename_i v0 b0 hv0 hb0
              injection h with h
              injection h with h1 h2
              subst h1
              rw [List.getElem?_map, he] at hsb
              simp only [Option.map_some, Option.any_some] at hsb
              obtain ⟨hjl, hje⟩ := List.getElem?_eq_some_iff.1 he
              have hjs : j < es.size := by simpa using hjl
              have hee : es[j] = e := by simpa using hje
              have hst := xju hsb (P := P) E.w
              rw [← hbs, List.getElem?_map, he] at hb0
              simp only [Option.map_some, Option.some.injEq] at hb0
              obtain ⟨u, hu', hru⟩ := hvs.get j v0 hv0
              rw [List.getElem?_map, he] at hu'
              simp only [Option.map_some, Option.some.injEq] at hu'
              refine x1i hR hp hb (u := .tuple #[u, .int .i64 b0]) (fun E' hs => x9v (hru.stab hs) _) (es.modify j fun e => { e with key := .agg kvs.toArray }) ck bs _ vs h2.symm (.inr ?_) ?_ ?_ ?_
              · subst hu'; subst hb0
                simp [execOp, ho, hmv, hkv, Instr.mapEntry, run_underlying hu, MapKept.run_getObj_map hb, hck, hfk, hjs, hee, hst, MapKept.run_setObj_map _ hb, goInt]
              · rw [Array.toList_modify, xlg (f := fun e : MapEntry => e.key) _ _ j (.agg kvs.toArray) _ he rfl]
              · rw [Array.toList_modify, xqg (f := fun e : MapEntry => e.born) _ _ j _ he rfl, hbs]
              · rw [Array.toList_modify, xqg (f := fun e : MapEntry => e.val) _ _ j _ he rfl]
                exact hvs
            · cases h
          · cases h
        · rename_i hj
          have hf := xge E es.toList 0 _ hj
          simp only at hf
          rw [hf] at hfk
          obtain ⟨z, hz, hv⟩ := Option.map_eq_some_iff.1 h
          injection hv with h1 h2
          subst h1
          obtain ⟨i, zv, hi, hzv, rfl⟩ := xvf hz
          have hru := VRep.ofConst E zv
          refine x1i hR hp hb (u := .tuple #[zv, .int .i64 ck]) (fun E' hs => x9v (hru.stab hs) _) (es.push { key := .agg kvs.toArray, val := zv, born := ck }) (ck + 1) (bs ++ [ck]) _ _ h2.symm (.inr ?_) ?_ ?_ ?_
          · simp [execOp, ho, hmv, hkv, Instr.mapEntry, run_underlying hu, MapKept.run_getObj_map hb, hck, hfk, zeroValue, typeInfo, hi, hzv, MapKept.run_setObj_map _ hb, goInt]
          · simp
          · simp [hbs]
          · simp only [Array.toList_push, List.map_append, List.map_cons, List.map_nil]
            exact hvs.append (.cons hru .nil)
        · cases h
      · cases h
    · cases h
  · cases h
theorem xzm {P : Program} {C : Ctx} {E : Env} {H V : Nat → Option AO} (hR : HR C E H) (hV : SubH V H) {o : Oper} {ρ : Operand → Value} {new T : Nat} {om os ox : Operand} {m s x : AV} (ho : o.op = .entryStore T om os ox)
    (hm : VRep E m (ρ om)) (hs : VRep E s (ρ os)) (hx : VRep E x (ρ ox)) {us : Upds} (h : xgh V m s x = some us) : OpOut P o ρ C E H new (.val undef) us := by
  unfold xgh at h
  split at h
  · rename_i l n
    split at h
    · rename_i bs ck ks vs hl
      obtain ⟨b, c', es, hp, hmv, hb, hks, hbs, hvs⟩ := xej hR (hV _ _ hl) hm
      simp only [VRep] at hs
      obtain ⟨j, hj, h2⟩ := Option.map_eq_some_iff.1 h
      have hf : es.findIdx? (fun e => (e.born : Int) == n) = some j := by
        rw [← hbs, List.findIdx?_map] at hj
        rw [← hj]
        obtain ⟨l⟩ := es
        simp [Function.comp_def]
      obtain ⟨hjl, hjb⟩ : ∃ h : j < bs.length, ((bs[j] : Int) == n) = true := by
        obtain ⟨q1, q2, _⟩ := List.findIdx?_eq_some_iff_getElem.1 hj
        exact ⟨q1, q2⟩
      have hjl' : j < es.toList.length := by rw [← hbs] at hjl; simpa using hjl
      have he : es.toList[j]? = some es.toList[j] := List.getElem?_eq_getElem hjl'
      refine x1i hR hp hb (fun E' _ => xyo E') (es.modify j fun e => { e with val := ρ ox }) ck bs ks (vs.set j x) h2.symm (.inl ⟨?_, rfl⟩) ?_ ?_ ?_
      · simp [execOp, ho, hmv, hs, Instr.entryStore, MapKept.run_getObj_map hb, asInt, asIntOf, hf, MapKept.run_setObj_map _ hb]
      · rw [Array.toList_modify, xqg (f := fun e : MapEntry => e.key) _ _ j _ he rfl, hks]
      · rw [Array.toList_modify, xqg (f := fun e : MapEntry => e.born) _ _ j _ he rfl, hbs]
      · rw [Array.toList_modify, xlg (f := fun e : MapEntry => e.val) _ _ j (ρ ox) _ he rfl]
        exact hvs.set j hx
    · cases h
  · cases h
theorem xqn {P : Program} {C : Ctx} {E : Env} {H V : Nat → Option AO} (hR : HR C E H) (hV : SubH V H) {o : Oper} {ρ : Operand → Value} {new T : Nat} {om ok ox : Operand} {m k x : AV} (ho : o.op = .mapUpdate T om ok ox)
    (hm : VRep E m (ρ om)) (hk : VRep E k (ρ ok)) (hx : VRep E x (ρ ox)) {us : Upds} (h : xjd P T V m k x = some us) : OpOut P o ρ C E H new (.val undef) us := by
  unfold xjd at h
  split at h
  · rename_i l kv
    split at h
    · rename_i d et ks vs hmo hl
      obtain ⟨kt, hu, hd⟩ := xcx hmo
      split at h
      · rename_i hc
        obtain ⟨b, c', es, clock, hp, hmv, hb, hks, hvs⟩ := xax hR (hV _ _ hl) hm
        simp only [VRep] at hk
        have hall : ∀ x ∈ es.toList, isKeyB d x.key = true := fun x hx => List.all_eq_true.1 hc.2 _ (by rw [← hks]; exact List.mem_map.2 ⟨x, hx, rfl⟩)
        have hf := MapKept.run_findKey (P := P) (w := E.w) hd (xim hc.1 es.toList 0 hall)
        rw [hks] at hf
        have hck := MapKept.run_checkKey (P := P) (w := E.w) hd (xwh hc.1) false 9999
        have fin : ∀ (es' : Array MapEntry) (clock' : Nat) (ks' : List Value) (vs' : List AV), us = [(l, some (.map ks' vs'))] → (execOp ρ o).run P E.w = .ok .skip { E.w with heap := E.w.heap.setIfInBounds b (.map es' clock') } → es'.toList.map (·.key) = ks' → VReps E vs' (es'.toList.map (·.val)) → OpOut P o ρ C E H new (.val undef) us := by
          intro es' clock' ks' vs' e hrun hk' hv'
          subst e
          have hOnly : Only E.w { E.w with heap := E.w.heap.setIfInBounds b (.map es' clock') } b := Only.setObj _ _ _
          have hstab := Env.only_stab hR hp hOnly
          refine ⟨undef, { E with w := { E.w with heap := E.w.heap.setIfInBounds b (.map es' clock') } }, .inr ⟨hrun, rfl⟩, by simp only [VRep], hR.only hp hOnly _ ?_, hstab, fun l k => .inl k⟩
          simp only [ORep]
          exact ⟨es', clock', (MapKept.heap_set hb).1, hk', hv'.stab hstab⟩
        split at h
        · rename_i j hj
          rw [hj] at hf
          injection h with h
          have hjl : j < ks.length := (List.findIdx?_eq_some_iff_getElem.1 hj).1
          have hkj := (List.findIdx?_eq_some_iff_getElem.1 hj).2.1
          have hjl' : j < es.toList.length := by rw [← hks] at hjl; simpa using hjl
          have he : es.toList[j]? = some es.toList[j] := List.getElem?_eq_getElem hjl'
          have hkey : es.toList[j].key = kv := by
            have : ks[j] = es.toList[j].key := by subst hks; simp
            rw [this] at hkj
            exact ((xv1 hc.1 (hall _ (List.getElem_mem hjl'))).1 hkj).symm
          simp only [Option.bind_some, he, Option.map_some] at hf
          have hjs : j < es.size := by simpa using hjl'
          have hkey' : es[j].key = kv := by simpa using hkey
          refine fin (es.modify j fun e => { e with key := kv, val := ρ ox }) clock ks (vs.set j x) h.symm ?_ ?_ ?_
          · simp [execOp, ho, hmv, hk, Instr.mapUpdate, run_underlying hu, MapKept.run_getObj_map hb, hck, hf, hjs, hkey', MapKept.run_keyThatStays (xwh hc.1), MapKept.run_setObj_map _ hb]
          · rw [Array.toList_modify, xqg (f := fun e : MapEntry => e.key) _ _ j _ he hkey.symm, hks]
          · rw [Array.toList_modify, xlg (f := fun e : MapEntry => e.val) _ _ j (ρ ox) _ he rfl]
            exact hvs.set j hx
        · rename_i hj
          rw [hj] at hf
          injection h with h
          simp only [Option.bind_none] at hf
          refine fin (es.push { key := kv, val := ρ ox, born := clock }) (clock + 1) (ks ++ [kv]) (vs ++ [x]) h.symm ?_ ?_ ?_
          · simp [execOp, ho, hmv, hk, Instr.mapUpdate, run_underlying hu, MapKept.run_getObj_map hb, hck, hf, MapKept.run_setObj_map _ hb]
          · simp [hks]
          · simp only [Array.toList_push, List.map_append, List.map_cons, List.map_nil]
            exact hvs.append (.cons hx .nil)
      · cases h
    · cases h
  · exact xpm hR hV ho hm hk hx h
  · cases h
end Go.Proofs.YtefdlpandfhcgaaGreatDoor.AL

