/- A law of the given program is proved: part 12 of 51. -/
import Derived.MapKept
import Derived.Carry
import Derived.Test.YtapdjibjnfeipaaGreatDoorD11
set_option linter.all false
/- AL, part 20 (it stands ahead of part 11): maps whose keys are numbers, texts, or truth values. -/
set_option linter.unusedSimpArgs false
namespace Go.Proofs.YtapdjibjnfeipaaGreatDoor.AL
open Go.RowKit
def isKeyB (d : TypeDesc) (k : Value) : Bool :=
  match d, k with
  | .bool, .bool _ => true
  | .int k, .int k' _ => decide (k' = k)
  | .string, .string _ => true
  | _, _ => false
theorem xph {d : TypeDesc} {k : Value} (h : isKeyB d k = true) : MapKept.IsKey d k := by
  unfold isKeyB at h
  unfold MapKept.IsKey
  split at h <;> simp_all
def keyEq (a b : Value) : Bool :=
  match a, b with
  | .bool x, .bool y => x == y
  | .int _ x, .int _ y => x == y
  | .string x, .string y => x == y
  | _, _ => false
theorem xls {d : TypeDesc} {a b : Value} (ha : isKeyB d a = true) (hb : isKeyB d b = true) : Instr.sameNow d a b = some (keyEq a b) := by
  unfold isKeyB at ha hb
  split at ha <;> split at hb <;> simp_all [Instr.sameNow, keyEq]
theorem xp3 {d : TypeDesc} {a b : Value} (ha : isKeyB d a = true) (hb : isKeyB d b = true) : keyEq a b = true ↔ a = b := by
  obtain ⟨r, h1, h2⟩ := MapKept.sameNow_of_keys (xph ha) (xph hb)
  rw [xls ha hb] at h1
  injection h1 with h1
  rw [h1]
  exact h2
theorem xjp {d : TypeDesc} {k : Value} (hk : isKeyB d k = true) : ∀ (l : List MapEntry) (i : Nat), (∀ x ∈ l, isKeyB d x.key = true) →
    Instr.findNow d k l i = some (((l.map (·.key)).findIdx? (keyEq k)).bind fun j => (l[j]?).map fun e => (i + j, e.val))
  | [], i, _ => rfl
  | e :: l, i, h => by
    simp only [Instr.findNow, xls hk (h e (by simp)), List.map_cons, List.findIdx?_cons]
    cases hq : keyEq k e.key
    · simp only [Bool.false_eq_true, if_false]
      rw [xjp hk l (i + 1) fun x hx => h x (by simp [hx])]
      congr 1
      cases (l.map (·.key)).findIdx? (keyEq k) with
      | none => rfl
      | some j =>
        simp only [Option.bind_some, Option.map_some, List.getElem?_cons_succ]
        congr 1
        funext e'
        congr 1
        omega
    · simp
def mapOf (P : Program) (T : TypeId) : Option (TypeDesc × TypeId) :=
  match P.underlying T with
  | some (.map kt et) => (P.underlying kt).map fun d => (d, et)
  | _ => none
theorem xlx {P : Program} {T : TypeId} {d : TypeDesc} {et : TypeId} (h : mapOf P T = some (d, et)) : ∃ kt, P.underlying T = some (.map kt et) ∧ P.underlying kt = some d := by
  unfold mapOf at h
  split at h
  · rename_i kt et' hu
    obtain ⟨d', h1, h2⟩ := Option.map_eq_some_iff.1 h
    injection h2 with h2 h3
    subst h2; subst h3
    exact ⟨kt, hu, h1⟩
  · cases h
def xch (c : Bool) (v : AV) (ok : Bool) : AV := if c = true then .tup [v, .val (.bool ok)] else v
def xlf (P : Program) (T : TypeId) (c : Bool) (V : Nat → Option AO) (m k : AV) : Option AV :=
  match m, k with
  | .mp l, .val kv =>
    match mapOf P T, V l with
    | some (d, et), some (.map ks vs) =>
      if isKeyB d kv = true ∧ ks.all (isKeyB d) = true then
        match ks.findIdx? (keyEq kv) with
        | some j => (vs[j]?).map fun v => xch c v true
        | none => (zeroOf P et).map fun z => xch c z false
      else none
    | _, _ => none
  | _, _ => none
def xfd (P : Program) (T : TypeId) (V : Nat → Option AO) (m k x : AV) : Option Upds :=
  match m, k with
  | .mp l, .val kv =>
    match mapOf P T, V l with
    | some (d, _), some (.map ks vs) =>
      if isKeyB d kv = true ∧ ks.all (isKeyB d) = true then
        match ks.findIdx? (keyEq kv) with
        | some j => some [(l, some (.map ks (vs.set j x)))]
        | none => some [(l, some (.map (ks ++ [kv]) (vs ++ [x])))]
      else none
    | _, _ => none
  | _, _ => none
def xwk (new : Nat) : Option (AV × Upds) := some (.mp new, [(new, some (.map [] []))])
theorem x8r {P : Program} {C : Ctx} {E : Env} {H : Nat → Option AO} (hR : HR C E H) {o : Oper} {ρ : Operand → Value} {new T : Nat} (hn : ¬ E.K new) (ho : o.op = .makeMap T none) {v : AV} {us : Upds} (h : xwk new = some (v, us)) : OpOut P o ρ C E H new v us := by
  unfold xwk at h
  injection h with h
  injection h with h1 h2
  subst h1; subst h2
  have s' := Env.alloc_stab hR hn (.map #[] 0) 0
  refine ⟨.map (some E.w.heap.size), E.alloc (.map #[] 0) new 0, .inl ?_, ?_, hR.alloc hn _ 0 _ ?_, s', fun l k => k⟩
  · have := run_makeMap (P := P) T E.w
    simp [execOp, ho, this]
    rfl
  · simp only [VRep]
    refine ⟨E.w.heap.size, .inr rfl, rfl, fun b c' hb => ?_⟩
    simp only [Env.alloc, upd_same] at hb
    injection hb with hb
    injection hb with hb
    injection hb
  · simp only [ORep]
    refine ⟨#[], 0, (heap_alloc_new _ _), rfl, ?_⟩
    exact .nil
theorem xtx {C : Ctx} {E : Env} {H : Nat → Option AO} (hR : HR C E H) {l : Nat} {ks : List Value} {vs : List AV} (h : H l = some (.map ks vs)) {u : Value} (hu : VRep E (.mp l) u) :
    ∃ b c es clock, E.L l = some (some (b, c)) ∧ u = .map (some b) ∧ E.w.heap[b]? = some (.map es clock) ∧ es.toList.map (·.key) = ks ∧ VReps E vs (es.toList.map (·.val)) := by
  obtain ⟨p, hp, hob⟩ := hR.live h
  cases p with
  | none => simp only [ORep] at hob
  | some q =>
    obtain ⟨b, c⟩ := q
    simp only [ORep] at hob
    obtain ⟨es, clock, h1, h2, h3⟩ := hob
    simp only [VRep] at hu
    obtain ⟨b0, _, hb0, hb⟩ := hu
    obtain rfl := hb b c hp
    exact ⟨b0, c, es, clock, hp, hb0, h1, h2, h3⟩
theorem x8s {P : Program} {C : Ctx} {E : Env} {H V : Nat → Option AO} (hR : HR C E H) (hV : SubH V H) {o : Oper} {ρ : Operand → Value} {T : Nat} {c : Bool} {om ok : Operand} {m k : AV} (ho : o.op = .lookup T om ok c)
    (hm : VRep E m (ρ om)) (hk : VRep E k (ρ ok)) {v : AV} (h : xlf P T c V m k = some v) : ∃ u, (execOp ρ o).run P E.w = .ok (.value u) E.w ∧ VRep E v u := by
  unfold xlf at h
  split at h
  · rename_i l kv
    split at h
    · rename_i d et ks vs hmo hl
      obtain ⟨kt, hu, hd⟩ := xlx hmo
      split at h
      · rename_i hc
        obtain ⟨b, c', es, clock, hp, hmv, hb, hks, hvs⟩ := xtx hR (hV _ _ hl) hm
        simp only [VRep] at hk
        have hall : ∀ x ∈ es.toList, isKeyB d x.key = true := fun x hx => List.all_eq_true.1 hc.2 _ (by rw [← hks]; exact List.mem_map.2 ⟨x, hx, rfl⟩)
        have hf := MapKept.run_findKey (P := P) (w := E.w) hd (xjp hc.1 es.toList 0 hall)
        rw [hks] at hf
        have hck := MapKept.run_checkKey (P := P) (w := E.w) hd (xph hc.1) es.isEmpty 9999
        split at h
        · rename_i j hj
          rw [hj] at hf
          obtain ⟨x, hx, hv⟩ := Option.map_eq_some_iff.1 h
          subst hv
          obtain ⟨u, hu', hru⟩ := hvs.get j x hx
          have he : ∃ e, es.toList[j]? = some e ∧ e.val = u := by
            rw [List.getElem?_map] at hu'
            exact Option.map_eq_some_iff.1 hu'
          obtain ⟨e, he, hev⟩ := he
          simp only [Option.bind_some, he, Option.map_some, hev] at hf
          refine ⟨if c = true then .tuple #[u, .bool true] else u, ?_, ?_⟩
          · simp [execOp, ho, hmv, hk, Instr.lookup, run_underlying hu, MapKept.run_getObj_map hb, hck, hf]
          · cases c
            · exact hru
            · simp only [xch, if_true, VRep]
              exact ⟨[u, .bool true], .cons hru (.cons (by simp only [VRep]) .nil), rfl⟩
        · rename_i hj
          rw [hj] at hf
          obtain ⟨z, hz, hv⟩ := Option.map_eq_some_iff.1 h
          subst hv
          obtain ⟨i, zv, hi, hzv, rfl⟩ := xoi hz
          have hru := VRep.ofConst E zv
          simp only [Option.bind_none] at hf
          refine ⟨if c = true then .tuple #[zv, .bool false] else zv, ?_, ?_⟩
          · simp [execOp, ho, hmv, hk, Instr.lookup, run_underlying hu, MapKept.run_getObj_map hb, hck, hf, zeroValue, typeInfo, hi, hzv]
          · cases c
            · exact hru
            · simp only [xch, if_true, VRep]
              exact ⟨[zv, .bool false], .cons hru (.cons (by simp only [VRep]) .nil), rfl⟩
      · cases h
    · cases h
  · cases h
theorem xts {α β : Type} (l : List α) (f : α → β) (g : α → α) (j : Nat) (x : β) (e : α) (he : l[j]? = some e) (hg : f (g e) = x) : (l.modify j g).map f = (l.map f).set j x := by
  apply List.ext_getElem?
  intro i
  simp only [List.getElem?_map, List.getElem?_modify, List.getElem?_set, List.length_map]
  by_cases h : j = i
  · subst h
    obtain ⟨hlt, he'⟩ := List.getElem?_eq_some_iff.1 he
    simp [hlt, he', hg]
  · simp [h]
theorem xtz {α β : Type} (l : List α) (f : α → β) (g : α → α) (j : Nat) (e : α) (he : l[j]? = some e) (hg : f (g e) = f e) : (l.modify j g).map f = l.map f := by
  rw [xts l f g j (f e) e he hg]
  apply List.ext_getElem?
  intro i
  simp only [List.getElem?_set, List.length_map]
  by_cases h : j = i
  · subst h
    obtain ⟨hlt, he'⟩ := List.getElem?_eq_some_iff.1 he
    simp [hlt, he']
  · simp [h]
theorem xaq {P : Program} {C : Ctx} {E : Env} {H V : Nat → Option AO} (hR : HR C E H) (hV : SubH V H) {o : Oper} {ρ : Operand → Value} {new T : Nat} {om ok ox : Operand} {m k x : AV} (ho : o.op = .mapUpdate T om ok ox)
    (hm : VRep E m (ρ om)) (hk : VRep E k (ρ ok)) (hx : VRep E x (ρ ox)) {us : Upds} (h : xfd P T V m k x = some us) : OpOut P o ρ C E H new (.val undef) us := by
  unfold xfd at h
  split at h
  · rename_i l kv
    split at h
    · rename_i d et ks vs hmo hl
      obtain ⟨kt, hu, hd⟩ := xlx hmo
      split at h
      · rename_i hc
        obtain ⟨b, c', es, clock, hp, hmv, hb, hks, hvs⟩ := xtx hR (hV _ _ hl) hm
        simp only [VRep] at hk
        have hall : ∀ x ∈ es.toList, isKeyB d x.key = true := fun x hx => List.all_eq_true.1 hc.2 _ (by rw [← hks]; exact List.mem_map.2 ⟨x, hx, rfl⟩)
        have hf := MapKept.run_findKey (P := P) (w := E.w) hd (xjp hc.1 es.toList 0 hall)
        rw [hks] at hf
        have hck := MapKept.run_checkKey (P := P) (w := E.w) hd (xph hc.1) false 9999
        have fin : ∀ (es' : Array MapEntry) (clock' : Nat) (ks' : List Value) (vs' : List AV), us = [(l, some (.map ks' vs'))] → (execOp ρ o).run P E.w = .ok .skip { E.w with heap := E.w.heap.setIfInBounds b (.map es' clock') } → es'.toList.map (·.key) = ks' → VReps E vs' (es'.toList.map (·.val)) → OpOut P o ρ C E H new (.val undef) us := by
          intro es' clock' ks' vs' e hrun hk' hv'
          subst e
          have hOnly : Only E.w { E.w with heap := E.w.heap.setIfInBounds b (.map es' clock') } b := Only.setObj _ _ _
          have hstab := Env.only_stab hR hp hOnly
          refine ⟨undef, { E with w := { E.w with heap := E.w.heap.setIfInBounds b (.map es' clock') } }, .inr ⟨hrun, rfl⟩, by simp only [VRep], hR.only hp hOnly _ ?_, hstab, fun l k => .inl k⟩
          simp only [ORep]
          exact ⟨es', clock', (MapKept.heap_set hb).1, hk', hv'.stab hstab⟩
        split at h
        · rename_i j hj
          rw [hj] at hf
          injection h with h
          have hjl : j < ks.length := (List.findIdx?_eq_some_iff_getElem.1 hj).1
          have hkj := (List.findIdx?_eq_some_iff_getElem.1 hj).2.1
          have hjl' : j < es.toList.length := by rw [← hks] at hjl; simpa using hjl
          have he : es.toList[j]? = some es.toList[j] := List.getElem?_eq_getElem hjl'
          have hkey : es.toList[j].key = kv := by
            have : ks[j] = es.toList[j].key := by subst hks; simp
            rw [this] at hkj
            exact ((xp3 hc.1 (hall _ (List.getElem_mem hjl'))).1 hkj).symm
          simp only [Option.bind_some, he, Option.map_some] at hf
          have hjs : j < es.size := by simpa using hjl'
          have hkey' : es[j].key = kv := by simpa using hkey
          refine fin (es.modify j fun e => { e with key := kv, val := ρ ox }) clock ks (vs.set j x) h.symm ?_ ?_ ?_
          · simp [execOp, ho, hmv, hk, Instr.mapUpdate, run_underlying hu, MapKept.run_getObj_map hb, hck, hf, hjs, hkey', MapKept.run_keyThatStays (xph hc.1), MapKept.run_setObj_map _ hb]
          · rw [Array.toList_modify, xtz (f := fun e : MapEntry => e.key) _ _ j _ he hkey.symm, hks]
          · rw [Array.toList_modify, xts (f := fun e : MapEntry => e.val) _ _ j (ρ ox) _ he rfl]
            exact hvs.set j hx
        · rename_i hj
          rw [hj] at hf
          injection h with h
          simp only [Option.bind_none] at hf
          refine fin (es.push { key := kv, val := ρ ox, born := clock }) (clock + 1) (ks ++ [kv]) (vs ++ [x]) h.symm ?_ ?_ ?_
          · simp [execOp, ho, hmv, hk, Instr.mapUpdate, run_underlying hu, MapKept.run_getObj_map hb, hck, hf, MapKept.run_setObj_map _ hb]
          · simp [hks]
          · simp only [Array.toList_push, List.map_append, List.map_cons, List.map_nil]
            exact hvs.append (.cons hx .nil)
      · cases h
    · cases h
  · cases h
end Go.Proofs.YtapdjibjnfeipaaGreatDoor.AL

