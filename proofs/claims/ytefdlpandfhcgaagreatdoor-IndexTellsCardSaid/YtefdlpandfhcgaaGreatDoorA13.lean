/- A law of the given program is proved: part 13 of 50. -/
import Derived.Test.YtefdlpandfhcgaaGreatDoorA12
set_option linter.all false
/- AL, part 11: abstract states; one operation as a step (SemOp); a region in the order of its text (wps). -/
set_option linter.unusedSimpArgs false
namespace Go.Proofs.YtefdlpandfhcgaaGreatDoor.AL
open Go.RowKit
def xmd (P : Program) (T : TypeId) (l c : AV) (new : Nat) : Option (AV × Upds) :=
  match l, c with
  | .val (.int _ a), .val (.int _ b) => match xfb P T with
    | some e => match aggN P e, xaf P e, zeroOf P e with
      | some (_, n), some by_, some z =>
        if 0 ≤ a ∧ a ≤ b ∧ (by_ : Int) * b ≤ 281474976710656 ∧ b ≤ 9223372036854775807 ∧ xi z n = true then
          some (.msl new a.toNat, [(new, some (.row e n (List.replicate a.toNat z)))])
        else none
      | _, _, _ => none
    | none => none
  | _, _ => none
theorem xxn {P : Program} {C : Ctx} {E : Env} {H : Nat → Option AO} (hR : HR C E H) {o : Oper} {ρ : Operand → Value} {new T : Nat} {ol oc : Operand} {l c : AV} (hn : ¬ E.K new) (ho : o.op = .makeSlice T ol oc)
    (hl : VRep E l (ρ ol)) (hc : VRep E c (ρ oc)) {v : AV} {us : Upds} (h : xmd P T l c new = some (v, us)) : OpOut P o ρ C E H new v us := by
  unfold xmd at h
  split at h
  · rename_i kl a kc b
    split at h
    · rename_i e he
      have hu := xzc he
      split at h
      · rename_i g n by_ z hT hby hz
        split at h
        · rename_i hh
          obtain ⟨h0, h1, h2, h3, h4⟩ := hh
          injection h with h
          injection h with g1 g2
          subst g1; subst g2
          obtain ⟨i, zv, hi, hzv, rfl⟩ := xvf hz
          have hr := VRep.ofConst E zv
          obtain ⟨s1, s2, s3⟩ := hr.sized h4
          obtain ⟨_, _, i', hi', hisz⟩ := xlc hT E.w
          obtain rfl : i' = i := by rw [hi] at hi'; exact (Option.some.inj hi').symm
          have hiby : i'.bytes = by_ := by simpa [xaf, hi] using hby
          subst hisz; subst hiby
          simp only [VRep] at hl hc
          have hrun := run_make (P := P) E.w T e i' zv hu hi hzv kl kc a b h0 h1 h2 h3
          have hz0 : ∀ k, (List.replicate k zv.cells.toList).flatten = flatV (List.replicate k zv) := by
            intro k
            induction k with
            | zero => rfl
            | succ k ih => rw [List.replicate_succ, List.replicate_succ, List.flatten_cons, ih]; simp [flatV]
          have hrep : ∀ k, Sized i'.size (List.replicate k zv) := by
            intro k u hu
            obtain rfl := List.eq_of_mem_replicate hu
            exact ⟨s1, s2⟩
          have hcells : (madeCells zv.cells (b.toNat * i'.size)).toList = flatV (List.replicate b.toNat zv) := by
            unfold madeCells
            rw [← s1, xbs, hz0]
          refine OpOut.row hR hn (us := List.replicate a.toNat zv) (cur := madeCells zv.cells (b.toNat * i'.size)) (c := b.toNat) (u := .slice (some ⟨E.w.heap.size, 0, none⟩) a.toNat b.toNat) ?_ (VReps.replicate _ hr) (hrep _) (by simp; omega) (by simp only [maxLen]; omega) (size_madeCells _ _) ?_ (VRep.newMsl (by omega))
          · simp [execOp, ho, hl, hc, hrun]
          · rw [hcells, xgm (fun u hu => (hrep _ u hu).1)]
            simp only [List.length_replicate, List.take_replicate]
            congr 2
            omega
        · cases h
      · cases h
    · cases h
  · cases h
def xal (P : Program) (t : TypeId) (V : Nat → Option AO) (s : AV) : Option (AV × Upds) :=
  match xfb P t with
  | some e => match aggN P e, zeroOf P e with
    | some (_, m), some z => if xi z m = true then match s with
      | .mtl l sz k n => if n = 0 then some (.tup [], []) else match V l with
        | some (.row T sz' xs) => if sz = sz' ∧ sz = m ∧ k + n = xs.length then some (.tup [], [(l, some (.row T sz (xs.take k)))]) else none
        | _ => none
      | _ => none
      else none
    | _, _ => none
  | none => none
theorem xiv (z : Array Value) (n : Nat) : (Builtin.zeroCells z n).toList.length = n * z.size := by simp [Builtin.zeroCells]
theorem xsv {z : Array Value} (n : Nat) (hz : ∀ v ∈ z.toList, v.oneCell' = true) : ∀ v ∈ (Builtin.zeroCells z n).toList, v.oneCell' = true := by
  intro v hv
  simp only [Builtin.zeroCells, Array.toList_map, List.mem_map] at hv
  obtain ⟨i, hi, rfl⟩ := hv
  have hp : 0 < z.size := by
    rcases Nat.eq_zero_or_pos z.size with h | h
    · rw [h] at hi; simp at hi
    · exact h
  rw [getElem!_pos z (i % z.size) (Nat.mod_lt _ hp)]
  exact hz _ (by simp)
theorem xos {P : Program} {C : Ctx} {E : Env} {H V : Nat → Option AO} (hR : HR C E H) (hV : SubH V H) {o : Oper} {ρ : Operand → Value} {new t : Nat} {os : Operand} {s : AV} (ho : o.op = .call ⟨.builtin .clear, #[os], #[t]⟩)
    (hs : VRep E s (ρ os)) {v : AV} {us : Upds} (h : xal P t V s = some (v, us)) : OpOut P o ρ C E H new v us := by
  unfold xal at h
  split at h
  · rename_i e he
    have hu := xzc he
    split at h
    · rename_i g m z hT hz
      split at h
      · rename_i hm
        split at h
        · rename_i l sz k n
          simp only [VRep] at hs
          obtain ⟨A, c0, hk, hru, hn1, hn2⟩ := hs
          split at h
          · rename_i hn0
            subst hn0
            injection h with h
            injection h with h1 h2
            subst h1; subst h2
            refine ⟨.tuple #[], E, .inl ?_, by simp only [VRep, VReps]; exact ⟨[], rfl, rfl⟩, hR, Stab.refl E, fun l k => .inl k⟩
            cases A <;> simp [execOp, ho, resolve, invoke, builtin, hru, Builtin.clear_, run_underlying hu]
          · rename_i hn0
            obtain ⟨n', rfl⟩ : ∃ n', n = n' + 1 := ⟨n - 1, by omega⟩
            split at h
            · rename_i T sz' xs hl
              split at h
              · rename_i hc
                obtain ⟨c1, c2, c3⟩ := hc
                subst c1; subst c2
                injection h with h
                injection h with h1 h2
                subst h1; subst h2
                obtain ⟨b0, rfl, hb⟩ := hn2 (by omega)
                obtain ⟨p, hp, hob⟩ := hR.live (hV _ _ hl)
                cases p with
                | none => simp only [ORep] at hob; subst hob; simp at c3
                | some q =>
                  obtain ⟨b, c⟩ := q
                  obtain ⟨rfl, hcc⟩ := hb b c hp
                  simp only [ORep] at hob
                  obtain ⟨cur, vs, h1, h2, h3, h4, h5, h6, h7⟩ := hob
                  obtain ⟨i, zv, hi, hzv, rfl⟩ := xvf hz
                  have hr := VRep.ofConst E zv
                  obtain ⟨s1, s2, s3⟩ := hr.sized hm
                  have hzl : (Builtin.zeroCells zv.cells (n' + 1)).toList.length = (n' + 1) * sz := by rw [xiv, s1]
                  have hfit : k * sz + 0 + (Builtin.zeroCells zv.cells (n' + 1)).toList.length ≤ cur.size := by
                    rw [hzl, h6, Nat.add_zero, ← Nat.add_mul]
                    exact Nat.mul_le_mul_right _ (by omega)
                  have hst := run_storeCells_at P b0 (k * sz) T (Builtin.zeroCells zv.cells (n' + 1)).toList 0 cur E.w h1 hfit (xsv _ s2)
                  have hOnly : ∀ cs, Only E.w (E.w.setRow b0 cs) b0 := fun cs => Only.setRow _ _ _
                  generalize hcs : (cur.toList.take (k * sz + 0) ++ (Builtin.zeroCells zv.cells (n' + 1)).toList ++ cur.toList.drop (k * sz + 0 + (Builtin.zeroCells zv.cells (n' + 1)).toList.length)) = cs at hst
                  have hstab := Env.only_stab hR hp (hOnly cs.toArray)
                  refine ⟨.tuple #[], { E with w := E.w.setRow b0 cs.toArray }, .inl ?_, by simp only [VRep, VReps]; exact ⟨[], rfl, rfl⟩, hR.only hp (hOnly _) _ ?_, hstab, fun l k => .inl k⟩
                  · have hz0 : ∀ w, (zeroValue e).run P w = .ok zv w := fun w => by simp [zeroValue, typeInfo, hi, hzv]
                    generalize E.w.setRow b0 cs.toArray = W at hst
                    simp [execOp, ho, resolve, invoke, builtin, hru, Builtin.clear_, run_underlying hu, hz0, hst]
                  · simp only [ORep]
                    have hkl : k ≤ xs.length := by omega
                    have hkc : k * sz ≤ cur.toList.length := by
                      have : k * sz ≤ c * sz := Nat.mul_le_mul_right _ (by omega)
                      simp; omega
                    refine ⟨cs.toArray, vs.take k, ?_, (h2.take k).stab hstab, fun u hu => h3 u (List.mem_of_mem_take hu), by simp; omega, h5, ?_, ?_⟩
                    · exact setRow_heap E.w b0 cur _ T (0, 0) h1
                    · rw [← hcs]
                      simp only [List.size_toArray, List.length_append, List.length_take, List.length_drop, Nat.add_zero, hzl] at hfit ⊢
                      simp at hkc ⊢
                      omega
                    · have e1 : (xs.take k).length * sz = k * sz := by rw [List.length_take, Nat.min_eq_left hkl]
                      rw [e1]
                      show cs.take (k * sz) = _
                      rw [← hcs, Nat.add_zero, List.append_assoc, List.take_append_of_le_length (by simp; omega), List.take_take, Nat.min_self]
                      have e2 : cur.toList.take (k * sz) = (cur.toList.take (xs.length * sz)).take (k * sz) := by
                        rw [List.take_take, Nat.min_eq_left (Nat.mul_le_mul_right _ hkl)]
                      rw [e2, h7, xgm (fun u hu => (h3 u hu).1)]
              · cases h
            · cases h
        · cases h
      · cases h
    · cases h
  · cases h
def x6k (P : Program) (S D : TypeId) (V : Nat → Option AO) (l n : Nat) : Option AV := match V l with
  | some (.row _ s xs) => if s = 1 ∧ n = xs.length then x5h P S D xs else none
  | _ => none
theorem x6r {P : Program} {C : Ctx} {E : Env} {H V : Nat → Option AO} (hR : HR C E H) (hV : SubH V H) {S D : TypeId} {l n : Nat} {u : Value} {v : AV} (hu : VRep E (.msl l n) u) (h : x6k P S D V l n = some v) :
    ∃ z, (convert S D u).run P E.w = .ok z E.w ∧ VRep E v z := by
  unfold x6k at h
  split at h
  · rename_i T s xs hl
    split at h
    · rename_i e
      obtain ⟨rfl, rfl⟩ := e
      obtain ⟨txt, rfl⟩ : ∃ t, v = .val (.string t) := by
        unfold x5h at h
        split at h
        · split at h
          · obtain ⟨l, _, rfl⟩ := Option.map_eq_some_iff.1 h
            exact ⟨_, rfl⟩
          · cases h
        · cases h
      let E1 : Env := { E with Z := fun _ => True }
      have hst : Stab E E1 := ⟨fun _ h => h, fun _ _ _ h => h, fun _ _ => ⟨trivial, rfl⟩⟩
      obtain ⟨p, hp, ho⟩ := hR.live (hV _ _ hl)
      have hx : VRep E1 (.sl 1 xs) u := by
        simp only [VRep] at hu ⊢
        obtain ⟨A, c0, _, rfl, g1, g2, g3, g4⟩ := hu
        cases p with
        | none =>
          simp only [ORep] at ho
          subst ho
          exact ⟨[], A, c0, VReps.nil, rfl, Nat.zero_le _, .inl rfl⟩
        | some q =>
          obtain ⟨b, c⟩ := q
          obtain ⟨rfl, rfl⟩ := g3 b c hp
          simp only [ORep] at ho
          obtain ⟨cur, us, q1, q2, q3, q4, q5, q6, q7⟩ := ho
          refine ⟨us, _, c0, VReps.stab hst xs us q2, rfl, by omega, .inr ⟨b, 0, rfl, trivial, fun i u hi => ⟨(q3 u (List.mem_of_getElem? hi)).1, (q3 u (List.mem_of_getElem? hi)).2, ?_⟩⟩⟩
          intro j v hj
          show E.w.cell? _ = _
          rw [Nat.zero_add, cell_of_row E.w b _ cur T (0, 0) q1]
          have e := x7f (fun u hu => (q3 u hu).1) hi j v hj
          rw [← q7, List.getElem?_take] at e
          split at e
          · simpa using e
          · cases e
      obtain ⟨z, hz, hr⟩ := xdl (P := P) (E := E1) hx h
      exact ⟨z, hz, by simpa only [VRep] using hr⟩
    · cases h
  · cases h
def evalOp (P : Program) (op : Op) (V : Nat → Option AO) (new : Nat) (ρ : Operand → AV) : Option (AV × Upds) :=
  match op with
  | .alloc T => xcj P T new
  | .box T x => xdm P T (ρ x) new
  | .buildSlice T len parts => xif P T len (parts.toList.map fun p => (p.1, ρ p.2)) new
  | .makeSlice T l c => xmd P T (ρ l) (ρ c) new
  | .makeMap T none => xog P T new
  | .lookup T m k c => (xxd P T c V (ρ m) (ρ k)).map fun v => (v, [])
  | .mapUpdate T m k x => (xjd P T V (ρ m) (ρ k) (ρ x)).map fun us => (.val undef, us)
  | .mapEntry T m k => xkf P T V (ρ m) (ρ k)
  | .entryStore _ m s x => (xgh V (ρ m) (ρ s) (ρ x)).map fun us => (.val undef, us)
  | .load T a => (xpd P T V (ρ a)).map fun v => (v, [])
  | .store T a x => (x6b P T V (ρ a) (ρ x)).map fun us => (.val undef, us)
  | .convert S D x => match ρ x with
    | .msl l n => (x6k P S D V l n).map fun v => (v, [])
    | _ => (xpc P (.convert S D x) ρ).map fun v => (v, [])
  | .call c => match c.callee with
    | .builtin .append => match c.args.toList, c.argTypes.toList with
      | [s, x], [t, t'] => if t = t' then x0e P t V (ρ s) (ρ x) new else match kindOf P t' with
        | .str => x8e P t V (ρ s) (x7y (ρ x)) new
        | _ => none
      | _, _ => none
    | .builtin .clear => match c.args.toList, c.argTypes.toList with
      | [s], [t] => xal P t V (ρ s)
      | _, _ => none
    | .builtin .delete => match c.args.toList, c.argTypes.toList with
      | [m, k], [t, _] => xyj P t V (ρ m) (ρ k)
      | _, _ => none
    | _ => (xpc P (.call c) ρ).map fun v => (v, [])
  | op => (xpc P op ρ).map fun v => (v, [])
structure AS where
  T : Nat → AV
  H : Nat → Option AO
  nx : Nat
def SemOp (P : Program) (o : Oper) (H : Nat → Option AO) (nx new : Nat) (ρ : Operand → AV) (k : AV → (Nat → Option AO) → Nat → Prop) : Prop :=
  ∀ (C : Ctx) (E : Env) (a : Act), HR C E H → (∀ x ∈ o.op.operands.toList, VRep E (ρ x) (a.eval x)) → ¬ E.K new → (∀ l, E.K l → l < nx) → new < nx →
    ∀ (next : Act → World → Prop) (Q : Exit → Act → World → Prop),
      (∀ (v : AV) (u : Value) (H' : Nat → Option AO) (nx' : Nat) (E' : Env), k v H' nx' → VRep E' v u → HR C E' H' → Stab E E' → nx ≤ nx' → (∀ l, E'.K l → E.K l ∨ l = new ∨ (nx ≤ l ∧ l < nx')) → next (a.put o.dst u) E'.w) →
      o.wp P a E.w next Q
def OpS (P : Program) (o : Oper) (V : Nat → Option AO) (ρ : Operand → AV) (new : Nat) (v : AV) (us : Upds) : Prop :=
  ∀ (C : Ctx) (E : Env) (H : Nat → Option AO) (a : Act), HR C E H → SubH V H → (∀ x ∈ o.op.operands.toList, VRep E (ρ x) (a.eval x)) → ¬ E.K new →
    ∀ (next : Act → World → Prop) (Q : Exit → Act → World → Prop),
      (∀ (u : Value) (E' : Env), VRep E' v u → HR C E' (applyU H us) → Stab E E' → (∀ l, E'.K l → E.K l ∨ l = new) → next (a.put o.dst u) E'.w) →
      o.wp P a E.w next Q
theorem OpS.mono {P : Program} {o : Oper} {V V' : Nat → Option AO} {ρ : Operand → AV} {new : Nat} {v : AV} {us : Upds} (h : OpS P o V ρ new v us) (hV : SubH V V') : OpS P o V' ρ new v us :=
  fun C E H a hR hS => h C E H a hR fun l o e => hS l o (hV l o e)
theorem OpS.congr {P : Program} {o : Oper} {V : Nat → Option AO} {ρ ρ' : Operand → AV} {new : Nat} {v : AV} {us : Upds} (h : OpS P o V ρ new v us) (he : ∀ x ∈ o.op.operands.toList, ρ x = ρ' x) : OpS P o V ρ' new v us :=
  fun C E H a hR hS hρ => h C E H a hR hS fun x hx => by rw [he x hx]; exact hρ x hx
theorem OpS.sem {P : Program} {o : Oper} {H : Nat → Option AO} {nx new : Nat} {ρ : Operand → AV} {v : AV} {us : Upds} (h : OpS P o H ρ new v us) {k : AV → (Nat → Option AO) → Nat → Prop} (hk : k v (applyU H us) nx) : SemOp P o H nx new ρ k :=
  fun C E a hR hρ hn _ _ next Q hnext => h C E H a hR (fun _ _ e => e) hρ hn next Q fun u E' h1 h2 h3 h4 => hnext v u _ nx E' hk h1 h2 h3 (Nat.le_refl _) fun l kl => (h4 l kl).elim .inl fun e => .inr (.inl e)
theorem OpOut.wp {P : Program} {o : Oper} {a : Act} {C : Ctx} {E : Env} {H : Nat → Option AO} {new : Nat} {v : AV} {us : Upds} (h : OpOut P o a.eval C E H new v us)
    (next : Act → World → Prop) (Q : Exit → Act → World → Prop)
    (hnext : ∀ (u : Value) (E' : Env), VRep E' v u → HR C E' (applyU H us) → Stab E E' → (∀ l, E'.K l → E.K l ∨ l = new) → next (a.put o.dst u) E'.w) : o.wp P a E.w next Q := by
  obtain ⟨u, E', h1, h2, h3, h4, h5⟩ := h
  unfold Oper.wp
  rcases h1 with h1 | ⟨h1, rfl⟩
  · rw [h1]
    exact hnext u E' h2 h3 h4 h5
  · rw [h1]
    exact hnext undef E' h2 h3 h4 h5
theorem xci {P : Program} {o : Oper} {V : Nat → Option AO} {ρ : Operand → AV} {new : Nat} {v : AV} {us : Upds} (h : evalOp P o.op V new ρ = some (v, us)) : OpS P o V ρ new v us := by
  intro C E H a hR hV hρ hn next Q hnext
  refine OpOut.wp ?_ next Q hnext
  have free : ∀ op, o.op = op → ((xpc P op ρ).map fun v => (v, ([] : Upds))) = some (v, us) → OpOut P o a.eval C E H new v us := by
    intro op e h
    obtain ⟨v', h1, h2⟩ := Option.map_eq_some_iff.1 h
    injection h2 with h2 h3
    subst h2; subst h3
    exact OpOut.pure hR (x4t (o := o) (by rw [e]; exact h1) E a hρ)
  unfold evalOp at h
  split at h
  · rename_i T e
    exact x8r hR hn e h
  · rename_i T x e
    exact xcv hR hn e (hρ x (by simp [e, Op.operands])) h
  · rename_i T len parts e
    have hp := PReps.of (E := E) ρ a.eval parts.toList (fun p hp => hρ p.2 (by
      simp only [e, Op.operands]
      exact List.mem_map.2 ⟨p, hp, rfl⟩))
    exact xqm hR hn e (by simpa using hp) h
  · rename_i T l c e
    exact xxn hR hn e (hρ l (by simp [e, Op.operands])) (hρ c (by simp [e, Op.operands])) h
  · rename_i T e
    exact x7p hR hn e h
  · rename_i T m k c e
    obtain ⟨v', h1, h2⟩ := Option.map_eq_some_iff.1 h
    injection h2 with h2 h3
    subst h2; subst h3
    exact OpOut.pure hR (x3q hR hV e (hρ m (by simp [e, Op.operands])) (hρ k (by simp [e, Op.operands])) h1)
  · rename_i T m k x e
    obtain ⟨v', h1, h2⟩ := Option.map_eq_some_iff.1 h
    injection h2 with h2 h3
    subst h2; subst h3
    exact xqn hR hV e (hρ m (by simp [e, Op.operands])) (hρ k (by simp [e, Op.operands])) (hρ x (by simp [e, Op.operands])) h1
  · rename_i T m k e
    exact xpo hR hV e (hρ m (by simp [e, Op.operands])) (hρ k (by simp [e, Op.operands])) h
  · rename_i T m s x e
    obtain ⟨v', h1, h2⟩ := Option.map_eq_some_iff.1 h
    injection h2 with h2 h3
    subst h2; subst h3
    exact xzm hR hV e (hρ m (by simp [e, Op.operands])) (hρ s (by simp [e, Op.operands])) (hρ x (by simp [e, Op.operands])) h1
  · rename_i T x e
    obtain ⟨v', h1, h2⟩ := Option.map_eq_some_iff.1 h
    injection h2 with h2 h3
    subst h2; subst h3
    obtain ⟨z, hz, hr⟩ := x3i hR hV (hρ x (by simp [e, Op.operands])) h1
    exact OpOut.pure hR ⟨z, by simp [execOp, e, hz], hr⟩
  · rename_i T x y e
    obtain ⟨v', h1, h2⟩ := Option.map_eq_some_iff.1 h
    injection h2 with h2 h3
    subst h2; subst h3
    exact xxr hR hV e (hρ x (by simp [e, Op.operands])) (hρ y (by simp [e, Op.operands])) h1
  · rename_i S D x e
    split at h
    · rename_i l n hx
      obtain ⟨v', h1, h2⟩ := Option.map_eq_some_iff.1 h
      injection h2 with h2 h3
      subst h2; subst h3
      have hu := hρ x (by simp [e, Op.operands])
      rw [hx] at hu
      obtain ⟨z, hz, hr⟩ := x6r (P := P) hR hV hu h1
      exact OpOut.pure hR ⟨z, by simp [execOp, e, hz], hr⟩
    · exact free _ e h
  · rename_i c e
    split at h
    · rename_i hcal
      split at h
      · rename_i s x t t' ha hT
        split at h
        · rename_i htt
          subst htt
          obtain ⟨cal, args, tys⟩ := c
          obtain ⟨args⟩ := args
          obtain ⟨tys⟩ := tys
          simp only at ha hT hcal
          subst ha; subst hT; subst hcal
          exact xkr hR hV hn e (hρ s (by simp [e, Op.operands, Call.operands])) (hρ x (by simp [e, Op.operands, Call.operands])) h
        · split at h
          · rename_i hk
            obtain ⟨cal, args, tys⟩ := c
            obtain ⟨args⟩ := args
            obtain ⟨tys⟩ := tys
            simp only at ha hT hcal
            subst ha; subst hT; subst hcal
            exact xsj hR hV hn e (hρ s (by simp [e, Op.operands, Call.operands])) (fun _ _ _ _ hnews => x9u (xri hk) (hρ x (by simp [e, Op.operands, Call.operands])) hnews) h
          · cases h
      · cases h
    · rename_i hcal
      split at h
      · rename_i s t ha hT
        obtain ⟨cal, args, tys⟩ := c
        obtain ⟨args⟩ := args
        obtain ⟨tys⟩ := tys
        simp only at ha hT hcal
        subst ha; subst hT; subst hcal
        exact xos hR hV e (hρ s (by simp [e, Op.operands, Call.operands])) h
      · cases h
    · rename_i hcal
      split at h
      · rename_i m k t kT ha hT
        obtain ⟨cal, args, tys⟩ := c
        obtain ⟨args⟩ := args
        obtain ⟨tys⟩ := tys
        simp only at ha hT hcal
        subst ha; subst hT; subst hcal
        exact xzq hR hV e (hρ m (by simp [e, Op.operands, Call.operands])) (hρ k (by simp [e, Op.operands, Call.operands])) h
      · cases h
    · exact free _ e h
  · exact free _ rfl h
def putA (T : Nat → AV) (d : Option Tmp) (v : AV) : Nat → AV :=
  match d with
  | some d => upd T d v
  | none => T
def guardK (ops : Array Oper) (o : Oper) (T : Nat → AV) (yes no : Prop) : Prop :=
  match o.guard with
  | none => yes
  | some (j, want) =>
    match (ops[j]?).bind (·.dst) with
    | none => no
    | some d =>
      match T d with
      | .val (.bool b) => (b = want → yes) ∧ (¬ b = want → no)
      | .val _ => no
      | _ => False
def isCall (op : Op) : Bool :=
  match op with
  | .call c => match c.callee with
    | .builtin .append => false
    | .builtin .len => false
    | .builtin .clear => false
    | .builtin .delete => false
    | _ => true
  | .range .. => true
  | .next .. => true
  | .entry .. => true
  | .binOp _ _ _ (.const (.slice _ _ _)) _ => true
  | _ => false
def Got {α : Type} (x : Option α) (k : α → Prop) : Prop := ∃ a, x = some a ∧ k a
def wps (P : Program) (ops : Array Oper) (nx0 : Nat) : Nat → List Oper → AS → (AS → Prop) → Prop
  | _, [], s, K => K s
  | i, o :: rest, s, K => guardK ops o s.T
      (if isCall o.op = true then SemOp P o s.H s.nx (nx0 + i) (ev s.T) fun v H' nx' => wps P ops nx0 (i + 1) rest ⟨putA s.T o.dst v, H', nx'⟩ K
       else Got (evalOp P o.op s.H (nx0 + i) (ev s.T)) fun p => wps P ops nx0 (i + 1) rest ⟨putA s.T o.dst p.1, applyU s.H p.2, s.nx⟩ K)
      (wps P ops nx0 (i + 1) rest ⟨putA s.T o.dst (.val undef), s.H, s.nx⟩ K)
structure SR (C : Ctx) (E0 : Env) (k0 n : Nat) (s : AS) (a : Act) (E : Env) : Prop where
  heap : HR C E s.H
  stab : Stab E0 E
  bound : ∀ l, E.K l → l < s.nx
  fresh : ∀ l, E.K l → E0.K l ∨ k0 ≤ l
  size : a.tmps.size = n
  defers : a.defers = []
  tmps : ∀ t, VRep E (s.T t) (a.tmps.getD t undef)
def fits (n : Nat) (ops : Array Oper) : Bool := ops.toList.all fun o => match o.dst with | some d => decide (d < n) | none => true
theorem x9g {E : Env} {T : Nat → AV} {a : Act} {n : Nat} (ht : ∀ t, VRep E (T t) (a.tmps.getD t undef)) (hn : a.tmps.size = n) {d : Option Tmp} (hd : ∀ x, d = some x → x < n) {v : AV} {u : Value} (hv : VRep E v u) :
    ∀ t, VRep E (putA T d v t) ((a.put d u).tmps.getD t undef) := by
  intro t
  cases d with
  | none => exact ht t
  | some d =>
    have hlt := hd d rfl
    simp only [putA, Act.put, upd_at]
    by_cases e : t = d
    · subst e
      rw [if_pos rfl]
      simp [hn, hlt]
      exact hv
    · rw [if_neg e]
      have := ht t
      simpa [Array.getElem?_setIfInBounds_ne (Ne.symm e)] using this
theorem x4g {a : Act} {d : Option Tmp} {u : Value} : (a.put d u).tmps.size = a.tmps.size := by cases d <;> simp [Act.put]
theorem xfc {a : Act} {d : Option Tmp} {u : Value} : (a.put d u).defers = a.defers := by cases d <;> rfl
theorem ev_rep {E : Env} {T : Nat → AV} {a : Act} (ht : ∀ t, VRep E (T t) (a.tmps.getD t undef)) (x : Operand) : VRep E (ev T x) (a.eval x) := by
  cases x with
  | tmp t => exact ht t
  | const v => exact VRep.ofConst E v
  | global g => simp only [ev, VRep]; rfl
  | func f => exact VRep.fn_mk (va := #[]) (vb := #[]) .nil .nil
theorem xfj (E : Env) : VRep E (.val undef) undef := by simp only [VRep]
theorem xop {E : Env} {T : Nat → AV} {a : Act} (ht : ∀ t, VRep E (T t) (a.tmps.getD t undef)) {n : Nat} (hn : a.tmps.size = n) {ops : Array Oper} (hfit : fits n ops = true) {o : Oper} {yes no : Prop} (h : guardK ops o T yes no) :
    (Region.wanted o (yielded ops a.tmps) = true ∧ yes) ∨ (Region.wanted o (yielded ops a.tmps) = false ∧ no) := by
  unfold guardK at h
  unfold Region.wanted
  split at h
  · rename_i hg
    rw [hg]
    exact .inl ⟨rfl, h⟩
  · rename_i j want hg
    rw [hg]
    split at h
    · rename_i hd
      refine .inr ⟨?_, h⟩
      simp [yielded, hd]
    · rename_i d hd
      have hdn : d < a.tmps.size := by
        rw [hn]
        cases ho : ops[j]? with
        | none => simp [ho] at hd
        | some o' =>
          simp [ho] at hd
          have hm : o' ∈ ops.toList := by
            obtain ⟨hlt, e⟩ := Array.getElem?_eq_some_iff.1 ho
            rw [← e]; simp
          have := List.all_eq_true.1 hfit o' hm
          simpa [hd] using this
      have hv := ht d
      have hget : a.tmps[d]? = some (a.tmps.getD d undef) := by simp [hdn]
      split at h
      · rename_i b hb
        rw [hb] at hv
        simp only [VRep] at hv
        have hy : yielded ops a.tmps j = some b := by simp only [yielded, hd, Option.bind_some, hget, hv]
        by_cases e : b = want
        · exact .inl ⟨by simp [hy, e], h.1 e⟩
        · exact .inr ⟨by simp [hy]; exact e, h.2 e⟩
      · rename_i v hnb hb
        rw [hb] at hv
        simp only [VRep] at hv
        have hy : yielded ops a.tmps j = none := by
          simp only [yielded, hd, Option.bind_some, hget, hv]
          cases v <;> first
            | rfl
            | exact absurd rfl (hnb _)
        exact .inr ⟨by simp [hy], h⟩
      · exact h.elim
theorem xkl {P : Program} {C : Ctx} {E0 : Env} {k0 n : Nat} {ops : Array Oper} (hfit : fits n ops = true) {nx0 : Nat} (hk0 : k0 ≤ nx0) {Q : Exit → Act → World → Prop} {K : AS → Prop}
    (hK : ∀ s a E, K s → k0 ≤ s.nx → SR C E0 k0 n s a E → Q .normal a E.w) :
    ∀ (rest : List Oper) (i : Nat) (s : AS) (a : Act) (E : Env), (∀ o ∈ rest, o ∈ ops.toList) → SR C E0 k0 n s a E → (∀ j, i ≤ j → j < i + rest.length → ¬ E.K (nx0 + j)) → nx0 + i + rest.length ≤ s.nx →
      wps P ops nx0 i rest s K → wpList P ops Q rest a E.w
  | [], i, s, a, E, _, hS, _, hle, h => hK s a E h (by simp at hle; omega) hS
  | o :: rest, i, s, a, E, hmem, hS, hfresh, hle, h => by
    have hd : ∀ x, o.dst = some x → x < n := by
      intro x hx
      have := List.all_eq_true.1 hfit o (hmem o (by simp))
      simpa [hx] using this
    simp only [wps] at h
    have hnew : ¬ E.K (nx0 + i) := hfresh i (Nat.le_refl _) (by simp)
    simp only [List.length_cons] at hle hfresh
    unfold wpList
    rcases xop hS.tmps hS.size hfit h with ⟨hw, h⟩ | ⟨hw, h⟩
    · rw [if_pos hw]
      refine .inl ?_
      have hops : ∀ x ∈ o.op.operands.toList, VRep E (ev s.T x) (a.eval x) := fun x _ => ev_rep hS.tmps x
      have go : ∀ (v : AV) (u : Value) (H' : Nat → Option AO) (nx' : Nat) (E' : Env), wps P ops nx0 (i + 1) rest ⟨putA s.T o.dst v, H', nx'⟩ K → VRep E' v u → HR C E' H' → Stab E E' → s.nx ≤ nx' →
          (∀ l, E'.K l → E.K l ∨ l = nx0 + i ∨ (s.nx ≤ l ∧ l < nx')) → wpList P ops Q rest (a.put o.dst u) E'.w := by
        intro v u H' nx' E' hk hv hR hs hnx hKn
        refine xkl hfit hk0 hK rest (i + 1) _ _ E' (fun o' ho' => hmem o' (by simp [ho'])) ⟨hR, hS.stab.trans hs, ?_, ?_, x4g.trans hS.size, xfc.trans hS.defers, x9g (fun t => (hS.tmps t).stab hs) hS.size hd hv⟩ ?_ ?_ hk
        · intro l kl
          rcases hKn l kl with k1 | k1 | k1
          · have := hS.bound l k1
            show l < nx'
            omega
          · show l < nx'
            omega
          · exact k1.2
        · intro l kl
          rcases hKn l kl with k1 | k1 | k1
          · exact hS.fresh l k1
          · exact .inr (by omega)
          · exact .inr (by omega)
        · intro j h1 h2 kj
          rcases hKn _ kj with k1 | k1 | k1
          · exact hfresh j (by omega) (by omega) k1
          · omega
          · omega
        · show nx0 + (i + 1) + rest.length ≤ nx'
          omega
      by_cases hc : isCall o.op = true
      · rw [if_pos hc] at h
        exact h C E a hS.heap hops hnew hS.bound (by omega) _ _ fun v u H' nx' E' hk h1 h2 h3 h4 h5 => go v u H' nx' E' hk h1 h2 h3 h4 h5
      · rw [if_neg hc] at h
        obtain ⟨⟨v, us⟩, h1, h2⟩ := h
        exact xci h1 C E s.H a hS.heap (fun _ _ e => e) hops hnew _ _ fun u E' k1 k2 k3 k4 => go v u _ s.nx E' h2 k1 k2 k3 (Nat.le_refl _) fun l kl => (k4 l kl).elim .inl fun e => .inr (.inl e)
    · rw [if_neg (by simp [hw])]
      refine xkl hfit hk0 hK rest (i + 1) ⟨putA s.T o.dst (.val undef), s.H, s.nx⟩ _ E (fun o' ho' => hmem o' (by simp [ho'])) ⟨hS.heap, hS.stab, hS.bound, hS.fresh, x4g.trans hS.size, xfc.trans hS.defers, x9g hS.tmps hS.size hd (xfj E)⟩ (fun j h1 h2 => hfresh j (by omega) (by omega)) (by show nx0 + (i + 1) + rest.length ≤ s.nx; omega) h
end Go.Proofs.YtefdlpandfhcgaaGreatDoor.AL

