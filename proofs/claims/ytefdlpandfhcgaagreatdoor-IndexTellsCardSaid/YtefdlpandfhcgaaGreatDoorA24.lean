/- A law of the given program is proved: part 24 of 50. -/
import Derived.ProofKit
import Derived.OpenShut
import Derived.ShutString
import Derived.ChangeOld
import Derived.Deep.Slices
import Derived.Test.YtefdlpandfhcgaaGreatDoorA23
set_option linter.all false
/- From a contract on plain data to the given statement: what can be read as data is plain data. -/
set_option linter.all false
namespace Go.Proofs.YtefdlpandfhcgaaGreatDoor.AL
open Go.RowKit Go.ChangeShapes Go.WideShapes
abbrev Ew (w : World) : Env := Ec (fun b => b < w.heap.size) w
def Rd {L : Type} (P : Program) (T n : Nat) (f : L → List AV) (ok : L → Prop) : Prop :=
  ∀ (H : Type) (enc : TypeId × Value → H) (w : World) (base : Nat) (spare : Nat → Bool) (held : Bool) (fuel : Nat) (cs : List Value) (r : DataW H × List MemPlace), DataW.trod enc P w base spare held fuel T cs = some r →
    ∃ x : L, VReps (Ew w) (f x) cs ∧ (∀ v ∈ cs, v.oneCell' = true) ∧ cs.length = n ∧ ok x
theorem rd_int {P : Program} {T : Nat} {k : IntKind} (h : P.underlying T = some (.int k)) : Rd P T 1 (fun n : Int => [.val (.int k n)]) (fun n => k.min ≤ n ∧ n ≤ k.max) := by
  intro H enc w base spare held fuel cs r hr
  obtain ⟨n, rfl, rfl, hw⟩ := DataW.trod_int h hr
  refine ⟨n, .cons (by simp only [VRep]) .nil, by simp [Value.oneCell'], rfl, ?_⟩
  simpa [Lit.wf] using hw
theorem rd_u8 {P : Program} {T : Nat} (h : P.underlying T = some (.int .u8)) : Rd P T 1 (fun b : UInt8 => [u8 b]) (fun _ => True) := by
  intro H enc w base spare held fuel cs r hr
  obtain ⟨n, rfl, rfl, hw⟩ := DataW.trod_int h hr
  have hb : 0 ≤ n ∧ n < 256 := by
    simp [Lit.wf, IntKind.min, IntKind.max] at hw
    have h1 : IntKind.u8.signed = false := rfl
    have h2 : IntKind.u8.bits = 8 := rfl
    simp_all
    omega
  refine ⟨UInt8.ofNat n.toNat, .cons ?_ .nil, by simp [Value.oneCell'], rfl, trivial⟩
  have : ((UInt8.ofNat n.toNat).toNat : Int) = n := by simp; omega
  simp only [VRep, this]
theorem rd_str {P : Program} {T : Nat} (h : P.underlying T = some .string) : Rd P T 1 (fun s : ByteArray => [str s]) (fun s => s.size ≤ maxLen) := by
  intro H enc w base spare held fuel cs r hr
  obtain ⟨s, rfl, rfl, hs⟩ := DataW.trod_string h hr
  exact ⟨s, .cons (by simp only [VRep]) .nil, by simp [Value.oneCell'], rfl, hs⟩
def mkV (agg : Bool) (cs : List Value) : Value := if agg = true then .agg cs.toArray else cs.headD undef
theorem xxm {P : Program} {T e n : Nat} {L : Type} [Inhabited L] {f : L → List AV} {g : L → AV} {ok : L → Prop} {agg : Bool} (h : P.underlying T = some (.slice e)) (hc : P.cellsOf e = n) (hn : 0 < n) (he : Rd P e n f ok) (hg : ∀ x, if agg = true then g x = .agg (f x) else f x = [g x]) :
    Rd P T 1 (fun l : List L => [.sl n (l.map g)]) (fun l => l.length ≤ maxLen ∧ ∀ x ∈ l, ok x) := by
  intro H enc w base spare held fuel cs r hr
  rcases Deep.open_slice h hr with ⟨rfl, rfl⟩ | ⟨a, len, cap, m, nf, D, Pl, rfl, hb, hl, hm, hmm, rfl, hx⟩
  · refine ⟨[], .cons ?_ .nil, by simp [Value.oneCell'], rfl, by simp [maxLen], by simp⟩
    simp only [VRep]
    exact ⟨[], none, 0, .nil, rfl, Nat.le_refl _, .inl rfl⟩
  · have hlm : len ≤ m := by rw [hmm]; split <;> omega
    have key : ∀ i, i < len → ∃ (x : L) (cs' : List Value), w.cells? base (a.add (i * n)) n = some cs' ∧ VReps (Ew w) (f x) cs' ∧ (∀ v ∈ cs', v.oneCell' = true) ∧ cs'.length = n ∧ ok x := by
      intro i hi
      obtain ⟨cs', h1, h2⟩ := hx i (by omega)
      rw [hc] at h1
      obtain ⟨x, g1, g2, g3, g4⟩ := he H enc w base spare held nf cs' _ h2
      exact ⟨x, cs', h1, g1, g2, g3, g4⟩
    obtain ⟨X, hX⟩ := Deep.choose_lt (α := L × List Value) (p := fun i q => w.cells? base (a.add (i * n)) n = some q.2 ∧ VReps (Ew w) (f q.1) q.2 ∧ (∀ v ∈ q.2, v.oneCell' = true) ∧ q.2.length = n ∧ ok q.1) (n := len) (fun i hi => by
      obtain ⟨x, cs', h⟩ := key i hi
      exact ⟨(x, cs'), h⟩)
    let xs := (List.range len).map fun i => (X i).1
    let us := (List.range len).map fun i => mkV agg (X i).2
    have hcells : ∀ i, i < len → (mkV agg (X i).2).cells = (X i).2.toArray ∧ VRep (Ew w) (g (X i).1) (mkV agg (X i).2) := by
      intro i hi
      obtain ⟨h1, h2, h3, h4, h5⟩ := hX i hi
      have hgi := hg (X i).1
      cases agg with
      | true =>
        simp only [if_true] at hgi
        refine ⟨rfl, ?_⟩
        rw [hgi]
        simp only [VRep, mkV, if_true]
        exact ⟨_, h2, rfl⟩
      | false =>
        simp only [Bool.false_eq_true, if_false] at hgi
        rw [hgi] at h2
        simp only [VReps] at h2
        obtain ⟨u, us', g1, g2, g3⟩ := h2
        subst g2
        rw [g3] at h3 ⊢
        have ho : u.oneCell' = true := h3 u (by simp)
        refine ⟨?_, by simpa [mkV] using g1⟩
        simp only [mkV, Bool.false_eq_true, if_false, List.headD_cons]
        cases u <;> simp_all [Value.oneCell', Value.cells]
    refine ⟨xs, .cons ?_ .nil, by simp [Value.oneCell'], rfl, ?_, ?_⟩
    · simp only [VRep]
      refine ⟨us, some a, cap, ?_, by simp [xs], by simpa [xs] using hl, ?_⟩
      · refine VReps.of_forall _ _ (by simp [xs, us]) ?_
        intro i x u hxx huu
        by_cases hi : i < len
        · simp only [xs, List.getElem?_map, List.getElem?_range hi, Option.map_some, Option.some.injEq] at hxx
          simp only [us, List.getElem?_map, List.getElem?_range hi, Option.map_some, Option.some.injEq] at huu
          subst hxx; subst huu
          exact (hcells i hi).2
        · simp [xs, hi] at hxx
      · by_cases hz : len = 0
        · exact .inl (by simp [us, hz])
        · obtain ⟨b, off, spot⟩ := a
          have h0 := (hX 0 (by omega)).1
          obtain ⟨_, hl0, hc0⟩ := World.cells?_some h0
          have hcell0 := hc0 0 hn
          rw [List.getElem?_eq_getElem (by omega)] at hcell0
          have hspot : spot = none := by simpa [Addr.add] using World.cell?_spot hcell0
          subst hspot
          have hblk := World.cells?_block h0 hn
          refine .inr ⟨b, off, rfl, by rw [xuc] at hblk; exact hblk, ?_⟩
          intro i u hu
          by_cases hi : i < len
          · simp only [us, List.getElem?_map, List.getElem?_range hi, Option.map_some, Option.some.injEq] at hu
            subst hu
            obtain ⟨h1, h2, h3, h4, h5⟩ := hX i hi
            obtain ⟨_, hli, hci⟩ := World.cells?_some h1
            rw [(hcells i hi).1]
            refine ⟨by simpa using h4, by simpa using h3, fun j v hj => ?_⟩
            have hj' : (X i).2[j]? = some v := by simpa using hj
            have hjn : j < n := by rw [← h4]; exact (List.getElem?_eq_some_iff.1 hj').1
            have := hci j hjn
            rw [hj'] at this
            rw [xuc, xuc] at this
            exact this
          · simp [us, hi] at hu
    · have : xs.length = len := by simp [xs]
      omega
    · intro x hx'
      obtain ⟨i, hi, rfl⟩ := List.mem_map.1 hx'
      exact (hX i (by simpa using hi)).2.2.2.2
theorem x4b {P : Program} {T n ty off j : Nat} {L : Type} {f : L → List AV} {ok : L → Prop} (hf : xcb P T j = some (off, ty)) (hc : P.cellsOf ty = n) (he : Rd P ty n f ok)
    {H : Type} {enc : TypeId × Value → H} {w : World} {base : Nat} {spare : Nat → Bool} {held : Bool} {fuel : Nat} {cs : List Value} {r : DataW H × List MemPlace} (hr : DataW.trod enc P w base spare held fuel T cs = some r) :
    ∃ x : L, VReps (Ew w) (f x) ((cs.drop off).take n) ∧ (∀ v ∈ (cs.drop off).take n, v.oneCell' = true) ∧ ok x := by
  obtain ⟨fs, fd, h1, h2, rfl, rfl⟩ := xbi hf
  obtain ⟨xs, m, rfl, _, hlen, hxl, hall⟩ := DataW.trod_struct h1 hr
  have h3 := hall j fd h2
  have hj : j < xs.length := by rw [hxl]; exact (Array.getElem?_eq_some_iff.1 h2).1
  rw [List.getElem?_eq_getElem hj, hc] at h3
  obtain ⟨x, g1, g2, g3, g4⟩ := he H enc w base spare held m _ _ h3
  exact ⟨x, g1, g2, g4⟩
theorem x7i {P : Program} {T j off ty : Nat} (h : xcb P T j = some (off, ty)) {H : Type} {enc : TypeId × Value → H} {w : World} {base : Nat} {spare : Nat → Bool} {held : Bool} {fuel : Nat} {cs : List Value} {r : DataW H × List MemPlace} (hr : DataW.trod enc P w base spare held fuel T cs = some r) : cs.length = P.cellsOf T := by
  obtain ⟨fs, fd, h1, _⟩ := xbi h
  obtain ⟨xs, m, rfl, _, hlen, _⟩ := DataW.trod_struct h1 hr
  exact hlen
theorem xqb {E : Env} {a b : List AV} {cs : List Value} {off n : Nat} (h1 : VReps E a ((cs.drop off).take n)) (h2 : VReps E b (cs.drop (off + n))) : VReps E (a ++ b) (cs.drop off) := by
  have := h1.append h2
  rwa [← List.drop_drop, List.take_append_drop] at this
theorem xpb {E : Env} {cs : List Value} {off n : Nat} (h1 : ∀ v ∈ (cs.drop off).take n, v.oneCell' = true) (h2 : ∀ v ∈ cs.drop (off + n), v.oneCell' = true) : ∀ v ∈ cs.drop off, v.oneCell' = true := by
  intro v hv
  rw [← List.take_append_drop n (cs.drop off), List.drop_drop] at hv
  rcases List.mem_append.1 hv with h | h
  · exact h1 v h
  · exact h2 v h
theorem x1g {E : Env} {cs : List Value} {n : Nat} (h : cs.length = n) : VReps E [] (cs.drop n) := by rw [List.drop_of_length_le (by omega)]; exact .nil
theorem x2h {cs : List Value} {n : Nat} (h : cs.length = n) : ∀ v ∈ cs.drop n, v.oneCell' = true := by rw [List.drop_of_length_le (by omega)]; simp
theorem xn8 {P : Program} {T : Nat} {L : Type} {g : L → AV} {ok : L → Prop} (he : Rd P T 1 (fun x => [g x]) ok) {H : Type} {enc : TypeId × Value → H} {w : World} {held : Bool} {v : Value} {d : DataW H} {ps : List MemPlace} {spare : Nat → Bool} (hv : v.oneCell' = true) (h : DataW.Trod enc P w 0 spare held T v d ps) :
    ∃ x : L, VRep (Ew w) (g x) v ∧ ok x := by
  obtain ⟨fuel, hf⟩ := h
  obtain ⟨x, h1, _, _, h4⟩ := he H enc w 0 spare held fuel _ _ hf
  have : v.cells.toList = [v] := by cases v <;> simp_all [Value.oneCell', Value.cells]
  rw [this] at h1
  simp only [VReps] at h1
  obtain ⟨u, us, g1, g2, g3⟩ := h1
  injection g3 with g3 _
  exact ⟨x, g3 ▸ g1, h4⟩
theorem xbz {P : Program} {T n : Nat} {L : Type} {f : L → List AV} {g : L → AV} {ok : L → Prop} (he : Rd P T n f ok) (hg : ∀ x, g x = .agg (f x)) {H : Type} {enc : TypeId × Value → H} {w : World} {held : Bool} {cs : Array Value} {d : DataW H} {ps : List MemPlace} {spare : Nat → Bool} (h : DataW.Trod enc P w 0 spare held T (.agg cs) d ps) :
    ∃ x : L, VRep (Ew w) (g x) (.agg cs) ∧ ok x := by
  obtain ⟨fuel, hf⟩ := h
  obtain ⟨x, h1, _, _, h4⟩ := he H enc w 0 spare held fuel _ _ hf
  refine ⟨x, ?_, h4⟩
  rw [hg]
  simp only [VRep]
  exact ⟨_, h1, by simp [Value.cells]⟩
theorem xam {P : Program} {T j off ty : Nat} (h : xcb P T j = some (off, ty)) : ∃ fs, P.underlying T = some (.struct fs) := by
  obtain ⟨fs, fd, h1, _⟩ := xbi h
  exact ⟨fs, h1⟩
theorem x22 {P : Program} {f : FuncId} {as : List AV} {vals : List Value} {w : World} (hg : GW w) (h : Ok P f as (bool true)) (hv : VReps (Ew w) as vals) : Calls P f vals.toArray w fun e w' => e = .returned (.bool true) ∧ Below w.heap.size w w' := by
  refine (h.2 (fun b => b < w.heap.size) w vals ⟨fun b hb => hb, hg⟩ hv).mono ?_
  rintro e w' ⟨v, rfl, hb, hr⟩
  simp only [VRep] at hr
  exact ⟨by rw [hr], hb⟩
end Go.Proofs.YtefdlpandfhcgaaGreatDoor.AL

