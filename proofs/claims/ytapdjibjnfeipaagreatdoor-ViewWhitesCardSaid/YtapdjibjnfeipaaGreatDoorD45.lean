/- A law of the given program is proved: part 45 of 51. -/
import Derived.Test.YtapdjibjnfeipaaGreatDoorD44
set_option linter.all false
/- Models of functions, and that the functions are as their models: written by gen.py. -/
set_option linter.all false
set_option maxRecDepth 100000
namespace Go.Proofs.YtapdjibjnfeipaaGreatDoor.AL
open Go Go.Proofs
end Go.Proofs.YtapdjibjnfeipaaGreatDoor.AL

/- Plain laws, part 0: nodes. -/
set_option linter.all false
namespace Go.Proofs.YtapdjibjnfeipaaGreatDoor.AL
open Go Go.Proofs
def xxd : Node := ⟨0, 0, 0, 0, [], [], ⟨0, 0, xl, ⟨0, 0, 0⟩, 0⟩⟩
def nodeP (b : Branch) (ino : Int) : Node := if ino < 1 then xxd else if (b.nodes.length : Int) < ino then xxd else (b.nodes[(ino - 1).toNat]?).getD xxd
structure PB (b : Branch) : Prop where
  len : b.nodes.length ≤ 24
  ents : ∀ x ∈ b.nodes, x.entries.length ≤ 16
theorem x6o {b : Branch} {ino : Int} (h : (nodeP b ino).kind = 1) : 1 ≤ ino ∧ ino ≤ (b.nodes.length : Int) := by
  unfold nodeP at h
  split at h
  · simp [xxd] at h
  · split at h
    · simp [xxd] at h
    · omega
end Go.Proofs.YtapdjibjnfeipaaGreatDoor.AL

/- Plain laws of chapter 17: nodes, roots, parts, entries, steps. -/
set_option linter.all false
namespace Go.Proofs.YtapdjibjnfeipaaGreatDoor.AL
open Go Go.Proofs
structure NV (x : Node) : Prop where
  ents : x.entries.length ≤ 32
  has0 : 0 ≤ x.attr.has
  has1 : x.attr.has ≤ 31
structure PU (b : Branch) : Prop where
  len : b.nodes.length ≤ 30
  nodes : ∀ x ∈ b.nodes, NV x
structure SV (s : Stack) : Prop where
  up : PU s.upper
  low : PQ s.lowers
theorem NB.nv {x : Node} (h : NB x) : NV x := ⟨Nat.le_trans h.ents (by omega), h.has0, h.has1⟩
theorem SB.sv {s : Stack} (h : SB s) : SV s := ⟨⟨Nat.le_trans h.up.1 (by omega), fun x hx => (h.up.2 x hx).nv⟩, h.pq⟩
theorem xrv (s : Stack) : (⟨(⟨s.geo.lowers, s.geo.inodes, s.geo.blocks, s.geo.log⟩ : Geo), (⟨s.upper.nodes⟩ : Branch), s.lowers⟩ : Stack) = s := rfl
theorem xwm {s : Stack} (h : SV s) (ino : Int) : xpb s ino = some (nodeP s.upper ino) := by
  unfold xpb nodeP
  split
  · rfl
  · split
    · rfl
    · rename_i h1 h2
      have := h.up.len
      rw [wr_in (by omega) (by omega), ix_of (by omega) (by omega)]
      have hlt : (ino - 1).toNat < s.upper.nodes.length := by omega
      simp only [Option.bind_some, List.getElem?_eq_getElem hlt, Option.getD_some]
theorem xa0 : NV xxd := ⟨by simp [xxd], by simp [xxd], by simp [xxd]⟩
theorem x9m {b : Branch} (h : PU b) (ino : Int) : NV (nodeP b ino) := by
  unfold nodeP
  split
  · exact xa0
  · split
    · exact xa0
    · rename_i h1 h2
      have hlt : (ino - 1).toNat < b.nodes.length := by omega
      simp only [List.getElem?_eq_getElem hlt, Option.getD_some]
      exact h.nodes _ (List.getElem_mem hlt)
theorem xu0 {b : Branch} {ino : Int} (h : ¬ (nodeP b ino).kind = 0) : 1 ≤ ino ∧ ino ≤ (b.nodes.length : Int) := by
  unfold nodeP at h
  split at h
  · exact absurd rfl h
  · split at h
    · exact absurd rfl h
    · omega
def opqV (n : Node) : Bool := decide (n.kind = 1) && opqQ n
theorem xy7 {n : Node} (h : NV n) : xzc n = some (opqQ n) := by
  have := x7o (n := { n with entries := [] }) ⟨by simp, h.has0, h.has1⟩
  exact this
theorem xmu {n : Node} (h : NV n) : xyd n = some (opqV n) := by
  have e : xyd n = if n.kind = 1 then xzc n else some false := rfl
  rw [e, xy7 h]
  unfold opqV
  by_cases hk : n.kind = 1 <;> simp [hk]
def rootV (s : Stack) : View := ⟨if (nodeP s.upper 1).kind = 1 then 1 else 0, if opqV (nodeP s.upper 1) = true then [] else rootsQ s.lowers⟩
theorem x9x {s : Stack} (h : SV s) : x6c s = some (rootV s) := by
  unfold x6c rootV
  rw [xrv, xwm h]
  simp only [Option.bind_some]
  rw [xmu (x9m h.up 1), xzy h.low]
  simp only [Option.bind_some]
  by_cases hk : (nodeP s.upper 1).kind = 1
  · rw [if_pos hk, if_pos hk]
    cases opqV (nodeP s.upper 1) <;> rfl
  · rw [if_neg hk, if_neg hk]
    cases opqV (nodeP s.upper 1) <;> rfl
theorem xfw {s : Stack} (h : SV s) : (rootV s).lower.length ≤ 3 := by
  show (if opqV (nodeP s.upper 1) = true then [] else rootsQ s.lowers).length ≤ 3
  split
  · simp
  · exact xep h.low
theorem bits2 (k : Fin 32) : bAnd .i64 (k.val : Int) 2 = 0 ↔ ¬ (wr ((k.val : Int).tdiv 2)).tmod 2 = 1 := by
  revert k
  decide +kernel
def redB (n : Node) : Bool := decide ((wr (n.attr.has.tdiv 2)).tmod 2 = 1)
theorem x1z {n : Node} (h : NV n) : bAnd .i64 n.attr.has 2 = 0 ↔ ¬ redB n = true := by
  have e : ((n.attr.has.toNat : Nat) : Int) = n.attr.has := by have := h.has0; omega
  have hb := bits2 ⟨n.attr.has.toNat, by have := h.has0; have := h.has1; omega⟩
  simp only [e] at hb
  rw [hb]
  simp [redB]
theorem xb4 (s : ByteArray) : xad s = some (redirP s) := by
  by_cases h : s.size ≤ 2000000
  · exact xiw h
  · unfold xad redirP
    rw [if_pos (by omega), if_pos (by omega)]
theorem xs0 (s : ByteArray) : (redirP s).1.length ≤ 1000 := by
  unfold redirP
  split
  · simp
  · split
    · rename_i h1 h2
      unfold splitP
      split
      · simp
      · split
        · have := xfu s; simp only; omega
        · simp
    · split <;> simp
theorem xf1 {s : ByteArray} (h : (redirP s).2.2 = true) (h2 : ¬ (redirP s).2.1 = true) : ∃ x, (redirP s).1 = [x] := by
  unfold redirP at h h2 ⊢
  split
  · rename_i h1; rw [if_pos h1] at h; cases h
  · rename_i h1
    rw [if_neg h1] at h h2
    split
    · rename_i h3; rw [if_pos h3] at h h2; exact absurd h h2
    · rename_i h3
      rw [if_neg h3] at h
      split
      · exact ⟨_, rfl⟩
      · rename_i h4; rw [if_neg h4] at h; cases h
def dirsV (s : Stack) (l : List Place) (nm : ByteArray) : List Place := if (findQ s.lowers l nm).1 = 1 then (findQ s.lowers l nm).2 else []
def partV (s : Stack) (v : View) (n : Node) (nm : ByteArray) : List Place :=
  if n.kind = 1 then if opqQ n = true then [] else if redB n = true then
    if (redirP n.attr.redirect).2.2 = true then if (redirP n.attr.redirect).2.1 = true then (lookQ s.lowers (rootsQ s.lowers) (redirP n.attr.redirect).1).1 else dirsV s v.lower ((redirP n.attr.redirect).1.headD xl) else []
    else dirsV s v.lower nm else []
theorem xd0 {s : Stack} (h : SV s) {l : List Place} (hl : l.length ≤ 1000) (nm : ByteArray) : xpc s l nm = some (dirsV s l nm) := by
  unfold xpc dirsV
  rw [x4r h.low hl]
  simp only [Option.bind_some]
  split <;> rfl
theorem xi6 {s : Stack} (h : SV s) {v : View} (hv : v.lower.length ≤ 1000) {n : Node} (hn : NV n) (nm : ByteArray) : xed s v n nm = some (partV s v n nm) := by
  unfold xed partV
  by_cases hk : n.kind = 1
  · rw [if_pos hk, if_pos hk, xmu hn]
    have eo : opqV n = opqQ n := by simp [opqV, hk]
    rw [eo]
    simp only [Option.bind_some]
    by_cases ho : opqQ n = true
    · rw [if_pos ho, if_pos ho]
    · rw [if_neg ho, if_neg ho, if_neg (by have := hn.has0; omega), xd0 h hv]
      simp only [Option.bind_some]
      by_cases hr : redB n = true
      · rw [if_neg (fun e => (x1z hn).1 e hr), if_pos hr, xb4]
        simp only [Option.bind_some]
        by_cases hok : (redirP n.attr.redirect).2.2 = true
        · rw [if_neg (by simp [hok]), if_pos hok]
          by_cases ha : (redirP n.attr.redirect).2.1 = true
          · have hrl := xep h.low
            rw [if_pos ha, if_pos ha, xzy h.low]
            simp only [Option.bind_some]
            rw [xp7 h.low (by omega) (xs0 _)]
            rfl
          · rw [if_neg ha, if_neg ha]
            obtain ⟨x, hx⟩ := xf1 hok ha
            rw [hx]
            have : ix [x] 0 = some x := rfl
            rw [this]
            simp only [Option.bind_some, List.headD_cons]
            rw [xd0 h hv]
            rfl
        · rw [if_pos (by simpa using hok), if_neg hok]
      · rw [if_pos ((x1z hn).2 hr), if_neg hr]
  · rw [if_neg hk, if_neg hk]
theorem xzv (s : Stack) (l : List Place) (nm : ByteArray) : (dirsV s l nm).length ≤ l.length := by
  unfold dirsV
  split
  · exact xmr _ _ _
  · simp
theorem xc2 {s : Stack} (h : SV s) {v : View} {m : Nat} (hv : v.lower.length ≤ m) (hm : 3 ≤ m) (n : Node) (nm : ByteArray) : (partV s v n nm).length ≤ m := by
  unfold partV
  split
  · split
    · simp
    · split
      · split
        · split
          · have h1 := x5v (bs := s.lowers) (redirP n.attr.redirect).1 (rootsQ s.lowers)
            have h2 := xep h.low
            omega
          · exact Nat.le_trans (xzv _ _ _) hv
        · simp
      · exact Nat.le_trans (xzv _ _ _) hv
  · simp
theorem xe3 {s : Stack} {v : View} {n : Node} {nm : ByteArray} (h : opqV n = true) : partV s v n nm = [] := by
  unfold opqV at h
  simp only [Bool.and_eq_true, decide_eq_true_eq] at h
  unfold partV
  rw [if_pos h.1, if_pos h.2]
def entF (s : Stack) (nm : ByteArray) (e : Entry) : Bool := decide (e.name = nm) && !decide ((nodeP s.upper e.ino).kind = 0)
def entV (s : Stack) (v : View) (nm : ByteArray) : Option Entry := if (nodeP s.upper v.upper).kind = 1 then (nodeP s.upper v.upper).entries.find? (entF s nm) else none
theorem xt7 {s : Stack} (h : SV s) (nm : ByteArray) (e : Entry) : xlc e nm s = some (entF s nm e) := by
  unfold xlc entF
  by_cases hn : e.name = nm
  · rw [if_pos hn, xwm h]
    simp only [Option.bind_some]
    by_cases hk : (nodeP s.upper e.ino).kind = 0 <;> simp [hk, hn]
  · rw [if_neg hn]; simp [hn]
theorem xxy {α : Type} {p : α → Option Bool} (f : α → Bool) : ∀ (l : List α) (i : Nat), (∀ x ∈ l, p x = some (f x)) → (l.find? f = none ∧ idxM p l i = some (-1)) ∨ ∃ (k : Nat) (hk : k < l.length), l.find? f = some l[k] ∧ idxM p l i = some (((i + k : Nat)) : Int)
  | [], i, _ => .inl ⟨rfl, rfl⟩
  | x :: l, i, h => by
    unfold idxM
    rw [h x (by simp), List.find?_cons]
    simp only [Option.bind_some]
    cases hf : f x with
    | true => exact .inr ⟨0, by simp, rfl, by simp⟩
    | false =>
      simp only [Bool.false_eq_true, if_false]
      rcases xxy f l (i + 1) (fun y hy => h y (by simp [hy])) with ⟨h1, h2⟩ | ⟨k, hk, h1, h2⟩
      · exact .inl ⟨h1, h2⟩
      · exact .inr ⟨k + 1, by simp; omega, by simpa using h1, by rw [h2]; congr 2; omega⟩
theorem xt1 {s : Stack} (h : SV s) (v : View) (nm : ByteArray) : xod s v nm = some (match entV s v nm with | some e => e.ino | none => 0) := by
  unfold xod entV
  rw [xwm h]
  simp only [Option.bind_some]
  have hn := (x9m h.up v.upper).ents
  by_cases hk : (nodeP s.upper v.upper).kind = 1
  · rw [if_pos hk, if_pos hk]
    unfold indexM ck
    rw [if_pos (by omega)]
    simp only [Option.bind_some]
    rcases xxy (entF s nm) (nodeP s.upper v.upper).entries 0 (fun x _ => xt7 h nm x) with ⟨h1, h2⟩ | ⟨k, hk, h1, h2⟩
    · rw [h1, h2]
      simp
    · rw [h1, h2]
      simp only [Option.bind_some, Nat.zero_add]
      rw [if_neg (by omega), ix_at hk]
      rfl
  · rw [if_neg hk, if_neg hk]
theorem xjq {s : Stack} {v : View} {nm : ByteArray} {e : Entry} (h : entV s v nm = some e) : ¬ (nodeP s.upper e.ino).kind = 0 ∧ (nodeP s.upper v.upper).kind = 1 ∧ e ∈ (nodeP s.upper v.upper).entries ∧ e.name = nm := by
  unfold entV at h
  split at h
  · rename_i hk
    have h1 := List.find?_some h
    have h2 := List.mem_of_find?_eq_some h
    unfold entF at h1
    simp only [Bool.and_eq_true, decide_eq_true_eq, Bool.not_eq_true', decide_eq_false_iff_not] at h1
    exact ⟨h1.2, hk, h2, h1.1⟩
  · cases h
def lowV (r : Int × List Place) : Int × View × Place := if r.1 = 0 then (0, ⟨0, []⟩, ⟨0, 0⟩) else if r.1 = 1 then (r.1, ⟨0, r.2⟩, r.2.headD ⟨0, 0⟩) else (r.1, ⟨0, []⟩, r.2.headD ⟨0, 0⟩)
def upV (s : Stack) (v : View) (nm : ByteArray) (e : Entry) : Int × View × Place :=
  if (nodeP s.upper e.ino).kind = 1 then (1, ⟨e.ino, partV s v (nodeP s.upper e.ino) nm⟩, ⟨0, e.ino⟩)
  else if (nodeP s.upper e.ino).kind = 2 then ((nodeP s.upper e.ino).kind, ⟨0, []⟩, ⟨0, e.ino⟩)
  else if (nodeP s.upper e.ino).kind = 3 then ((nodeP s.upper e.ino).kind, ⟨0, []⟩, ⟨0, e.ino⟩) else (0, ⟨0, []⟩, ⟨0, 0⟩)
def stpV (s : Stack) (v : View) (nm : ByteArray) : Int × View × Place := match entV s v nm with
  | some e => upV s v nm e
  | none => lowV (findQ s.lowers v.lower nm)
theorem low_eq {bs : List Branch} {l : List Place} {nm : ByteArray} : (if (findQ bs l nm).1 = 0 then some (0, (⟨0, []⟩ : View), (⟨0, 0⟩ : Place)) else if (findQ bs l nm).1 = 1 then (ix (findQ bs l nm).2 0).bind fun p => some ((findQ bs l nm).1, (⟨0, (findQ bs l nm).2⟩ : View), p) else (ix (findQ bs l nm).2 0).bind fun p => some ((findQ bs l nm).1, (⟨0, []⟩ : View), p)) = some (lowV (findQ bs l nm)) := by
  have hq := xnt bs l nm
  generalize findQ bs l nm = r at hq
  unfold lowV
  by_cases h0 : r.1 = 0
  · rw [if_pos h0, if_pos h0]
  · rw [if_neg h0, if_neg h0]
    have hs := hq.some.resolve_left h0
    obtain ⟨k, l⟩ := r
    cases l with
    | nil => simp at hs
    | cons p l =>
      have : ix (p :: l) 0 = some p := rfl
      simp only [this, Option.bind_some, List.headD_cons]
      split <;> rfl
theorem xvr {s : Stack} (h : SV s) {v : View} (hv : v.lower.length ≤ 1000) (nm : ByteArray) : x5c s v nm = some (stpV s v nm) := by
  unfold x5c stpV
  rw [xrv, xt1 h]
  simp only [Option.bind_some]
  cases he : entV s v nm with
  | none =>
    simp only
    rw [if_neg (by omega), x4r h.low hv]
    exact low_eq
  | some e =>
    obtain ⟨h1, h2, h3, h4⟩ := xjq he
    have := xu0 h1
    simp only
    rw [if_pos (by omega), xwm h]
    simp only [Option.bind_some]
    rw [xi6 h hv (x9m h.up e.ino)]
    simp only [Option.bind_some]
    unfold upV
    split
    · rfl
    · split
      · rfl
      · split <;> rfl
end Go.Proofs.YtapdjibjnfeipaaGreatDoor.AL

/- Plain laws of chapter 17: names, views compared. -/
set_option linter.all false
namespace Go.Proofs.YtapdjibjnfeipaaGreatDoor.AL
open Go Go.Proofs
theorem x82 {α β : Type} {B : (List β × Int) → Option (St (List β × Int) (List β))} (xs : List α) (f : α → List β) (k m : Nat) (hf : ∀ x ∈ xs, (f x).length ≤ k)
    (hB : ∀ (i : Nat) (d : List β) (h : i < xs.length), d.length ≤ m → B (d, (i : Int)) = some (.nx (d ++ f xs[i], ((i + 1 : Nat) : Int)))) (hE : ∀ d : List β, B (d, (xs.length : Int)) = some (.out d))
    {d : List β} (hd : d.length + k * xs.length ≤ m) (hx : xs.length ≤ 1000000) : iter B big (d, 0) = some (d ++ xs.flatMap f) := by
  have := xir (B := B) (fun i d => (d, (i : Int))) xs (fun d x => d ++ f x) (fun d => d) (fun i d' => d'.length ≤ d.length + k * i) (by
    intro i d' hi hd'
    have h1 : k * i ≤ k * xs.length := Nat.mul_le_mul_left k (by omega)
    have h2 := hf _ (List.getElem_mem hi)
    have h3 : k * (i + 1) = k * i + k := by rw [Nat.mul_add, Nat.mul_one]
    refine ⟨hB i d' hi (by omega), ?_⟩
    rw [List.length_append]
    omega) (fun d' _ => hE d') (s0 := d) (by simp) (fuel := big) (by rw [big_eq]; omega)
  have e0 : ((0 : Nat) : Int) = 0 := rfl
  rw [e0] at this
  rw [this.1]
  congr 1
  have key : ∀ (l : List α) (d : List β), l.foldl (fun d x => d ++ f x) d = d ++ l.flatMap f := by
    intro l
    induction l with
    | nil => intro d; simp
    | cons x l ih => intro d; rw [List.foldl_cons, ih, List.flatMap_cons, List.append_assoc]
  exact key xs d
theorem fm_map {α β : Type} (f : α → β) (l : List α) : l.flatMap (fun x => [f x]) = l.map f := by
  induction l with
  | nil => rfl
  | cons x l ih => rw [List.flatMap_cons, ih]; rfl
def upN (s : Stack) (v : View) : List ByteArray := if (nodeP s.upper v.upper).kind = 1 then (nodeP s.upper v.upper).entries.map (·.name) else []
def shB (s : Stack) (v : View) (nm : ByteArray) : Bool := !decide ((stpV s v nm).1 = 0)
def namesV (s : Stack) (v : View) : List ByteArray := sortQ ((namesQ s.lowers v.lower ++ upN s v).filter (shB s v))
theorem x7w (p : ByteArray → Bool) (l : List ByteArray) : (sortQ l).filter p = sortQ (l.filter p) :=
  xtt (List.Pairwise.filter p (xfj l)) (xfj _) fun x => by rw [List.mem_filter, xhi, xhi, List.mem_filter]
theorem x8z {s : Stack} (h : SV s) (v : View) : (upN s v).length ≤ 32 := by
  unfold upN
  split
  · rw [List.length_map]; exact (x9m h.up _).ents
  · simp
theorem xg0 {s : Stack} (h : SV s) {v : View} (hv : v.lower.length ≤ 1000) (nm : ByteArray) : x1b nm s v = some (!shB s v nm) := by
  unfold x1b shB
  rw [xvr h hv]
  simp only [Option.bind_some]
  by_cases hk : (stpV s v nm).1 = 0 <;> simp [hk]
theorem x30 {n : Node} (h : NV n) {d : List ByteArray} (hd : d.length ≤ 800000) : iter (xtd n) big (d, 0) = some (d ++ n.entries.map (·.name)) := by
  have hn := h.ents
  rw [x82 n.entries (fun e => [e.name]) 1 900000 (fun _ _ => Nat.le_refl 1) _ _ (by omega) (by omega), fm_map]
  · intro i d hi hd
    simp only [xtd]
    rw [if_pos (by omega), ix_at hi]
    simp only [Option.bind_some]
    rw [ap_of (by simp; omega) (by decide), wr_suc (by omega)]
    rfl
  · intro d
    simp only [xtd]
    rw [if_neg (by omega)]
theorem xxz {s : Stack} (h : SV s) {v : View} (hv : v.lower.length ≤ 1000) {l : List ByteArray} (hl : l.length ≤ 1000000) : (xjc l).bind (fun v58 => (x3e (fun z => x1b z s v) v58).bind fun v60 => some v60) = some (sortQ (l.filter (shB s v))) := by
  rw [xox hl]
  simp only [Option.bind_some]
  have hsl := xsn l
  unfold x3e ck
  rw [if_pos (by omega)]
  simp only [Option.bind_some]
  rw [xet (fun z => !shB s v z) _ fun x _ => xg0 h hv x]
  simp only [Option.bind_some, Bool.not_not]
  rw [x7w]
theorem xyx (s : Stack) (v : View) : xbe s v = (xvh s v.lower).bind fun v35 => (xpb s v.upper).bind fun v38 => if v38.kind = 1 then (iter (xtd v38) big (v35, 0)).bind fun v48 => (xjc v48).bind fun v58 => (x3e (fun z => x1b z s v) v58).bind fun v60 => some v60
    else (xjc v35).bind fun v62 => (x3e (fun z => x1b z s v) v62).bind fun v64 => some v64 := by
  have e : xlj s v = xae s v.lower := rfl
  unfold xbe xvh
  rw [e]
  simp only [Option.bind_assoc, Option.bind_some]
theorem xx1 {s : Stack} (h : SV s) {v : View} (hv : v.lower.length ≤ 1000) : xbe s v = some (namesV s v) := by
  rw [xyx, xy3 h.low hv]
  simp only [Option.bind_some]
  rw [xwm h]
  simp only [Option.bind_some]
  have hl := x8t h.low v.lower
  have hu := x8z h v
  unfold namesV
  by_cases hk : (nodeP s.upper v.upper).kind = 1
  · rw [if_pos hk, x30 (x9m h.up _) (by omega)]
    have e : upN s v = (nodeP s.upper v.upper).entries.map (·.name) := if_pos hk
    rw [← e]
    simp only [Option.bind_some]
    exact xxz h hv (by rw [List.length_append]; omega)
  · rw [if_neg hk]
    have e : upN s v = [] := if_neg hk
    rw [e, List.append_nil]
    exact xxz h hv (by omega)
theorem xl0 {s : Stack} (h : SV s) {v : View} {m : Nat} (hv : v.lower.length ≤ m) : (namesV s v).length ≤ 16 * m + 32 := by
  have hl := x8t h.low v.lower
  have hu := x8z h v
  have hf := List.length_filter_le (shB s v) (namesQ s.lowers v.lower ++ upN s v)
  rw [List.length_append] at hf
  have := xsn ((namesQ s.lowers v.lower ++ upN s v).filter (shB s v))
  unfold namesV
  omega
theorem xz0 {s : Stack} (v : View) (nm : ByteArray) : nm ∈ namesV s v ↔ ¬ (stpV s v nm).1 = 0 := by
  unfold namesV
  rw [xhi, List.mem_filter, List.mem_append, x90]
  have hs : shB s v nm = true ↔ ¬ (stpV s v nm).1 = 0 := by simp [shB]
  rw [hs]
  constructor
  · exact fun h => h.2
  · intro h
    refine ⟨?_, h⟩
    unfold stpV at h
    cases he : entV s v nm with
    | none =>
      rw [he] at h
      left
      intro h0
      apply h
      show (lowV (findQ s.lowers v.lower nm)).1 = 0
      unfold lowV
      rw [if_pos h0]
    | some e =>
      obtain ⟨h1, h2, h3, h4⟩ := xjq he
      right
      unfold upN
      rw [if_pos h2]
      exact List.mem_map.2 ⟨e, h3, h4⟩
end Go.Proofs.YtapdjibjnfeipaaGreatDoor.AL


/- Plain laws, part 1: loops; the walk. -/
set_option linter.all false
namespace Go.Proofs.YtapdjibjnfeipaaGreatDoor.AL
open Go Go.Proofs
def seenB (ways : List Way) (ino : Int) : Bool := ways.any fun w => decide (w.ino = ino)
abbrev WS := List Way × List Ar2_Int
structure WI (b : Branch) (ways : List Way) : Prop where
  nd : (ways.map (·.ino)).Nodup
  dir : ∀ w ∈ ways, (nodeP b w.ino).kind = 1
theorem xuq : ∀ (n : Nat) (l : List Nat), l.Nodup → (∀ x ∈ l, x < n) → l.length ≤ n
  | 0, l, _, h => by
    cases l with
    | nil => simp
    | cons x l => have := h x (by simp); omega
  | n + 1, l, hd, h => by
    have h1 := xuq n (l.erase n) (hd.erase n) (fun x hx => by
      have := (List.Nodup.mem_erase_iff hd).1 hx
      have := h x this.2
      omega)
    have := List.length_erase (a := n) (l := l)
    split at this <;> omega
theorem WI.len {b : Branch} {ways : List Way} (h : WI b ways) : ways.length ≤ b.nodes.length := by
  have h1 : (ways.map fun w => (w.ino - 1).toNat).Nodup := by
    refine List.pairwise_map.2 (List.Pairwise.imp_of_mem ?_ (List.pairwise_map.1 h.nd))
    intro x y hx hy hne e
    have := x6o (h.dir x hx)
    have := x6o (h.dir y hy)
    omega
  have := xuq b.nodes.length _ h1 (fun x hx => by
    obtain ⟨w, hw, rfl⟩ := List.mem_map.1 hx
    have := x6o (h.dir w hw)
    omega)
  simpa using this
theorem xj3 {ways : List Way} {ino : Int} : seenB ways ino = true ↔ ∃ w ∈ ways, w.ino = ino := by simp [seenB]
theorem WI.push {b : Branch} {ways : List Way} (h : WI b ways) {w : Way} (hk : (nodeP b w.ino).kind = 1) (hs : seenB ways w.ino = false) : WI b (ways ++ [w]) := by
  refine ⟨?_, ?_⟩
  · rw [List.map_append, List.map_cons, List.map_nil]
    refine List.nodup_append.2 ⟨h.nd, by simp, ?_⟩
    intro x hx y hy e
    simp only [List.mem_singleton] at hy
    subst hy; subst e
    obtain ⟨w', hw', e⟩ := List.mem_map.1 hx
    have : seenB ways w.ino = true := xj3.2 ⟨w', hw', e⟩
    rw [hs] at this; cases this
  · intro x hx
    rcases List.mem_append.1 hx with hx | hx
    · exact h.dir x hx
    · simp only [List.mem_singleton] at hx; subst hx; exact hk
structure LI (b : Branch) (k : Nat) (s : WS) : Prop where
  wi : WI b s.1
  at' : k ≤ s.1.length
  tw : s.2.length ≤ 16 * k
structure FI (b : Branch) (t : Nat × WS) : Prop where
  li : LI b t.1 t.2
  all : t.1 = t.2.1.length
theorem LI.push {b : Branch} {k : Nat} {s : WS} (h : LI b k s) {w : Way} (hk : (nodeP b w.ino).kind = 1) (hs : seenB s.1 w.ino = false) : LI b k (s.1 ++ [w], s.2) :=
  ⟨h.wi.push hk hs, by have := h.at'; simp; omega, h.tw⟩
theorem FI.nil (b : Branch) : FI b (0, [], []) := ⟨⟨⟨by simp, by simp⟩, by simp, by simp⟩, rfl⟩
end Go.Proofs.YtapdjibjnfeipaaGreatDoor.AL

/- Plain laws, part 2: the program's walk; what is common. -/
set_option linter.all false
namespace Go.Proofs.YtapdjibjnfeipaaGreatDoor.AL
open Go Go.Proofs
theorem x91 (m : List (Int × Int)) (k v k' : Int) : mget (mset m k v) k' = if k' = k then v else mget m k' := by
  induction m with
  | nil =>
    unfold mget mset
    by_cases h : k' = k
    · subst h; simp
    · have : (k' == k) = false := by simpa using h
      simp [this, h]
  | cons p m ih =>
    unfold mset
    by_cases h : k = p.1
    · rw [if_pos h]
      unfold mget
      by_cases h' : k' = k
      · subst h'; simp [h]
      · have : (k' == p.1) = false := by simp; omega
        simp [this, h']
    · rw [if_neg h]
      unfold mget at ih ⊢
      by_cases h' : k' = p.1
      · have h2 : ¬ k' = k := by omega
        have : (k' == p.1) = true := by simpa using h'
        simp [this, h2]
      · have : (k' == p.1) = false := by simpa using h'
        simpa [List.find?_cons, this] using ih
abbrev MS := WS × List (Int × Int)
def SM (t : MS) : Prop := ∀ ino, mget t.2 ino = if seenB t.1.1 ino = true then 1 else 0
theorem xr0 (ways : List Way) (w : Way) (ino : Int) : seenB (ways ++ [w]) ino = (seenB ways ino || decide (w.ino = ino)) := by simp [seenB]
theorem SM.push {t : MS} (h : SM t) (r : Int) (hs : seenB t.1.1 r = false) : SM ((t.1.1 ++ [⟨r, -1, xl⟩], t.1.2), mset t.2 r 1) := by
  intro i
  rw [x91, xr0, h i]
  by_cases hi : i = r
  · subst hi; simp
  · have : ¬ r = i := fun h => hi h.symm
    simp [hi, this]
end Go.Proofs.YtapdjibjnfeipaaGreatDoor.AL

/- Plain laws, part 2: the program's walk is the document's: as walk_Dirs has it. -/
set_option linter.all false
namespace Go.Proofs.YtapdjibjnfeipaaGreatDoor.AL
open Go Go.Proofs
end Go.Proofs.YtapdjibjnfeipaaGreatDoor.AL

/- Plain laws of the walk: each way stands behind the one that names it. -/
set_option linter.all false
namespace Go.Proofs.YtapdjibjnfeipaaGreatDoor.AL
open Go Go.Proofs
def UpI (fr : List Int) (ws : List Way) : Prop := ∀ (i : Nat) (w : Way), ws[i]? = some w → w.up < (i : Int) ∧ (w.up < 0 → w.ino ∈ fr)
theorem UpI.push {fr : List Int} {ws : List Way} (h : UpI fr ws) {w : Way} (h1 : w.up < (ws.length : Int)) (h2 : w.up < 0 → w.ino ∈ fr) : UpI fr (ws ++ [w]) := by
  intro i v hv
  rw [List.getElem?_append] at hv
  split at hv
  · exact h i v hv
  · rename_i hi
    have hi2 : i - ws.length = 0 := by
      have := (List.getElem?_eq_some_iff.1 hv).1
      simp at this
      omega
    rw [hi2] at hv
    obtain rfl : w = v := by simpa using hv
    exact ⟨by omega, h2⟩
end Go.Proofs.YtapdjibjnfeipaaGreatDoor.AL

