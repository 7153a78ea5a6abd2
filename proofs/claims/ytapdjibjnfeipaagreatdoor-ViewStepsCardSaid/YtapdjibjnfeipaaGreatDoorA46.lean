/- What any node of any stack should say of copies, and which say otherwise, is what the document says: part 46 of 52. -/
import Derived.Test.YtapdjibjnfeipaaGreatDoorA45
set_option linter.all false
/- Models of functions, and that the functions are as their models: written by gen.py. -/
set_option linter.all false
set_option maxRecDepth 100000
namespace Go.Proofs.YtapdjibjnfeipaaGreatDoor.AL
open Go Go.Proofs
end Go.Proofs.YtapdjibjnfeipaaGreatDoor.AL

/- Plain laws of chapters 17 and 20: names, trees, whiteouts. -/
set_option linter.all false
namespace Go.Proofs.YtapdjibjnfeipaaGreatDoor.AL
open Go Go.Proofs
theorem xgt {α β : Type} {B : (List β × Int) → Option (St (List β × Int) (List β))} (xs : List α) (f : α → List β) (k m : Nat) (hf : ∀ x ∈ xs, (f x).length ≤ k)
    (hB : ∀ (i : Nat) (d : List β) (h : i < xs.length), d.length ≤ m → B (d, (i : Int)) = some (.nx (d ++ f xs[i], ((i + 1 : Nat) : Int)))) (hE : ∀ d : List β, B (d, (xs.length : Int)) = some (.out d))
    {d : List β} (hd : d.length + k * xs.length ≤ m) (hx : xs.length ≤ 1000000) : iter B big (d, 0) = some (d ++ xs.flatMap f) := by
  have := xgi (B := B) (fun i d => (d, (i : Int))) xs (fun d x => d ++ f x) (fun d => d) (fun i d' => d'.length ≤ d.length + k * i) (by
    intro i d' hi hd'
    have h1 : k * i ≤ k * xs.length := Nat.mul_le_mul_left k (by omega)
    have h2 := hf _ (List.getElem_mem hi)
    have h3 : k * (i + 1) = k * i + k := by rw [Nat.mul_add, Nat.mul_one]
    refine ⟨hB i d' hi (by omega), ?_⟩
    rw [List.length_append]
    omega) (fun d' _ => hE d') (s0 := d) (by simp) (fuel := big) (by rw [big_eq]; omega)
  have e0 : ((0 : Nat) : Int) = 0 := rfl
  rw [e0] at this
  rw [this.1]
  congr 1
  have key : ∀ (l : List α) (d : List β), l.foldl (fun d x => d ++ f x) d = d ++ l.flatMap f := by
    intro l
    induction l with
    | nil => intro d; simp
    | cons x l ih => intro d; rw [List.foldl_cons, ih, List.flatMap_cons, List.append_assoc]
  exact key xs d
theorem fm_map {α β : Type} (f : α → β) (l : List α) : l.flatMap (fun x => [f x]) = l.map f := by
  induction l with
  | nil => rfl
  | cons x l ih => rw [List.flatMap_cons, ih]; rfl
theorem x47 {α : Type} (p : α → Bool) (l : List α) : l.flatMap (fun x => if p x = true then [x] else []) = l.filter p := by
  induction l with
  | nil => rfl
  | cons x l ih =>
    rw [List.flatMap_cons, ih, List.filter_cons]
    split <;> rfl
def upN (s : Stack) (v : View) : List ByteArray := if (nodeP s.upper v.upper).kind = 1 then (nodeP s.upper v.upper).entries.map (·.name) else []
def shB (s : Stack) (v : View) (nm : ByteArray) : Bool := !decide ((stpV s v nm).1 = 0)
def namesV (s : Stack) (v : View) : List ByteArray := sortQ ((namesQ s.lowers v.lower ++ upN s v).filter (shB s v))
theorem x03 (p : ByteArray → Bool) (l : List ByteArray) : (sortQ l).filter p = sortQ (l.filter p) :=
  x2r (List.Pairwise.filter p (x9h l)) (x9h _) fun x => by rw [List.mem_filter, xzh, xzh, List.mem_filter]
theorem xgz {s : Stack} (h : SV s) (v : View) : (upN s v).length ≤ 32 := by
  unfold upN
  split
  · rw [List.length_map]; exact (xzf h.up _).ents
  · simp
theorem x55 {s : Stack} (h : SV s) {v : View} (hv : v.lower.length ≤ 1000) (nm : ByteArray) : xhc nm s v = some (!shB s v nm) := by
  unfold xhc shB
  rw [xlv h hv]
  simp only [Option.bind_some]
  by_cases hk : (stpV s v nm).1 = 0 <;> simp [hk]
theorem xu5 {n : Node} (h : NV n) {d : List ByteArray} (hd : d.length ≤ 800000) : iter (xne n) big (d, 0) = some (d ++ n.entries.map (·.name)) := by
  have hn := h.ents
  rw [xgt n.entries (fun e => [e.name]) 1 900000 (fun _ _ => Nat.le_refl 1) _ _ (by omega) (by omega), fm_map]
  · intro i d hi hd
    simp only [xne]
    rw [if_pos (by omega), ix_at hi]
    simp only [Option.bind_some]
    rw [ap_of (by simp; omega) (by decide), wr_suc (by omega)]
    rfl
  · intro d
    simp only [xne]
    rw [if_neg (by omega)]
theorem xi5 {s : Stack} (h : SV s) {v : View} (hv : v.lower.length ≤ 1000) {l : List ByteArray} (hl : l.length ≤ 1000000) : (xzc l).bind (fun v58 => (xeg (fun z => xhc z s v) v58).bind fun v60 => some v60) = some (sortQ (l.filter (shB s v))) := by
  rw [x93 hl]
  simp only [Option.bind_some]
  have hsl := x7p l
  unfold xeg ck
  rw [if_pos (by omega)]
  simp only [Option.bind_some]
  rw [x8w (fun z => !shB s v z) _ fun x _ => x55 h hv x]
  simp only [Option.bind_some, Bool.not_not]
  rw [x03]
theorem xs1 (s : Stack) (v : View) : xje s v = (xvj s v.lower).bind fun v35 => (xqb s v.upper).bind fun v38 => if v38.kind = 1 then (iter (xne v38) big (v35, 0)).bind fun v48 => (xzc v48).bind fun v58 => (xeg (fun z => xhc z s v) v58).bind fun v60 => some v60
    else (xzc v35).bind fun v62 => (xeg (fun z => xhc z s v) v62).bind fun v64 => some v64 := by
  have e : x0k s v = xdf s v.lower := rfl
  unfold xje xvj
  rw [e]
  simp only [Option.bind_assoc, Option.bind_some]
theorem xh0 {s : Stack} (h : SV s) {v : View} (hv : v.lower.length ≤ 1000) : xje s v = some (namesV s v) := by
  rw [xs1, x59 h.low hv]
  simp only [Option.bind_some]
  rw [xyj h]
  simp only [Option.bind_some]
  have hl := xbs h.low v.lower
  have hu := xgz h v
  unfold namesV
  by_cases hk : (nodeP s.upper v.upper).kind = 1
  · rw [if_pos hk, xu5 (xzf h.up _) (by omega)]
    have e : upN s v = (nodeP s.upper v.upper).entries.map (·.name) := if_pos hk
    rw [← e]
    simp only [Option.bind_some]
    exact xi5 h hv (by rw [List.length_append]; omega)
  · rw [if_neg hk]
    have e : upN s v = [] := if_neg hk
    rw [e, List.append_nil]
    exact xi5 h hv (by omega)
theorem x62 (s : Stack) (v : View) : xsf s v = (xuj s v.lower).bind fun v43 => (xhd s.upper v.upper).bind fun v113 => (iter (xjd v113) big (v43, 0)).bind fun v121 => (iter (xae s v v121) big (([] : List ByteArray), 0)).bind fun v139 => (xxd v139).bind fun v153 => some v153 := by
  have e : x1j s v = xhf s v.lower := rfl
  have e2 : xzj = xte := rfl
  unfold xsf xuj xxd
  rw [e, e2]
  simp only [Option.bind_assoc, Option.bind_some]
theorem xm2 {n : Node} (h : NV n) {d : List ByteArray} (hd : d.length ≤ 800000) : iter (xjd n) big (d, 0) = some (if n.kind = 1 then d ++ n.entries.map (·.name) else d) := by
  have hn := h.ents
  by_cases hk : n.kind = 1
  · rw [if_pos hk, xgt n.entries (fun e => [e.name]) 1 900000 (fun _ _ => Nat.le_refl 1) _ _ (by omega) (by omega), fm_map]
    · intro i d hi hd
      simp only [xjd]
      rw [if_pos (by omega), if_pos hk, ix_at hi]
      simp only [Option.bind_some]
      rw [ap_of (by simp; omega) (by decide), wr_suc (by omega)]
      rfl
    · intro d
      simp only [xjd]
      rw [if_neg (by omega)]
  · rw [if_neg hk, show big = 999999999999999999 + 1 from rfl, x7e]
    simp only [xjd]
    split <;> rfl
theorem x05 {s : Stack} (h : SV s) {v : View} (hv : v.lower.length ≤ 1000) {l : List ByteArray} (hl : l.length ≤ 800000) : iter (xae s v l) big (([] : List ByteArray), 0) = some (l.filter (shB s v)) := by
  rw [xgt l (fun e => if shB s v e = true then [e] else []) 1 900000 (fun _ _ => by split <;> simp) _ _ (by simp; omega) (by omega), x47, List.nil_append]
  · intro i d hi hd
    simp only [xae]
    rw [if_pos (by omega), ix_at hi]
    simp only [Option.bind_some]
    rw [xa3 h hv, wr_suc (by omega)]
    simp only [Option.bind_some]
    by_cases hk : (stpV s v l[i]).1 = 0
    · have : ¬ shB s v l[i] = true := by simp [shB, hk]
      rw [if_pos hk, if_neg this, List.append_nil]
    · have : shB s v l[i] = true := by simp [shB, hk]
      rw [if_neg hk, if_pos this, ap_of (by simp; omega) (by decide)]
      rfl
  · intro d
    simp only [xae]
    rw [if_neg (by omega)]
theorem xc4 {s : Stack} (h : SV s) {v : View} (hv : v.lower.length ≤ 1000) : xsf s v = some (namesV s v) := by
  rw [x62, xb7 h.low hv]
  simp only [Option.bind_some]
  rw [atv_eq h]
  simp only [Option.bind_some]
  have hl := xbs h.low v.lower
  have hu := xgz h v
  rw [xm2 (xzf h.up _) (by omega)]
  simp only [Option.bind_some]
  have e : (if (nodeP s.upper v.upper).kind = 1 then namesQ s.lowers v.lower ++ (nodeP s.upper v.upper).entries.map (·.name) else namesQ s.lowers v.lower) = namesQ s.lowers v.lower ++ upN s v := by
    unfold upN
    split
    · rfl
    · simp
  rw [e, x05 h hv (by rw [List.length_append]; omega)]
  simp only [Option.bind_some]
  have hf := List.length_filter_le (shB s v) (namesQ s.lowers v.lower ++ upN s v)
  rw [List.length_append] at hf
  rw [x02 (by omega), xdw]
  rfl
theorem xvx {s : Stack} (h : SV s) {v : View} {m : Nat} (hv : v.lower.length ≤ m) : (namesV s v).length ≤ 16 * m + 32 := by
  have hl := xbs h.low v.lower
  have hu := xgz h v
  have hf := List.length_filter_le (shB s v) (namesQ s.lowers v.lower ++ upN s v)
  rw [List.length_append] at hf
  have := x7p ((namesQ s.lowers v.lower ++ upN s v).filter (shB s v))
  unfold namesV
  omega
theorem xjx {s : Stack} (v : View) (nm : ByteArray) : nm ∈ namesV s v ↔ ¬ (stpV s v nm).1 = 0 := by
  unfold namesV
  rw [xzh, List.mem_filter, List.mem_append, xs5]
  have hs : shB s v nm = true ↔ ¬ (stpV s v nm).1 = 0 := by simp [shB]
  rw [hs]
  constructor
  · exact fun h => h.2
  · intro h
    refine ⟨?_, h⟩
    unfold stpV at h
    cases he : entV s v nm with
    | none =>
      rw [he] at h
      left
      intro h0
      apply h
      show (lowV (findQ s.lowers v.lower nm)).1 = 0
      unfold lowV
      rw [if_pos h0]
    | some e =>
      obtain ⟨h1, h2, h3, h4⟩ := xa0 he
      right
      unfold upN
      rw [if_pos h2]
      exact List.mem_map.2 ⟨e, h3, h4⟩
theorem xe8 {a b : List Place} (h : a.length ≤ 1000000000) : xmg a b = some (decide (a = b)) := by
  unfold xmg
  by_cases hl : a.length = b.length
  · rw [if_pos (by omega), eqLoop hl h]
    · by_cases he : a = b <;> simp [he]
    · intro i h1 h2
      simp only [xag]
      rw [if_pos (by omega), ix_at h1, ix_at h2]
      simp only [Option.bind_some, decide_eq_true_eq]
      rw [wr_suc (by omega)]
    · simp only [xag]
      rw [if_neg (by omega)]
  · rw [if_neg (by omega)]
    have : ¬ a = b := by rintro rfl; exact hl rfl
    simp [this]
theorem xldb {a b : View} (h : a.lower.length ≤ 1000000000) : xkd a b = some (decide (a = b)) := by
  unfold xkd
  rw [xe8 h]
  obtain ⟨u, l⟩ := a
  obtain ⟨u', l'⟩ := b
  simp only [Option.bind_some, View.mk.injEq]
  by_cases h1 : u = u' <;> by_cases h2 : l = l' <;> simp [h1, h2]
theorem x5z {a : View} (h : a.lower.length ≤ 1000000000) : xkd a a = some true := by rw [xldb h]; simp
def treeSt (s : Stack) (acc : List View) (w : Way) : List View := acc ++ [if 0 ≤ w.up then ⟨w.ino, partV s ((acc[w.up.toNat]?).getD ⟨0, []⟩) (nodeP s.upper w.ino) w.name⟩ else rootV s]
structure TV (s : Stack) (ws : List Way) (i : Nat) (acc : List View) : Prop where
  len : acc.length = i
  low : ∀ x ∈ acc, x.lower.length ≤ 3
  at' : ∀ (j : Nat) (x : View), acc[j]? = some x → ∃ w, ws[j]? = some w ∧ x.upper = w.ino ∧ (opqV (nodeP s.upper w.ino) = true → x.lower = [])
theorem TV.nil (s : Stack) (ws : List Way) : TV s ws 0 [] := ⟨rfl, by simp, by simp⟩
theorem TV.step {s : Stack} (h : SV s) {ws : List Way} {i : Nat} {acc : List View} (t : TV s ws i acc) {w : Way} (hw : ws[i]? = some w) (hu : w.up < (i : Int)) (hf : w.up < 0 → w.ino ∈ [(1 : Int)]) (hk : (nodeP s.upper w.ino).kind = 1) : TV s ws (i + 1) (treeSt s acc w) := by
  have hlen := t.len
  have hx : ∀ x, x = (if 0 ≤ w.up then (⟨w.ino, partV s ((acc[w.up.toNat]?).getD ⟨0, []⟩) (nodeP s.upper w.ino) w.name⟩ : View) else rootV s) → x.lower.length ≤ 3 ∧ x.upper = w.ino ∧ (opqV (nodeP s.upper w.ino) = true → x.lower = []) := by
    rintro x rfl
    by_cases h0 : 0 ≤ w.up
    · rw [if_pos h0]
      have hlt : w.up.toNat < acc.length := by omega
      rw [List.getElem?_eq_getElem hlt, Option.getD_some]
      exact ⟨xnt h (t.low _ (List.getElem_mem hlt)) (Nat.le_refl 3) _ _, rfl, fun ho => xg7 ho⟩
    · rw [if_neg h0]
      have h1 : w.ino = 1 := by simpa using hf (by omega)
      rw [h1] at hk ⊢
      refine ⟨xit h, ?_, fun ho => ?_⟩
      · unfold rootV
        exact if_pos hk
      · unfold rootV
        exact if_pos ho
  obtain ⟨x1, x2, x3⟩ := hx _ rfl
  unfold treeSt
  refine ⟨by rw [List.length_append, hlen]; rfl, ?_, ?_⟩
  · intro x hx
    rcases List.mem_append.1 hx with hx | hx
    · exact t.low x hx
    · obtain rfl := List.mem_singleton.1 hx
      exact x1
  · intro j x hj
    rw [List.getElem?_append] at hj
    split at hj
    · exact t.at' j x hj
    · rename_i hnj
      have hj2 : j = i := by
        have := (List.getElem?_eq_some_iff.1 hj).1
        simp at this
        omega
      subst hj2
      rw [hlen, Nat.sub_self] at hj
      obtain rfl : _ = x := by simpa using hj
      exact ⟨w, hw, x2, x3⟩
end Go.Proofs.YtapdjibjnfeipaaGreatDoor.AL

