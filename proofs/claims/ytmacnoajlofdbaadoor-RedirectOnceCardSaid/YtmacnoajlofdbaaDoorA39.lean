/- A law of the given program is proved: part 39 of 49. -/
import Derived.Test.YtmacnoajlofdbaaDoorA38
set_option linter.all false
/- Models of functions, and that the functions are as their models: written by gen.py. -/
set_option linter.all false
set_option maxRecDepth 100000
namespace Go.Proofs.YtmacnoajlofdbaaDoor.AL
open Go Go.Proofs
def xnk (a0 : Int) (a1 : Int) : Option (Bool) := (ck (¬ a1 = 0)).bind fun _ => if ((wr (a0.tdiv a1)).tmod 2) = 1 then some true
 else some false
def x6s := aI (@EV) (@R3)
set_option maxHeartbeats 2000000 in
theorem xa1 (a0 : Int) (a1 : Int) (r : Bool) (hm0 : xnk a0 a1 = some r) : Ok Tryd.prog 30 [int a0, int a1] (bool r) := by
 unfold xnk at hm0
 refine okG xg0 ?_
 unfold xqs
 obtain ⟨e2, hm0⟩ := ckE hm0
 have e3 : ((2 : Int) = 0) = False := by decide
 rcases iteE hm0 with ⟨e5, hm0⟩ | ⟨e5, hm0⟩
 · obtain rfl := Option.some.inj hm0
   simp only [e2, e3, e5, x6s, ↓EVd, isCall, sevalprocAttr]
   all_goals first | done | rfl
 obtain rfl := Option.some.inj hm0
 simp only [e2, e3, e5, x6s, ↓EVd, isCall, sevalprocAttr]
 all_goals first | done | rfl
def xyf (a0 : Attr) (a1 : Int) : Option (Bool) := if 0 ≤ a0.has then (xnk a0.has a1).bind fun v3 => some v3
 else some false
def xxm := aI (aI (@EV) (@R3)) (aI (@R45) (aI (@DOrigin) (@DAttr)))
set_option maxHeartbeats 2000000 in
theorem x9q (a0 : Attr) (a1 : Int) (r : Bool) (hm0 : xyf a0 a1 = some r) : Ok Tryd.prog 9 [x8b a0, int a1] (bool r) := by
 unfold xyf at hm0
 refine okG x8y ?_
 unfold xvs
 rcases iteE hm0 with ⟨e2, hm0⟩ | ⟨e2, hm0⟩
 · obtain ⟨v3, h4, hm0⟩ := bsE hm0
   simp only [e2, xxm, ↓EVd, isCall, sevalprocAttr]
   refine qc (xa1 _ _ _ h4) rfl ?_
   obtain rfl := Option.some.inj hm0
   simp only [e2, xxm, ↓EVd, isCall, sevalprocAttr]
   all_goals first | done | rfl
 obtain rfl := Option.some.inj hm0
 simp only [e2, xxm, ↓EVd, isCall, sevalprocAttr]
 all_goals first | done | rfl
def xef (a0 : Attr) (a1 : Int) : Option (Attr) := if (a1.tmod 2) = 0 then if ((wr (a1.tdiv 2)).tmod 2) = 0 then if ((wr (a1.tdiv 4)).tmod 2) = 0 then if ((wr (a1.tdiv 8)).tmod 2) = 0 then some ({ a0 with has := (bNot .i64 a0.has a1) } : Attr)
 else some ({ ({ a0 with shown := 0 } : Attr) with has := (bNot .i64 a0.has a1) } : Attr)
 else if ((wr (a1.tdiv 8)).tmod 2) = 0 then some ({ ({ a0 with origin := (⟨0, 0, 0⟩ : Origin) } : Attr) with has := (bNot .i64 a0.has a1) } : Attr)
 else some ({ ({ ({ a0 with origin := (⟨0, 0, 0⟩ : Origin) } : Attr) with shown := 0 } : Attr) with has := (bNot .i64 a0.has a1) } : Attr)
 else if ((wr (a1.tdiv 4)).tmod 2) = 0 then if ((wr (a1.tdiv 8)).tmod 2) = 0 then some ({ ({ a0 with redirect := xl } : Attr) with has := (bNot .i64 a0.has a1) } : Attr)
 else some ({ ({ ({ a0 with redirect := xl } : Attr) with shown := 0 } : Attr) with has := (bNot .i64 a0.has a1) } : Attr)
 else if ((wr (a1.tdiv 8)).tmod 2) = 0 then some ({ ({ ({ a0 with redirect := xl } : Attr) with origin := (⟨0, 0, 0⟩ : Origin) } : Attr) with has := (bNot .i64 a0.has a1) } : Attr)
 else some ({ ({ ({ ({ a0 with redirect := xl } : Attr) with origin := (⟨0, 0, 0⟩ : Origin) } : Attr) with shown := 0 } : Attr) with has := (bNot .i64 a0.has a1) } : Attr)
 else if ((wr (a1.tdiv 2)).tmod 2) = 0 then if ((wr (a1.tdiv 4)).tmod 2) = 0 then if ((wr (a1.tdiv 8)).tmod 2) = 0 then some ({ ({ a0 with opaque0 := 0 } : Attr) with has := (bNot .i64 a0.has a1) } : Attr)
 else some ({ ({ ({ a0 with opaque0 := 0 } : Attr) with shown := 0 } : Attr) with has := (bNot .i64 a0.has a1) } : Attr)
 else if ((wr (a1.tdiv 8)).tmod 2) = 0 then some ({ ({ ({ a0 with opaque0 := 0 } : Attr) with origin := (⟨0, 0, 0⟩ : Origin) } : Attr) with has := (bNot .i64 a0.has a1) } : Attr)
 else some ({ ({ ({ ({ a0 with opaque0 := 0 } : Attr) with origin := (⟨0, 0, 0⟩ : Origin) } : Attr) with shown := 0 } : Attr) with has := (bNot .i64 a0.has a1) } : Attr)
 else if ((wr (a1.tdiv 4)).tmod 2) = 0 then if ((wr (a1.tdiv 8)).tmod 2) = 0 then some ({ ({ ({ a0 with opaque0 := 0 } : Attr) with redirect := xl } : Attr) with has := (bNot .i64 a0.has a1) } : Attr)
 else some ({ ({ ({ ({ a0 with opaque0 := 0 } : Attr) with redirect := xl } : Attr) with shown := 0 } : Attr) with has := (bNot .i64 a0.has a1) } : Attr)
 else if ((wr (a1.tdiv 8)).tmod 2) = 0 then some ({ ({ ({ ({ a0 with opaque0 := 0 } : Attr) with redirect := xl } : Attr) with origin := (⟨0, 0, 0⟩ : Origin) } : Attr) with has := (bNot .i64 a0.has a1) } : Attr)
 else some ({ ({ ({ ({ ({ a0 with opaque0 := 0 } : Attr) with redirect := xl } : Attr) with origin := (⟨0, 0, 0⟩ : Origin) } : Attr) with shown := 0 } : Attr) with has := (bNot .i64 a0.has a1) } : Attr)
def x3b := aI (aI (@EV) (aI (@R3) (@R9))) (aI (aI (@R43) (@R45)) (aI (@DOrigin) (@DAttr)))
set_option maxHeartbeats 2000000 in
theorem x4o (a0 : Attr) (a1 : Int) (r : Attr) (hm0 : xef a0 a1 = some r) : Ok Tryd.prog 10 [x8b a0, int a1] (x8b r) := by
 unfold xef at hm0
 refine okG xry ?_
 unfold x0r
 have e1 : ((2 : Int) = 0) = False := by decide
 rcases iteE hm0 with ⟨e3, hm0⟩ | ⟨e3, hm0⟩
 · rcases iteE hm0 with ⟨e5, hm0⟩ | ⟨e5, hm0⟩
   · have e6 : ((4 : Int) = 0) = False := by decide
     rcases iteE hm0 with ⟨e8, hm0⟩ | ⟨e8, hm0⟩
     · have e9 : ((8 : Int) = 0) = False := by decide
       rcases iteE hm0 with ⟨e11, hm0⟩ | ⟨e11, hm0⟩
       · obtain rfl := Option.some.inj hm0
         simp only [e1, e3, e5, e6, e8, e9, e11, x3b, ↓EVd, isCall, sevalprocAttr]
         all_goals first | done | rfl | exact xg (by simp only [CLO])
       obtain rfl := Option.some.inj hm0
       simp only [e1, e3, e5, e6, e8, e9, e11, x3b, ↓EVd, isCall, sevalprocAttr]
       all_goals first | done | rfl | exact xg (by simp only [CLO])
     have e12 : (.agg [int 0, int 0, int 0] : AV) = xge (⟨0, 0, 0⟩ : Origin) := _root_.id rfl
     have e13 : ((8 : Int) = 0) = False := by decide
     rcases iteE hm0 with ⟨e15, hm0⟩ | ⟨e15, hm0⟩
     · obtain rfl := Option.some.inj hm0
       simp only [e1, e3, e5, e6, e8, e12, e13, e15, x3b, ↓EVd, isCall, sevalprocAttr]
       all_goals first | done | rfl | exact xg (by simp only [CLO])
     obtain rfl := Option.some.inj hm0
     simp only [e1, e3, e5, e6, e8, e12, e13, e15, x3b, ↓EVd, isCall, sevalprocAttr]
     all_goals first | done | rfl | exact xg (by simp only [CLO])
   have e16 : ((4 : Int) = 0) = False := by decide
   rcases iteE hm0 with ⟨e18, hm0⟩ | ⟨e18, hm0⟩
   · have e19 : ((8 : Int) = 0) = False := by decide
     rcases iteE hm0 with ⟨e21, hm0⟩ | ⟨e21, hm0⟩
     · obtain rfl := Option.some.inj hm0
       simp only [e1, e3, e5, e16, e18, e19, e21, x3b, ↓EVd, isCall, sevalprocAttr]
       all_goals first | done | rfl | exact xg (by simp only [CLO])
     obtain rfl := Option.some.inj hm0
     simp only [e1, e3, e5, e16, e18, e19, e21, x3b, ↓EVd, isCall, sevalprocAttr]
     all_goals first | done | rfl | exact xg (by simp only [CLO])
   have e22 : (.agg [int 0, int 0, int 0] : AV) = xge (⟨0, 0, 0⟩ : Origin) := _root_.id rfl
   have e23 : ((8 : Int) = 0) = False := by decide
   rcases iteE hm0 with ⟨e25, hm0⟩ | ⟨e25, hm0⟩
   · obtain rfl := Option.some.inj hm0
     simp only [e1, e3, e5, e16, e18, e22, e23, e25, x3b, ↓EVd, isCall, sevalprocAttr]
     all_goals first | done | rfl | exact xg (by simp only [CLO])
   obtain rfl := Option.some.inj hm0
   simp only [e1, e3, e5, e16, e18, e22, e23, e25, x3b, ↓EVd, isCall, sevalprocAttr]
   all_goals first | done | rfl | exact xg (by simp only [CLO])
 rcases iteE hm0 with ⟨e27, hm0⟩ | ⟨e27, hm0⟩
 · have e28 : ((4 : Int) = 0) = False := by decide
   rcases iteE hm0 with ⟨e30, hm0⟩ | ⟨e30, hm0⟩
   · have e31 : ((8 : Int) = 0) = False := by decide
     rcases iteE hm0 with ⟨e33, hm0⟩ | ⟨e33, hm0⟩
     · obtain rfl := Option.some.inj hm0
       simp only [e1, e3, e27, e28, e30, e31, e33, x3b, ↓EVd, isCall, sevalprocAttr]
       all_goals first | done | rfl | exact xg (by simp only [CLO])
     obtain rfl := Option.some.inj hm0
     simp only [e1, e3, e27, e28, e30, e31, e33, x3b, ↓EVd, isCall, sevalprocAttr]
     all_goals first | done | rfl | exact xg (by simp only [CLO])
   have e34 : (.agg [int 0, int 0, int 0] : AV) = xge (⟨0, 0, 0⟩ : Origin) := _root_.id rfl
   have e35 : ((8 : Int) = 0) = False := by decide
   rcases iteE hm0 with ⟨e37, hm0⟩ | ⟨e37, hm0⟩
   · obtain rfl := Option.some.inj hm0
     simp only [e1, e3, e27, e28, e30, e34, e35, e37, x3b, ↓EVd, isCall, sevalprocAttr]
     all_goals first | done | rfl | exact xg (by simp only [CLO])
   obtain rfl := Option.some.inj hm0
   simp only [e1, e3, e27, e28, e30, e34, e35, e37, x3b, ↓EVd, isCall, sevalprocAttr]
   all_goals first | done | rfl | exact xg (by simp only [CLO])
 have e38 : ((4 : Int) = 0) = False := by decide
 rcases iteE hm0 with ⟨e40, hm0⟩ | ⟨e40, hm0⟩
 · have e41 : ((8 : Int) = 0) = False := by decide
   rcases iteE hm0 with ⟨e43, hm0⟩ | ⟨e43, hm0⟩
   · obtain rfl := Option.some.inj hm0
     simp only [e1, e3, e27, e38, e40, e41, e43, x3b, ↓EVd, isCall, sevalprocAttr]
     all_goals first | done | rfl | exact xg (by simp only [CLO])
   obtain rfl := Option.some.inj hm0
   simp only [e1, e3, e27, e38, e40, e41, e43, x3b, ↓EVd, isCall, sevalprocAttr]
   all_goals first | done | rfl | exact xg (by simp only [CLO])
 have e44 : (.agg [int 0, int 0, int 0] : AV) = xge (⟨0, 0, 0⟩ : Origin) := _root_.id rfl
 have e45 : ((8 : Int) = 0) = False := by decide
 rcases iteE hm0 with ⟨e47, hm0⟩ | ⟨e47, hm0⟩
 · obtain rfl := Option.some.inj hm0
   simp only [e1, e3, e27, e38, e40, e44, e45, e47, x3b, ↓EVd, isCall, sevalprocAttr]
   all_goals first | done | rfl | exact xg (by simp only [CLO])
 obtain rfl := Option.some.inj hm0
 simp only [e1, e3, e27, e38, e40, e44, e45, e47, x3b, ↓EVd, isCall, sevalprocAttr]
 all_goals first | done | rfl | exact xg (by simp only [CLO])
end Go.Proofs.YtmacnoajlofdbaaDoor.AL

/- Loops of models, in plain words. -/
set_option linter.all false
namespace Go.Proofs.YtmacnoajlofdbaaDoor.AL
open Go Go.Proofs
theorem xjj {S ρ : Type} {B : S → Option (St S ρ)} {R : ρ → Prop} (I : Nat → S → Prop) (N : Nat) (hs : ∀ i s, I i s → i ≤ N ∧ ((∃ s', B s = some (.nx s') ∧ I (i + 1) s') ∨ ∃ r, B s = some (.out r) ∧ R r)) :
    ∀ (fuel i : Nat) (s : S), I i s → N < fuel + i → ∃ r, iter B fuel s = some r ∧ R r
  | 0, i, s, h, hf => by have := (hs i s h).1; omega
  | fuel + 1, i, s, h, hf => by
    rw [xtg]
    rcases (hs i s h).2 with ⟨s', h1, h2⟩ | ⟨r, h1, h2⟩
    · rw [h1]
      exact xjj I N hs fuel (i + 1) s' h2 (by omega)
    · rw [h1]
      exact ⟨r, rfl, h2⟩
theorem big_eq : big = 1000000000000000000 := rfl
theorem ix_at {α : Type} {xs : List α} {i : Nat} (h : i < xs.length) : ix xs (i : Int) = some xs[i] := by
  unfold ix
  rw [if_pos (by omega)]
  simp [h]
theorem ix_of {α : Type} {xs : List α} {n : Int} (h0 : 0 ≤ n) (h : n < xs.length) : ix xs n = some (xs[n.toNat]'(by omega)) := by
  unfold ix
  rw [if_pos h0]
  simp
theorem wr_suc {i : Nat} (h : i < 4611686018427387904) : wr ((i : Int) + 1) = ((i + 1 : Nat) : Int) := by rw [wr_in (by omega) (by omega)]; omega
theorem ap_of {α : Type} {k : Nat} {xs ys : List α} (h : (xs.length + ys.length) * k ≤ 140737488355328) (hk : 0 < k) : ap k xs ys = some (xs ++ ys) := by
  unfold ap
  have : xs.length + ys.length ≤ (xs.length + ys.length) * k := Nat.le_mul_of_pos_right _ hk
  have h2 : xs.length + ys.length ≤ 9223372036854775807 := by omega
  rw [if_pos ⟨h, h2⟩]
theorem xpd {α σ S ρ : Type} {B : S → Option (St S ρ)} (mk : Nat → σ → S) (xs : List α) (step : σ → α → σ) (fin : σ → ρ) (I : Nat → σ → Prop) (hs : ∀ i s (h : i < xs.length), I i s → B (mk i s) = some (.nx (mk (i + 1) (step s xs[i]))) ∧ I (i + 1) (step s xs[i]))
    (he : ∀ s, I xs.length s → B (mk xs.length s) = some (.out (fin s))) {s0 : σ} (h0 : I 0 s0) {fuel : Nat} (hf : xs.length < fuel) : iter B fuel (mk 0 s0) = some (fin (xs.foldl step s0)) ∧ I xs.length (xs.foldl step s0) := by
  have key : ∀ (d i : Nat) (s : σ) (fuel : Nat), d + i = xs.length → I i s → d < fuel → iter B fuel (mk i s) = some (fin ((xs.drop i).foldl step s)) ∧ I xs.length ((xs.drop i).foldl step s) := by
    intro d
    induction d with
    | zero =>
      intro i s fuel hd hi hf
      obtain rfl : i = xs.length := by omega
      cases fuel with
      | zero => omega
      | succ fuel =>
        rw [xtg, he s hi]
        simp [hi]
    | succ d ih =>
      intro i s fuel hd hi hf
      cases fuel with
      | zero => omega
      | succ fuel =>
        have hlt : i < xs.length := by omega
        obtain ⟨h1, h2⟩ := hs i s hlt hi
        rw [xtg, h1]
        have := ih (i + 1) _ fuel (by omega) h2 (by omega)
        rw [List.drop_eq_getElem_cons hlt]
        exact this
  have := key xs.length 0 s0 fuel (by omega) h0 hf
  simpa using this
def wl {σ : Type} (step : Nat → σ → σ) (len : σ → Nat) : Nat → Nat → σ → Nat × σ
  | 0, k, s => (k, s)
  | f + 1, k, s => if k < len s then wl step len f (k + 1) (step k s) else (k, s)
theorem x9r {σ S ρ : Type} {B : S → Option (St S ρ)} (mk : Nat → σ → S) (step : Nat → σ → σ) (len : σ → Nat) (fin : Nat → σ → ρ) (I : Nat → σ → Prop) (N : Nat) (hN : ∀ k s, I k s → k ≤ len s ∧ len s ≤ N)
    (hs : ∀ k s, I k s → k < len s → B (mk k s) = some (.nx (mk (k + 1) (step k s))) ∧ I (k + 1) (step k s)) (he : ∀ k s, I k s → ¬ k < len s → B (mk k s) = some (.out (fin k s))) :
    ∀ (f k : Nat) (s : σ) (fuel : Nat), I k s → N < f + k → N < fuel + k → iter B fuel (mk k s) = some (fin (wl step len f k s).1 (wl step len f k s).2) ∧ I (wl step len f k s).1 (wl step len f k s).2 ∧ (wl step len f k s).1 = len (wl step len f k s).2
  | 0, k, s, fuel, hi, hf, hg => by have := hN k s hi; omega
  | f + 1, k, s, fuel, hi, hf, hg => by
    obtain ⟨n1, n2⟩ := hN k s hi
    cases fuel with
    | zero => omega
    | succ fuel =>
      rw [xtg]
      unfold wl
      by_cases h : k < len s
      · obtain ⟨h1, h2⟩ := hs k s hi h
        rw [if_pos h, h1]
        exact x9r mk step len fin I N hN hs he f (k + 1) _ fuel h2 (by omega) (by omega)
      · rw [if_neg h, he k s hi h]
        exact ⟨rfl, hi, by show k = len s; omega⟩
theorem eqLoop {α : Type} [DecidableEq α] {a b : List α} {B : Int → Option (St Int (Unit ⊕ Bool))} (hl : a.length = b.length) (hlen : a.length ≤ 1000000000)
    (hB : ∀ (i : Nat) (h : i < a.length) (h' : i < b.length), B (i : Int) = if a[i] = b[i] then some (.nx ((i + 1 : Nat) : Int)) else some (.out (.inr false))) (hE : B (a.length : Int) = some (.out (.inl ()))) :
    iter B big 0 = some (if a = b then .inl () else .inr false) := by
  obtain ⟨r, h1, h2⟩ := xjj (B := B) (R := fun r => r = if a = b then .inl () else .inr false) (fun i t => t = (i : Int) ∧ i ≤ a.length ∧ ∀ j (h : j < a.length) (h' : j < b.length), j < i → a[j] = b[j]) a.length (by
    rintro i t ⟨rfl, hi, hj⟩
    refine ⟨hi, ?_⟩
    by_cases hlt : i < a.length
    · rw [hB i hlt (by omega)]
      by_cases he : a[i] = b[i]
      · rw [if_pos he]
        refine .inl ⟨_, rfl, rfl, by omega, fun j h h' hji => ?_⟩
        by_cases e : j = i
        · subst e; exact he
        · exact hj j h h' (by omega)
      · rw [if_neg he]
        refine .inr ⟨_, rfl, ?_⟩
        rw [if_neg]
        rintro rfl
        exact he rfl
    · obtain rfl : i = a.length := by omega
      rw [hE]
      refine .inr ⟨_, rfl, ?_⟩
      rw [if_pos (List.ext_getElem hl fun j h h' => hj j h h' h)]) big 0 0 ⟨rfl, by omega, fun j _ _ h => by omega⟩ (by rw [big_eq]; omega)
  rw [h1, h2]
theorem xqh {α : Type} {p : α → Option Bool} {f : α → Bool} : ∀ (l : List α), (∀ x ∈ l, p x = some (f x)) → l.length < 1000000000000 → xhe p l = some (l.any f) := by
  have key : ∀ (l : List α) (i : Nat), (∀ x ∈ l, p x = some (f x)) → ∃ r, idxM p l i = some r ∧ (0 ≤ r ↔ l.any f = true) := by
    intro l
    induction l with
    | nil => intro i _; exact ⟨-1, rfl, by simp⟩
    | cons x l ih =>
      intro i h
      unfold idxM
      rw [h x (by simp)]
      simp only [Option.bind_some]
      by_cases hx : f x = true
      · rw [if_pos hx]; exact ⟨_, rfl, by simp [hx]⟩
      · rw [if_neg hx]
        obtain ⟨r, h1, h2⟩ := ih (i + 1) (fun y hy => h y (by simp [hy]))
        exact ⟨r, h1, by rw [h2]; simp [hx]⟩
  intro l h hl
  obtain ⟨r, h1, h2⟩ := key l 0 h
  unfold xhe indexM ck
  rw [if_pos (by omega)]
  simp only [Option.bind_some]
  rw [h1]
  simp only [Option.bind_some]
  congr 1
  cases ha : l.any f with
  | true => simp [h2.2 ha]
  | false =>
    have : ¬ 0 ≤ r := fun h => by have := h2.1 h; rw [ha] at this; cases this
    simp [this]
theorem x0v {α : Type} {p : α → Option Bool} (h : ∀ x, ∃ r, p x = some r) : ∃ f : α → Bool, ∀ x, p x = some (f x) := ⟨fun x => Classical.choose (h x), fun x => Classical.choose_spec (h x)⟩
end Go.Proofs.YtmacnoajlofdbaaDoor.AL

/- Plain laws: the guard of chapter 16's statements. -/
set_option linter.all false
namespace Go.Proofs.YtmacnoajlofdbaaDoor.AL
open Go Go.Proofs
theorem xh3 (n : Int) : ∃ r, x9d n = some r := by
  unfold x9d
  repeat' split
  all_goals exact ⟨_, rfl⟩
theorem xo7 (s : ByteArray) : ∃ r, x3g s = some r := by
  unfold x3g
  by_cases h1 : (s.size : Int) < 1
  · rw [if_pos h1]; exact ⟨_, rfl⟩
  rw [if_neg h1]
  by_cases h2 : 12 < (s.size : Int)
  · rw [if_pos h2]; exact ⟨_, rfl⟩
  rw [if_neg h2]
  split
  · exact ⟨_, rfl⟩
  split
  · exact ⟨_, rfl⟩
  obtain ⟨r, h3, _⟩ := xjj (B := xvg s) (R := fun _ => True) (fun i t => t = (i : Int) ∧ i ≤ s.size) s.size (by
    rintro i t ⟨rfl, hi⟩
    refine ⟨hi, ?_⟩
    simp only [xvg]
    by_cases hlt : i < s.size
    · rw [if_pos (by omega)]
      have hx : ixB s (i : Int) = some s[i] := by
        unfold ixB
        rw [if_pos (by omega)]
        simp [hlt]
      rw [hx]
      simp only [Option.bind_some]
      obtain ⟨r, hr⟩ := xh3 (s[i].toNat : Int)
      rw [hr]
      simp only [Option.bind_some]
      split
      · exact .inr ⟨_, rfl, trivial⟩
      · rw [wr_suc (by omega)]
        exact .inl ⟨_, rfl, rfl, by omega⟩
    · rw [if_neg (by omega)]
      exact .inr ⟨_, rfl, trivial⟩) big 0 0 ⟨rfl, by omega⟩ (by rw [big_eq]; omega)
  rw [h3]
  cases r with
  | inl u => exact ⟨_, rfl⟩
  | inr r => exact ⟨_, rfl⟩
theorem xxdb (e : Entry) : ∃ r, x8g e = some r := by
  unfold x8g
  obtain ⟨r, hr⟩ := xo7 e.name
  rw [hr]
  exact ⟨_, rfl⟩
structure NB (x : Node) : Prop where
  ents : x.entries.length ≤ 16
  has0 : 0 ≤ x.attr.has
  has1 : x.attr.has ≤ 31
theorem xmx (x : Node) : ∃ r, xig x = some r ∧ (r = true → NB x ∧ x.data.length ≤ 300) := by
  unfold xig
  obtain ⟨r, h3, h4⟩ := xjj (B := xhh x) (R := fun r => match r with | .inl _ => True | .inr r => r = false) (fun i t => t = (i : Int) ∧ i ≤ x.entries.length ∧ ∀ (h : 0 < i) (h' : i - 1 < x.entries.length), (i : Int) - 1 ≤ x.entries[i - 1].slot ∧ x.entries[i - 1].slot < 16) 16 (by
    rintro i t ⟨rfl, hi, hp⟩
    refine ⟨?_, ?_⟩
    · by_cases h0 : 0 < i
      · have := hp h0 (by omega); omega
      · omega
    simp only [xhh]
    by_cases hlt : i < x.entries.length
    · have hi16 : i ≤ 16 := by
        by_cases h0 : 0 < i
        · have := hp h0 (by omega); omega
        · omega
      rw [if_pos (by omega), ix_at hlt]
      simp only [Option.bind_some]
      by_cases c1 : x.entries[i].slot < 0
      · rw [if_pos c1]; exact .inr ⟨_, rfl, rfl⟩
      rw [if_neg c1]
      by_cases c2 : 16 ≤ x.entries[i].slot
      · rw [if_pos c2]; exact .inr ⟨_, rfl, rfl⟩
      rw [if_neg c2]
      by_cases c3 : 0 < i
      · have hw : wr ((i : Int) - 1) = ((i - 1 : Nat) : Int) := by rw [wr_in (by omega) (by omega)]; omega
        have hlt' : i - 1 < x.entries.length := by omega
        rw [if_pos (by omega), hw, ix_at hlt']
        simp only [Option.bind_some]
        by_cases c4 : x.entries[i].slot ≤ x.entries[i - 1].slot
        · rw [if_pos c4]; exact .inr ⟨_, rfl, rfl⟩
        · rw [if_neg c4, wr_suc (by omega)]
          refine .inl ⟨_, rfl, rfl, by omega, fun h h' => ?_⟩
          have := hp c3 hlt'
          simp only [Nat.add_sub_cancel]
          omega
      · rw [if_neg (by omega), wr_suc (by omega)]
        refine .inl ⟨_, rfl, rfl, by omega, fun h h' => ?_⟩
        simp only [Nat.add_sub_cancel]
        omega
    · rw [if_neg (by omega)]
      exact .inr ⟨_, rfl, trivial⟩) big 0 0 ⟨rfl, by omega, fun h => by omega⟩ (by rw [big_eq]; omega)
  rw [h3]
  cases r with
  | inr r => simp only at h4; subst h4; exact ⟨_, rfl, fun h => by cases h⟩
  | inl u =>
    simp only [Option.bind_some]
    repeat' (first
      | exact ⟨_, rfl, fun h => by cases h⟩
      | split)
    rename_i c1 c2 c3 c4 c5 c6 c7 c8 c9
    obtain ⟨f, hf⟩ := x0v xxdb
    rw [xqh (f := f) x.entries (fun y _ => hf y) (by omega)]
    exact ⟨_, rfl, fun _ => ⟨⟨by omega, c5, c6⟩, by omega⟩⟩
theorem xc9 (x : Node) : ∃ r, xig x = some r ∧ (r = true → NB x) := by
  obtain ⟨r, h1, h2⟩ := xmx x
  exact ⟨r, h1, fun h => (h2 h).1⟩
theorem x1m (b : Branch) (k : Int) (hk : k ≤ 1000) : ∃ r, x8e b k = some r ∧ (r = true → (b.nodes.length : Int) ≤ k ∧ ∀ x ∈ b.nodes, NB x ∧ x.data.length ≤ 300) := by
  unfold x8e
  by_cases h : (b.nodes.length : Int) ≤ k
  · rw [if_pos h]
    have ht : ∀ x, ∃ r, xmd x = some r := fun x => by
      obtain ⟨r, h1, _⟩ := xc9 x
      unfold xmd
      rw [h1]
      exact ⟨_, rfl⟩
    obtain ⟨f, hf⟩ := x0v ht
    rw [xqh (f := f) b.nodes (fun y _ => hf y) (by omega)]
    refine ⟨_, rfl, fun hr => ⟨by omega, fun x hx => ?_⟩⟩
    have hx' : f x = false := by
      simp only [Bool.not_eq_true', List.any_eq_false] at hr
      simpa using hr x hx
    obtain ⟨r, h1, h2⟩ := xmx x
    have := hf x
    unfold xmd at this
    rw [h1, hx'] at this
    simp only [Option.bind_some, Option.some.injEq, Bool.not_eq_false'] at this
    exact h2 this
  · rw [if_neg h]
    exact ⟨_, rfl, fun h => by cases h⟩
structure SB (s : Stack) : Prop where
  low : s.lowers.length ≤ 3
  up : s.upper.nodes.length ≤ 24 ∧ ∀ x ∈ s.upper.nodes, NB x
  lows : ∀ b ∈ s.lowers, b.nodes.length ≤ 24 ∧ ∀ x ∈ b.nodes, NB x
structure SD (s : Stack) (k : Int) : Prop where
  few : (s.upper.nodes.length : Int) ≤ k
  data : ∀ x ∈ s.upper.nodes, x.data.length ≤ 300
  datas : ∀ b ∈ s.lowers, (b.nodes.length : Int) ≤ k ∧ ∀ x ∈ b.nodes, x.data.length ≤ 300
theorem x4u (s : Stack) (k : Int) (hk : k ≤ 24) : ∃ r, x0d s k = some r ∧ (r = true → SB s ∧ SD s k) := by
  unfold x0d
  by_cases h : (s.lowers.length : Int) ≤ 3
  · rw [if_pos h]
    obtain ⟨r, h1, h2⟩ := x1m s.upper k (by omega)
    rw [h1]
    simp only [Option.bind_some]
    cases r with
    | false => exact ⟨false, by simp, fun h => by cases h⟩
    | true =>
      rw [if_pos rfl]
      have ht : ∀ x, ∃ r, xtd x k = some r := fun x => by
        obtain ⟨r, h1, _⟩ := x1m x k (by omega)
        unfold xtd
        rw [h1]
        exact ⟨_, rfl⟩
      obtain ⟨f, hf⟩ := x0v ht
      rw [xqh (f := f) s.lowers (fun y _ => hf y) (by omega)]
      refine ⟨_, rfl, fun hr => ?_⟩
      have hu := h2 rfl
      have hl : ∀ x ∈ s.lowers, (x.nodes.length : Int) ≤ k ∧ ∀ y ∈ x.nodes, NB y ∧ y.data.length ≤ 300 := fun x hx => by
        have hx' : f x = false := by
          simp only [Bool.not_eq_true', List.any_eq_false] at hr
          simpa using hr x hx
        obtain ⟨r, h1, h2⟩ := x1m x k (by omega)
        have := hf x
        unfold xtd at this
        rw [h1, hx'] at this
        simp only [Option.bind_some, Option.some.injEq, Bool.not_eq_false'] at this
        exact h2 this
      exact ⟨⟨by omega, ⟨by omega, fun x hx => (hu.2 x hx).1⟩, fun b hb => ⟨by have := (hl b hb).1; omega, fun x hx => ((hl b hb).2 x hx).1⟩⟩, ⟨hu.1, fun x hx => (hu.2 x hx).2, fun b hb => ⟨(hl b hb).1, fun x hx => ((hl b hb).2 x hx).2⟩⟩⟩
  · rw [if_neg h]
    exact ⟨_, rfl, fun h => by cases h⟩
theorem xu7 (s : Stack) : ∃ r, x0d s 24 = some r ∧ (r = true → SB s) := by
  obtain ⟨r, h1, h2⟩ := x4u s 24 (by omega)
  exact ⟨r, h1, fun h => (h2 h).1⟩
end Go.Proofs.YtmacnoajlofdbaaDoor.AL

