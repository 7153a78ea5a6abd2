/- A law of the given program is proved: part 33 of 47. -/
import Derived.Test.YtjmnoaoeediodaaDoorRows
import Derived.Test.YtjmnoaoeediodaaDoorTie
import Derived.Test.YtjmnoaoeediodaaDoorCards
import Derived.PinnedBridge
import Derived.Lay
import Derived.SevenTiedAt
import Derived.Lib.SplitLaws
import Derived.Lib.IndexMore
import Derived.Lib.AtoiAllCases
import Derived.Test.YtjmnoaoeediodaaDoorC32
set_option linter.all false
/- From the contract of the law to the given statement, a tied card: the frame, printed by lawgend.py. -/
set_option linter.all false
namespace Go.Proofs.YtjmnoaoeediodaaDoor
open AL Go Go.RowKit Go.ChangeShapes Go.WideShapes Go.ChangeAt
theorem xgp : ownKnob Tryd.prog.godebug = none := by kernel_rfl
theorem x9e : laidOutB Tryd.prog = true := by kernel_rfl
set_option maxRecDepth 100000 in
theorem xpm (h : ∀ y0 : Int, ∀ y1 : AL.Finding, ∀ y2 : ByteArray, (fun n : Int => IntKind.i64.min ≤ n ∧ n ≤ IntKind.i64.max) y0 → Finding.fine y1 → (fun s : ByteArray => s.size ≤ maxLen) y2 → Ok Tryd.prog 3 [int y0, xd y1, str y2] (bool true)) (os : Os) (started : os.Started) (H : Type) (enc : TypeId × Value → H) :
    ReturnsInHanded {} Tryd.checked os 3 .any (fun w args => (Rows.reportTellsSpec.pre enc Tryd.prog Tryd.f3 [] false w args ∧ laidMetH Tryd.prog Rows.reportTellsRow.laid w) ∧ sizedMet enc Tryd.prog Tryd.f3 (OpenSpec.ofChange Rows.reportTellsSpec) false w args) (Rows.reportTellsSpec.post enc Tryd.prog Tryd.f3 false true false false) := by
  refine xue (C := Tryd.checked) (X := fun w _ => laidMetH Tryd.prog Rows.reportTellsRow.laid w) (fun _ _ _ hh h => h.of_heap hh) xgp started (by kernel_rfl) Tryd.func3
    (ChangeSpec.witness_shaped (enc := enc) (C := Tryd.checked) (os := os) (X := fun w _ => laidMetH Tryd.prog Rows.reportTellsRow.laid w) false (World.laidAll Tryd.prog os Rows.reportTellsRow.laid) #[.int .i64 0, .agg #[.int .i64 0, .int .i64 0, .int .i64 0, .int .i64 0], .string ⟨#[]⟩] 8 (World.laidAll_os _ _ _)
      (World.shaped_of_ZipB (by kernel_rfl) (by kernel_rfl)) (by kernel_rfl) (by kernel_rfl) (by kernel_rfl)
      (by rw [MakeChecks.laidMetH_plain _ _ _ (by kernel_rfl)]; exact laidMet_laidAll _ (by kernel_rfl) (by kernel_rfl))) ?_
  intro W base args ds gs before hval0 hW hcnd hwt hL hsh _
  have hval : ∀ (j : Nat) t v, Tryd.f3.params[j]? = some t → args[j]? = some v → Value.okWide Tryd.prog W .any base t v := hval0
  have hgw : GW W := xpg hsh hL
  have hW' := hW
  obtain ⟨p, q, hA0, hV, rfl, hfz, hnd⟩ := hW
  have hA : DataW.TrodAll enc Tryd.prog W 0 (fun _ => true) true [3, 23, 9] args.toList ds p := hA0
  have hval : ∀ (j : Nat) t v, (#[3, 23, 9] : Array Nat)[j]? = some t → args[j]? = some v → Value.okWide Tryd.prog W .any base t v := hval
  obtain ⟨v0, vs0, d0, ds0, p0, q0, hargs, rfl, rfl, h0, r0⟩ := trodAll_cons hA
  obtain ⟨v1, vs1, d1, ds1, p1, q1, rfl, rfl, rfl, h1, r1⟩ := trodAll_cons r0
  obtain ⟨v2, vs2, d2, ds2, p2, q2, rfl, rfl, rfl, h2, r2⟩ := trodAll_cons r1
  obtain ⟨rfl, rfl, rfl⟩ := trodAll_nil r2
  obtain rfl : args = #[v0, v1, v2] := by cases args; simp_all
  obtain ⟨rfl, rfl⟩ := trodVars_none hV
  have lt0 : ∀ x ∈ p0, x.block < W.heap.size := by obtain ⟨m, hm⟩ := h0; exact DataW.trod_lt m _ _ _ hm
  obtain ⟨n0, rfl, rfl, rfl, _⟩ := open_int (show Program.underlying Tryd.prog 3 = some (.int .i64) by kernel_rfl) (hval 0 3 v0 rfl rfl) h0
  obtain ⟨x0, w0, o0⟩ := xup rd_3 rfl h0
  have lt1 : ∀ x ∈ p1, x.block < W.heap.size := by obtain ⟨m, hm⟩ := h1; exact DataW.trod_lt m _ _ _ hm
  obtain ⟨cs1, hv1, _⟩ := okWide_struct (xre xwg).choose_spec (hval 1 23 v1 rfl rfl)
  subst hv1
  obtain ⟨x1, w1, o1⟩ := xsj rd_23 (fun _ => rfl) h1
  have lt2 : ∀ x ∈ p2, x.block < W.heap.size := by obtain ⟨m, hm⟩ := h2; exact DataW.trod_lt m _ _ _ hm
  obtain ⟨n2, rfl, rfl, rfl, _⟩ := Go.ChangeMaps.open_string (show Program.underlying Tryd.prog 9 = some .string by kernel_rfl) (hval 2 9 v2 rfl rfl) h2
  obtain ⟨x2, w2, o2⟩ := xup rd_9 rfl h2
  have hvr : VReps (Ew W) [int x0, xd x1, str x2] [_, _, _] := .cons w0 (.cons w1 (.cons w2 (.nil)))
  refine (xrh hgw (h x0 x1 x2 o0 o1 o2) hvr).mono fun e W' ⟨he, bel⟩ => ?_
  subst he
  exact ⟨_, rfl, _, _, _, [], _, [], hW', trodAll_mk1 (shut_bool (show Program.underlying Tryd.prog 4 = some .bool by kernel_rfl) _), (trodAll_cons_mk (Below.trod x9e (by kernel_rfl) (of_decide_eq_true (by kernel_rfl)) h0 bel lt0) (trodAll_cons_mk (Below.trod x9e (by kernel_rfl) (of_decide_eq_true (by kernel_rfl)) h1 bel lt1) (trodAll_cons_mk (Below.trod x9e (by kernel_rfl) (of_decide_eq_true (by kernel_rfl)) h2 bel lt2) trodAll_mk0))), rfl, bel.frame _, fun h => by cases h⟩
theorem xvk (h : ∀ y0 : Int, ∀ y1 : AL.Finding, ∀ y2 : ByteArray, (fun n : Int => IntKind.i64.min ≤ n ∧ n ≤ IntKind.i64.max) y0 → Finding.fine y1 → (fun s : ByteArray => s.size ≤ maxLen) y2 → Ok Tryd.prog 3 [int y0, xd y1, str y2] (bool true)) : Rows.ReportTellsSaid :=
  OpenClaim.holds_of_wide 3 Tryd.f3 rfl rfl rfl rfl rfl rfl rfl ⟨rfl, rfl, rfl, rfl, rfl⟩ rfl rfl rfl rfl rfl (by kernel_rfl) Tryd.func3 (by kernel_rfl)
    (of_decide_eq_true (by kernel_rfl)) (by unfold Func.isWrapper; first | (rw [if_pos (by decide +kernel)]; kernel_rfl) | (rw [if_neg (by decide +kernel)]; exact ⟨rfl, rfl⟩))
    (fun os started H enc _ => xpm h os started H enc)
theorem xql (hs : Rows.ReportTellsSaid) : Rows.ReportTellsCardSaid :=
  Claim7.holds_tied_plain_at .later [] [.data, .data, .data, .data, .sentinel, .sentinel, .listed, .data, .pinned] true (true, "1cccac921840daa4a4c134b0506586e6111335d761ad2c5ba779081d6d16dfbb") true hs (fun _ h => by cases h) (by kernel_rfl) (fun _ h => by cases h) reportTells_row_tie rfl ⟨rfl, rfl⟩ (by kernel_rfl) rfl
    (fun f fn hf hfn => by
      obtain rfl : f = 3 := Option.some.inj ((show Tryd.prog.funcNamed "craquelure/craquelurelaw37.ReportTells" = some 3 by kernel_rfl).symm.trans hf) |>.symm
      obtain rfl : fn = Tryd.f3 := (Option.some.inj (Tryd.func3.symm.trans hfn)).symm
      exact ⟨by kernel_rfl, fun j t ht => by
        have hm : t ∈ [3, 23, 9] := by have := Array.mem_of_getElem? (xs := (#[3, 23, 9] : Array Nat)) (show (#[3, 23, 9] : Array Nat)[j]? = some t from ht); simpa using this
        have hall : ([3, 23, 9].all fun u => !Tryd.prog.wantsStandIn u) = true := by kernel_rfl
        exact (show Tryd.prog.wantsStandIn t = false by simpa using List.all_eq_true.1 hall t hm)⟩)
    (by kernel_rfl)
end Go.Proofs.YtjmnoaoeediodaaDoor

/- Texts cut at a byte. -/
set_option linter.all false
namespace Go.Proofs.YtjmnoaoeediodaaDoor.AL
open Go Go.Proofs
def bB (l : List UInt8) : ByteArray := ⟨l.toArray⟩
theorem xni (l : List UInt8) : (bB l).data.toList = l := rfl
theorem bB_of (s : ByteArray) : bB s.data.toList = s := rfl
theorem bB_app (a b : List UInt8) : bB a ++ bB b = bB (a ++ b) := by
  apply ByteArray.ext
  simp [bB]
theorem xh (a : List UInt8) : (bB a).size = a.length := by simp [bB, ByteArray.size]
theorem bB_inj {a b : List UInt8} (h : bB a = bB b) : a = b := by
  have := congrArg (fun x : ByteArray => x.data.toList) h
  simpa [bB] using this
theorem bB_eq (s : ByteArray) : ∃ l, s = bB l := ⟨s.data.toList, (bB_of s).symm⟩
def splitC (c : UInt8) : List UInt8 → List (List UInt8)
  | [] => [[]]
  | b :: l => if b = c then [] :: splitC c l else match splitC c l with
    | [] => [[b]]
    | h :: t => (b :: h) :: t
theorem x1w (c : UInt8) (l : List UInt8) : splitC c l ≠ [] := by
  cases l with
  | nil => simp [splitC]
  | cons b l =>
    unfold splitC
    split
    · simp
    · split <;> simp
theorem xvn (c b : UInt8) (l : List UInt8) : splitC c (b :: l) = if b = c then [] :: splitC c l else match splitC c l with
    | [] => [[b]]
    | h :: t => (b :: h) :: t := rfl
theorem xmn {c : UInt8} : ∀ {x : List UInt8}, c ∉ x → splitC c x = [x]
  | [], _ => rfl
  | b :: x, h => by
    unfold splitC
    rw [if_neg (fun e => h (by simp [e])), xmn (fun hx => h (by simp [hx]))]
theorem xgk {c : UInt8} : ∀ {x : List UInt8} (r : List UInt8), c ∉ x → splitC c (x ++ c :: r) = x :: splitC c r
  | [], r, _ => by simp [splitC]
  | b :: x, r, h => by
    rw [List.cons_append, xvn, if_neg (fun e => h (by simp [e])), xgk r (fun hx => h (by simp [hx]))]
theorem xrg (c b : UInt8) (l : List UInt8) : List.isPrefixOf [c] (b :: l) = (c == b) := by simp [List.isPrefixOf]
theorem x4e (b : UInt8) (l sub : List UInt8) : Lib.index (b :: l) sub = if sub.isPrefixOf (b :: l) = true then 0 else if (Lib.index l sub == -1) = true then -1 else Lib.index l sub + 1 := rfl
theorem x3r (c : UInt8) : ∀ l : List UInt8, Lib.splitK [c] 0 (l.count c) l = splitC c l
  | [] => rfl
  | b :: l => by
    have ih := x3r c l
    unfold splitC
    by_cases hb : b = c
    · subst hb
      rw [if_pos rfl, List.count_cons_self]
      unfold Lib.splitK
      have hi : Lib.index (b :: l) [b] = 0 := by rw [x4e, xrg, beq_self_eq_true]; rfl
      rw [hi]
      simp only [Int.reduceNeg, Int.reduceBEq, Bool.false_eq_true, if_false]
      rw [← ih]
      rfl
    · rw [if_neg hb, List.count_cons_of_ne hb]
      have hp : List.isPrefixOf [c] (b :: l) = false := by rw [xrg]; exact beq_eq_false_iff_ne.2 (fun h => hb h.symm)
      have hg := Lib.index_ge l [c]
      by_cases hm : Lib.index l [c] = -1
      · have hi : Lib.index (b :: l) [c] = -1 := by rw [x4e, hp, hm]; rfl
        have e1 : ∀ k, Lib.splitK [c] 0 k (b :: l) = [b :: l] := by
          intro k
          cases k with
          | zero => rfl
          | succ k => unfold Lib.splitK; rw [hi]; rfl
        have e2 : ∀ k, Lib.splitK [c] 0 k l = [l] := by
          intro k
          cases k with
          | zero => rfl
          | succ k => unfold Lib.splitK; rw [hm]; rfl
        rw [e1, ← ih, e2]
      · obtain ⟨i, hi0⟩ : ∃ i : Nat, Lib.index l [c] = i := ⟨(Lib.index l [c]).toNat, by omega⟩
        have hi : Lib.index (b :: l) [c] = ((i + 1 : Nat) : Int) := by
          rw [x4e, hp, hi0]
          have : ((i : Int) == -1) = false := by apply beq_eq_false_iff_ne.2; omega
          rw [this]
          simp
        cases hc : l.count c with
        | zero =>
          rw [hc] at ih
          rw [← ih]
          rfl
        | succ k =>
          rw [hc] at ih
          rw [← ih]
          unfold Lib.splitK
          rw [hi, hi0]
          have h1 : (((i + 1 : Nat) : Int) == -1) = false := by apply beq_eq_false_iff_ne.2; omega
          have h2 : ((i : Int) == -1) = false := by apply beq_eq_false_iff_ne.2; omega
          simp [h1, h2, List.take_succ_cons, List.drop_succ_cons]
          intro hh
          omega
theorem xxz (c : UInt8) (l : List UInt8) : Lib.splitB (bB [c]) 0 (Lib.countB (bB l) (bB [c])) (bB l) = (splitC c l).map bB := by
  have h1 := Lib.splitB_data (bB [c]) 0 (Lib.countB (bB l) (bB [c])) (bB l)
  rw [xni, xni] at h1
  have h2 : Lib.countB (bB l) (bB [c]) = l.count c := by
    show Lib.count (bB l).data.toList (bB [c]).data.toList = _
    rw [xni, xni, Lib.count_one]
  rw [h2, x3r] at h1
  rw [h2, ← h1, List.map_map]
  have h3 : (bB ∘ fun x : ByteArray => x.data.toList) = id := by funext x; rfl
  rw [h3, List.map_id]
theorem xdp {c : UInt8} : ∀ {x : List UInt8}, c ∉ x → Lib.index x [c] = -1
  | [], _ => rfl
  | b :: x, h => by
    rw [x4e, xrg, if_neg (by simpa using fun e => h (by simp [e])), xdp (fun hx => h (by simp [hx]))]
    rfl
theorem xzq {c : UInt8} : ∀ {x : List UInt8} (r : List UInt8), c ∉ x → Lib.index (x ++ c :: r) [c] = (x.length : Int)
  | [], r, _ => by rw [List.nil_append, x4e, xrg, if_pos (by simp)]; rfl
  | b :: x, r, h => by
    rw [List.cons_append, x4e, xrg, if_neg (by simpa using fun e => h (by simp [e])), xzq r (fun hx => h (by simp [hx]))]
    have : (((x.length : Nat) : Int) == -1) = false := by apply beq_eq_false_iff_ne.2; omega
    rw [this]
    simp
theorem xpi {c : UInt8} {x : List UInt8} (r : List UInt8) (h : c ∉ x) : Lib.cut (x ++ c :: r) [c] = (x, r, true) := by
  unfold Lib.cut
  rw [xzq r h, if_pos (by omega)]
  simp
theorem x8z {c : UInt8} {x : List UInt8} (h : c ∉ x) : Lib.cut x [c] = (x, [], false) := by
  unfold Lib.cut
  rw [xdp h, if_neg (by omega)]
end Go.Proofs.YtjmnoaoeediodaaDoor.AL

/- Findings as text: plain laws. -/
set_option linter.all false
namespace Go.Proofs.YtjmnoaoeediodaaDoor.AL
open Go Go.Lib
def wordsL : List (List UInt8) := [[112, 111, 105, 110, 116, 101, 114], [97, 116, 116, 114, 105, 98, 117, 116, 101], [115, 112, 101, 99, 105, 97, 108], [105, 110, 111, 100, 101], [101, 110, 116, 114, 121], [116, 119, 105, 99, 101], [111, 114, 112, 104, 97, 110], [111, 112, 97, 113, 117, 101], [102, 111, 114, 109], [108, 111, 111, 112], [103, 111, 110, 101], [115, 97, 109, 101], [111, 114, 105, 103, 105, 110], [109, 101, 116, 97], [119, 104, 105, 116, 101], [105, 110, 100, 101, 120], [119, 111, 114, 107], [105, 109, 112, 117, 114, 101], [108, 105, 110, 107, 115], [115, 104, 111, 119, 110], [98, 105, 116, 109, 97, 112], [108, 111, 119, 101, 114], [112, 101, 110, 100, 105, 110, 103]]
def wordL (n : Int) : List UInt8 := if n < 1 then [] else if 23 < n then [] else (wordsL[(n - 1).toNat]?).getD []
def wordQ (n : Int) : List UInt8 := if wordL n = [] then [63] else wordL n
def numL (w : List UInt8) : Int := (List.range 23).foldl (fun (c : Int) (i : Nat) => if (wordsL[i]?).getD [] = w then ((i : Int) + 1) else c) 0
theorem xzk : ∀ i : Fin 23, wordL ((i.val : Int) + 1) ≠ [] ∧ numL (wordL ((i.val : Int) + 1)) = (i.val : Int) + 1 ∧ wordL ((i.val : Int) + 1) = (wordsL[i.val]?).getD [] ∧ (∀ c ∈ wordL ((i.val : Int) + 1), c ≠ 32 ∧ c ≠ 10 ∧ c ≠ 58) := by decide +kernel
theorem of_fin {p : Int → Prop} (h : ∀ i : Fin 23, p ((i.val : Int) + 1)) {n : Int} (h0 : 1 ≤ n) (h1 : n ≤ 23) : p n := by
  have := h ⟨(n - 1).toNat, by omega⟩
  have e : (((n - 1).toNat : Nat) : Int) + 1 = n := by omega
  simp only [e] at this
  exact this
theorem xoy {n : Int} (h0 : 1 ≤ n) (h1 : n ≤ 23) : wordL n ≠ [] := of_fin (p := fun n => wordL n ≠ []) (fun i => (xzk i).1) h0 h1
theorem xuh {n : Int} (h0 : 1 ≤ n) (h1 : n ≤ 23) : numL (wordL n) = n := of_fin (p := fun n => numL (wordL n) = n) (fun i => (xzk i).2.1) h0 h1
theorem xng {n : Int} (h : n < 1 ∨ 23 < n) : wordL n = [] := by
  unfold wordL
  rcases h with h | h
  · rw [if_pos h]
  · rw [if_neg (by omega), if_pos h]
theorem xkh {n : Int} (h0 : 1 ≤ n) (h1 : n ≤ 23) : wordQ n = wordL n := by unfold wordQ; rw [if_neg (xoy h0 h1)]
theorem xtm {n : Int} (h : n < 1 ∨ 23 < n) : wordQ n = [63] := by unfold wordQ; rw [if_pos (xng h)]
theorem xze (n : Int) (c : UInt8) (hc : c ∈ wordQ n) : c ≠ 32 ∧ c ≠ 10 ∧ c ≠ 58 := by
  by_cases h : n < 1 ∨ 23 < n
  · rw [xtm h] at hc
    simp only [List.mem_singleton] at hc
    subst hc
    decide
  · rw [xkh (by omega) (by omega)] at hc
    exact of_fin (p := fun n => ∀ c ∈ wordL n, c ≠ 32 ∧ c ≠ 10 ∧ c ≠ 58) (fun i => (xzk i).2.2.2) (n := n) (by omega) (by omega) c hc
theorem x3k (w : List UInt8) : ∀ (L : List Nat) (c : Int), L.foldl (fun (c : Int) (i : Nat) => if (wordsL[i]?).getD [] = w then ((i : Int) + 1) else c) c = c ∨ ∃ i ∈ L, (wordsL[i]?).getD [] = w ∧ L.foldl (fun (c : Int) (i : Nat) => if (wordsL[i]?).getD [] = w then ((i : Int) + 1) else c) c = (i : Int) + 1
  | [], c => .inl rfl
  | i :: L, c => by
    rw [List.foldl_cons]
    by_cases h : (wordsL[i]?).getD [] = w
    · rw [if_pos h]
      rcases x3k w L ((i : Int) + 1) with e | ⟨j, hj, h1, h2⟩
      · exact .inr ⟨i, by simp, h, e⟩
      · exact .inr ⟨j, by simp [hj], h1, h2⟩
    · rw [if_neg h]
      rcases x3k w L c with e | ⟨j, hj, h1, h2⟩
      · exact .inl e
      · exact .inr ⟨j, by simp [hj], h1, h2⟩
theorem xui {w : List UInt8} (h : ¬ numL w = 0) : 1 ≤ numL w ∧ numL w ≤ 23 ∧ wordL (numL w) = w := by
  rcases x3k w (List.range 23) 0 with e | ⟨i, hi, h1, h2⟩
  · exact absurd e h
  · have hi' : i < 23 := List.mem_range.1 hi
    have e : numL w = (i : Int) + 1 := h2
    rw [e]
    refine ⟨by omega, by omega, ?_⟩
    have := (xzk ⟨i, hi'⟩).2.2.1
    simp only at this
    rw [this, h1]
theorem numL_q : numL [63] = 0 := by decide +kernel
theorem xvd (v : Int) {c : UInt8} (h : c ∈ itoa v) : c ≠ 32 ∧ c ≠ 10 ∧ c ≠ 58 := by
  have := x6u v c h
  refine ⟨?_, ?_, ?_⟩ <;> rintro rfl <;> revert this <;> decide
def placeL (y z : Int) : List UInt8 := itoa y ++ 58 :: itoa z
def findL (f : Finding) : List UInt8 := wordQ f.clause ++ 32 :: (itoa f.layer ++ 58 :: placeL f.ino f.slot)
structure FF (f : Finding) : Prop where
  c0 : 1 ≤ f.clause
  c1 : f.clause ≤ 23
  layer : i64 f.layer
  ino : i64 f.ino
  slot : i64 f.slot
def zeroF : Finding := ⟨0, 0, 0, 0⟩
def readP (s : List UInt8) : Finding × Bool :=
  match splitC 58 (cut s [32]).2.1 with
  | [x, y, z] => match atoiAll x, atoiAll y, atoiAll z with
    | .ok a, .ok b, .ok d => if ¬ numL (cut s [32]).1 = 0 ∧ findL ⟨numL (cut s [32]).1, a, b, d⟩ = s then (⟨numL (cut s [32]).1, a, b, d⟩, true) else (zeroF, false)
    | _, _, _ => (zeroF, false)
  | _ => (zeroF, false)
theorem x6e (s : List UInt8) : (readP s = (zeroF, false)) ∨ ∃ f, FF f ∧ findL f = s ∧ readP s = (f, true) := by
  unfold readP
  split
  · split
    · rename_i h1 h2 h3
      split
      · rename_i h
        have b1 := atoiAll_bounds h1
        have b2 := atoiAll_bounds h2
        have b3 := atoiAll_bounds h3
        have hw := xui h.1
        exact .inr ⟨⟨_, _, _, _⟩, ⟨hw.1, hw.2.1, b1, b2, b3⟩, h.2, rfl⟩
      · exact .inl rfl
    · exact .inl rfl
  · exact .inl rfl
theorem x8h {f : Finding} (h : FF f) : readP (findL f) = (f, true) := by
  have hq : wordQ f.clause = wordL f.clause := xkh h.c0 h.c1
  have hc : cut (findL f) [32] = (wordQ f.clause, itoa f.layer ++ 58 :: placeL f.ino f.slot, true) := xpi _ (fun hm => (xze _ _ hm).1 rfl)
  have hs : splitC 58 (itoa f.layer ++ 58 :: placeL f.ino f.slot) = [itoa f.layer, itoa f.ino, itoa f.slot] := by
    unfold placeL
    rw [xgk _ (fun hm => (xvd _ hm).2.2 rfl), xgk _ (fun hm => (xvd _ hm).2.2 rfl), xmn (fun hm => (xvd _ hm).2.2 rfl)]
  unfold readP
  rw [hc]
  simp only
  rw [hs]
  simp only
  rw [xgj h.layer.1 h.layer.2, xgj h.ino.1 h.ino.2, xgj h.slot.1 h.slot.2, hq, xuh h.c0 h.c1]
  simp only
  have := h.c0
  rw [if_pos (by first | exact ⟨by omega, rfl⟩ | (simp; omega))]
theorem x0m {f : Finding} (h : f.clause < 1 ∨ 23 < f.clause) : readP (findL f) = (zeroF, false) := by
  rcases x6e (findL f) with e | ⟨g, hg, e, _⟩
  · exact e
  · have c1 : cut (findL g) [32] = (wordQ g.clause, itoa g.layer ++ 58 :: placeL g.ino g.slot, true) := xpi _ (fun hm => (xze _ _ hm).1 rfl)
    have c2 : cut (findL f) [32] = (wordQ f.clause, itoa f.layer ++ 58 :: placeL f.ino f.slot, true) := xpi _ (fun hm => (xze _ _ hm).1 rfl)
    rw [e, c2] at c1
    have e2 : wordQ f.clause = wordQ g.clause := congrArg Prod.fst c1
    rw [xtm h, xkh hg.c0 hg.c1] at e2
    have e3 := xuh hg.c0 hg.c1
    rw [← e2, numL_q] at e3
    have := hg.c0
    omega
end Go.Proofs.YtjmnoaoeediodaaDoor.AL

/- Loops of models, in plain words. -/
set_option linter.all false
namespace Go.Proofs.YtjmnoaoeediodaaDoor.AL
open Go Go.Proofs
theorem xyh {S ρ : Type} {B : S → Option (St S ρ)} {R : ρ → Prop} (I : Nat → S → Prop) (N : Nat) (hs : ∀ i s, I i s → i ≤ N ∧ ((∃ s', B s = some (.nx s') ∧ I (i + 1) s') ∨ ∃ r, B s = some (.out r) ∧ R r)) :
    ∀ (fuel i : Nat) (s : S), I i s → N < fuel + i → ∃ r, iter B fuel s = some r ∧ R r
  | 0, i, s, h, hf => by have := (hs i s h).1; omega
  | fuel + 1, i, s, h, hf => by
    rw [xt]
    rcases (hs i s h).2 with ⟨s', h1, h2⟩ | ⟨r, h1, h2⟩
    · rw [h1]
      exact xyh I N hs fuel (i + 1) s' h2 (by omega)
    · rw [h1]
      exact ⟨r, rfl, h2⟩
theorem big_eq : big = 1000000000000000000 := rfl
theorem ix_at {α : Type} {xs : List α} {i : Nat} (h : i < xs.length) : ix xs (i : Int) = some xs[i] := by
  unfold ix
  rw [if_pos (by omega)]
  simp [h]
theorem wr_suc {i : Nat} (h : i < 4611686018427387904) : wr ((i : Int) + 1) = ((i + 1 : Nat) : Int) := by rw [wr_in (by omega) (by omega)]; omega
theorem ap_of {α : Type} {k : Nat} {xs ys : List α} (h : (xs.length + ys.length) * k ≤ 140737488355328) (hk : 0 < k) : ap k xs ys = some (xs ++ ys) := by
  unfold ap
  have : xs.length + ys.length ≤ (xs.length + ys.length) * k := Nat.le_mul_of_pos_right _ hk
  have h2 : xs.length + ys.length ≤ 9223372036854775807 := by omega
  rw [if_pos ⟨h, h2⟩]
theorem xlf {α σ S ρ : Type} {B : S → Option (St S ρ)} (mk : Nat → σ → S) (xs : List α) (step : σ → α → σ) (fin : σ → ρ) (I : Nat → σ → Prop) (hs : ∀ i s (h : i < xs.length), I i s → B (mk i s) = some (.nx (mk (i + 1) (step s xs[i]))) ∧ I (i + 1) (step s xs[i]))
    (he : ∀ s, I xs.length s → B (mk xs.length s) = some (.out (fin s))) {s0 : σ} (h0 : I 0 s0) {fuel : Nat} (hf : xs.length < fuel) : iter B fuel (mk 0 s0) = some (fin (xs.foldl step s0)) ∧ I xs.length (xs.foldl step s0) := by
  have key : ∀ (d i : Nat) (s : σ) (fuel : Nat), d + i = xs.length → I i s → d < fuel → iter B fuel (mk i s) = some (fin ((xs.drop i).foldl step s)) ∧ I xs.length ((xs.drop i).foldl step s) := by
    intro d
    induction d with
    | zero =>
      intro i s fuel hd hi hf
      obtain rfl : i = xs.length := by omega
      cases fuel with
      | zero => omega
      | succ fuel =>
        rw [xt, he s hi]
        simp [hi]
    | succ d ih =>
      intro i s fuel hd hi hf
      cases fuel with
      | zero => omega
      | succ fuel =>
        have hlt : i < xs.length := by omega
        obtain ⟨h1, h2⟩ := hs i s hlt hi
        rw [xt, h1]
        have := ih (i + 1) _ fuel (by omega) h2 (by omega)
        rw [List.drop_eq_getElem_cons hlt]
        exact this
  have := key xs.length 0 s0 fuel (by omega) h0 hf
  simpa using this
end Go.Proofs.YtjmnoaoeediodaaDoor.AL

/- AL: calls that hand back a row of their own, and calls that turn a row in place. -/
set_option linter.all false
namespace Go.Proofs.YtjmnoaoeediodaaDoor.AL
open Go Go.Proofs Go.RowKit
mutual
def inK (K : Nat → Prop) : AV → Prop
  | .val _ => True
  | .agg cs => inKs K cs
  | .tup cs => inKs K cs
  | .sl _ xs => inKs K xs
  | .ptr x _ => inK K x
  | .loc l _ _ _ => K l
  | .msl l _ => K l
  | .mp l => K l
  | .mtl l _ _ _ => K l
  | .fn _ a b => inKs K a ∧ inKs K b
  | .ifc _ x => inK K x
  | .e0 => True
  | .junk => True
def inKs (K : Nat → Prop) : List AV → Prop
  | [] => True
  | x :: xs => inK K x ∧ inKs K xs
end
mutual
theorem VRep.inK {E : Env} : ∀ (x : AV) (u : Value), VRep E x u → AL.inK E.K x
  | .val v, u, h => trivial
  | .agg cs, u, h => by
    simp only [VRep] at h; obtain ⟨us, h1, _⟩ := h
    simpa only [AL.inK] using VReps.inK cs us h1
  | .tup cs, u, h => by
    simp only [VRep] at h; obtain ⟨us, h1, _⟩ := h
    simpa only [AL.inK] using VReps.inK cs us h1
  | .sl sz xs, u, h => by
    simp only [VRep] at h; obtain ⟨us, A, cap, h1, _⟩ := h
    simpa only [AL.inK] using VReps.inK xs us h1
  | .ptr x off, u, h => by
    simp only [VRep] at h; obtain ⟨v, b, o, h1, _⟩ := h
    simpa only [AL.inK] using VRep.inK x v h1
  | .loc l sz i off, u, h => by
    simp only [VRep] at h; obtain ⟨b0, h1, _⟩ := h
    simpa only [AL.inK] using h1
  | .msl l n, u, h => by
    simp only [VRep] at h; obtain ⟨A, c0, h1, _⟩ := h
    simpa only [AL.inK] using h1
  | .mp l, u, h => by
    simp only [VRep] at h; obtain ⟨b0, h1, _⟩ := h
    simpa only [AL.inK] using h1
  | .mtl l sz q n, u, h => by
    simp only [VRep] at h; obtain ⟨A, c0, h1, _⟩ := h
    simpa only [AL.inK] using h1
  | .fn f fi ca, u, h => by
    simp only [VRep] at h; obtain ⟨a, b, h1, h2, _⟩ := h
    simp only [AL.inK]
    exact ⟨VReps.inK fi a h1, VReps.inK ca b h2⟩
  | .ifc t x, u, h => by
    simp only [VRep] at h; obtain ⟨v, h1, _⟩ := h
    simpa only [AL.inK] using VRep.inK x v h1
  | .e0, u, h => trivial
  | .junk, u, h => trivial
theorem VReps.inK {E : Env} : ∀ (xs : List AV) (us : List Value), VReps E xs us → inKs E.K xs
  | [], us, h => trivial
  | x :: xs, us, h => by
    simp only [VReps] at h; obtain ⟨u, us', h1, h2, _⟩ := h
    exact ⟨VRep.inK x u h1, VReps.inK xs us' h2⟩
end
structure Lo (K : Nat → Prop) (E E2 : Env) : Prop where
  K : ∀ j, K j → E2.K j ∧ ∀ p, E2.L j = some p → E.L j = some p
  Z : ∀ b, E.Z b → E2.Z b
  w : E2.w = E.w
theorem SlAt.lo {K : Nat → Prop} {E E2 : Env} (s : Lo K E E2) {sz : Nat} {A : Option Addr} {us : List Value} (h : SlAt E sz A us) : SlAt E2 sz A us := by
  rcases h with h | ⟨b, o, rfl, hz, h⟩
  · exact .inl h
  · exact .inr ⟨b, o, rfl, s.Z b hz, fun i u hu => by rw [s.w]; exact h i u hu⟩
mutual
theorem VRep.lo {K : Nat → Prop} {E E2 : Env} (s : Lo K E E2) : ∀ (x : AV) (u : Value), AL.inK K x → VRep E x u → VRep E2 x u
  | .val v, u, _, h => by simpa only [VRep] using h
  | .agg cs, u, k, h => by
    simp only [AL.inK] at k
    simp only [VRep] at h ⊢
    obtain ⟨us, h1, h2⟩ := h
    exact ⟨us, VReps.lo s cs us k h1, h2⟩
  | .tup cs, u, k, h => by
    simp only [AL.inK] at k
    simp only [VRep] at h ⊢
    obtain ⟨us, h1, h2⟩ := h
    exact ⟨us, VReps.lo s cs us k h1, h2⟩
  | .sl sz xs, u, k, h => by
    simp only [AL.inK] at k
    simp only [VRep] at h ⊢
    obtain ⟨us, A, cap, h1, h2, h3, h4⟩ := h
    exact ⟨us, A, cap, VReps.lo s xs us k h1, h2, h3, h4.lo s⟩
  | .ptr x off, u, k, h => by
    simp only [AL.inK] at k
    simp only [VRep] at h ⊢
    obtain ⟨v, b, o, h1, h2, h3, h4⟩ := h
    exact ⟨v, b, o, VRep.lo s x v k h1, h2, s.Z b h3, by rw [s.w]; exact h4⟩
  | .loc l sz i off, u, k, h => by
    simp only [AL.inK] at k
    simp only [VRep] at h ⊢
    obtain ⟨b0, h1, h2, h3⟩ := h
    exact ⟨b0, (s.K l k).1, h2, fun b c hb => h3 b c ((s.K l k).2 _ hb)⟩
  | .msl l n, u, k, h => by
    simp only [AL.inK] at k
    simp only [VRep] at h ⊢
    obtain ⟨A, c0, h1, h2, h5, h6, h3, h4⟩ := h
    exact ⟨A, c0, (s.K l k).1, h2, h5, h6, fun b c hb => h3 b c ((s.K l k).2 _ hb), fun hb => h4 ((s.K l k).2 _ hb)⟩
  | .mp l, u, k, h => by
    simp only [AL.inK] at k
    simp only [VRep] at h ⊢
    obtain ⟨b0, h1, h2, h3⟩ := h
    exact ⟨b0, (s.K l k).1, h2, fun b c hb => h3 b c ((s.K l k).2 _ hb)⟩
  | .mtl l sz q n, u, k, h => by
    simp only [AL.inK] at k
    simp only [VRep] at h ⊢
    obtain ⟨A, c0, h1, h2, h3, h4⟩ := h
    refine ⟨A, c0, (s.K l k).1, h2, h3, fun hn => ?_⟩
    obtain ⟨b0, h5, h6⟩ := h4 hn
    exact ⟨b0, h5, fun b c hb => h6 b c ((s.K l k).2 _ hb)⟩
  | .fn f fi ca, u, k, h => by
    simp only [AL.inK] at k
    simp only [VRep] at h ⊢
    obtain ⟨a, b, h1, h2, h3⟩ := h
    exact ⟨a, b, VReps.lo s fi a k.1 h1, VReps.lo s ca b k.2 h2, h3⟩
  | .ifc t x, u, k, h => by
    simp only [AL.inK] at k
    simp only [VRep] at h ⊢
    obtain ⟨v, h1, h2⟩ := h
    exact ⟨v, VRep.lo s x v k h1, h2⟩
  | .e0, u, _, h => by simpa only [VRep] using h
  | .junk, u, _, h => by simp only [VRep]
theorem VReps.lo {K : Nat → Prop} {E E2 : Env} (s : Lo K E E2) : ∀ (xs : List AV) (us : List Value), inKs K xs → VReps E xs us → VReps E2 xs us
  | [], us, _, h => by simpa only [VReps] using h
  | x :: xs, us, k, h => by
    simp only [VReps] at h ⊢
    obtain ⟨u, us', h1, h2, h3⟩ := h
    exact ⟨u, us', VRep.lo s x u k.1 h1, VReps.lo s xs us' k.2 h2, h3⟩
end
mutual
theorem inK_closed {K : Nat → Prop} : ∀ (x : AV), closed x = true → AL.inK K x
  | .val v, h => trivial
  | .agg cs, h => by simp only [closed] at h; simpa only [AL.inK] using inKs_closed cs h
  | .tup cs, h => by simp only [closed] at h; simpa only [AL.inK] using inKs_closed cs h
  | .sl sz xs, h => by simp only [closed] at h; simpa only [AL.inK] using inKs_closed xs h
  | .ptr x off, h => by simp only [closed] at h; simpa only [AL.inK] using inK_closed x h
  | .loc _ _ _ _, h => by simp [closed] at h
  | .msl _ _, h => by simp [closed] at h
  | .mp _, h => by simp [closed] at h
  | .mtl _ _ _ _, h => by simp [closed] at h
  | .fn f a b, h => by simp only [closed, Bool.and_eq_true] at h; simp only [AL.inK]; exact ⟨inKs_closed a h.1, inKs_closed b h.2⟩
  | .ifc t x, h => by simp only [closed] at h; simpa only [AL.inK] using inK_closed x h
  | .e0, h => trivial
  | .junk, h => trivial
theorem inKs_closed {K : Nat → Prop} : ∀ (xs : List AV), closeds xs = true → inKs K xs
  | [], h => trivial
  | x :: xs, h => by simp only [closeds, Bool.and_eq_true] at h; exact ⟨inK_closed x h.1, inKs_closed xs h.2⟩
end
def inO (K : Nat → Prop) : AO → Prop
  | .row _ _ xs => inKs K xs
  | .map _ vs => inKs K vs
  | .siter _ _ => True
  | .mapb _ _ _ vs => inKs K vs
theorem ORep.inO {E : Env} : ∀ (p : Option (Nat × Nat)) (o : AO), ORep E p o → AL.inO E.K o
  | some (b, c), .row T sz xs, h => by
    simp only [ORep] at h; obtain ⟨cur, us, _, h2, _⟩ := h
    exact VReps.inK xs us h2
  | none, .row T sz xs, h => by simp only [ORep] at h; subst h; trivial
  | some (b, c), .map ks vs, h => by
    simp only [ORep] at h; obtain ⟨es, cl, _, _, h2⟩ := h
    exact VReps.inK vs _ h2
  | none, .map ks vs, h => by simp only [ORep] at h
  | _, .siter _ _, h => trivial
  | some (b, c), .mapb bs ck ks vs, h => by
    simp only [ORep] at h; obtain ⟨es, _, _, _, h2⟩ := h
    exact VReps.inK vs _ h2
  | none, .mapb bs ck ks vs, h => by simp only [ORep] at h
theorem ORep.lo {K : Nat → Prop} {E E2 : Env} (s : Lo K E E2) : ∀ (p : Option (Nat × Nat)) (o : AO), AL.inO K o → ORep E p o → ORep E2 p o
  | some (b, c), .row T sz xs, k, h => by
    simp only [ORep] at h ⊢; obtain ⟨cur, us, h1, h2, h3⟩ := h
    exact ⟨cur, us, by rw [s.w]; exact h1, VReps.lo s xs us k h2, h3⟩
  | none, .row T sz xs, k, h => by simpa only [ORep] using h
  | some (b, c), .map ks vs, k, h => by
    simp only [ORep] at h ⊢; obtain ⟨es, cl, h1, h3, h2⟩ := h
    exact ⟨es, cl, by rw [s.w]; exact h1, h3, VReps.lo s vs _ k h2⟩
  | none, .map ks vs, k, h => by simp only [ORep] at h
  | some (b, c), .siter _ _, k, h => by simp only [ORep] at h ⊢; rw [s.w]; exact h
  | none, .siter _ _, k, h => by simp only [ORep] at h
  | some (b, c), .mapb bs ck ks vs, k, h => by
    simp only [ORep] at h ⊢; obtain ⟨es, h1, h3, h4, h2⟩ := h
    exact ⟨es, by rw [s.w]; exact h1, h3, h4, VReps.lo s vs _ k h2⟩
  | none, .mapb bs ck ks vs, k, h => by simp only [ORep] at h
noncomputable def envLo (E E1 : Env) (l0 : Nat) (q : Option (Option (Nat × Nat))) : Env :=
  open Classical in { Z := E1.Z, w := E1.w, K := fun j => E.K j ∨ j = l0, L := fun j => if j = l0 then q else if E.K j then E1.L j else none }
theorem xnp {C : Ctx} {E E1 : Env} {H H1 : Nat → Option AO} {nx : Nat} (hR : HR C E H) (hb : ∀ j, E.K j → j < nx) (hR1 : HR C E1 H1) (hS : Stab E E1) {l l0 T sz : Nat} {xs : List AV} {q : Option (Nat × Nat)}
    (hq : (E1.L l = some q ∧ H1 l = some (.row T sz xs)) ∨ (q = none ∧ xs = [])) (hc : closeds xs = true) (hl0 : (l0 = nx ∧ nx ≤ l) ∨ (l0 = l ∧ E.K l ∧ E1.L l = some q)) (hH : ∀ j, j < nx → j ≠ l0 → H1 j = H j) :
    HR C (envLo E E1 l0 (some q)) (upd H l0 (some (.row T sz xs))) ∧ Stab E (envLo E E1 l0 (some q)) ∧ Lo E.K E1 (envLo E E1 l0 (some q)) := by
  have key : ∀ j x, (envLo E E1 l0 (some q)).L j = some x → (j = l0 ∧ q = x) ∨ (j ≠ l0 ∧ E.K j ∧ E1.L j = some x) := by
    intro j x e
    simp only [envLo] at e
    by_cases e1 : j = l0
    · rw [if_pos e1] at e; exact .inl ⟨e1, Option.some.inj e⟩
    · rw [if_neg e1] at e
      by_cases e2 : E.K j
      · rw [if_pos e2] at e; exact .inr ⟨e1, e2, e⟩
      · rw [if_neg e2] at e; cases e
  have hlo : Lo E.K E1 (envLo E E1 l0 (some q)) := ⟨fun j h1 => ⟨.inl h1, fun p e => by
    rcases key j p e with ⟨e1, e2⟩ | ⟨_, _, e3⟩
    · rcases hl0 with ⟨g1, _⟩ | ⟨g1, _, g3⟩
      · have := hb j h1; omega
      · subst e1; subst e2; subst g1; exact g3
    · exact e3⟩, fun _ h => h, rfl⟩
  have hqL : ∀ b c, q = some (b, c) → E1.L l = some (some (b, c)) := by
    intro b c e
    rcases hq with hq | hq
    · rw [hq.1, e]
    · rw [hq.1] at e; cases e
  have hst : Stab E (envLo E E1 l0 (some q)) := ⟨fun j h => .inl h, fun j hj x e => by
      rcases key j x e with ⟨e1, e2⟩ | ⟨_, _, e3⟩
      · rcases hl0 with ⟨h1, _⟩ | ⟨h1, _, h3⟩
        · have := hb j hj; omega
        · subst e1; subst e2; subst h1
          exact hS.L _ hj _ h3
      · exact hS.L j hj x e3, fun b hz => hS.Z b hz⟩
  refine ⟨?_, hst, hlo⟩
  exact {
    below := hR1.below
    base := hR1.base
    zlt := hR1.zlt
    zlive := fun b hz j c e => by
      rcases key j _ e with ⟨_, e⟩ | ⟨_, _, e⟩
      · exact hR1.zlive b hz l c (hqL b c e)
      · exact hR1.zlive b hz j c e
    zsrc := hR1.zsrc
    dom := fun j => by
      simp only [envLo, upd_at]
      by_cases e1 : j = l0
      · rw [if_pos e1, if_pos e1]; rfl
      · rw [if_neg e1, if_neg e1]
        by_cases e2 : E.K j
        · rw [if_pos e2, ← hH j (hb j e2) e1]; exact hR1.dom j
        · rw [if_neg e2, hR.dom j]
          cases hL : E.L j with
          | none => rfl
          | some x => exact absurd (hR.known j x hL) e2
    known := fun j x e => by
      rcases key j x e with ⟨e, _⟩ | ⟨_, e, _⟩
      · exact .inr e
      · exact .inl e
    inj := fun i j b c c' e e' => by
      rcases key i _ e with ⟨e1, e2⟩ | ⟨e1, e2, e3⟩ <;> rcases key j _ e' with ⟨e1', e2'⟩ | ⟨e1', e2', e3'⟩
      · rw [e1, e1']
      · have := hR1.inj _ _ _ _ _ (hqL _ _ e2) e3'
        rcases hl0 with ⟨h1, h2⟩ | ⟨h1, _⟩
        · have := hb j e2'; omega
        · omega
      · have := hR1.inj _ _ _ _ _ (hqL _ _ e2') e3
        rcases hl0 with ⟨h1, h2⟩ | ⟨h1, _⟩
        · have := hb i e2; omega
        · omega
      · exact hR1.inj _ _ _ _ _ e3 e3'
    obj := fun j o p e e' => by
      rcases key j p e' with ⟨e1, e2⟩ | ⟨e1, e2, e3⟩
      · subst e1; subst e2
        simp only [upd_same, Option.some.injEq] at e
        subst e
        refine ORep.lo hlo _ _ (inKs_closed xs hc) ?_
        rcases hq with hq | hq
        · exact hR1.obj l _ _ hq.2 hq.1
        · obtain ⟨rfl, rfl⟩ := hq; simp only [ORep]
      · simp only [upd_ne _ _ e1] at e
        have h1 : ORep E1 p o := hR1.obj j o p ((hH j (hb j e2) e1).trans e) e3
        have h2 : ORep E p o := hR.obj j o p e (hS.L j e2 p e3)
        exact ORep.lo hlo _ _ (ORep.inO _ _ h2) h1
    old := fun j b c e => by
      rcases key j _ e with ⟨_, e⟩ | ⟨_, _, e⟩
      · exact hR1.old l b c (hqL b c e)
      · exact hR1.old j b c e }
def OkO (P : Program) (f : FuncId) (args : List AV) (T sz : Nat) (xs : List AV) : Prop :=
  closeds xs = true ∧ ∀ (H : Nat → Option AO) (nx : Nat), ACall P f args H nx fun r H' nx' => (r = nilS ∧ xs = [] ∧ ∀ j, j < nx → H' j = H j) ∨ ∃ l, nx ≤ l ∧ r = .msl l xs.length ∧ H' l = some (.row T sz xs) ∧ ∀ j, j < nx → H' j = H j
theorem OkO.acall {P : Program} {f : FuncId} {args : List AV} {T sz : Nat} {xs : List AV} (h : OkO P f args T sz xs) (H : Nat → Option AO) (nx : Nat) :
    ACall P f args H nx fun r H' nx' => r = .msl nx xs.length ∧ H' = upd H nx (some (.row T sz xs)) ∧ nx' = nx + 1 := by
  refine ⟨(h.2 H nx).1, fun C E vals hR hb hv => ((h.2 H nx).2 C E vals hR hb hv).mono ?_⟩
  rintro e w' ⟨v, r, H1, nx1, E1, rfl, h1, hv1, hR1, hS, hn1, hn2, rfl⟩
  rcases h1 with ⟨rfl, rfl, hH⟩ | ⟨l, hl, rfl, hH1, hH⟩
  · obtain ⟨g1, g2, g3⟩ := xnp (l := nx) (l0 := nx) (T := T) (sz := sz) (xs := []) (q := none) hR hb hR1 hS (.inr ⟨rfl, rfl⟩) rfl (.inl ⟨rfl, Nat.le_refl _⟩) (fun j hj _ => hH j hj)
    refine ⟨v, .msl nx 0, _, nx + 1, _, rfl, ⟨rfl, rfl, rfl⟩, ?_, g1, g2, by omega, ?_, rfl⟩
    · simp only [VRep] at hv1 ⊢
      exact ⟨none, 0, .inr rfl, hv1, fun h => absurd h (by omega), Nat.le_refl _, fun b c e => by simp [envLo] at e, fun _ => by simp⟩
    · rintro j (hj | hj)
      · exact .inl hj
      · exact .inr (by omega)
  · obtain ⟨q, hq, ho⟩ := hR1.live hH1
    obtain ⟨g1, g2, g3⟩ := xnp (l := l) (l0 := nx) (T := T) (sz := sz) (xs := xs) (q := q) hR hb hR1 hS (.inl ⟨hq, hH1⟩) h.1 (.inl ⟨rfl, hl⟩) (fun j hj _ => hH j hj)
    refine ⟨v, .msl nx xs.length, _, nx + 1, _, rfl, ⟨rfl, rfl, rfl⟩, ?_, g1, g2, by omega, ?_, rfl⟩
    · simp only [VRep] at hv1 ⊢
      obtain ⟨A, c0, _, k1, k2, k3, k4, k5⟩ := hv1
      refine ⟨A, c0, .inr rfl, k1, k2, k3, fun b c e => ?_, fun e => ?_⟩
      · simp only [envLo, if_true, Option.some.injEq] at e
        exact k4 b c (by rw [hq, e])
      · simp only [envLo, if_true, Option.some.injEq] at e
        exact k5 (by rw [hq, e])
    · rintro j (hj | hj)
      · exact .inl hj
      · exact .inr (by omega)
def OkI (P : Program) (f : FuncId) (l : Nat) (args : List AV) (r : AV) (T sz : Nat) (xs ys : List AV) : Prop :=
  closeds ys = true ∧ ∀ (H : Nat → Option AO) (nx : Nat), l < nx → H l = some (.row T sz xs) → ACall P f args H nx fun r' H' nx' => r' = r ∧ H' l = some (.row T sz ys) ∧ ∀ j, j < nx → j ≠ l → H' j = H j
theorem OkI.acall {P : Program} {f : FuncId} {l : Nat} {args : List AV} {r : AV} {T sz : Nat} {xs ys : List AV} (h : OkI P f l args r T sz xs ys) (hr : ∀ K : Nat → Prop, K l → inK K r) (H : Nat → Option AO) (nx : Nat) (hl : l < nx) (hH : H l = some (.row T sz xs)) :
    ACall P f args H nx fun r' H' nx' => r' = r ∧ H' = upd H l (some (.row T sz ys)) ∧ nx' = nx := by
  refine ⟨(h.2 H nx hl hH).1, fun C E vals hR hb hv => ((h.2 H nx hl hH).2 C E vals hR hb hv).mono ?_⟩
  rintro e w' ⟨v, r', H1, nx1, E1, rfl, ⟨rfl, hH1, hH2⟩, hv1, hR1, hS, hn1, hn2, rfl⟩
  obtain ⟨q, hq, ho⟩ := hR1.live hH1
  obtain ⟨p, hp, _⟩ := hR.live hH
  have hk := hR.known l p hp
  obtain ⟨g1, g2, g3⟩ := xnp (l := l) (l0 := l) (T := T) (sz := sz) (xs := ys) (q := q) hR hb hR1 hS (.inl ⟨hq, hH1⟩) h.1 (.inr ⟨rfl, hk, hq⟩) hH2
  refine ⟨v, r', _, nx, _, rfl, ⟨rfl, rfl, rfl⟩, VRep.lo g3 _ _ (hr _ hk) hv1, g1, g2, Nat.le_refl _, ?_, rfl⟩
  rintro j (hj | hj)
  · exact .inl hj
  · subst hj; exact .inl hk
section
variable {P : Program} {H : Nat → Option AO} {nx new : Nat} {ρ : Operand → AV} {k : AV → (Nat → Option AO) → Nat → Prop} {c : Call} {f : FuncId} {ag ag' : List AV} {r : AV} {T sz : Nat} {xs ys : List AV}
theorem OkO.sub (h : OkO P f ag' T sz xs) (hs : Subs ag ag') : OkO P f ag T sz xs := ⟨h.1, fun H nx => ⟨(h.2 H nx).1, fun C E vals hR hb hv => (h.2 H nx).2 C E vals hR hb (hs _ _ hv)⟩⟩
end
mutual
def fqA (H : Nat → Option AO) : AV → Option (AV × (Nat → Option AO))
  | .msl l m => (fkK m (H l)).map fun y => (y, upd H l none)
  | .agg cs => (fqL H cs).map fun p => (.agg p.1, p.2)
  | x => if closed x = true then some (x, H) else none
def fqL (H : Nat → Option AO) : List AV → Option (List AV × (Nat → Option AO))
  | [] => some ([], H)
  | x :: xs => (fqA H x).bind fun p => (fqL p.2 xs).map fun q => (p.1 :: q.1, q.2)
end
structure Fz (C : Ctx) (E E' : Env) (H' : Nat → Option AO) : Prop where
  hr : HR C E' H'
  st : Stab E E'
  k : ∀ l, E'.K l → E.K l
  w : E'.w = E.w
theorem fk1 {C : Ctx} {E : Env} {H : Nat → Option AO} {l m : Nat} {u : Value} {y : AV} (hR : HR C E H) (hu : VRep E (.msl l m) u) (h : fkK m (H l) = some y) : Fz C E (E.kill l) (upd H l none) ∧ VRep (E.kill l) y u ∧ closed y = true := by
  have h1 : fk H [.msl l m] = some ([y], upd H l none) := by
    simp only [fk, h, fkO]
  refine ⟨⟨hR.kill l, Env.kill_stab E l, fun _ h => h, rfl⟩, ?_⟩
  cases ho : H l with
  | none => rw [ho] at h; simp [fkK] at h
  | some ob =>
    cases ob with
    | map ks vs => rw [ho] at h; simp [fkK] at h
    | siter s q => rw [ho] at h; simp [fkK] at h
    | mapb bs ck ks vs => rw [ho] at h; simp [fkK] at h
    | row Ty sz zs =>
      rw [ho] at h
      simp only [fkK] at h
      split at h
      · rename_i hmc
        obtain ⟨hm, hc⟩ := hmc
        simp only [Option.some.injEq] at h
        subst h
        refine ⟨?_, by simpa [closed] using hc⟩
        have hs := Env.kill_stab E l
        simp only [VRep] at hu ⊢
        obtain ⟨A, c0, _, g0, q1, q2, q3, q4⟩ := hu
        obtain ⟨p, hp, ho'⟩ := hR.live ho
        subst hm
        cases p with
        | none =>
          simp only [ORep] at ho'
          subst ho'
          exact ⟨[], A, c0, VReps.nil, g0, Nat.zero_le _, .inl rfl⟩
        | some q =>
          obtain ⟨b, c⟩ := q
          obtain ⟨rfl, rfl⟩ := q3 b c hp
          simp only [ORep] at ho'
          obtain ⟨cur, vs, h1, h2, h3, h4, h5, h6, h7⟩ := ho'
          refine ⟨vs, _, c0, h2.stab hs, g0, q2, ?_⟩
          by_cases hz : vs = []
          · exact .inl hz
          refine .inr ⟨b, 0, rfl, .inr ⟨c0, hp⟩, fun i u hu => ⟨(h3 u (List.mem_of_getElem? hu)).1, (h3 u (List.mem_of_getElem? hu)).2, fun j v hj => ?_⟩⟩
          show E.w.cell? _ = _
          rw [cell_of_row E.w b _ cur Ty (0, 0) h1]
          have e := xdg (fun u hu => (h3 u hu).1) hu j v hj
          rw [← h7, List.getElem?_take] at e
          split at e
          · simpa using e
          · cases e
      · cases h
theorem Fz.trans {C : Ctx} {E E1 E2 : Env} {H1 H2 : Nat → Option AO} (h : Fz C E E1 H1) (k : Fz C E1 E2 H2) : Fz C E E2 H2 := ⟨k.hr, h.st.trans k.st, fun l hl => h.k l (k.k l hl), k.w.trans h.w⟩
mutual
theorem fqA_sound {C : Ctx} : ∀ (x : AV) (E : Env) (H : Nat → Option AO) (u : Value) (y : AV) (H' : Nat → Option AO), HR C E H → VRep E x u → fqA H x = some (y, H') → ∃ E', Fz C E E' H' ∧ VRep E' y u ∧ closed y = true
  | .msl l m, E, H, u, y, H', hR, hu, h => by
    simp only [fqA, Option.map_eq_some_iff, Prod.mk.injEq] at h
    obtain ⟨y', h1, rfl, rfl⟩ := h
    exact ⟨_, fk1 hR hu h1⟩
  | .agg cs, E, H, u, y, H', hR, hu, h => by
    simp only [fqA, Option.map_eq_some_iff, Prod.mk.injEq] at h
    obtain ⟨⟨ys, H2⟩, h1, rfl, rfl⟩ := h
    simp only [VRep] at hu
    obtain ⟨us, hus, rfl⟩ := hu
    obtain ⟨E', g1, g2, g3⟩ := fqL_sound cs E H us ys H2 hR hus h1
    refine ⟨E', g1, ?_, by simpa only [closed] using g3⟩
    simp only [VRep]
    exact ⟨us, g2, rfl⟩
  | .val v, E, H, u, y, H', hR, hu, h => by simp only [fqA, closed, if_true, Option.some.injEq, Prod.mk.injEq] at h; obtain ⟨rfl, rfl⟩ := h; exact ⟨E, ⟨hR, Stab.refl E, fun _ h => h, rfl⟩, hu, rfl⟩
  | .tup cs, E, H, u, y, H', hR, hu, h => by
    simp only [fqA] at h
    split at h
    · rename_i hc; simp only [Option.some.injEq, Prod.mk.injEq] at h; obtain ⟨rfl, rfl⟩ := h; exact ⟨E, ⟨hR, Stab.refl E, fun _ h => h, rfl⟩, hu, hc⟩
    · cases h
  | .sl sz xs, E, H, u, y, H', hR, hu, h => by
    simp only [fqA] at h
    split at h
    · rename_i hc; simp only [Option.some.injEq, Prod.mk.injEq] at h; obtain ⟨rfl, rfl⟩ := h; exact ⟨E, ⟨hR, Stab.refl E, fun _ h => h, rfl⟩, hu, hc⟩
    · cases h
  | .ptr x off, E, H, u, y, H', hR, hu, h => by
    simp only [fqA] at h
    split at h
    · rename_i hc; simp only [Option.some.injEq, Prod.mk.injEq] at h; obtain ⟨rfl, rfl⟩ := h; exact ⟨E, ⟨hR, Stab.refl E, fun _ h => h, rfl⟩, hu, hc⟩
    · cases h
  | .loc l sz i off, E, H, u, y, H', hR, hu, h => by simp [fqA, closed] at h
  | .mp l, E, H, u, y, H', hR, hu, h => by simp [fqA, closed] at h
  | .mtl l sz q n, E, H, u, y, H', hR, hu, h => by simp [fqA, closed] at h
  | .fn f fi ca, E, H, u, y, H', hR, hu, h => by
    simp only [fqA] at h
    split at h
    · rename_i hc; simp only [Option.some.injEq, Prod.mk.injEq] at h; obtain ⟨rfl, rfl⟩ := h; exact ⟨E, ⟨hR, Stab.refl E, fun _ h => h, rfl⟩, hu, hc⟩
    · cases h
  | .ifc t x, E, H, u, y, H', hR, hu, h => by
    simp only [fqA] at h
    split at h
    · rename_i hc; simp only [Option.some.injEq, Prod.mk.injEq] at h; obtain ⟨rfl, rfl⟩ := h; exact ⟨E, ⟨hR, Stab.refl E, fun _ h => h, rfl⟩, hu, hc⟩
    · cases h
  | .e0, E, H, u, y, H', hR, hu, h => by simp only [fqA, closed, if_true, Option.some.injEq, Prod.mk.injEq] at h; obtain ⟨rfl, rfl⟩ := h; exact ⟨E, ⟨hR, Stab.refl E, fun _ h => h, rfl⟩, hu, rfl⟩
  | .junk, E, H, u, y, H', hR, hu, h => by simp only [fqA, closed, if_true, Option.some.injEq, Prod.mk.injEq] at h; obtain ⟨rfl, rfl⟩ := h; exact ⟨E, ⟨hR, Stab.refl E, fun _ h => h, rfl⟩, hu, rfl⟩
theorem fqL_sound {C : Ctx} : ∀ (xs : List AV) (E : Env) (H : Nat → Option AO) (us : List Value) (ys : List AV) (H' : Nat → Option AO), HR C E H → VReps E xs us → fqL H xs = some (ys, H') → ∃ E', Fz C E E' H' ∧ VReps E' ys us ∧ closeds ys = true
  | [], E, H, us, ys, H', hR, hu, h => by
    simp only [fqL, Option.some.injEq, Prod.mk.injEq] at h
    obtain ⟨rfl, rfl⟩ := h
    exact ⟨E, ⟨hR, Stab.refl E, fun _ h => h, rfl⟩, hu, rfl⟩
  | x :: xs, E, H, us, ys, H', hR, hu, h => by
    simp only [VReps] at hu
    obtain ⟨u, us', h1, h2, rfl⟩ := hu
    unfold fqL at h
    obtain ⟨⟨y, H1⟩, k1, k2⟩ := Option.bind_eq_some_iff.1 h
    simp only [Option.map_eq_some_iff, Prod.mk.injEq] at k2
    obtain ⟨⟨zs, H2⟩, k2, rfl, rfl⟩ := k2
    obtain ⟨E1, g1, g2, g3⟩ := fqA_sound x E H u y H1 hR h1 k1
    obtain ⟨E2, e1, e2, e3⟩ := fqL_sound xs E1 H1 us' zs H2 g1.hr (VReps.stab g1.st _ _ h2) k2
    exact ⟨E2, g1.trans e1, .cons (VRep.stab e1.st _ _ g2) e2, by simp [closeds, g3, e3]⟩
end
section
variable (H : Nat → Option AO)
end
section
variable {P : Program} {H H' : Nat → Option AO} {nx new : Nat} {ρ : Operand → AV} {k : AV → (Nat → Option AO) → Nat → Prop} {c : Call} {f : FuncId} {ag ag' ag2 : List AV} {r : AV}
end
end Go.Proofs.YtjmnoaoeediodaaDoor.AL

/- Maps whose keys are plain structs or arrays of whole numbers: words of models. An entry bears the number that it was made with. -/
set_option linter.all false
namespace Go.Proofs.YtjmnoaoeediodaaDoor.AL
open Go Go.Proofs
section
variable {κ : Type} [DecidableEq κ]
structure KeyOf (P : Program) (kt : TypeId) (kv : κ → Value) : Prop where
  chk : ∀ k, chkB P kt (kv k) = true
  eq : ∀ a b, evalEq P 40 kt (keyAV (kv a)) (keyAV (kv b)) = some (decide (a = b))
  bits : ∀ a, Instr.sameBits 10000 (kv a) (kv a) = true
variable {P : Program} {kt : TypeId} {kv : κ → Value}
end
end Go.Proofs.YtjmnoaoeediodaaDoor.AL

