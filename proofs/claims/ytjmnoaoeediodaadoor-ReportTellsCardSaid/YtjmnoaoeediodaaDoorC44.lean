/- A law of the given program is proved: part 44 of 47. -/
import Derived.Deep.RegionHeld3
import Derived.Shelf.Abstract
import Derived.Shelf.RegionOpen
import Derived.WalkKit
import Derived.OwnWalkIn
import Derived.TacticsInMore
import Derived.LoopNIn
import Derived.LoopIn
import Derived.Maps.AppendAt
import Derived.Test.YtjmnoaoeediodaaDoorC43
set_option linter.all false
/- strings.Lines: its iterator, at every round that leaves its cell alone. -/
set_option linter.all false
namespace Go.Proofs.YtjmnoaoeediodaaDoor.AL
open Go Go.Proofs Go.RowKit Go.Shelf
attribute [local go_sem] Oper.semAt_some
def cutLn (l : List UInt8) : List UInt8 × List UInt8 := if 0 ≤ Lib.indexByte l 10 then (l.take ((Lib.indexByte l 10).toNat + 1), l.drop ((Lib.indexByte l 10).toNat + 1)) else (l, [])
def stepLn (r : List UInt8) (x : Array Value) (r' : List UInt8) : Prop := r ≠ [] ∧ x = #[.string (bB (cutLn r).1)] ∧ r' = (cutLn r).2
def leftLn (w : World) (b : Nat) : Nat := match w.cell? ⟨b, 0, none⟩ with
  | some (.string s) => s.size
  | _ => 0
theorem xx1 (r : List UInt8) (k : Nat) : (bB r).extract 0 k = bB (r.take k) := by
  apply ByteArray.ext
  simp [bB]
theorem x71 (r : List UInt8) (k : Nat) : (bB r).extract k (bB r).size = bB (r.drop k) := by
  rw [xh]
  apply ByteArray.ext
  simp only [bB, ByteArray.data_extract, List.extract_toArray, List.extract_eq_take_drop]
  rw [List.take_of_length_le (by simp)]
theorem x7i {w : World} {b : Nat} {r : List UInt8} (h : w.cell? ⟨b, 0, none⟩ = some (.string (bB r))) : leftLn w b = r.length := by
  unfold leftLn
  rw [h]
  exact xh r
set_option maxRecDepth 100000 in
set_option maxHeartbeats 2000000 in
theorem xdt (n : Nat) (hn : 1 ≤ n) (b : Nat) (s : List UInt8) (hs : s.length < 4611686018427387904) : IterJ Fence.wide n Tryd.prog 57 #[.pointer (some ⟨b, 0, none⟩)] ⟨b, 0, none⟩ stepLn (fun r => r = []) (fun r => .string (bB r)) s := by
  intro l J Jx W hset hdrw hY h0 hc hf
  refine callsIn_of_wp Tryd.func57 rfl trivial ?_ rfl
  simp only [Tryd.ntmps57, List.size_toArray, List.length_cons, List.length_nil, Nat.reduceAdd, Nat.reduceSub, Array.replicate_succ, Array.replicate_zero, List.push_toArray, List.append_toArray, List.nil_append, List.cons_append]
  gi_wp2
  gi_loopw [] (fun wr => ∃ r : List UInt8, r.length ≤ s.length ∧ J r wr ∧ wr.cell? ⟨b, 0, none⟩ = some (.string (bB r)) ∧ wr.frozen? ⟨b, 0, none⟩ = false) (fun wr => leftLn wr b)
  case atStart => exact ⟨s, Nat.le_refl _, h0, hc, hf⟩
  case round =>
    obtain ⟨r, hr, hj, hcr, hfr⟩ := hrel
    have hsz : (bB r).size ≤ 9223372036854775807 := by rw [xh]; omega
    by_cases hr0 : r = []
    · subst hr0
      gi_wp2
      go_end0
      exact ⟨⟨_, rfl⟩, .inl ⟨[], rfl, hj⟩⟩
    · have hpos : 0 < (bB r).size := by rw [xh]; exact List.length_pos_iff.2 hr0
      have hmx : (Tryd.prog).follows Departure.mixedOrders = true := by kernel_rfl
      by_cases hfd : 0 ≤ Lib.indexByte r 10
      · obtain ⟨o, ho⟩ : ∃ o : Nat, Lib.indexByte r 10 = o := ⟨(Lib.indexByte r 10).toNat, by omega⟩
        have hol : o + 1 ≤ (bB r).size := by
          have := (Lib.indexByte_some ho).1
          rw [List.getElem?_eq_some_iff] at this
          rw [xh]
          exact this.1
        have hix : ∀ w, Calls Tryd.prog 58 #[.string (bB r), .int .u8 10] w fun e w' => e = .returned (.int .i64 (o : Int)) ∧ w' = w := fun w => (Tryd.strings_IndexByte (bB r) 10 w).mono (by rintro e w' ⟨rfl, rfl⟩; exact ⟨by rw [← ho]; rfl, rfl⟩)
        gi_wp2_with (refine ⟨trivial, ?_⟩; gi_at_call 58; refine (callsIn_wide.2 (hix _)).mono ?_; rintro e w' ⟨rfl, rfl⟩)
        gi_region
        have hstep : stepLn r #[.string ((bB r).extract 0 (o + 1))] (r.drop (o + 1)) := by
          refine ⟨hr0, ?_, ?_⟩
          · unfold cutLn
            rw [if_pos hfd, ho, xx1]
            rfl
          · unfold cutLn
            rw [if_pos hfd, ho]
            rfl
        have hcv : ((w'.setCell ⟨b, 0, none⟩ (.string ((bB r).extract (o + 1) (bB r).size))).drew).cell? ⟨b, 0, none⟩ = some (.string (bB (r.drop (o + 1)))) := by
          rw [x71]
          exact World.cell?_setCell_same' _ _ _ (by rw [hcr]; rfl)
        have hfv : ((w'.setCell ⟨b, 0, none⟩ (.string ((bB r).extract (o + 1) (bB r).size))).drew).frozen? ⟨b, 0, none⟩ = false := by
          rw [frozen_drew_own, World.frozen?_setCell]
          exact hfr
        obtain ⟨fn, tmps, assign, body, hy, hR⟩ := hY r _ _ _ hstep (hdrw _ _ (hset _ _ (.string ((bB r).extract (o + 1) (bB r).size)) hj)) hcv
        gi_wp2
        refine hR.mono ?_
        rintro e W3 (⟨rfl, hJ3, hs3⟩ | ⟨rfl, hx3⟩)
        · gi_wp2
          go_roundw
          case rel => exact ⟨r.drop (o + 1), by simp; omega, hJ3, hs3.1.trans hcv, hs3.2.trans hfv⟩
          case measure => rw [x7i (hs3.1.trans hcv), x7i hcr, List.length_drop]; rw [xh] at hol; omega
        · gi_wp2
          refine bodyPost_ret (results_none rfl _ _ _) rfl ?_
          exact ⟨⟨_, rfl⟩, .inr hx3⟩
      · have hix : ∀ w, Calls Tryd.prog 58 #[.string (bB r), .int .u8 10] w fun e w' => e = .returned (.int .i64 (Lib.indexByte r 10)) ∧ w' = w := fun w => (Tryd.strings_IndexByte (bB r) 10 w).mono (by rintro e w' ⟨rfl, rfl⟩; exact ⟨rfl, rfl⟩)
        have hstep : stepLn r #[.string (bB r)] [] := by
          refine ⟨hr0, ?_, ?_⟩
          · unfold cutLn
            rw [if_neg hfd]
          · unfold cutLn
            rw [if_neg hfd]
        have hcv : (wr.setCell ⟨b, 0, none⟩ (.string { data := #[] })).cell? ⟨b, 0, none⟩ = some (.string (bB [])) := World.cell?_setCell_same' _ _ _ (by rw [hcr]; rfl)
        have hfv : (wr.setCell ⟨b, 0, none⟩ (.string { data := #[] })).frozen? ⟨b, 0, none⟩ = false := by
          rw [World.frozen?_setCell]
          exact hfr
        obtain ⟨fn, tmps, assign, body, hy, hR⟩ := hY r _ _ _ hstep (hset _ _ (.string { data := #[] }) hj) hcv
        gi_wp2_with (refine ⟨trivial, ?_⟩; gi_at_call 58; refine (callsIn_wide.2 (hix _)).mono ?_; rintro e w' ⟨rfl, rfl⟩)
        refine hR.mono ?_
        rintro e W3 (⟨rfl, hJ3, hs3⟩ | ⟨rfl, hx3⟩)
        · gi_wp2
          go_roundw
          case rel => exact ⟨[], by simp, hJ3, hs3.1.trans hcv, hs3.2.trans hfv⟩
          case measure => rw [x7i (hs3.1.trans hcv), x7i hcr]; exact List.length_pos_iff.2 hr0
        · gi_wp2
          refine bodyPost_ret (results_none rfl _ _ _) rfl ?_
          exact ⟨⟨_, rfl⟩, .inr hx3⟩
end Go.Proofs.YtjmnoaoeediodaaDoor.AL

/- script.first, its nil slice kept. -/
set_option linter.all false
set_option maxRecDepth 100000
namespace Go.Proofs.YtjmnoaoeediodaaDoor.AL
open Go Go.Proofs
set_option maxHeartbeats 2000000 in
theorem x9n (a0 : ByteArray) (r : Script × Bool) (hm0 : xwf a0 = some r) : Ok Tryd.prog 48 [str a0] (.tup [.agg [int r.1.mode, nilS, bool r.1.default], bool r.2]) := by
 unfold xwf at hm0
 refine okG x2o ?_
 unfold x8j
 obtain ⟨v1, h2, hm0⟩ := bsE hm0
 simp only [xq, ↓EVd, isCall, sevalprocAttr]
 refine qc (x2i  _ h2) rfl ?_
 obtain ⟨o0, ho0, hm0⟩ := bsE hm0
 simp only [xq, ↓EVd, isCall, sevalprocAttr]
 refine cwp_cx 0 (fun s => (s.T 2 = .loc 0 3 0 0 ∧ s.T 4 = .loc 2 3 0 0 ∧ s.H 0 = some (.row 39 3 [.agg [int 0, nilS, bool false]]) ∧ s.H 2 = some (.row 39 3 [.agg [int 0, nilS, bool false]]) ∧ Lq 0 s.nx ∧ Lq 2 s.nx) ∧ (.inl ()) = o0) ?_ fun J0_0 hJ0_0 => ?_
 · rintro T0 H0 x5 ⟨kk0_0, rfl⟩
   dsimp only [Lq, Nq] at kk0_0
   try dsimp only at hm0
   obtain rfl := Option.some.inj hm0
   simp only [kk0_0, xq, ↓EVd, isCall, sevalprocAttr]
   all_goals first | done | rfl | exact xg (by simp only [CLO]) | exact xj (by simp only [CLO]) (Sub.tup (Subs.cons (Sub.agg (Subs.cons (Sub.refl _) (Subs.cons (Sub.refl _) (Subs.cons (Sub.refl _) (Subs.nil))))) (Subs.cons (Sub.refl _) (Subs.nil))))
 refine cwp_lp ho0 (fun v4 s => s.T 0 = str a0 ∧ s.T 2 = .loc 0 3 0 0 ∧ s.T 4 = .loc 2 3 0 0 ∧ s.T 9 = .sl 1 (v1.map str) ∧ s.T 10 = int (v1.length : Int) ∧ s.T 11 = int v4 ∧ s.H 0 = some (.row 39 3 [.agg [int 0, nilS, bool false]]) ∧ s.H 2 = some (.row 39 3 [.agg [int 0, nilS, bool false]]) ∧ Lq 0 s.nx ∧ Lq 2 s.nx) ?_ ?_
 · refine TI.here ⟨?_, ?_, ?_, ?_, ?_, ?_, ?_, ?_, ?_, ?_⟩
   all_goals try simp only [xq, ↓EVd, isCall, sevalprocAttr]
   all_goals first | omega | exact lq (by omega) | exact nq (by omega) | rfl | (congr 1; omega)
 rintro I0 v4 T0 H0 x3 st0 kk0 hm1 hI0 hO0
 dsimp only [Lq, Nq] at kk0
 simp only [x7c] at hm1
 rcases iteE hm1 with ⟨e7, hm1⟩ | ⟨e7, hm1⟩
 · obtain ⟨v8, e10, hm1⟩ := ixE str hm1
   obtain ⟨o1, ho1, hm1⟩ := bsE hm1
   simp only [kk0, e7, e10, xq, ↓EVd, isCall, sevalprocAttr]
   refine cwp_cx 2 (fun s => (s.T 0 = str a0 ∧ s.T 2 = .loc 0 3 0 0 ∧ s.T 4 = .loc 2 3 0 0 ∧ s.T 9 = .sl 1 (v1.map str) ∧ s.T 10 = int (v1.length : Int) ∧ s.T 11 = int v4 ∧ s.H 0 = some (.row 39 3 [.agg [int 0, nilS, bool false]]) ∧ s.H 2 = some (.row 39 3 [.agg [int 0, nilS, bool false]]) ∧ Lq 0 s.nx ∧ Lq 2 s.nx) ∧ (.inl ()) = o1) ?_ fun J1_0 hJ1_0 => ?_
   · rintro T1 H1 x13 ⟨kk1_0, rfl⟩
     dsimp only [Lq, Nq] at kk1_0
     try dsimp only at hm1
     obtain rfl := Option.some.inj hm1
     simp only [kk1_0, e7, e10, xq, ↓EVd, isCall, sevalprocAttr]
     refine TI.here (hI0 _ rfl _ ⟨?_, ?_, ?_, ?_, ?_, ?_, ?_, ?_, ?_, ?_⟩)
     all_goals try simp only [kk1_0, e7, e10, xq, ↓EVd, isCall, sevalprocAttr]
     all_goals first | omega | exact lq (by omega) | exact nq (by omega) | rfl | (congr 1; omega)
   refine cwp_lp ho1 (fun v12 s => s.T 0 = str a0 ∧ s.T 2 = .loc 0 3 0 0 ∧ s.T 4 = .loc 2 3 0 0 ∧ s.T 5 = int v4 ∧ s.T 6 = str v8 ∧ s.T 9 = .sl 1 (v1.map str) ∧ s.T 10 = int (v1.length : Int) ∧ s.T 11 = int v4 ∧ s.T 16 = .msl (x3 + 6) ([false, true] : List Bool).length ∧ s.T 17 = int 2 ∧ s.T 18 = int v12 ∧ s.H 0 = some (.row 39 3 [.agg [int 0, nilS, bool false]]) ∧ s.H 2 = some (.row 39 3 [.agg [int 0, nilS, bool false]]) ∧ s.H (x3 + 6) = some (.row 4 1 (([false, true] : List Bool).map bool)) ∧ Lq 0 s.nx ∧ Lq 2 s.nx ∧ Lq (x3 + 6) s.nx ∧ Nq 0 (x3 + 6) ∧ Nq 2 (x3 + 6)) ?_ ?_
   · refine TI.here ⟨?_, ?_, ?_, ?_, ?_, ?_, ?_, ?_, ?_, ?_, ?_, ?_, ?_, ?_, ?_, ?_, ?_, ?_, ?_⟩
     all_goals try simp only [kk0, e7, e10, xq, ↓EVd, isCall, sevalprocAttr]
     all_goals first | omega | exact lq (by omega) | exact nq (by omega) | rfl | (congr 1; omega)
   rintro I1 v12 T1 H1 x11 st1 kk1 hm2 hI1 hO1
   dsimp only [Lq, Nq] at kk1
   simp only [xyb] at hm2
   rcases iteE hm2 with ⟨e15, hm2⟩ | ⟨e15, hm2⟩
   · rcases iteE hm2 with ⟨e17, hm2⟩ | ⟨e17, hm2⟩
     · have e18 : (0 ≤ v12) = True := eq_true (by first | (have h := of_eq_true e17; omega) | (have h := e17; omega))
       have e19 : (v12 < ((2 : Nat) : Int)) = True := eq_true (by first | (have h := of_eq_true e17; omega) | (have h := e17; omega))
       have e20 : (v12 < (2 : Int)) = True := eq_true (by first | (have h := of_eq_true e17; omega) | (have h := e17; omega))
       have e21 : (v12).toNat = 0 := (by first | (have h := of_eq_true e17; omega) | (have h := e17; omega))
       obtain ⟨e23, hm2⟩ := ckE hm2
       have g44 := And.intro (And.intro (And.intro ((e7)) ((e10))) (And.intro ((e15)) ((e17)))) (And.intro (And.intro ((e18)) ((e19))) (And.intro ((e20)) (And.intro ((e21)) ((e23)))))
       obtain ⟨v24, h25, hm2⟩ := bsE hm2
       simp only [kk1, g44, xq, ↓EVd, isCall, sevalprocAttr]
       refine qc (xee _ _ h25) rfl ?_
       obtain ⟨e27, hm2⟩ := ckE hm2
       rcases iteE hm2 with ⟨e29, hm2⟩ | ⟨e29, hm2⟩
       · obtain rfl := Option.some.inj hm2
         obtain rfl := hO1 _ rfl
         try dsimp only at hm1
         obtain rfl := Option.some.inj hm1
         obtain rfl := hO0 _ rfl
         try dsimp only at hm0
         obtain rfl := Option.some.inj hm0
         simp only [kk1, g44, e27, e29, xq, ↓EVd, isCall, sevalprocAttr]
         all_goals first | done | rfl | exact xg (by simp only [CLO]) | exact xj (by simp only [CLO]) (Sub.tup (Subs.cons (Sub.agg (Subs.cons (Sub.refl _) (Subs.cons (Sub.refl _) (Subs.cons (Sub.refl _) (Subs.nil))))) (Subs.cons (Sub.refl _) (Subs.nil))))
       obtain rfl := Option.some.inj hm2
       simp only [kk1, g44, e27, e29, xq, ↓EVd, isCall, sevalprocAttr]
       refine TI.here (hI1 _ rfl _ ⟨?_, ?_, ?_, ?_, ?_, ?_, ?_, ?_, ?_, ?_, ?_, ?_, ?_, ?_, ?_, ?_, ?_, ?_, ?_⟩)
       all_goals try simp only [kk1, g44, e27, e29, xq, ↓EVd, isCall, sevalprocAttr]
       all_goals first | omega | exact lq (by omega) | exact nq (by omega) | rfl | (congr 1; omega)
     obtain ⟨e31, hm2⟩ := ckE hm2
     have e32 : (0 ≤ v12) = True := eq_true (by first | (have h := of_eq_true e31; omega) | (have h := e31; omega))
     have e33 : (v12 < ((2 : Nat) : Int)) = True := eq_true (by first | (have h := of_eq_true e31; omega) | (have h := e31; omega))
     have e34 : (v12 < (2 : Int)) = True := eq_true (by first | (have h := of_eq_true e31; omega) | (have h := e31; omega))
     have e35 : (v12).toNat = 1 := (by first | (have h := of_eq_true e31; omega) | (have h := e31; omega))
     obtain ⟨e37, hm2⟩ := ckE hm2
     have g45 := And.intro (And.intro (And.intro ((e7)) ((e10))) (And.intro ((e15)) (And.intro ((e17)) ((e31))))) (And.intro (And.intro ((e32)) ((e33))) (And.intro ((e34)) (And.intro ((e35)) ((e37)))))
     obtain ⟨v38, h39, hm2⟩ := bsE hm2
     simp only [kk1, g45, xq, ↓EVd, isCall, sevalprocAttr]
     refine qc (xee _ _ h39) rfl ?_
     obtain ⟨e41, hm2⟩ := ckE hm2
     rcases iteE hm2 with ⟨e43, hm2⟩ | ⟨e43, hm2⟩
     · obtain rfl := Option.some.inj hm2
       obtain rfl := hO1 _ rfl
       try dsimp only at hm1
       obtain rfl := Option.some.inj hm1
       obtain rfl := hO0 _ rfl
       try dsimp only at hm0
       obtain rfl := Option.some.inj hm0
       simp only [kk1, g45, e41, e43, xq, ↓EVd, isCall, sevalprocAttr]
       all_goals first | done | rfl | exact xg (by simp only [CLO]) | exact xj (by simp only [CLO]) (Sub.tup (Subs.cons (Sub.agg (Subs.cons (Sub.refl _) (Subs.cons (Sub.refl _) (Subs.cons (Sub.refl _) (Subs.nil))))) (Subs.cons (Sub.refl _) (Subs.nil))))
     obtain rfl := Option.some.inj hm2
     simp only [kk1, g45, e41, e43, xq, ↓EVd, isCall, sevalprocAttr]
     refine TI.here (hI1 _ rfl _ ⟨?_, ?_, ?_, ?_, ?_, ?_, ?_, ?_, ?_, ?_, ?_, ?_, ?_, ?_, ?_, ?_, ?_, ?_, ?_⟩)
     all_goals try simp only [kk1, g45, e41, e43, xq, ↓EVd, isCall, sevalprocAttr]
     all_goals first | omega | exact lq (by omega) | exact nq (by omega) | rfl | (congr 1; omega)
   obtain rfl := Option.some.inj hm2
   simp only [kk1, e7, e10, e15, xq, ↓EVd, isCall, sevalprocAttr]
   refine TI.here (hJ1_0 _ ⟨⟨?_, ?_, ?_, ?_, ?_, ?_, ?_, ?_, ?_, ?_⟩, hO1 _ rfl⟩)
   all_goals try simp only [kk1, e7, e10, e15, xq, ↓EVd, isCall, sevalprocAttr]
   all_goals first | omega | exact lq (by omega) | exact nq (by omega) | rfl | (congr 1; omega)
 obtain rfl := Option.some.inj hm1
 simp only [kk0, e7, xq, ↓EVd, isCall, sevalprocAttr]
 refine TI.here (hJ0_0 _ ⟨⟨?_, ?_, ?_, ?_, ?_, ?_⟩, hO0 _ rfl⟩)
 all_goals try simp only [kk0, e7, xq, ↓EVd, isCall, sevalprocAttr]
 all_goals first | omega | exact lq (by omega) | exact nq (by omega) | rfl | (congr 1; omega)
end Go.Proofs.YtjmnoaoeediodaaDoor.AL

/- script.Parse, in the world. -/
set_option linter.all false
namespace Go.Proofs.YtjmnoaoeediodaaDoor.AL
open Go Go.Proofs Go.RowKit Go.Shelf
attribute [local go_sem] Oper.semAt_some
def zeroX : Script := ⟨0, [], false⟩
def textOf (l : List UInt8) : List UInt8 := Lib.trimSuffix l [10]
def whole (l : List UInt8) : Bool := Lib.hasSuffix l [10]
def parseS : Nat → Nat → Script → List UInt8 → Script × Int
  | 0, _, _, _ => (zeroX, 2)
  | n + 1, k, x, [] => if k = 0 then (zeroX, 2) else (x, 0)
  | n + 1, k, x, c :: r => if k = 0 then (if (firstA (textOf (cutLn (c :: r)).1)).2 = true ∧ whole (cutLn (c :: r)).1 = true then parseS n 1 (firstA (textOf (cutLn (c :: r)).1)).1 (cutLn (c :: r)).2 else (zeroX, 2))
    else if (readA (textOf (cutLn (c :: r)).1)).2 = true ∧ whole (cutLn (c :: r)).1 = true then parseS n (k + 1) ⟨x.mode, x.answers ++ [(readA (textOf (cutLn (c :: r)).1)).1], x.default⟩ (cutLn (c :: r)).2 else (zeroX, 2)
def cellsA (l : List Answer) : List Value := (l.map fun a => [Value.int .i64 a.clause, .int .i64 a.ino, .int .i64 a.slot, .bool a.yes]).flatten
structure PK (w : World) (b len : Nat) (R : Script × Int) (r : List UInt8) (W : World) (k : Nat) (x : Script) (sv : Value) : Prop where
  b0 : W.heap[b]? = some (.cells #[.int .i64 0, .slice none 0 0, .bool false] 39 (0, 0))
  b1 : W.heap[b + 1]? = some (.cells #[.int .i64 0] 46 (0, 0))
  b2 : W.heap[b + 1 + 1]? = some (.cells #[.int .i64 x.mode, sv, .bool x.default] 39 (0, 0))
  b3 : W.heap[b + 1 + 1 + 1]? = some (.cells #[.int .i64 k] 3 (0, 0))
  row : W.ownsRow (b + 5) 36 4 sv x.answers.length (cellsA x.answers)
  bel : Below b w W
  sz : b + 5 ≤ W.heap.size
  le : r.length + k ≤ len
  ans : x.answers.length ≤ k
  fresh : k = 0 → x = zeroX
  res : ∃ f, r.length < f ∧ parseS f k x r = R
def PJ (w : World) (b len : Nat) (R : Script × Int) (r : List UInt8) (W : World) : Prop := ∃ k x sv, PK w b len R r W k x sv
def PJx (w : World) (b : Nat) (R : Script × Int) (W : World) : Prop :=
  W.heap[b]? = some (.cells #[.int .i64 0, .slice none 0 0, .bool false] 39 (0, 0)) ∧ W.heap[b + 1]? = some (.cells #[.int .i64 2] 46 (0, 0)) ∧ Below b w W ∧ R = (zeroX, 2)
theorem PK.same {w : World} {b len : Nat} {R : Script × Int} {r : List UInt8} {W W' : World} {k : Nat} {x : Script} {sv : Value} (h : PK w b len R r W k x sv) (hsz : W.heap.size ≤ W'.heap.size) (hbel : Below b w W')
    (hs : ∀ (n : Nat) (o : Obj), n ≠ b + 1 + 1 + 1 + 1 → W.heap[n]? = some o → o.isCells = true → W'.heap[n]? = some o) : PK w b len R r W' k x sv := by
  refine ⟨hs _ _ (by omega) h.b0 rfl, hs _ _ (by omega) h.b1 rfl, hs _ _ (by omega) h.b2 rfl, hs _ _ (by omega) h.b3 rfl, ⟨h.row.1, ?_⟩, hbel, by have := h.sz; omega, h.le, h.ans, h.fresh, h.res⟩
  rcases h.row.2 with hn | ⟨g, cap, cur, h1, h2, h3, h4⟩
  · exact .inl hn
  · exact .inr ⟨g, cap, cur, h1, h2, hs _ _ (by omega) h3 rfl, h4⟩
theorem PJ.own (w : World) (b len : Nat) (R : Script × Int) {B : Nat} (hw : b ≤ w.heap.size) (hB : b ≤ B) : OwnFrom B (PJ w b len R) := by
  rintro r W W' row ⟨k, x, sv, h⟩ hg hr
  have hb := (ownFrom_below (β := Unit) (n₀ := b) (B := B) (w₀ := w) hw hB) () W W' row h.bel hg hr
  refine ⟨k, x, sv, h.same hg.size hb fun n o _ ho hc => ?_⟩
  refine (hg.block n (Array.getElem?_eq_some_iff.1 ho).1 ?_).trans ho
  intro e
  obtain ⟨_, o', ho', hc'⟩ := hr n e.symm
  rw [ho] at ho'
  cases ho'
  rw [hc] at hc'
  cases hc'
theorem PJ.set {w : World} {b len : Nat} {R : Script × Int} (r : List UInt8) (W : World) (v : Value) (h : PJ w b len R r W) : PJ w b len R r (W.setCell ⟨b + 1 + 1 + 1 + 1, 0, none⟩ v) := by
  obtain ⟨k, x, sv, h⟩ := h
  exact ⟨k, x, sv, h.same (by simp) (h.bel.setCell (p := ⟨_, _, none⟩) (by simp; omega) _) fun n o hn ho _ => (Below.heap_setCell _ _ _ _ hn).trans ho⟩
theorem PJ.drew {w : World} {b len : Nat} {R : Script × Int} (r : List UInt8) (W : World) (h : PJ w b len R r W) : PJ w b len R r W.drew := by
  obtain ⟨k, x, sv, h⟩ := h
  exact ⟨k, x, sv, h.same (Nat.le_refl _) ⟨h.bel.os, h.bel.tape, h.bel.output, h.bel.size, h.bel.block⟩ fun n o _ ho _ => ho⟩
theorem PJx.own (w : World) (b : Nat) (R : Script × Int) {B : Nat} (hw : b ≤ w.heap.size) (hB : b ≤ B) : OwnFrom B (fun (_ : Unit) => PJx w b R) := by
  rintro u W W' row ⟨h0, h1, h2, h3⟩ hg hr
  have hb := (ownFrom_below (β := Unit) (n₀ := b) (B := B) (w₀ := w) hw hB) () W W' row h2 hg hr
  have key : ∀ (n : Nat) (o : Obj), W.heap[n]? = some o → o.isCells = true → W'.heap[n]? = some o := fun n o ho hc => by
    refine (hg.block n (Array.getElem?_eq_some_iff.1 ho).1 ?_).trans ho
    intro e
    obtain ⟨_, o', ho', hc'⟩ := hr n e.symm
    rw [ho] at ho'
    cases ho'
    rw [hc] at hc'
    cases hc'
  exact ⟨key _ _ h0 rfl, key _ _ h1 rfl, hb, h3⟩
theorem xuj {W W' : World} (h : Below W.heap.size W W') : KeepsOthers W W' := ⟨h.size, fun k o hk _ => (h.block k (Array.getElem?_eq_some_iff.1 hk).1).trans hk⟩
theorem x70 (t : List UInt8) (w : World) (hg : GW w) : Calls Tryd.prog 48 #[.string (bB t)] w fun e w' => e = .returned (.tuple #[.agg #[.int .i64 (firstA t).1.mode, .slice none 0 0, .bool (firstA t).1.default], .bool (firstA t).2]) ∧ Below w.heap.size w w' := by
  refine ((x9n (bB t) _ (xyu t)).2 (fun _ => False) w [.string (bB t)] ⟨fun _ h => h.elim, hg⟩ ?_).mono ?_
  · simp only [VReps]
    exact ⟨_, _, by simp only [VRep], rfl, rfl⟩
  · rintro e w' ⟨v, rfl, hb, hv⟩
    simp only [VRep, VReps] at hv
    obtain ⟨_, ⟨_, _, ⟨_, ⟨_, _, rfl, ⟨_, _, rfl, ⟨_, _, rfl, rfl, rfl⟩, rfl⟩, rfl⟩, rfl⟩, ⟨_, _, rfl, rfl, rfl⟩, rfl⟩, rfl⟩ := hv
    exact ⟨rfl, hb⟩
theorem read_w {t : List UInt8} (ht : t.length ≤ 10000) (w : World) (hg : GW w) : Calls Tryd.prog 23 #[.string (bB t)] w fun e w' => e = .returned (.tuple #[.agg #[.int .i64 (readA t).1.clause, .int .i64 (readA t).1.ino, .int .i64 (readA t).1.slot, .bool (readA t).1.yes], .bool (readA t).2]) ∧ Below w.heap.size w w' := by
  refine ((x9g (bB t) _ (x2k ht)).2 (fun _ => False) w [.string (bB t)] ⟨fun _ h => h.elim, hg⟩ ?_).mono ?_
  · simp only [VReps]
    exact ⟨_, _, by simp only [VRep], rfl, rfl⟩
  · rintro e w' ⟨v, rfl, hb, hv⟩
    unfold xc at hv
    simp only [VRep, VReps] at hv
    obtain ⟨_, ⟨_, _, ⟨_, ⟨_, _, rfl, ⟨_, _, rfl, ⟨_, _, rfl, ⟨_, _, rfl, rfl, rfl⟩, rfl⟩, rfl⟩, rfl⟩, rfl⟩, ⟨_, _, rfl, rfl, rfl⟩, rfl⟩, rfl⟩ := hv
    exact ⟨rfl, hb⟩
theorem x6x (l : List UInt8) (hl : l.length ≤ 10000) (w : World) : Calls Tryd.prog 47 #[.string (bB l), .string (ByteArray.mk #[10])] w fun e w' => e = .returned (.tuple #[.string (bB (textOf l)), .bool (whole l)]) ∧ w' = w :=
  Tryd.strings_CutSuffix (bB l) (ByteArray.mk #[10]) w (by rw [xh]; omega)
theorem xhy (r : List UInt8) : (cutLn r).1.length ≤ r.length := by
  unfold cutLn
  split
  · rw [List.length_take]; omega
  · exact Nat.le_refl _
theorem xdx (l : List UInt8) : (textOf l).length ≤ l.length := by
  unfold textOf Lib.trimSuffix
  split
  · rw [List.length_take]; omega
  · exact Nat.le_refl _
theorem xds {r : List UInt8} (h : r ≠ []) : (cutLn r).2.length < r.length := by
  have := List.length_pos_iff.2 h
  unfold cutLn
  split
  · rw [List.length_drop]; omega
  · exact this
theorem xoh {r : List UInt8} (h : r ≠ []) (f k : Nat) (x : Script) : parseS (f + 1) k x r = if k = 0 then (if (firstA (textOf (cutLn r).1)).2 = true ∧ whole (cutLn r).1 = true then parseS f 1 (firstA (textOf (cutLn r).1)).1 (cutLn r).2 else (zeroX, 2))
    else if (readA (textOf (cutLn r).1)).2 = true ∧ whole (cutLn r).1 = true then parseS f (k + 1) ⟨x.mode, x.answers ++ [(readA (textOf (cutLn r).1)).1], x.default⟩ (cutLn r).2 else (zeroX, 2) := by
  cases r with
  | nil => exact absurd rfl h
  | cons c r => rfl
theorem x5u (t : List UInt8) : (firstA t).1.answers = [] := by
  unfold firstA
  repeat' split
  all_goals rfl
theorem xpd {W : World} {B i : Nat} {cs : Array Value} {T : TypeId} (h : W.heap[B]? = some (.cells cs T (0, 0))) (v : Value) : (W.setCell ⟨B, i, none⟩ v).heap[B]? = some (.cells (cs.setIfInBounds i v) T (0, 0)) := by
  obtain ⟨hlt, h'⟩ := Array.getElem?_eq_some_iff.1 h
  show (W.heap.modify B _)[B]? = _
  rw [Array.getElem?_eq_getElem (by rw [Array.size_modify]; exact hlt), Array.getElem_modify_self, h']
  rfl
theorem set3 {W : World} {B : Nat} {a0 a1 a2 : Value} {T : TypeId} (h : W.heap[B]? = some (.cells #[a0, a1, a2] T (0, 0))) (v0 v1 v2 : Value) :
    (((W.setCell ⟨B, 0, none⟩ v0).setCell ⟨B, 1, none⟩ v1).setCell ⟨B, 2, none⟩ v2).heap[B]? = some (.cells #[v0, v1, v2] T (0, 0)) := xpd (xpd (xpd h v0) v1) v2
theorem xqf {W : World} {B n : Nat} (h : n ≠ B) (v0 v1 v2 : Value) :
    (((W.setCell ⟨B, 0, none⟩ v0).setCell ⟨B, 1, none⟩ v1).setCell ⟨B, 2, none⟩ v2).heap[n]? = W.heap[n]? :=
  (Below.heap_setCell _ ⟨B, 2, none⟩ _ _ h).trans ((Below.heap_setCell _ ⟨B, 1, none⟩ _ _ h).trans (Below.heap_setCell _ ⟨B, 0, none⟩ _ _ h))
theorem x0f (W : World) (B : Nat) (v0 v1 v2 : Value) : KeepsOthers W (((W.setCell ⟨B, 0, none⟩ v0).setCell ⟨B, 1, none⟩ v1).setCell ⟨B, 2, none⟩ v2) :=
  ((KeepsOthers.setCell _ _ _).trans (KeepsOthers.setCell _ _ _)).trans (KeepsOthers.setCell _ _ _)
theorem xcf {n : Nat} {w W : World} (h : Below n w W) {B : Nat} (hB : n ≤ B) (v0 v1 v2 : Value) : Below n w (((W.setCell ⟨B, 0, none⟩ v0).setCell ⟨B, 1, none⟩ v1).setCell ⟨B, 2, none⟩ v2) :=
  ((h.setCell (p := ⟨B, 0, none⟩) hB v0).setCell (p := ⟨B, 1, none⟩) hB v1).setCell (p := ⟨B, 2, none⟩) hB v2
theorem xli {w : World} {b len k : Nat} {R : Script × Int} {r : List UInt8} {W U : World} {x : Script} {sv : Value} {c : Addr} {J : World → Prop} (h : PK w b len R r W k x sv)
    (hu : ∀ n, b ≤ n → n < b + 5 → n ≠ b + 1 + 1 → U.heap[n]? = W.heap[n]?) (hk : KeepsOthers W U) (hb : Below b w U) (hR : R = (zeroX, 2)) (a : Act) :
    postJ c J (PJx w b R) W .ret a ((((U.setCell ⟨b, 0, none⟩ (.int .i64 0)).setCell ⟨b, 1, none⟩ (.slice none 0 0)).setCell ⟨b, 2, none⟩ (.bool false)).setCell ⟨b + 1, 0, none⟩ (.int .i64 2)) := by
  have q0 := (hu b (Nat.le_refl _) (by omega) (by omega)).trans h.b0
  have q1 := (hu (b + 1) (by omega) (by omega) (by omega)).trans h.b1
  refine ⟨(hk.trans (x0f _ _ _ _ _)).trans (KeepsOthers.setCell _ _ _), ?_, ?_, (xcf hb (Nat.le_refl _) _ _ _).setCell (p := ⟨b + 1, 0, none⟩) (Nat.le_succ _) _, hR⟩
  · exact (Below.heap_setCell _ ⟨b + 1, 0, none⟩ _ _ (by simp)).trans (set3 q0 _ _ _)
  · exact xpd ((xqf (by omega) _ _ _).trans q1) _
theorem fin_go {w : World} {b len k : Nat} {R : Script × Int} {r r' : List UInt8} {W U : World} {x x' : Script} {sv sv' : Value} {Jx : World → Prop} (h : PK w b len R r W k x sv)
    (hu : ∀ n, b ≤ n → n < b + 5 → n ≠ b + 1 + 1 → U.heap[n]? = W.heap[n]?) (hk : KeepsOthers W U) (hb : Below b w U) (h2 : U.heap[b + 1 + 1]? = some (.cells #[.int .i64 x'.mode, sv', .bool x'.default] 39 (0, 0)))
    (row : U.ownsRow (b + 5) 36 4 sv' x'.answers.length (cellsA x'.answers)) (le : r'.length + (k + 1) ≤ len) (ans : x'.answers.length ≤ k + 1) (res : ∃ f, r'.length < f ∧ parseS f (k + 1) x' r' = R) (n : Int) (hn : n = ((k + 1 : Nat) : Int)) (a : Act) :
    postJ ⟨b + 1 + 1 + 1 + 1, 0, none⟩ (PJ w b len R r') Jx W .normal a (U.setCell ⟨b + 1 + 1 + 1, 0, none⟩ (.int .i64 n)) := by
  subst hn
  have q0 := (hu b (Nat.le_refl _) (by omega) (by omega)).trans h.b0
  have q1 := (hu (b + 1) (by omega) (by omega) (by omega)).trans h.b1
  have q3 := (hu (b + 1 + 1 + 1) (by omega) (by omega) (by omega)).trans h.b3
  have q4 := hu (b + 1 + 1 + 1 + 1) (by omega) (by omega) (by omega)
  have ne : ∀ m, m ≠ b + 1 + 1 + 1 → (U.setCell ⟨b + 1 + 1 + 1, 0, none⟩ (.int .i64 ((k + 1 : Nat) : Int))).heap[m]? = U.heap[m]? := fun m hm => Below.heap_setCell _ ⟨b + 1 + 1 + 1, 0, none⟩ _ _ hm
  refine ⟨hk.trans (KeepsOthers.setCell _ _ _), Sm.block ((ne _ (by simp)).trans q4), k + 1, x', sv', (ne _ (by omega)).trans q0, (ne _ (by omega)).trans q1, (ne _ (by omega)).trans h2, xpd q3 _, ⟨row.1, ?_⟩, hb.setCell (p := ⟨b + 1 + 1 + 1, 0, none⟩) (by simp; omega) _, ?_, le, ans, by omega, res⟩
  · rcases row.2 with hn | ⟨g, cap, cur, e1, e2, e3, e4⟩
    · exact .inl hn
    · exact .inr ⟨g, cap, cur, e1, e2, (ne _ (by omega)).trans e3, e4⟩
  · have := h.sz
    have := hk.size
    simp only [World.size_setCell]
    omega
theorem infoA : ((Tryd.prog).info? 36).map (fun i => (i.zero, i.size, i.bytes)) = some (some (.agg #[.int .i64 0, .int .i64 0, .int .i64 0, .bool false]), 4, 32) := by kernel_rfl
theorem set3x {W : World} {B : Nat} {a0 a1 a2 a3 : Value} {T : TypeId} (h : W.heap[B]? = some (.cells #[a0, a1, a2, a3] T (0, 0))) (v0 v1 v2 : Value) :
    (((W.setCell ⟨B, 0, none⟩ v0).setCell ⟨B, 1, none⟩ v1).setCell ⟨B, 2, none⟩ v2).heap[B]? = some (.cells #[v0, v1, v2, a3] T (0, 0)) := xpd (xpd (xpd h v0) v1) v2
theorem x5p {W : World} {B n : Nat} (h : n ≠ B) (v0 v1 v2 v3 : Value) :
    ((((W.setCell ⟨B, 0, none⟩ v0).setCell ⟨B, 1, none⟩ v1).setCell ⟨B, 2, none⟩ v2).setCell ⟨B, 3, none⟩ v3).heap[n]? = W.heap[n]? := (Below.heap_setCell _ ⟨B, 3, none⟩ _ _ h).trans (xqf h _ _ _)
theorem xbk (W : World) (B : Nat) (v0 v1 v2 v3 : Value) : KeepsOthers W ((((W.setCell ⟨B, 0, none⟩ v0).setCell ⟨B, 1, none⟩ v1).setCell ⟨B, 2, none⟩ v2).setCell ⟨B, 3, none⟩ v3) :=
  (x0f _ _ _ _ _).trans (KeepsOthers.setCell _ _ _)
theorem x5n {n : Nat} {w W : World} (h : Below n w W) {B : Nat} (hB : n ≤ B) (v0 v1 v2 v3 : Value) : Below n w ((((W.setCell ⟨B, 0, none⟩ v0).setCell ⟨B, 1, none⟩ v1).setCell ⟨B, 2, none⟩ v2).setCell ⟨B, 3, none⟩ v3) :=
  (xcf h hB _ _ _).setCell (p := ⟨B, 3, none⟩) hB v3
theorem xco {W U : World} {base : Nat} {e : TypeId} {size : Nat} {v : Value} {n : Nat} {xs : List Value} (h : W.ownsRow base e size v n xs) (hu : ∀ g, base ≤ g → g < W.heap.size → U.heap[g]? = W.heap[g]?) : U.ownsRow base e size v n xs := by
  refine ⟨h.1, ?_⟩
  rcases h.2 with hn | ⟨g, cap, cur, e1, e2, e3, e4⟩
  · exact .inl hn
  · exact .inr ⟨g, cap, cur, e1, e2, (hu g e2 (Array.getElem?_eq_some_iff.1 e3).1).trans e3, e4⟩
theorem xix {W : World} {base : Nat} {e : TypeId} {size : Nat} {v : Value} {n : Nat} {xs : List Value} (h : W.ownsRow base e size v n xs) : ∀ j, v.ownBlock = some j → base ≤ j ∧ ∃ o, W.heap[j]? = some o ∧ o.isCells = true := by
  intro j hj
  rcases h.2 with ⟨rfl, _⟩ | ⟨g, cap, cur, rfl, e2, e3, e4⟩
  · cases hj
  · cases hj
    exact ⟨e2, _, e3, rfl⟩
theorem xdv (w : World) (a0 a1 a2 a3 : Value) (t : TypeId) : ∀ j u, [a0, a1, a2, a3][j]? = some u → (w.alloc (.cells #[a0, a1, a2, a3] t)).cell? ((⟨w.heap.size, 0, none⟩ : Addr).add j) = some u := by
  intro j u hj
  have hb := World.alloc_heap_new w (.cells #[a0, a1, a2, a3] t)
  have key : ∀ (i : Nat) (v : Value), #[a0, a1, a2, a3][i]? = some v → (w.alloc (.cells #[a0, a1, a2, a3] t)).cell? ⟨w.heap.size, 0 + i, none⟩ = some v := by
    intro i v hv
    rw [Lib.cell_of_heap hb]
    simpa using hv
  have := key j u (by simpa using hj)
  rw [Nat.zero_add] at this
  rw [show (⟨w.heap.size, 0, none⟩ : Addr).add j = ⟨w.heap.size, j, none⟩ from by by_cases h : j = 0 <;> simp [Addr.add, h]]
  exact this
theorem xu1 {W : World} {base base' : Nat} {e : TypeId} {size : Nat} {v : Value} {n : Nat} {xs : List Value} (h : W.ownsRow base e size v n xs) (hb : base' ≤ base) : W.ownsRow base' e size v n xs := by
  refine ⟨h.1, ?_⟩
  rcases h.2 with hn | ⟨g, cap, cur, e1, e2, e3, e4⟩
  · exact .inl hn
  · exact .inr ⟨g, cap, cur, e1, Nat.le_trans hb e2, e3, e4⟩
theorem xeo {W : World} {b D : Nat} {m e : Int} {sv : Value} {d : Bool} {Q : Ending → World → Prop} {a : Act} (ha : a.defers = [{ target := .collected D, args := #[] }]) (h2 : a.tmps[2]?.getD undef = .pointer (some ⟨b, 0, none⟩)) (h3 : a.tmps[3]?.getD undef = .pointer (some ⟨b + 1, 0, none⟩)) (hD : b + 1 < D)
    (b0 : W.heap[b]? = some (.cells #[.int .i64 m, sv, .bool d] 39 (0, 0))) (b1 : W.heap[b + 1]? = some (.cells #[.int .i64 e] 46 (0, 0))) (hK : W.heap[D]? = some (.deferred (some [])))
    (hQ : Q (.returned (.tuple #[.agg #[.int .i64 m, sv, .bool d], .int .i64 e])) (W.putObj D (.deferred none))) : bodyPostM Fence.wide 3 Tryd.prog Tryd.f25 Q .ret a W := by
  have q0 := (World.putObj_heap_other (w := W) (o := .deferred none) (show b ≠ D by omega)).trans b0
  have q1 := (World.putObj_heap_other (w := W) (o := .deferred none) (show b + 1 ≠ D by omega)).trans b1
  obtain ⟨T, ds⟩ := a
  dsimp only at ha h2 h3
  subst ha
  refine ⟨by simp, .inl ⟨D, _, rfl, run_takeDeferred hK, ?_⟩⟩
  generalize W.putObj D (.deferred none) = V at hQ q0 q1
  refine ⟨_, ?_, hQ⟩
  have c00 : V.cell? ⟨b, 0, none⟩ = some (.int .i64 m) := by simp [World.cell?, q0]
  have c01 : V.cell? ⟨b, 1, none⟩ = some sv := by simp [World.cell?, q0]
  have c02 : V.cell? ⟨b, 2, none⟩ = some (.bool d) := by simp [World.cell?, q0]
  have c1 : V.cell? ⟨b + 1, 0, none⟩ = some (.int .i64 e) := by simp [World.cell?, q1]
  simp [results, Tryd.f25, go_sem, h2, h3, c00, c01, c02, c1]
def fstV (x : Array Value) : Value := x.getD 0 undef
theorem xmu (v : Value) : fstV #[v] = v := rfl
theorem alloc4 (w : World) (o0 o1 o2 o3 o4 : Obj) (n : Nat) (o : Obj) (hn : n < 5) (ho : [o0, o1, o2, o3, o4][n]? = some o) : (((((w.alloc o0).alloc o1).alloc o2).alloc o3).alloc o4).heap[w.heap.size + n]? = some o := by
  have k : ∀ (v : World) (a : Obj) (m : Nat), v.heap.size = m → (v.alloc a).heap[m]? = some a := fun v a m h => by rw [← h]; exact World.alloc_heap_new v a
  have u : ∀ (v : World) (a c : Obj) (m : Nat), m < v.heap.size → v.heap[m]? = some c → (v.alloc a).heap[m]? = some c := fun v a c m h e => (Below.heap_alloc v a m h).trans e
  have : n = 0 ∨ n = 1 ∨ n = 2 ∨ n = 3 ∨ n = 4 := by omega
  rcases this with rfl | rfl | rfl | rfl | rfl
  · cases ho; exact u _ _ _ _ (by simp only [World.size_alloc]; omega) (u _ _ _ _ (by simp only [World.size_alloc]; omega) (u _ _ _ _ (by simp only [World.size_alloc]; omega) (u _ _ _ _ (by simp only [World.size_alloc]; omega) (k _ _ _ rfl))))
  · cases ho; exact u _ _ _ _ (by simp only [World.size_alloc]; omega) (u _ _ _ _ (by simp only [World.size_alloc]; omega) (u _ _ _ _ (by simp only [World.size_alloc]; omega) (k _ _ _ (by simp only [World.size_alloc]))))
  · cases ho; exact u _ _ _ _ (by simp only [World.size_alloc]; omega) (u _ _ _ _ (by simp only [World.size_alloc]; omega) (k _ _ _ (by simp only [World.size_alloc])))
  · cases ho; exact u _ _ _ _ (by simp only [World.size_alloc]; omega) (k _ _ _ (by simp only [World.size_alloc]))
  · cases ho; exact k _ _ _ (by simp only [World.size_alloc])
set_option maxRecDepth 100000 in
theorem xn0 (s : ByteArray) (w : World) : Calls Tryd.prog 46 #[.string s] w fun e w' => e = .returned (.func (.func 57) #[] #[.pointer (some ⟨w.heap.size, 0, none⟩)]) ∧ w' = w.alloc (.cells #[.string s] 9) := by
  go_enter Tryd.func46, Tryd.ntmps46
  go_wp2
  go_ret
  exact ⟨rfl, rfl⟩
set_option maxRecDepth 100000 in
set_option maxHeartbeats 4000000 in
theorem xf1 {s : List UInt8} (hs : s.length ≤ 10000) (w : World) (hg : GW w) :
    Calls Tryd.prog 25 #[.string (bB s)] w fun e w' => ∃ sv, e = .returned (.tuple #[.agg #[.int .i64 (parseS (s.length + 1) 0 zeroX s).1.mode, sv, .bool (parseS (s.length + 1) 0 zeroX s).1.default], .int .i64 (parseS (s.length + 1) 0 zeroX s).2]) ∧ Below w.heap.size w w' ∧ w'.ownsRow w.heap.size 36 4 sv (parseS (s.length + 1) 0 zeroX s).1.answers.length (cellsA (parseS (s.length + 1) 0 zeroX s).1.answers) := by
  refine (callsIn_wide (n := 3)).1 ?_
  refine callsIn_of_wp_marks Tryd.func25 rfl trivial ?_ rfl
  simp only [Tryd.ntmps25, List.size_toArray, List.length_nil, List.length_cons, Nat.reduceAdd, Nat.reduceSub, Array.replicate_succ, Array.replicate_zero, List.push_toArray, List.append_toArray, List.nil_append, List.cons_append]
  gi_wp2_with (refine ⟨trivial, ?_⟩; gi_at_call 46; refine (callsIn_wide.2 (xn0 _ _)).mono ?_; rintro e w' ⟨rfl, rfl⟩)
  obtain ⟨b, hb⟩ : ∃ b, w.heap.size = b := ⟨_, rfl⟩
  have hW : ∃ W0, W0 = ((((w.alloc (.cells #[.int .i64 0, .slice none 0 0, .bool false] 39)).alloc (.cells #[.int .i64 0] 46)).alloc (.cells #[.int .i64 0, .slice none 0 0, .bool false] 39)).alloc (.cells #[.int .i64 0] 3)).alloc (.cells #[.string (bB s)] 9) := ⟨_, rfl⟩
  obtain ⟨W0, hW0⟩ := hW
  have hPK : PK w b s.length (parseS (s.length + 1) 0 zeroX s) s W0 0 zeroX (.slice none 0 0) := by
    subst hb
    refine ⟨?_, ?_, ?_, ?_, World.ownsRow_nil _ _ _ _, ?_, ?_, by omega, Nat.le_refl _, fun _ => rfl, ⟨_, by omega, rfl⟩⟩
    · rw [hW0]; exact alloc4 w _ _ _ _ _ 0 _ (by omega) rfl
    · rw [hW0]; exact alloc4 w _ _ _ _ _ 1 _ (by omega) rfl
    · rw [hW0]; exact alloc4 w _ _ _ _ _ 2 _ (by omega) rfl
    · rw [hW0]; exact alloc4 w _ _ _ _ _ 3 _ (by omega) rfl
    · rw [hW0]; exact ((((((Below.refl _ w).alloc (Nat.le_refl _) _).alloc (by simp) _).alloc (by simp; omega) _).alloc (by simp; omega) _).alloc (by simp; omega) _)
    · rw [hW0]; simp
  have hc0 : W0.heap[b + 1 + 1 + 1 + 1]? = some (.cells #[.string (bB s)] 9 (0, 0)) := by
    subst hb
    rw [hW0]; exact alloc4 w _ _ _ _ _ 4 _ (by omega) rfl
  have hbw : b ≤ w.heap.size := by omega
  have hbW : b + 1 + 1 + 1 + 1 < W0.heap.size := by have := hPK.sz; omega
  have hgb : gN ≤ b := by rw [← hb]; exact hg.size
  rw [← hW0, hb]
  refine xzt (c := ⟨b + 1 + 1 + 1 + 1, 0, none⟩) rfl (by omega) (gf := 57) (lb := #[.pointer (some ⟨b + 1 + 1 + 1 + 1, 0, none⟩)]) rfl trivial (enters_of Tryd.func57 (by kernel_rfl) rfl)
    (xdt 2 (by omega) _ s (by omega)) hbW (by simp [World.cell?, hc0]) (by simp [World.frozen?, hc0]) (fun s x s' h => by rw [h.2.1]; rfl)
    (PJ w b s.length (parseS (s.length + 1) 0 zeroX s)) (PJx w b (parseS (s.length + 1) 0 zeroX s)) (PJ.own w b _ _ hbw (by omega)) (PJx.own w b _ hbw (by omega)) PJ.set PJ.drew ⟨0, zeroX, _, hPK⟩
    (fun x => { tmps := #[.string (bB s), undef, .pointer (some ⟨b, 0, none⟩), .pointer (some ⟨b + 1, 0, none⟩), .pointer (some ⟨b + 1 + 1, 0, none⟩), .pointer (some ⟨b + 1 + 1 + 1, 0, none⟩), fstV x, undef, undef, undef, undef, .string (bB s), .func (.func 57) #[] #[.pointer (some ⟨b + 1 + 1 + 1 + 1, 0, none⟩)], fstV x, undef, undef, undef, undef, undef, undef, undef, undef, undef, undef, undef, undef, undef, undef, undef, undef, undef, undef, undef, undef, undef, undef, undef, undef, undef, undef, undef, undef, undef, undef, undef, undef, undef, undef, undef, undef, undef, undef], defers := [] }) ?assign ?body ?done ?stop
  case assign =>
    rintro l r r' x W K ⟨_, rfl, _⟩ hK
    rw [xmu] at hK
    gi_wp2
    exact hK
  case body =>
    rintro l r x r' W ⟨hne, rfl, rfl⟩ ⟨k, x, sv, h⟩ hcv
    rw [xmu]
    have hlt := h.sz
    have hgW : GW W := hg.mono h.bel hgb
    have hln := xhy r
    generalize hL : (cutLn r).1 = L at hcv hln ⊢
    have hle := h.le
    have hLl : L.length ≤ 10000 := by omega
    have hsf := x6x L hLl
    have hTl := xdx L
    generalize hT : textOf L = T at hsf hTl
    generalize hwh : whole L = wh at hsf
    have c3 : W.cell? ⟨b + 1 + 1 + 1, 0, none⟩ = some (.int .i64 k) := by simp [World.cell?, h.b3]
    have f3 : W.frozen? ⟨b + 1 + 1 + 1, 0, none⟩ = false := by simp [World.frozen?, h.b3]
    have hl3 : b + 1 + 1 + 1 < W.heap.size := by omega
    have hl2 : b + 1 + 1 < W.heap.size := by omega
    have hl1 : b + 1 < W.heap.size := by omega
    have hl0 : b < W.heap.size := by omega
    have hgA : ∀ o, GW (W.alloc o) := fun o => hgW.mono ((Below.refl _ W).alloc (Nat.le_refl _) o) hgW.size
    have hb2 : ∀ (o : Obj) (w2 : World), Below (W.alloc o).heap.size (W.alloc o) w2 → ∀ n, n < W.heap.size → w2.heap[n]? = W.heap[n]? := fun o w2 hbw n hn => (hbw.block n (by rw [World.size_alloc]; omega)).trans (Below.heap_alloc W o n hn)
    by_cases hk : k = 0
    · subst hk
      have hfw := x70 T
      generalize hX : firstA T = X at hfw
      gi_wp2_with (refine ⟨trivial, ?_⟩; gi_at_call 47; refine (CallsIn.inRound l (callsIn_wide.2 (hsf _))).mono ?_; rintro e W ⟨rfl, rfl⟩)
      gi_wp2_with (refine ⟨trivial, ?_⟩; gi_at_call 48; refine (CallsIn.inRound l (callsIn_wide.2 (hfw _ (hgA _)))).mono ?_)
      clear hfw hsf hgA c3 f3
      rintro e w2 ⟨rfl, hbw2⟩
      have hk2 := hb2 _ _ hbw2
      have s2 : W.heap.size < w2.heap.size := by have := hbw2.size; rw [World.size_alloc] at this; omega
      have p0 := (hk2 _ hl0).trans h.b0
      have p1 := (hk2 _ hl1).trans h.b1
      have p2 := (hk2 _ hl2).trans h.b2
      have p3 := (hk2 _ hl3).trans h.b3
      have c3 : w2.cell? ⟨b + 1 + 1 + 1, 0, none⟩ = some (.int .i64 0) := by simp [World.cell?, p3]
      have f3 : w2.frozen? ⟨b + 1 + 1 + 1, 0, none⟩ = false := by simp [World.frozen?, p3]
      have c20 : w2.cell? ⟨b + 1 + 1, 0, none⟩ = some (.int .i64 x.mode) := by simp [World.cell?, p2]
      have c21 : w2.cell? ⟨b + 1 + 1, 1, none⟩ = some sv := by simp [World.cell?, p2]
      have c22 : w2.cell? ⟨b + 1 + 1, 2, none⟩ = some (.bool x.default) := by simp [World.cell?, p2]
      have f20 : w2.frozen? ⟨b + 1 + 1, 0, none⟩ = false := by simp [World.frozen?, p2]
      have f21 : w2.frozen? ⟨b + 1 + 1, 1, none⟩ = false := by simp [World.frozen?, p2]
      have f22 : w2.frozen? ⟨b + 1 + 1, 2, none⟩ = false := by simp [World.frozen?, p2]
      have c00 : w2.cell? ⟨b, 0, none⟩ = some (.int .i64 0) := by simp [World.cell?, p0]
      have c01 : w2.cell? ⟨b, 1, none⟩ = some (.slice none 0 0) := by simp [World.cell?, p0]
      have c02 : w2.cell? ⟨b, 2, none⟩ = some (.bool false) := by simp [World.cell?, p0]
      have f00 : w2.frozen? ⟨b, 0, none⟩ = false := by simp [World.frozen?, p0]
      have f01 : w2.frozen? ⟨b, 1, none⟩ = false := by simp [World.frozen?, p0]
      have f02 : w2.frozen? ⟨b, 2, none⟩ = false := by simp [World.frozen?, p0]
      have c1 : w2.cell? ⟨b + 1, 0, none⟩ = some (.int .i64 0) := by simp [World.cell?, p1]
      have f1 : w2.frozen? ⟨b + 1, 0, none⟩ = false := by simp [World.frozen?, p1]
      have hkW : KeepsOthers W w2 := (KeepsOthers.alloc W _).trans (xuj hbw2)
      have hbW2 : Below b w w2 := h.bel.trans (((Below.refl b W).alloc (by omega) _).trans (hbw2.mono (by rw [World.size_alloc]; omega)))
      obtain ⟨f, hf, hres⟩ := h.res
      obtain ⟨f, rfl⟩ : ∃ g, f = g + 1 := ⟨f - 1, by omega⟩
      rw [xoh hne, if_pos rfl, hL, hT, hX, hwh] at hres
      have hXa : X.1.answers = [] := by rw [← hX]; exact x5u T
      have hlt2 := xds hne
      have hu : ∀ v0 v1 v2, ∀ n, b ≤ n → n < b + 5 → n ≠ b + 1 + 1 → (((w2.setCell ⟨b + 1 + 1, 0, none⟩ v0).setCell ⟨b + 1 + 1, 1, none⟩ v1).setCell ⟨b + 1 + 1, 2, none⟩ v2).heap[n]? = W.heap[n]? := fun v0 v1 v2 n _ h2 h3 => (xqf h3 _ _ _).trans (hk2 n (by omega))
      have hR : ¬ (X.2 = true ∧ wh = true) → parseS (s.length + 1) 0 zeroX s = (zeroX, 2) := fun hh => by rw [← hres, if_neg hh]
      cases hfo : X.2 <;> cases hwo : wh
      · gi_wp2
        exact xli h (hu _ _ _) (hkW.trans (x0f _ _ _ _ _)) (xcf hbW2 (by omega) _ _ _) (hR (by rw [hfo]; simp)) _
      · gi_wp2
        exact xli h (hu _ _ _) (hkW.trans (x0f _ _ _ _ _)) (xcf hbW2 (by omega) _ _ _) (hR (by rw [hfo]; simp)) _
      · gi_wp2
        exact xli h (hu _ _ _) (hkW.trans (x0f _ _ _ _ _)) (xcf hbW2 (by omega) _ _ _) (hR (by rw [hwo]; simp)) _
      · rw [if_pos ⟨hfo, hwo⟩] at hres
        gi_wp2
        exact fin_go (x' := X.1) h (hu _ _ _) (hkW.trans (x0f _ _ _ _ _)) (xcf hbW2 (by omega) _ _ _) (set3 p2 _ _ _) (by rw [hXa]; exact World.ownsRow_nil _ _ _ _) (by omega) (by rw [hXa]; simp) ⟨f, by omega, hres⟩ _ rfl _
    · have hk' : ¬ ((k : Int) = 0) := by omega
      obtain ⟨i0, hi0, hz0, hz1, hz2⟩ := info_parts infoA
      have hrw := fun w hg => read_w (t := T) (by omega) w hg
      generalize hX : readA T = X at hrw
      gi_wp2_with (refine ⟨trivial, ?_⟩; gi_at_call 47; refine (CallsIn.inRound l (callsIn_wide.2 (hsf _))).mono ?_; rintro e W ⟨rfl, rfl⟩)
      gi_wp2_with (refine ⟨trivial, ?_⟩; gi_at_call 23; refine (CallsIn.inRound l (callsIn_wide.2 (hrw _ (hgA _)))).mono ?_)
      clear hrw hsf hgA c3 f3
      rintro e w2 ⟨rfl, hbw2⟩
      have hk2 := hb2 _ _ hbw2
      have s2 : W.heap.size < w2.heap.size := by have := hbw2.size; rw [World.size_alloc] at this; omega
      have p0 := (hk2 _ hl0).trans h.b0
      have p1 := (hk2 _ hl1).trans h.b1
      have p2 := (hk2 _ hl2).trans h.b2
      have p3 := (hk2 _ hl3).trans h.b3
      have pA := (hbw2.block W.heap.size (by rw [World.size_alloc]; omega)).trans (World.alloc_heap_new W _)
      have c3 : w2.cell? ⟨b + 1 + 1 + 1, 0, none⟩ = some (.int .i64 k) := by simp [World.cell?, p3]
      have f3 : w2.frozen? ⟨b + 1 + 1 + 1, 0, none⟩ = false := by simp [World.frozen?, p3]
      have c21 : w2.cell? ⟨b + 1 + 1, 1, none⟩ = some sv := by simp [World.cell?, p2]
      have f21 : w2.frozen? ⟨b + 1 + 1, 1, none⟩ = false := by simp [World.frozen?, p2]
      have cA0 : w2.cell? ⟨W.heap.size, 0, none⟩ = some (.int .i64 0) := by simp [World.cell?, pA]
      have cA1 : w2.cell? ⟨W.heap.size, 1, none⟩ = some (.int .i64 0) := by simp [World.cell?, pA]
      have cA2 : w2.cell? ⟨W.heap.size, 2, none⟩ = some (.int .i64 0) := by simp [World.cell?, pA]
      have cA3 : w2.cell? ⟨W.heap.size, 3, none⟩ = some (.bool false) := by simp [World.cell?, pA]
      have fA0 : w2.frozen? ⟨W.heap.size, 0, none⟩ = false := by simp [World.frozen?, pA]
      have fA1 : w2.frozen? ⟨W.heap.size, 1, none⟩ = false := by simp [World.frozen?, pA]
      have fA2 : w2.frozen? ⟨W.heap.size, 2, none⟩ = false := by simp [World.frozen?, pA]
      have fA3 : w2.frozen? ⟨W.heap.size, 3, none⟩ = false := by simp [World.frozen?, pA]
      have c00 : w2.cell? ⟨b, 0, none⟩ = some (.int .i64 0) := by simp [World.cell?, p0]
      have c01 : w2.cell? ⟨b, 1, none⟩ = some (.slice none 0 0) := by simp [World.cell?, p0]
      have c02 : w2.cell? ⟨b, 2, none⟩ = some (.bool false) := by simp [World.cell?, p0]
      have f00 : w2.frozen? ⟨b, 0, none⟩ = false := by simp [World.frozen?, p0]
      have f01 : w2.frozen? ⟨b, 1, none⟩ = false := by simp [World.frozen?, p0]
      have f02 : w2.frozen? ⟨b, 2, none⟩ = false := by simp [World.frozen?, p0]
      have c1 : w2.cell? ⟨b + 1, 0, none⟩ = some (.int .i64 0) := by simp [World.cell?, p1]
      have f1 : w2.frozen? ⟨b + 1, 0, none⟩ = false := by simp [World.frozen?, p1]
      have hkW : KeepsOthers W w2 := (KeepsOthers.alloc W _).trans (xuj hbw2)
      have hbW2 : Below b w w2 := h.bel.trans (((Below.refl b W).alloc (by omega) _).trans (hbw2.mono (by rw [World.size_alloc]; omega)))
      obtain ⟨f, hf, hres⟩ := h.res
      obtain ⟨f, rfl⟩ : ∃ g, f = g + 1 := ⟨f - 1, by omega⟩
      rw [xoh hne, if_neg hk, hL, hT, hX, hwh] at hres
      have hlt2 := xds hne
      have hR : ¬ (X.2 = true ∧ wh = true) → parseS (s.length + 1) 0 zeroX s = (zeroX, 2) := fun hh => by rw [← hres, if_neg hh]
      cases hfo : X.2 <;> cases hwo : wh
      · gi_wp2
        exact xli h (fun n _ h2 _ => (x5p (by omega) _ _ _ _).trans (hk2 n (by omega))) (hkW.trans (xbk _ _ _ _ _ _)) (x5n hbW2 (by omega) _ _ _ _) (hR (by rw [hfo]; simp)) _
      · gi_wp2
        exact xli h (fun n _ h2 _ => (x5p (by omega) _ _ _ _).trans (hk2 n (by omega))) (hkW.trans (xbk _ _ _ _ _ _)) (x5n hbW2 (by omega) _ _ _ _) (hR (by rw [hfo]; simp)) _
      all_goals obtain ⟨U, hU⟩ : ∃ U, (((w2.setCell ⟨W.heap.size, 0, none⟩ (.int .i64 X.1.clause)).setCell ⟨W.heap.size, 1, none⟩ (.int .i64 X.1.ino)).setCell ⟨W.heap.size, 2, none⟩ (.int .i64 X.1.slot)).setCell ⟨W.heap.size, 3, none⟩ (.bool X.1.yes) = U := ⟨_, rfl⟩
      all_goals have hUs : U.heap.size = w2.heap.size := by rw [← hU]; simp only [World.size_setCell]
      all_goals have hUn : ∀ n, n < W.heap.size → U.heap[n]? = W.heap[n]? := fun n hn => by rw [← hU]; exact (x5p (by omega) _ _ _ _).trans (hk2 n hn)
      all_goals have hUk : KeepsOthers W U := by rw [← hU]; exact hkW.trans (xbk _ _ _ _ _ _)
      all_goals have hUb : Below b w U := by rw [← hU]; exact x5n hbW2 (by omega) _ _ _ _
      all_goals have uA : U.heap[W.heap.size]? = some (.cells #[.int .i64 X.1.clause, .int .i64 X.1.ino, .int .i64 X.1.slot, .bool X.1.yes] 36 (0, 0)) := by rw [← hU]; exact xpd (set3x pA _ _ _) _
      all_goals have cA0 : U.cell? ⟨W.heap.size, 0, none⟩ = some (.int .i64 X.1.clause) := by simp [World.cell?, uA]
      all_goals have cA1 : U.cell? ⟨W.heap.size, 1, none⟩ = some (.int .i64 X.1.ino) := by simp [World.cell?, uA]
      all_goals have cA2 : U.cell? ⟨W.heap.size, 2, none⟩ = some (.int .i64 X.1.slot) := by simp [World.cell?, uA]
      all_goals have cA3 : U.cell? ⟨W.heap.size, 3, none⟩ = some (.bool X.1.yes) := by simp [World.cell?, uA]
      all_goals have u2 := (hUn _ hl2).trans h.b2
      all_goals have c21 : U.cell? ⟨b + 1 + 1, 1, none⟩ = some sv := by simp [World.cell?, u2]
      all_goals have u0 : b + 1 + 1 < U.heap.size := by omega
      all_goals have hrow := xco h.row (U := U.alloc (.cells #[.int .i64 X.1.clause, .int .i64 X.1.ino, .int .i64 X.1.slot, .bool X.1.yes] 36)) (fun g _ hg => (Below.heap_alloc U _ g (by omega)).trans (hUn g hg))
      all_goals have hUl : W.heap.size < U.heap.size := by omega
      all_goals clear hUs
      all_goals have hans := h.ans
      all_goals gi_wp2_with (gi_at_builtin; refine wpListIn_append_own _ rfl _ _ _ rfl (b + 5) 36 i0 _ 4 32 Tryd.underlying37 hi0 hz0 hz1 hz2 rfl (by decide) _ _ _ rfl hrow ⟨U.heap.size, 0, none⟩ 1 1 [.int .i64 X.1.clause, .int .i64 X.1.ino, .int .i64 X.1.slot, .bool X.1.yes] rfl rfl (xdv U _ _ _ _ _) (by simp [Value.oneCell']) (by unfold maxLen; omega) (by omega) (by simp only [World.size_alloc]; omega) ?_)
      all_goals clear hrow cA0 cA1 cA2 cA3 c21 u0 uA
      all_goals intro v' w1 hown hgrow _
      all_goals obtain ⟨g', cap', rfl⟩ := ownsRow_succ hown
      all_goals have hrb := xix h.row
      all_goals have hne5 : ∀ n, n < b + 5 → some n ≠ sv.ownBlock := fun n hn e => by have := (hrb n e.symm).1; omega
      all_goals have hq : ∀ n, n < b + 5 → w1.heap[n]? = W.heap[n]? := fun n hn => (hgrow.block n (by rw [World.size_alloc]; omega) (hne5 n hn)).trans ((Below.heap_alloc U _ n (by omega)).trans (hUn n (by omega)))
      all_goals have hw1k : KeepsOthers W w1 := (hUk.trans (KeepsOthers.alloc U _)).trans (KeepsOthers.of_grownBy hgrow fun j o e ho => by obtain ⟨h1, o', h2, h3⟩ := hrb j e; rw [Below.heap_alloc U _ j (by have := (Array.getElem?_eq_some_iff.1 h2).1; omega), hUn j (Array.getElem?_eq_some_iff.1 h2).1, h2] at ho; cases ho; exact h3)
      all_goals have hw1b : Below b w w1 := (hUb.alloc (by omega) _).grown hgrow (by rw [World.size_alloc]; omega) (fun j e => by have := (hrb j e).1; omega)
      all_goals clear hgrow hU hUn hUk hUb
      all_goals have q0 := (hq b (by omega)).trans h.b0
      all_goals have q1 := (hq (b + 1) (by omega)).trans h.b1
      all_goals have q2 := (hq (b + 1 + 1) (by omega)).trans h.b2
      all_goals have q3 := (hq (b + 1 + 1 + 1) (by omega)).trans h.b3
      all_goals have d3 : w1.cell? ⟨b + 1 + 1 + 1, 0, none⟩ = some (.int .i64 k) := by simp [World.cell?, q3]
      all_goals have g3 : w1.frozen? ⟨b + 1 + 1 + 1, 0, none⟩ = false := by simp [World.frozen?, q3]
      all_goals have d21 : w1.cell? ⟨b + 1 + 1, 1, none⟩ = some sv := by simp [World.cell?, q2]
      all_goals have g21 : w1.frozen? ⟨b + 1 + 1, 1, none⟩ = false := by simp [World.frozen?, q2]
      · have d00 : w1.cell? ⟨b, 0, none⟩ = some (.int .i64 0) := by simp [World.cell?, q0]
        have d01 : w1.cell? ⟨b, 1, none⟩ = some (.slice none 0 0) := by simp [World.cell?, q0]
        have d02 : w1.cell? ⟨b, 2, none⟩ = some (.bool false) := by simp [World.cell?, q0]
        have g00 : w1.frozen? ⟨b, 0, none⟩ = false := by simp [World.frozen?, q0]
        have g01 : w1.frozen? ⟨b, 1, none⟩ = false := by simp [World.frozen?, q0]
        have g02 : w1.frozen? ⟨b, 2, none⟩ = false := by simp [World.frozen?, q0]
        have d1 : w1.cell? ⟨b + 1, 0, none⟩ = some (.int .i64 0) := by simp [World.cell?, q1]
        have g1 : w1.frozen? ⟨b + 1, 0, none⟩ = false := by simp [World.frozen?, q1]
        gi_wp2
        exact xli h (fun n _ h2 h3 => (Below.heap_setCell _ ⟨b + 1 + 1, 1, none⟩ _ _ h3).trans (hq n h2)) (hw1k.trans (KeepsOthers.setCell _ _ _)) (hw1b.setCell (p := ⟨b + 1 + 1, 1, none⟩) (by simp; omega) _) (hR (by rw [hwo]; simp)) _
      · rw [if_pos ⟨hfo, hwo⟩] at hres
        have hk1 : (k : Int) + 1 ≤ 9223372036854775807 := by omega
        have hk0 : -9223372036854775808 ≤ (k : Int) + 1 := by omega
        gi_wp2
        exact fin_go (x' := ⟨x.mode, x.answers ++ [X.1], x.default⟩) h (fun n _ h2 h3 => (Below.heap_setCell _ ⟨b + 1 + 1, 1, none⟩ _ _ h3).trans (hq n h2)) (hw1k.trans (KeepsOthers.setCell _ _ _)) (hw1b.setCell (p := ⟨b + 1 + 1, 1, none⟩) (by simp; omega) _) (xpd q2 _)
          (xco (by simpa [cellsA] using hown) fun g hg _ => Below.heap_setCell _ ⟨b + 1 + 1, 1, none⟩ _ _ (by simp; omega)) (by omega) (by simp; omega) ⟨f, by omega, hres⟩ _ (by omega) _
  case done =>
    rintro D s' W hD rfl ⟨k, x, sv, h⟩ hK
    obtain ⟨f, hf, hres⟩ := h.res
    obtain ⟨f, rfl⟩ : ∃ g, f = g + 1 := ⟨f - 1, by have := hf; omega⟩
    have c3 : W.cell? ⟨b + 1 + 1 + 1, 0, none⟩ = some (.int .i64 k) := by simp [World.cell?, h.b3]
    by_cases hk : k = 0
    · subst hk
      have c00 : W.cell? ⟨b, 0, none⟩ = some (.int .i64 0) := by simp [World.cell?, h.b0]
      have c01 : W.cell? ⟨b, 1, none⟩ = some (.slice none 0 0) := by simp [World.cell?, h.b0]
      have c02 : W.cell? ⟨b, 2, none⟩ = some (.bool false) := by simp [World.cell?, h.b0]
      have f00 : W.frozen? ⟨b, 0, none⟩ = false := by simp [World.frozen?, h.b0]
      have f01 : W.frozen? ⟨b, 1, none⟩ = false := by simp [World.frozen?, h.b0]
      have f02 : W.frozen? ⟨b, 2, none⟩ = false := by simp [World.frozen?, h.b0]
      have c1 : W.cell? ⟨b + 1, 0, none⟩ = some (.int .i64 0) := by simp [World.cell?, h.b1]
      have f1 : W.frozen? ⟨b + 1, 0, none⟩ = false := by simp [World.frozen?, h.b1]
      gi_wp2
      have hR : parseS (s.length + 1) 0 zeroX s = (zeroX, 2) := by rw [← hres]; rfl
      refine xeo (m := 0) (d := false) (e := 2) (sv := .slice none 0 0) (D := D) (b := b) rfl rfl rfl (by omega) ?_ ?_ ?_ ?_
      · exact (Below.heap_setCell _ ⟨b + 1, 0, none⟩ _ _ (by simp)).trans (set3 h.b0 _ _ _)
      · exact xpd ((xqf (by omega) _ _ _).trans h.b1) _
      · exact (Below.heap_setCell _ ⟨b + 1, 0, none⟩ _ _ (by simp; omega)).trans ((xqf (by omega) _ _ _).trans hK)
      · refine ⟨_, by rw [hR]; rfl, ?_, by rw [hR]; exact World.ownsRow_nil _ _ _ _⟩
        have h1 := (xcf h.bel (Nat.le_refl _) (.int .i64 0) (.slice none 0 0) (.bool false)).setCell (p := ⟨b + 1, 0, none⟩) (Nat.le_succ _) (.int .i64 2)
        rw [hb]
        exact h1.grown (grownBy_putObj' _ D _) (by simp only [World.size_setCell]; have := h.sz; omega) (fun k e => by cases e; omega)
    · have hk' : ¬ ((k : Int) = 0) := by omega
      have c00 : W.cell? ⟨b, 0, none⟩ = some (.int .i64 0) := by simp [World.cell?, h.b0]
      have c01 : W.cell? ⟨b, 1, none⟩ = some (.slice none 0 0) := by simp [World.cell?, h.b0]
      have c02 : W.cell? ⟨b, 2, none⟩ = some (.bool false) := by simp [World.cell?, h.b0]
      have f00 : W.frozen? ⟨b, 0, none⟩ = false := by simp [World.frozen?, h.b0]
      have f01 : W.frozen? ⟨b, 1, none⟩ = false := by simp [World.frozen?, h.b0]
      have f02 : W.frozen? ⟨b, 2, none⟩ = false := by simp [World.frozen?, h.b0]
      have c1 : W.cell? ⟨b + 1, 0, none⟩ = some (.int .i64 0) := by simp [World.cell?, h.b1]
      have f1 : W.frozen? ⟨b + 1, 0, none⟩ = false := by simp [World.frozen?, h.b1]
      have c20 : W.cell? ⟨b + 1 + 1, 0, none⟩ = some (.int .i64 x.mode) := by simp [World.cell?, h.b2]
      have c21 : W.cell? ⟨b + 1 + 1, 1, none⟩ = some sv := by simp [World.cell?, h.b2]
      have c22 : W.cell? ⟨b + 1 + 1, 2, none⟩ = some (.bool x.default) := by simp [World.cell?, h.b2]
      have hR : parseS (s.length + 1) 0 zeroX s = (x, 0) := by rw [← hres]; unfold parseS; rw [if_neg hk]
      obtain ⟨A', n', c', hsv⟩ : ∃ A n c, sv = .slice A n c := by
        rcases h.row.2 with ⟨h1, _⟩ | ⟨g, cap, cur, h1, _⟩
        · exact ⟨_, _, _, h1⟩
        · exact ⟨_, _, _, h1⟩
      subst hsv
      gi_wp2
      refine xeo (m := x.mode) (d := x.default) (e := 0) (sv := .slice A' n' c') (D := D) (b := b) rfl rfl rfl (by omega) ?_ ?_ ?_ ?_
      · exact (Below.heap_setCell _ ⟨b + 1, 0, none⟩ _ _ (by simp)).trans (set3 h.b0 _ _ _)
      · exact xpd ((xqf (by omega) _ _ _).trans h.b1) _
      · exact (Below.heap_setCell _ ⟨b + 1, 0, none⟩ _ _ (by simp; omega)).trans ((xqf (by omega) _ _ _).trans hK)
      · refine ⟨_, by rw [hR], ?_, ?_⟩
        · have h1 := (xcf h.bel (Nat.le_refl _) (.int .i64 x.mode) (.slice A' n' c') (.bool x.default)).setCell (p := ⟨b + 1, 0, none⟩) (Nat.le_succ _) (.int .i64 0)
          rw [hb]
          exact h1.grown (grownBy_putObj' _ D _) (by simp only [World.size_setCell]; have := h.sz; omega) (fun k e => by cases e; omega)
        · rw [hR, hb]
          exact xu1 (ownsRow_putObj (xco h.row fun g hg _ => (Below.heap_setCell _ ⟨b + 1, 0, none⟩ _ _ (by simp; omega)).trans (xqf (by omega) _ _ _)) _ ((Below.heap_setCell _ ⟨b + 1, 0, none⟩ _ _ (by simp; omega)).trans ((xqf (by omega) _ _ _).trans hK)) rfl) (by omega)
  case stop =>
    rintro D W hD ⟨h0, h1, hB, hR⟩ hK
    gi_wp2
    refine xeo (m := 0) (d := false) (e := 2) (sv := .slice none 0 0) (D := D) (b := b) rfl rfl rfl (by omega) h0 h1 hK ?_
    refine ⟨_, by rw [hR]; rfl, ?_, by rw [hR]; exact World.ownsRow_nil _ _ _ _⟩
    rw [hb]
    exact hB.grown (grownBy_putObj' _ D _) (by have := (Array.getElem?_eq_some_iff.1 h0).1; omega) (fun k e => by cases e; omega)
end Go.Proofs.YtjmnoaoeediodaaDoor.AL

/- script.Text and script.Parse by contract. -/
set_option linter.all false
namespace Go.Proofs.YtjmnoaoeediodaaDoor.AL
open Go Go.Proofs Go.RowKit
def valA (a : Answer) : Value := .agg #[.int .i64 a.clause, .int .i64 a.ino, .int .i64 a.slot, .bool a.yes]
theorem x8x (E : Env) (a : Answer) : VRep E (xc a) (valA a) := by
  unfold xc valA
  simp only [VRep, VReps]
  exact ⟨_, ⟨_, _, rfl, ⟨_, _, rfl, ⟨_, _, rfl, ⟨_, _, rfl, rfl, rfl⟩, rfl⟩, rfl⟩, rfl⟩, rfl⟩
theorem xcq (E : Env) : ∀ l : List Answer, VReps E (l.map xc) (l.map valA)
  | [] => by simp only [List.map_nil, VReps]
  | a :: l => by
    simp only [List.map_cons, VReps]
    exact ⟨_, _, x8x E a, xcq E l, rfl⟩
theorem xno : ∀ (l : List Answer) (i j : Nat) (a : Answer) (v : Value), l[i]? = some a → [Value.int .i64 a.clause, .int .i64 a.ino, .int .i64 a.slot, .bool a.yes][j]? = some v → (cellsA l)[i * 4 + j]? = some v
  | [], i, j, a, v, h, _ => by simp at h
  | b :: l, 0, j, a, v, h, hj => by
    simp only [List.getElem?_cons_zero, Option.some.injEq] at h
    subst h
    have hlt : j < 4 := by have := (List.getElem?_eq_some_iff.1 hj).1; simpa using this
    unfold cellsA
    rw [List.map_cons, List.flatten_cons, Nat.zero_mul, Nat.zero_add, List.getElem?_append_left (by simpa using hlt)]
    exact hj
  | b :: l, i + 1, j, a, v, h, hj => by
    have ih := xno l i j a v (by simpa using h) hj
    unfold cellsA at ih ⊢
    rw [List.map_cons, List.flatten_cons, List.getElem?_append_right (by simp; omega)]
    rw [← ih]
    congr 1
    simp
    omega
theorem xuu {w w' : World} {Z : Nat → Prop} (x : Script) (sv : Value) (hrow : w'.ownsRow w.heap.size 36 4 sv x.answers.length (cellsA x.answers)) :
    VRep (Ec (fun b => Z b ∨ (w.heap.size ≤ b ∧ b < w'.heap.size)) w') (xl x) (.agg #[.int .i64 x.mode, sv, .bool x.default]) := by
  unfold xl
  simp only [VRep, VReps, sll]
  refine ⟨_, ⟨_, _, rfl, ⟨sv, _, ?_, ⟨_, _, rfl, rfl, rfl⟩, rfl⟩, rfl⟩, rfl⟩
  rcases hrow.2 with ⟨rfl, h0⟩ | ⟨g, cap, cur, rfl, h1, h2, h3, h4, h5, h6⟩
  · have : x.answers = [] := List.eq_nil_of_length_eq_zero h0
    rw [this]
    exact ⟨[], none, 0, by simp only [List.map_nil, VReps], rfl, Nat.le_refl _, .inl rfl⟩
  · refine ⟨x.answers.map valA, some ⟨g, 0, none⟩, cap, xcq _ _, by simp, by simpa using h3, .inr ⟨g, 0, rfl, .inr ⟨h1, (Array.getElem?_eq_some_iff.1 h2).1⟩, ?_⟩⟩
    intro i u hu
    rw [List.getElem?_map] at hu
    obtain ⟨a, ha, rfl⟩ := Option.map_eq_some_iff.1 hu
    refine ⟨rfl, ?_, ?_⟩
    · intro v hv
      have : v ∈ [Value.int .i64 a.clause, .int .i64 a.ino, .int .i64 a.slot, .bool a.yes] := hv
      simp only [List.mem_cons, List.not_mem_nil, or_false] at this
      rcases this with rfl | rfl | rfl | rfl <;> rfl
    · intro j v hj
      have hj' : [Value.int .i64 a.clause, .int .i64 a.ino, .int .i64 a.slot, .bool a.yes][j]? = some v := by
        have h0 : #[Value.int .i64 a.clause, .int .i64 a.ino, .int .i64 a.slot, .bool a.yes][j]? = some v := hj
        simpa using h0
      have hc := xno x.answers i j a v ha hj'
      rw [← h6] at hc
      show w'.cell? ⟨g, 0 + i * 4 + j, none⟩ = some v
      rw [Lib.cell_of_heap h2, Nat.zero_add]
      have hlt := (List.getElem?_eq_some_iff.1 hc).1
      rw [List.getElem?_take] at hc
      split at hc
      · simpa using hc
      · cases hc
def x7b (s : ByteArray) : Option (Script × Int) := (ck (s.size ≤ 10000)).bind fun _ => some (parseS (s.data.toList.length + 1) 0 zeroX s.data.toList)
theorem xld (s : ByteArray) (r : Script × Int) (h : x7b s = some r) : Ok Tryd.prog 25 [str s] (.tup [xl r.1, int r.2]) := by
  unfold x7b at h
  obtain ⟨h1, h⟩ := ckE h
  obtain rfl := Option.some.inj h
  obtain ⟨l, rfl⟩ := bB_eq s
  rw [xh] at h1
  refine ⟨by kernel_rfl, fun Z w vals hZ hv => ?_⟩
  obtain rfl := xjj hv
  refine (xf1 h1 w hZ.gw).mono ?_
  rintro e w' ⟨sv, rfl, hb, hrow⟩
  refine ⟨_, rfl, hb, ?_⟩
  have hx := xuu (w := w) (w' := w') (Z := Z) _ sv hrow
  simp only [VRep, VReps]
  exact ⟨_, ⟨_, _, hx, ⟨_, _, rfl, rfl, rfl⟩, rfl⟩, rfl⟩
theorem aat_of {Z : Nat → Prop} {w : World} {l : List Answer} {v : Value} (h : VRep (Ec Z w) (.sl 4 (l.map xc)) v) (hZ : ∀ b, Z b → b < w.heap.size) : AAt w w.heap.size l v := by
  simp only [VRep] at h
  obtain ⟨us, A, cap, h1, rfl, h2, h3⟩ := h
  have hlen := h1.length
  simp only [List.length_map] at hlen ⊢
  refine ⟨A, cap, rfl, fun i f hf => ?_⟩
  have key : ∀ (xs : List Answer) (us : List Value), VReps (Ec Z w) (xs.map xc) us → us = xs.map valA := by
    intro xs
    induction xs with
    | nil => intro us hv; simpa only [List.map_nil, VReps] using hv
    | cons x xs ih =>
      intro us hv
      simp only [List.map_cons, VReps] at hv
      obtain ⟨u, us', g1, g2, rfl⟩ := hv
      unfold xc at g1
      simp only [VRep, VReps] at g1
      obtain ⟨cs, ⟨_, _, rfl, ⟨_, _, rfl, ⟨_, _, rfl, ⟨_, _, rfl, rfl, rfl⟩, rfl⟩, rfl⟩, rfl⟩, rfl⟩ := g1
      rw [ih us' g2]
      rfl
  have hu : us[i]? = some (valA f) := by rw [key l us h1, List.getElem?_map, hf]; rfl
  rcases h3 with h3 | ⟨b, o, rfl, g2, g3⟩
  · subst h3; simp at hu
  · obtain ⟨k1, k2, k3⟩ := g3 i _ hu
    exact ⟨b, o, rfl, hZ b g2, k3 0 (.int .i64 f.clause) rfl, k3 1 (.int .i64 f.ino) rfl, k3 2 (.int .i64 f.slot) rfl, k3 3 (.bool f.yes) rfl⟩
def a64 (a : Answer) : Prop := i64 a.clause ∧ i64 a.ino ∧ i64 a.slot
instance (a : Answer) : Decidable (a64 a) := inferInstanceAs (Decidable (_ ∧ _))
theorem a64_of {a : Answer} (h : a64 a) : A64 a := ⟨h.1, h.2.1, h.2.2⟩
def scq (x : Script) : Prop := x.answers.length ≤ 1000 ∧ ∀ a ∈ x.answers, a64 a
instance (x : Script) : Decidable (scq x) := inferInstanceAs (Decidable (_ ∧ _))
def xsb (x : Script) : Option ByteArray := (ck (scq x)).bind fun _ => some (bB (textS x))
theorem xcd (x : Script) (t : ByteArray) (h : xsb x = some t) : Ok Tryd.prog 21 [xl x] (str t) := by
  unfold xsb at h
  obtain ⟨⟨h1, h2⟩, h⟩ := ckE h
  obtain rfl := Option.some.inj h
  refine ⟨by kernel_rfl, fun Z w vals hZ hv => ?_⟩
  simp only [VReps] at hv
  obtain ⟨u, us, g1, rfl, rfl⟩ := hv
  unfold xl at g1
  simp only [VRep, VReps, sll] at g1
  obtain ⟨cs, ⟨_, _, rfl, ⟨av, _, q1, ⟨_, _, rfl, rfl, rfl⟩, rfl⟩, rfl⟩, rfl⟩ := g1
  have f1 : VRep (Ec Z w) (.sl 4 (x.answers.map xc)) av := by simp only [VRep]; exact q1
  refine (xz0 h1 (fun a ha => a64_of (h2 a ha)) av w hZ.gw (aat_of f1 hZ.zlt)).mono ?_
  rintro e w' ⟨rfl, hb⟩
  exact ⟨_, rfl, hb, by simp only [VRep]⟩
end Go.Proofs.YtjmnoaoeediodaaDoor.AL

/- Plain laws of chapter 43: the script of a text. -/
set_option linter.all false
namespace Go.Proofs.YtjmnoaoeediodaaDoor.AL
open Go Go.Proofs Go.Lib
theorem xzi : ∀ r : List UInt8, (10 : UInt8) ∉ r ∨ ∃ t r', r = t ++ 10 :: r' ∧ (10 : UInt8) ∉ t
  | [] => .inl (by simp)
  | b :: r => by
    by_cases hb : b = 10
    · exact .inr ⟨[], r, by rw [hb]; rfl, by simp⟩
    · rcases xzi r with h | ⟨t, r', rfl, h⟩
      · exact .inl (by simp only [List.mem_cons, not_or]; exact ⟨fun e => hb e.symm, h⟩)
      · exact .inr ⟨b :: t, r', rfl, by simp only [List.mem_cons, not_or]; exact ⟨fun e => hb e.symm, h⟩⟩
theorem xss : ∀ {x : List UInt8}, (10 : UInt8) ∉ x → indexByte x 10 = -1
  | [], _ => rfl
  | b :: x, h => by
    simp only [List.mem_cons, not_or] at h
    unfold indexByte
    rw [xss h.2, if_neg (by simp; exact fun e => h.1 e.symm)]
    rfl
theorem xeu : ∀ {t : List UInt8} (r : List UInt8), (10 : UInt8) ∉ t → indexByte (t ++ 10 :: r) 10 = (t.length : Int)
  | [], r, _ => by simp [indexByte]
  | b :: t, r, h => by
    simp only [List.mem_cons, not_or] at h
    rw [List.cons_append]
    unfold indexByte
    have h3 : ¬ ((t.length : Int) == -1) = true := by rw [beq_iff_eq]; omega
    rw [xeu r h.2, if_neg (by simp; exact fun e => h.1 e.symm), if_neg h3]
    simp
theorem xam {t : List UInt8} (r : List UInt8) (h : (10 : UInt8) ∉ t) : cutLn (t ++ 10 :: r) = (t ++ [10], r) := by
  unfold cutLn
  rw [xeu r h, if_pos (by omega), Int.toNat_natCast]
  have e : t ++ 10 :: r = (t ++ [10]) ++ r := by simp
  rw [e, List.take_left' (by simp), List.drop_left' (by simp)]
theorem xtu {x : List UInt8} (h : (10 : UInt8) ∉ x) : cutLn x = (x, []) := by
  unfold cutLn
  rw [xss h, if_neg (by decide)]
theorem xmq (t : List UInt8) : whole (t ++ [10]) = true := by
  unfold whole hasSuffix
  exact List.isSuffixOf_iff_suffix.2 ⟨t, rfl⟩
theorem x7u {x : List UInt8} (h : (10 : UInt8) ∉ x) : whole x = false := by
  unfold whole hasSuffix
  rw [Bool.eq_false_iff]
  intro e
  obtain ⟨t, rfl⟩ := List.isSuffixOf_iff_suffix.1 e
  simp at h
theorem x9u (t : List UInt8) : textOf (t ++ [10]) = t := by
  unfold textOf trimSuffix
  rw [if_pos (show hasSuffix (t ++ [10]) [10] = true from xmq t)]
  simp
theorem x1e {t : List UInt8} (h : (10 : UInt8) ∉ t) (f k : Nat) (x : Script) (r : List UInt8) : parseS (f + 1) k x (t ++ 10 :: r) = if k = 0 then (if (firstA t).2 = true then parseS f 1 (firstA t).1 r else (zeroX, 2))
    else if (readA t).2 = true then parseS f (k + 1) ⟨x.mode, x.answers ++ [(readA t).1], x.default⟩ r else (zeroX, 2) := by
  rw [xoh (by simp), xam r h]
  simp only [x9u, xmq, and_true]
theorem xkj {r : List UInt8} (h : (10 : UInt8) ∉ r) (h0 : r ≠ []) (f k : Nat) (x : Script) : parseS (f + 1) k x r = (zeroX, 2) := by
  rw [xoh h0, xtu h]
  simp only [x7u h, Bool.false_eq_true, and_false, if_false]
  split <;> rfl
theorem xve (a : Answer) (l : List Answer) : ((a :: l).map rowL).flatten = lineL a ++ 10 :: (l.map rowL).flatten := by simp [rowL]
theorem xwq : ∀ (l : List Answer), (∀ a ∈ l, FA a) → ∀ (f k : Nat) (x : Script), ((l.map rowL).flatten).length < f → parseS f (k + 1) x (l.map rowL).flatten = (⟨x.mode, x.answers ++ l, x.default⟩, 0)
  | [], _, f, k, x, hf => by
    obtain ⟨f, rfl⟩ : ∃ g, f = g + 1 := ⟨f - 1, by omega⟩
    simp [parseS]
  | a :: l, h, f, k, x, hf => by
    obtain ⟨f, rfl⟩ : ∃ g, f = g + 1 := ⟨f - 1, by omega⟩
    rw [xve] at hf ⊢
    rw [x1e (xhi a), if_neg (by omega), x0g (h a (by simp)), if_pos rfl]
    have ih := xwq l (fun b hb => h b (by simp [hb])) f (k + 1) ⟨x.mode, x.answers ++ [a], x.default⟩ (by rw [List.length_append, List.length_cons] at hf; omega)
    rw [ih]
    simp
theorem x7s : ∀ (l : List Answer), (∀ a ∈ l, A64 a) → (∃ a ∈ l, ¬ FA a) → ∀ (f k : Nat) (x : Script), ((l.map rowL).flatten).length < f → parseS f (k + 1) x (l.map rowL).flatten = (zeroX, 2)
  | [], _, hb, f, k, x, hf => by simp at hb
  | a :: l, h, hb, f, k, x, hf => by
    obtain ⟨f, rfl⟩ : ∃ g, f = g + 1 := ⟨f - 1, by omega⟩
    have ha := h a (by simp)
    rw [xve] at hf ⊢
    rw [x1e (xhi a), if_neg (by omega)]
    by_cases hc : 1 ≤ a.clause ∧ a.clause ≤ 23
    · have hfa : FA a := ⟨hc.1, hc.2, ha.ino, ha.slot⟩
      rw [x0g hfa, if_pos rfl]
      refine x7s l (fun b hb => h b (by simp [hb])) ?_ f (k + 1) _ (by rw [List.length_append, List.length_cons] at hf; omega)
      obtain ⟨b, hb1, hb2⟩ := hb
      simp only [List.mem_cons] at hb1
      rcases hb1 with rfl | hb1
      · exact absurd hfa hb2
      · exact ⟨b, hb1, hb2⟩
    · rw [xax (by omega), if_neg (by simp)]
theorem x5o : ∀ (f k : Nat) (x : Script) (r : List UInt8), r.length < f → parseS f (k + 1) x r = (zeroX, 2) ∨ ∃ l : List Answer, (∀ a ∈ l, FA a) ∧ r = (l.map rowL).flatten
  | 0, k, x, r, h => absurd h (by omega)
  | f + 1, k, x, r, h => by
    by_cases h0 : r = []
    · exact .inr ⟨[], by simp, by rw [h0]; rfl⟩
    · rcases xzi r with hn | ⟨t, r', rfl, hn⟩
      · exact .inl (xkj hn h0 _ _ _)
      · rw [x1e hn, if_neg (by omega)]
        rcases xmh t with e | ⟨a, ha, rfl, e⟩
        · exact .inl (by rw [e, if_neg (by simp)])
        · rw [e, if_pos rfl]
          rcases x5o f (k + 1) ⟨x.mode, x.answers ++ [a], x.default⟩ r' (by rw [List.length_append, List.length_cons] at h; omega) with hr | ⟨l, hl, rfl⟩
          · exact .inl hr
          · exact .inr ⟨a :: l, fun b hb => by simp only [List.mem_cons] at hb; rcases hb with rfl | hb; exact ha; exact hl b hb, (xve a l).symm⟩
theorem x5j (m : Int) (d : Bool) : (10 : UInt8) ∉ hd m d := by
  unfold hd modeL
  split
  · cases d <;> decide
  · split
    · cases d <;> decide
    · split <;> cases d <;> decide
theorem xqd (x : Script) : textS x = hd x.mode x.default ++ 10 :: (x.answers.map rowL).flatten := by
  unfold textS headL hd
  simp
theorem xjq {m : Int} (h0 : 0 ≤ m) (h2 : m ≤ 2) (d : Bool) : firstA (hd m d) = (⟨m, [], d⟩, true) := by
  have : m = 0 ∨ m = 1 ∨ m = 2 := by omega
  rcases this with rfl | rfl | rfl <;> cases d <;> rfl
theorem x8v {m : Int} (h : ¬ (0 ≤ m ∧ m ≤ 2)) (d : Bool) : firstA (hd m d) = (zeroX, false) := by
  have e : hd m d = hd 3 d := by
    unfold hd modeL
    rw [if_neg (by omega), if_neg (by omega), if_neg (by omega)]
    rfl
  rw [e]
  cases d <;> rfl
theorem x0r (t : List UInt8) : firstA t = (zeroX, false) ∨ ∃ m d, 0 ≤ m ∧ m ≤ 2 ∧ t = hd m d ∧ firstA t = (⟨m, [], d⟩, true) := by
  by_cases h1 : t = hd 0 false
  · exact .inr ⟨0, false, by omega, by omega, h1, by rw [h1]; rfl⟩
  by_cases h2 : t = hd 0 true
  · exact .inr ⟨0, true, by omega, by omega, h2, by rw [h2]; rfl⟩
  by_cases h3 : t = hd 1 false
  · exact .inr ⟨1, false, by omega, by omega, h3, by rw [h3]; rfl⟩
  by_cases h4 : t = hd 1 true
  · exact .inr ⟨1, true, by omega, by omega, h4, by rw [h4]; rfl⟩
  by_cases h5 : t = hd 2 false
  · exact .inr ⟨2, false, by omega, by omega, h5, by rw [h5]; rfl⟩
  by_cases h6 : t = hd 2 true
  · exact .inr ⟨2, true, by omega, by omega, h6, by rw [h6]; rfl⟩
  · refine .inl ?_
    unfold firstA
    rw [if_neg h1, if_neg h2, if_neg h3, if_neg h4, if_neg h5, if_neg h6]
    rfl
structure Good (x : Script) : Prop where
  m0 : 0 ≤ x.mode
  m2 : x.mode ≤ 2
  ans : ∀ a ∈ x.answers, FA a
def parseT (s : List UInt8) : Script × Int := parseS (s.length + 1) 0 zeroX s
theorem xei {x : Script} (h : Good x) : parseT (textS x) = (x, 0) := by
  unfold parseT
  rw [xqd, x1e (x5j _ _), if_pos rfl, xjq h.m0 h.m2, if_pos rfl]
  have := xwq x.answers h.ans (hd x.mode x.default ++ 10 :: (x.answers.map rowL).flatten).length 0 ⟨x.mode, [], x.default⟩ (by simp; omega)
  rw [this]
  rfl
theorem x5w {x : Script} (h64 : ∀ a ∈ x.answers, A64 a) (h : ¬ Good x) : parseT (textS x) = (zeroX, 2) := by
  unfold parseT
  rw [xqd, x1e (x5j _ _), if_pos rfl]
  by_cases hm : 0 ≤ x.mode ∧ x.mode ≤ 2
  · rw [xjq hm.1 hm.2, if_pos rfl]
    refine x7s x.answers h64 ?_ _ 0 _ (by simp; omega)
    refine Classical.byContradiction fun hn => h ⟨hm.1, hm.2, fun a ha => Classical.byContradiction fun hc => hn ⟨a, ha, hc⟩⟩
  · rw [x8v hm, if_neg (by simp)]
theorem xnj (s : List UInt8) : parseT s = (zeroX, 2) ∨ ∃ x, Good x ∧ s = textS x ∧ parseT s = (x, 0) := by
  by_cases h0 : s = []
  · subst h0
    exact .inl rfl
  · rcases xzi s with hn | ⟨t, r, rfl, hn⟩
    · exact .inl (xkj hn h0 _ _ _)
    · rcases x0r t with e | ⟨m, d, h1, h2, rfl, e⟩
      · refine .inl ?_
        unfold parseT
        rw [x1e hn, if_pos rfl, e, if_neg (by simp)]
      · rcases x5o (hd m d ++ 10 :: r).length 0 ⟨m, [], d⟩ r (by simp; omega) with hr | ⟨l, hl, rfl⟩
        · refine .inl ?_
          unfold parseT
          rw [x1e hn, if_pos rfl, e, if_pos rfl]
          exact hr
        · have hg : Good ⟨m, l, d⟩ := ⟨h1, h2, hl⟩
          have ht := xqd ⟨m, l, d⟩
          exact .inr ⟨⟨m, l, d⟩, hg, ht.symm, by rw [← ht]; exact xei hg⟩
end Go.Proofs.YtjmnoaoeediodaaDoor.AL

/- Plain laws of chapter 43: answers, by the document. -/
set_option linter.all false
namespace Go.Proofs.YtjmnoaoeediodaaDoor.AL
open Go Go.Proofs Go.Lib
theorem x6h {a : Answer} (hi : i64 a.ino) (hs : i64 a.slot) : xsc a = some (bB (lineL a)) := by
  unfold xsc
  have l2 := xdb hi
  have l3 := xdb hs
  have l0 := xhh a.clause
  have ey : ByteArray.mk #[121, 101, 115, 32] = bB [121, 101, 115, 32] := rfl
  have en : ByteArray.mk #[110, 111, 32] = bB [110, 111, 32] := rfl
  rw [x1o, xoc hi, xoc hs]
  simp only [Option.bind_some, ey, en, c32, c58, bB_app, xh, List.length_append, List.length_cons, List.length_nil]
  unfold lineL placeL ynL
  by_cases hy : a.yes = true
  · rw [if_pos hy, if_pos hy]
    repeat (rw [ckY (by omega)]; simp only [Option.bind_some])
    simp
  · rw [if_neg hy, if_neg hy]
    repeat (rw [ckY (by omega)]; simp only [Option.bind_some])
    simp
theorem xwn {s : List UInt8} (hs : s.length ≤ 100000) : x1c (bB s) = some (readA s) := by
  unfold x1c
  have l1 := xjg s 32
  have l2 := xjg (cutR s 32).2.1 32
  have l3 := xjg (cutR (cutR s 32).2.1 32).2.1 58
  have k32 : ((32 : UInt8).toNat : Int) = 32 := rfl
  have k58 : ((58 : UInt8).toNat : Int) = 58 := rfl
  have q1 := x8d hs 32
  have q2 := x8d (s := (cutR s 32).2.1) (by omega) 32
  have q3 := x8d (s := (cutR (cutR s 32).2.1 32).2.1) (by omega) 58
  rw [k32] at q1 q2
  rw [k58] at q3
  rw [q1]
  simp only [Option.bind_some]
  rw [q2]
  simp only [Option.bind_some]
  rw [q3]
  simp only [Option.bind_some]
  have ey : ByteArray.mk #[121, 101, 115] = bB [121, 101, 115] := rfl
  rw [xnf (by omega), xnf (by omega), xtn]
  simp only [Option.bind_some, ey, bB_iff]
  rcases xmh s with hz | ⟨a, ha, rfl, hr⟩
  · rw [hz]
    have hall : ∀ a : Answer, FA a → lineL a ≠ s := by
      intro a ha he
      have := x0g ha
      rw [he, hz] at this
      exact absurd (congrArg Prod.snd this) (by simp)
    generalize (cutR s 32) = u1 at *
    generalize (cutR u1.2.1 32) = u2 at *
    generalize (cutR u2.2.1 58) = u3 at *
    have nb := @xzj u3.1
    have nc := @xzj u3.2.1
    generalize numR u3.1 = n2 at *
    generalize numR u3.2.1 = n3 at *
    have hw := @xui u2.1
    generalize numL u2.1 = m at *
    have fin : ∀ b : Bool, ¬ m = 0 → n2.2 = true → n3.2 = true → ((xsc (⟨m, n2.1, n3.1, b⟩ : Answer)).bind fun v34 => if v34 = bB s then some ((⟨m, n2.1, n3.1, b⟩ : Answer), true) else some ((⟨0, 0, 0, false⟩ : Answer), false)) = some (zeroA, false) := by
      intro b hm h2 h3
      obtain ⟨w1, w2, w3⟩ := hw hm
      have e2 := (nb h2).1
      have e3 := (nc h3).1
      rw [x6h (a := ⟨m, n2.1, n3.1, b⟩) e2 e3]
      simp only [Option.bind_some, bB_iff]
      rw [if_neg (hall ⟨m, n2.1, n3.1, b⟩ ⟨w1, w2, e2, e3⟩)]
      rfl
    by_cases hy : u1.1 = [121, 101, 115]
    · rw [if_pos hy]
      split
      · rfl
      · split
        · rfl
        · split
          · rfl
          · split
            · rfl
            · split
              · rfl
              · split
                · rfl
                · rename_i a1 a2 a3 h2 h3 h4
                  exact fin true h4 (by simpa using h2) (by simpa using h3)
    · rw [if_neg hy]
      split
      · rfl
      · split
        · rfl
        · split
          · rfl
          · split
            · rfl
            · split
              · rfl
              · split
                · rfl
                · rename_i a1 a2 a3 h2 h3 h4
                  exact fin false h4 (by simpa using h2) (by simpa using h3)
  · rw [hr]
    have hc : cutR (lineL a) 32 = (ynL a.yes, wordQ a.clause ++ 32 :: placeL a.ino a.slot, true) := xrd _ (x7n _).1
    have hd : cutR (wordQ a.clause ++ 32 :: placeL a.ino a.slot) 32 = (wordQ a.clause, placeL a.ino a.slot, true) := xrd _ (fun hm => (xze _ _ hm).1 rfl)
    have he : cutR (placeL a.ino a.slot) 58 = (itoa a.ino, itoa a.slot, true) := xrd _ (fun hm => (xvd _ hm).2.2 rfl)
    rw [hc]
    simp only
    rw [hd]
    simp only
    rw [he]
    simp only
    rw [xmf ha.ino, xmf ha.slot, xkh ha.c0 ha.c1, xuh ha.c0 ha.c1]
    simp only [Bool.not_true, Bool.false_eq_true, if_false]
    have hne : ¬ a.clause = 0 := by have := ha.c0; omega
    rw [if_neg hne, if_neg hne]
    have hl := @x6h a ha.ino ha.slot
    obtain ⟨c, i, k, y⟩ := a
    simp only at hl ⊢
    cases y with
    | true =>
      rw [if_pos (show ynL true = [121, 101, 115] from rfl), hl]
      simp only [Option.bind_some, if_true]
    | false =>
      rw [if_neg (show ¬ ynL false = [121, 101, 115] by decide), hl]
      simp only [Option.bind_some, if_true]
end Go.Proofs.YtjmnoaoeediodaaDoor.AL

/- Plain laws of chapter 43: the document's script of a text. -/
set_option linter.all false
namespace Go.Proofs.YtjmnoaoeediodaaDoor.AL
open Go Go.Proofs Go.Lib
theorem xto (n : Int) : x5c n = some (bB (modeL n)) := by
  unfold x5c modeL
  split
  · rfl
  · split
    · rfl
    · split <;> rfl
theorem row_le {a : Answer} (h : A64 a) : (rowL a).length ≤ 70 := by
  have := xhe h
  unfold rowL
  simp only [List.length_append, List.length_cons, List.length_nil]
  omega
theorem x2q : ∀ (l : List Answer) (s : List UInt8), l.foldl (fun s a => s ++ rowL a) s = s ++ (l.map rowL).flatten
  | [], s => by simp
  | a :: l, s => by rw [List.foldl_cons, x2q l]; simp
theorem xzn {x : Script} (hl : x.answers.length ≤ 1000) (h : ∀ a ∈ x.answers, A64 a) : xhd x = some (bB (textS x)) := by
  unfold xhd
  have hm := xdf x.mode
  have key : ∀ (B : (ByteArray × Int) → Option (St (ByteArray × Int) (ByteArray))) (s0 : List UInt8), s0.length ≤ 100 → (∀ v i, B (v, i) = xmd x (v, i)) → iter B big (bB s0, 0) = some (bB (s0 ++ (x.answers.map rowL).flatten)) := by
    intro B s0 hs0 hB
    have := xlf (B := B) (fun i (s : List UInt8) => (bB s, (i : Int))) x.answers (fun s a => s ++ rowL a) (fun s => bB s) (fun i s => s.length ≤ 100 + i * 70) (by
      intro i s hi hs
      have hf := h x.answers[i] (List.getElem_mem hi)
      have hz := row_le hf
      have hs2 : s.length ≤ 100 + 1000 * 70 := Nat.le_trans hs (Nat.add_le_add_left (Nat.mul_le_mul_right _ (by omega)) _)
      have hll := xhe hf
      refine ⟨?_, by simp only [List.length_append]; omega⟩
      rw [hB]
      simp only [xmd]
      rw [if_pos (by omega), ix_at hi, wr_suc (by omega)]
      simp only [Option.bind_some]
      rw [x6h hf.ino hf.slot]
      simp only [Option.bind_some, c10, bB_app, xh, List.length_append, List.length_cons, List.length_nil]
      repeat (rw [ckY (by omega)]; simp only [Option.bind_some])
      unfold rowL
      simp) (by
      intro s _
      rw [hB]
      simp only [xmd]
      rw [if_neg (by omega)]) (s0 := s0) (by simpa using hs0) (fuel := big) (by rw [big_eq]; omega)
    rw [show ((0 : Nat) : Int) = 0 from rfl] at this
    rw [this.1, x2q]
  have ey : ByteArray.mk #[32, 121, 101, 115, 10] = bB [32, 121, 101, 115, 10] := rfl
  have en : ByteArray.mk #[32, 110, 111, 10] = bB [32, 110, 111, 10] := rfl
  rw [xto]
  simp only [Option.bind_some, ey, en, bB_app, xh, List.length_append, List.length_cons, List.length_nil]
  rw [ckY (by omega)]
  simp only [Option.bind_some]
  unfold textS headL
  by_cases hd : x.default = true
  · rw [if_pos hd, ckY (by omega)]
    simp only [Option.bind_some]
    rw [key (xmd x) _ (by simp; omega) (fun _ _ => rfl), hd]
    simp [ynL]
  · have hd' : x.default = false := by simpa using hd
    rw [if_neg hd, key (x2g x) _ (by simp; omega) (fun _ _ => rfl), hd']
    simp [ynL]
theorem x1x {B : Int → Option (St Int (Unit ⊕ Bool))} (l1 l2 : List Answer) (hlen : l1.length = l2.length) (hb : l1.length ≤ 1000000)
    (h1 : ∀ (i : Nat) (a c : Answer), l1[i]? = some a → l2[i]? = some c → B (i : Int) = some (if a = c then .nx ((i + 1 : Nat) : Int) else .out (.inr false))) (h2 : B (l1.length : Int) = some (.out (.inl ()))) :
    iter B big 0 = some (if l1 = l2 then .inl () else .inr false) := by
  have key : ∀ (d k fuel : Nat), l1.length = k + d → d < fuel → iter B fuel (k : Int) = some (if l1.drop k = l2.drop k then .inl () else .inr false) := by
    intro d
    induction d with
    | zero =>
      intro k fuel hk hf
      obtain ⟨f, rfl⟩ : ∃ g, fuel = g + 1 := ⟨fuel - 1, by omega⟩
      rw [xt, ← (show l1.length = k by omega), h2]
      simp only [Option.bind_some]
      rw [List.drop_length, hlen, List.drop_length, if_pos rfl]
    | succ d ih =>
      intro k fuel hk hf
      obtain ⟨f, rfl⟩ : ∃ g, fuel = g + 1 := ⟨fuel - 1, by omega⟩
      have k1 : k < l1.length := by omega
      have k2 : k < l2.length := by omega
      rw [xt, h1 k _ _ (List.getElem?_eq_getElem k1) (List.getElem?_eq_getElem k2), List.drop_eq_getElem_cons k1, List.drop_eq_getElem_cons k2]
      simp only [Option.bind_some]
      by_cases e : l1[k] = l2[k]
      · rw [if_pos e]
        simp only
        rw [ih (k + 1) f (by omega) (by omega)]
        congr 1
        by_cases e2 : List.drop (k + 1) l1 = List.drop (k + 1) l2
        · rw [if_pos e2, if_pos (by rw [e, e2])]
        · rw [if_neg e2, if_neg (fun hc => e2 (List.cons.inj hc).2)]
      · rw [if_neg e, if_neg (fun hc => e (List.cons.inj hc).1)]
  exact key l1.length 0 big (by omega) (by rw [big_eq]; omega)
theorem xbi {a b : Script} (hl : a.answers.length ≤ 1000000) : xuc a b = some (decide (a = b)) := by
  have loop : ∀ (B : Int → Option (St Int (Unit ⊕ Bool))), (∀ i, B i = xfe a b i) → a.answers.length = b.answers.length → iter B big 0 = some (if a.answers = b.answers then .inl () else .inr false) := by
    intro B hB he
    refine x1x _ _ he hl ?_ ?_
    · intro i u v hu hv
      have hi := (List.getElem?_eq_some_iff.1 hu).1
      have hi2 := (List.getElem?_eq_some_iff.1 hv).1
      rw [hB]
      simp only [xfe]
      rw [if_pos (by omega), ix_at hi, ix_at hi2, wr_suc (by omega)]
      simp only [Option.bind_some]
      rw [(List.getElem?_eq_some_iff.1 hu).2, (List.getElem?_eq_some_iff.1 hv).2]
      by_cases e : u = v
      · rw [if_pos (by simp [e]), if_pos e]
      · rw [if_neg (by simp [e]), if_neg e]
    · rw [hB]
      simp only [xfe]
      rw [if_neg (by omega)]
  obtain ⟨m, l, d⟩ := a
  obtain ⟨m', l', d'⟩ := b
  unfold xuc
  simp only at loop ⊢
  by_cases hm : m = m'
  · rw [if_pos hm]
    by_cases hlen : (l.length : Int) = (l'.length : Int)
    · have hlen' : l.length = l'.length := by omega
      have e0 := loop _ (fun _ => rfl) hlen'
      have e1 : iter (xtg ⟨m, l, d⟩ ⟨m', l', d'⟩) big 0 = _ := loop _ (fun _ => rfl) hlen'
      rw [if_pos hlen, if_pos hlen, e0, e1]
      cases d <;> cases d' <;> by_cases hll : l = l' <;> simp [hm, hll]
    · have hne : l ≠ l' := fun e => hlen (by rw [e])
      rw [if_neg hlen, if_neg hlen]
      cases d <;> cases d' <;> simp [hm, hne]
  · rw [if_neg hm]
    simp [hm]
end Go.Proofs.YtjmnoaoeediodaaDoor.AL

