/- A law of the given program is proved: part 51 of 51. -/
import Derived.Test.YtnmljicimdhpmaaD50
set_option linter.all false
/- The table of functions for closed runs; written by tabgen.py. -/
set_option linter.all false
namespace Go.Proofs.Ytnmljicimdhpmaa.AL
open Go Go.Proofs
def tabL_Aw22 : List (Nat × Nat × List ResultVar × AC) := [(25, 46, [.tmp 0], c_law22_awake), (14, 26, [.tmp 4], c_slices_Equal_api_Finding_api_Finding), (26, 48, [.tmp 2], c_origin_Findings), (28, 16, [.tmp 2], c_origin_Odd), (32, 18, [.tmp 4], c_origin_Lacks), (67, 19, [.cell 2 29], c_law22_copied), (44, 9, [.tmp 4], c_walk_Reach), (68, 20, [.tmp 6], c_origin_wrong), (69, 17, [.tmp 4], c_origin_has), (70, 20, [.tmp 4], c_origin_kind), (55, 25, [.cell 0 29], c_plain_Base), (64, 42, [.tmp 4], c_walk_walk), (30, 27, [.tmp 4], c_origin_Stale), (97, 58, [.cell 4 46, .tmp 5], c_handle_Find), (86, 5, [.cell 2 46], c_plain_dir), (92, 27, [.cell 4 46], c_walk_trail_node), (93, 31, [.tmp 4], c_walk_trail_come), (94, 55, [], c_walk_trail_enter)]
def tabF_Aw22 : List (Nat × Nat × List ResultVar × AC) → FuncId → Option (Nat × List ResultVar × AC)
  | [], _ => none
  | p :: l, f => bif Nat.beq p.1 f then some p.2 else tabF_Aw22 l f
theorem tabL_ok_Aw22 : ∀ p ∈ tabL_Aw22, FnC Try.prog p.1 p.2.1 p.2.2.1 p.2.2.2 := by
  unfold tabL_Aw22
  simp only [List.forall_mem_cons]
  exact ⟨fc_law22_awake, fc_slices_Equal_api_Finding_api_Finding, fc_origin_Findings, fc_origin_Odd, fc_origin_Lacks, fc_law22_copied, fc_walk_Reach, fc_origin_wrong, fc_origin_has, fc_origin_kind, fc_plain_Base, fc_walk_walk, fc_origin_Stale, fc_handle_Find, fc_plain_dir, fc_walk_trail_node, fc_walk_trail_come, fc_walk_trail_enter, fun p h => by cases h⟩
theorem tabF_ok_Aw22 {l : List (Nat × Nat × List ResultVar × AC)} (h : ∀ p ∈ l, FnC Try.prog p.1 p.2.1 p.2.2.1 p.2.2.2) : ∀ f n rs ac, tabF_Aw22 l f = some (n, rs, ac) → FnC Try.prog f n rs ac := by
  induction l with
  | nil => intro f n rs ac e; simp [tabF_Aw22] at e
  | cons p l ih =>
    intro f n rs ac e
    unfold tabF_Aw22 at e
    cases hb : Nat.beq p.1 f with
    | true =>
      rw [hb] at e
      simp only [cond_true, Option.some.injEq] at e
      have := h p (by simp)
      rw [e, Nat.eq_of_beq_eq_true hb] at this
      exact this
    | false =>
      rw [hb] at e
      exact ih (fun q hq => h q (by simp [hq])) f n rs ac e
noncomputable def runsTrue_Aw22 (k : Nat) (f : FuncId) : Bool := match xF Try.prog (tabF_Aw22 tabL_Aw22) told (xC Try.prog (tabF_Aw22 tabL_Aw22) told k) f [] [] 0 with
  | some (.val (.bool true), _, _) => true
  | _ => false
theorem ok_runsTrue_Aw22 {k : Nat} {f : FuncId} (hf : told f = none) (h : runsTrue_Aw22 k f = true) : Ok Try.prog f [] (bool true) := by
  unfold runsTrue_Aw22 at h
  split at h
  · rename_i H nx hr
    refine ok_of_acall ((xF_call (tabF_ok_Aw22 tabL_ok_Aw22) (xC_sound (tabF_ok_Aw22 tabL_ok_Aw22) told_ok (by kernel_rfl) k) hf hr).mono ?_)
    rintro r H2 n2 ⟨rfl, rfl, rfl⟩
    exact ⟨_, Sub.refl _, 0, frz_closed rfl _ 0⟩
  · cases h
def m_law22_awake : Option Bool := some true
theorem ok_law22_awake (r : Bool) (h : m_law22_awake = some r) : Ok Try.prog 25 [] (bool r) := by
  injection h with h
  subst h
  exact ok_runsTrue_Aw22 (k := 3000) (by kernel_rfl) (by kernel_rfl)
end Go.Proofs.Ytnmljicimdhpmaa.AL

/- Models of functions, and that the functions are as their models: written by gen.py. -/
set_option linter.all false
set_option maxRecDepth 100000
namespace Go.Proofs.Ytnmljicimdhpmaa.AL
open Go Go.Proofs
def m_law22_OriginNone_b0 (a0 : Stack) (v7 : List Node) : (Int × List Node) → Option (St (Int × List Node) ((List Node) ⊕ (Bool)))
 | (v10, v11) => if v10 < (v7.length : Int) then (ix v11 v10).bind fun v16 => if (decide (v16.attr = (⟨0, 0, noBytes, (⟨0, 0, 0⟩ : Origin), 0⟩ : Attr))) = true then (m_origin_Odd v16).bind fun v23 => if v23 = true then some (.out (.inr false))
 else (m_origin_Stale (⟨(⟨a0.geo.lowers, a0.geo.inodes, a0.geo.blocks, a0.geo.log⟩ : Geo), (⟨(v11.set (v10).toNat ({ v16 with attr := (⟨0, 0, noBytes, (⟨0, 0, 0⟩ : Origin), 0⟩ : Attr) } : Node))⟩ : Branch), a0.lowers⟩ : Stack) v16).bind fun v27 => if v27 = true then some (.out (.inr false))
 else (m_origin_Lacks (⟨(⟨a0.geo.lowers, a0.geo.inodes, a0.geo.blocks, a0.geo.log⟩ : Geo), (⟨(v11.set (v10).toNat ({ v16 with attr := (⟨0, 0, noBytes, (⟨0, 0, 0⟩ : Origin), 0⟩ : Attr) } : Node))⟩ : Branch), a0.lowers⟩ : Stack) v16).bind fun v31 => if v31 = true then some (.out (.inr false))
 else some (.nx ((wr (v10 + 1)), (v11.set (v10).toNat ({ v16 with attr := (⟨0, 0, noBytes, (⟨0, 0, 0⟩ : Origin), 0⟩ : Attr) } : Node))))
 else some (.nx ((wr (v10 + 1)), (v11.set (v10).toNat ({ v16 with attr := (⟨0, 0, noBytes, (⟨0, 0, 0⟩ : Origin), 0⟩ : Attr) } : Node))))
 else some (.out (.inl v11))
def m_law22_OriginNone (a0 : Stack) : Option (Bool) := (m_plain_Stack a0 24).bind fun v1 => if (!v1) = true then (m_law22_awake ).bind fun v5 => some v5
 else (cloneM 144 a0.upper.nodes).bind fun v7 => (iter (m_law22_OriginNone_b0 a0 v7) big (0, v7)).bind fun o => (match o with
 | (.inl v13) => (m_origin_Findings (⟨(⟨a0.geo.lowers, a0.geo.inodes, a0.geo.blocks, a0.geo.log⟩ : Geo), (⟨v13⟩ : Branch), a0.lowers⟩ : Stack)).bind fun v35 => if (v35.length : Int) = 0 then (m_law22_awake ).bind fun v39 => some v39
 else some false
 | (.inr r) => some r)
def Y_law22_OriginNone := And.intro (And.intro (And.intro (And.intro ((@EV)) ((@R3))) (And.intro ((@R24)) ((@R26)))) (And.intro (And.intro ((@R29)) ((@R33))) (And.intro ((@R35)) (And.intro ((@R44)) ((@R46)))))) (And.intro (And.intro (And.intro ((@DGeo)) ((@DBranch))) (And.intro ((@DStack)) ((@DFinding)))) (And.intro (And.intro ((@DOrigin)) ((@DAttr))) (And.intro ((@DNode)) (And.intro ((@DEntry)) ((@eq44))))))
set_option maxHeartbeats 2000000 in
theorem ok_law22_OriginNone (a0 : Stack) (r : Bool) (hm0 : m_law22_OriginNone a0 = some r) : Ok Try.prog 7 [encStack a0] (bool r) := by
 unfold m_law22_OriginNone at hm0
 refine okG fc_law22_OriginNone ?_
 unfold c_law22_OriginNone
 obtain ⟨v1, h2, hm0⟩ := bsE hm0
 simp only [Y_law22_OriginNone, ↓EVd, isCall, sevalprocAttr]
 refine qc (ok_plain_Stack _ _ _ h2) rfl ?_
 rcases itbE hm0 with ⟨e4, hm0⟩ | ⟨e4, hm0⟩
 · obtain ⟨v5, h6, hm0⟩ := bsE hm0
   simp only [e4, Y_law22_OriginNone, ↓EVd, isCall, sevalprocAttr]
   refine qc (ok_law22_awake  _ h6) rfl ?_
   obtain rfl := Option.some.inj hm0
   simp only [e4, Y_law22_OriginNone, ↓EVd, isCall, sevalprocAttr]
   all_goals first | done | rfl
 obtain ⟨v7, h8, hm0⟩ := bsE hm0
 simp only [e4, Y_law22_OriginNone, ↓EVd, isCall, sevalprocAttr]
 refine qco (cloneO_ok fc_slices_Clone_api_Node_api_Node elemOfT_24 aggN_46 bytesOfT_46 zero_46 rfl (by decide) encNode _ _ h8 (fun z => by simp only [CLO])) rfl ?_
 obtain ⟨o0, ho0, hm0⟩ := bsE hm0
 simp only [e4, Y_law22_OriginNone, ↓EVd, isCall, sevalprocAttr]
 refine cwp_cx 0 (fun s => ∃ v13 : List Node, (s.T 1 = .loc 0 6 0 0 ∧ s.H 0 = some (.row 29 6 [.agg [int a0.geo.lowers, int a0.geo.inodes, int a0.geo.blocks, int a0.geo.log, .msl 12 v13.length, .sl 1 (a0.lowers.map encBranch)]]) ∧ s.H 12 = some (.row 46 13 (v13.map encNode)) ∧ Lq 0 s.nx ∧ Lq 12 s.nx) ∧ (.inl v13) = o0) ?_ fun J0_0 hJ0_0 => ?_
 · rintro T0 H0 x12 ⟨v13, kk0_0, rfl⟩
   dsimp only [Lq, Nq] at kk0_0
   try dsimp only at hm0
   obtain ⟨v35, h36, hm0⟩ := bsE hm0
   simp only [kk0_0, e4, Y_law22_OriginNone, ↓EVd, isCall, sevalprocAttr]
   refine qcqs (ok_origin_Findings _ _ h36) rfl (.cons (.agg (.refl _)) .nil) (by simp only [kk0_0, e4, FQ, CLO, Y_law22_OriginNone, ↓EVd, isCall, sevalprocAttr]; first | done | rfl) ?_
   rcases iteE hm0 with ⟨e38, hm0⟩ | ⟨e38, hm0⟩
   · obtain ⟨v39, h40, hm0⟩ := bsE hm0
     simp only [kk0_0, e4, e38, Y_law22_OriginNone, ↓EVd, isCall, sevalprocAttr]
     refine qc (ok_law22_awake  _ h40) rfl ?_
     obtain rfl := Option.some.inj hm0
     simp only [kk0_0, e4, e38, Y_law22_OriginNone, ↓EVd, isCall, sevalprocAttr]
     all_goals first | done | rfl
   obtain rfl := Option.some.inj hm0
   simp only [kk0_0, e4, e38, Y_law22_OriginNone, ↓EVd, isCall, sevalprocAttr]
   all_goals first | done | rfl
 refine cwp_lp ho0 (fun (v10, v11) s => s.T 1 = .loc 0 6 0 0 ∧ s.T 17 = .msl 12 v11.length ∧ s.T 18 = int (v7.length : Int) ∧ s.T 19 = int v10 ∧ s.H 0 = some (.row 29 6 [.agg [int a0.geo.lowers, int a0.geo.inodes, int a0.geo.blocks, int a0.geo.log, .msl 12 v11.length, .sl 1 (a0.lowers.map encBranch)]]) ∧ s.H 12 = some (.row 46 13 (v11.map encNode)) ∧ Lq 0 s.nx ∧ Lq 12 s.nx) ?_ ?_
 · refine TI.here ⟨?_, ?_, ?_, ?_, ?_, ?_, ?_, ?_⟩
   all_goals try simp only [e4, Y_law22_OriginNone, ↓EVd, isCall, sevalprocAttr]
   all_goals first | omega | exact lq (by omega) | exact nq (by omega) | rfl | (congr 1; omega)
 rintro I0 ⟨v10, v11⟩ T0 H0 x9 st0 kk0 hm1 hI0 hO0
 dsimp only [Lq, Nq] at kk0
 simp only [m_law22_OriginNone_b0] at hm1
 rcases iteE hm1 with ⟨e15, hm1⟩ | ⟨e15, hm1⟩
 · obtain ⟨v16, e18, hm1⟩ := ixE encNode hm1
   have e19 : (.agg [int 0, int 0, str noBytes, int 0, int 0, int 0, int 0] : AV) = encAttr (⟨0, 0, noBytes, (⟨0, 0, 0⟩ : Origin), 0⟩ : Attr) := _root_.id rfl
   have e20 : (.agg [int 0, int 0, str noBytes, int 0, int 0, int 0, int 0] : AV) = encAttr (⟨0, 0, noBytes, (⟨0, 0, 0⟩ : Origin), 0⟩ : Attr) := _root_.id rfl
   rcases itbE hm1 with ⟨e22, hm1⟩ | ⟨e22, hm1⟩
   · obtain ⟨v23, h24, hm1⟩ := bsE hm1
     simp only [kk0, e4, e15, e18, e19, e20, e22, Y_law22_OriginNone, ↓EVd, isCall, sevalprocAttr]
     refine qc (ok_origin_Odd _ _ h24) rfl ?_
     rcases itbE hm1 with ⟨e26, hm1⟩ | ⟨e26, hm1⟩
     · obtain rfl := Option.some.inj hm1
       obtain rfl := hO0 _ rfl
       try dsimp only at hm0
       obtain rfl := Option.some.inj hm0
       simp only [kk0, e4, e15, e18, e19, e20, e22, e26, Y_law22_OriginNone, ↓EVd, isCall, sevalprocAttr]
       all_goals first | done | rfl
     obtain ⟨v27, h28, hm1⟩ := bsE hm1
     simp only [kk0, e4, e15, e18, e19, e20, e22, e26, Y_law22_OriginNone, ↓EVd, isCall, sevalprocAttr]
     refine qcbs (ok_origin_Stale _ _ _ h28) rfl (.cons (.agg (.refl _)) (.cons (.refl _) .nil)) (by simp only [kk0, e4, e15, e18, e19, e20, e22, e26, FZ, CLO, Y_law22_OriginNone, ↓EVd, isCall, sevalprocAttr]) ?_
     rcases itbE hm1 with ⟨e30, hm1⟩ | ⟨e30, hm1⟩
     · obtain rfl := Option.some.inj hm1
       obtain rfl := hO0 _ rfl
       try dsimp only at hm0
       obtain rfl := Option.some.inj hm0
       simp only [kk0, e4, e15, e18, e19, e20, e22, e26, e30, Y_law22_OriginNone, ↓EVd, isCall, sevalprocAttr]
       all_goals first | done | rfl
     have g41 := And.intro (And.intro (And.intro ((e4)) ((e15))) (And.intro ((e18)) ((e19)))) (And.intro (And.intro ((e20)) ((e22))) (And.intro ((e26)) ((e30))))
     obtain ⟨v31, h32, hm1⟩ := bsE hm1
     simp only [kk0, g41, Y_law22_OriginNone, ↓EVd, isCall, sevalprocAttr]
     refine qcbs (ok_origin_Lacks _ _ _ h32) rfl (.cons (.agg (.refl _)) (.cons (.refl _) .nil)) (by simp only [kk0, g41, FZ, CLO, Y_law22_OriginNone, ↓EVd, isCall, sevalprocAttr]) ?_
     rcases itbE hm1 with ⟨e34, hm1⟩ | ⟨e34, hm1⟩
     · obtain rfl := Option.some.inj hm1
       obtain rfl := hO0 _ rfl
       try dsimp only at hm0
       obtain rfl := Option.some.inj hm0
       simp only [kk0, g41, e34, Y_law22_OriginNone, ↓EVd, isCall, sevalprocAttr]
       all_goals first | done | rfl
     obtain rfl := Option.some.inj hm1
     simp only [kk0, g41, e34, Y_law22_OriginNone, ↓EVd, isCall, sevalprocAttr]
     refine TI.here (hI0 _ rfl _ ⟨?_, ?_, ?_, ?_, ?_, ?_, ?_, ?_⟩)
     all_goals try simp only [kk0, g41, e34, Y_law22_OriginNone, ↓EVd, isCall, sevalprocAttr]
     all_goals first | omega | exact lq (by omega) | exact nq (by omega) | rfl | (congr 1; omega)
   obtain rfl := Option.some.inj hm1
   simp only [kk0, e4, e15, e18, e19, e20, e22, Y_law22_OriginNone, ↓EVd, isCall, sevalprocAttr]
   refine TI.here (hI0 _ rfl _ ⟨?_, ?_, ?_, ?_, ?_, ?_, ?_, ?_⟩)
   all_goals try simp only [kk0, e4, e15, e18, e19, e20, e22, Y_law22_OriginNone, ↓EVd, isCall, sevalprocAttr]
   all_goals first | omega | exact lq (by omega) | exact nq (by omega) | rfl | (congr 1; omega)
 obtain rfl := Option.some.inj hm1
 simp only [kk0, e4, e15, Y_law22_OriginNone, ↓EVd, isCall, sevalprocAttr]
 refine TI.here (hJ0_0 _ ⟨v11, ⟨?_, ?_, ?_, ?_, ?_⟩, hO0 _ rfl⟩)
 all_goals try simp only [kk0, e4, e15, Y_law22_OriginNone, ↓EVd, isCall, sevalprocAttr]
 all_goals first | omega | exact lq (by omega) | exact nq (by omega) | rfl | (congr 1; omega)
end Go.Proofs.Ytnmljicimdhpmaa.AL

/- Plain laws, part 7: chapter 22. -/
set_option linter.all false
namespace Go.Proofs.Ytnmljicimdhpmaa.AL
open Go Go.Proofs

def hasB (x : Node) (bit : Int) : Bool := decide ((wr (x.attr.has.tdiv bit)).tmod 2 = 1)
theorem bits1 (k : Fin 32) : bAnd .i64 (k.val : Int) 1 = 0 ↔ ¬ (wr ((k.val : Int).tdiv 1)).tmod 2 = 1 := by
  revert k
  decide +kernel
theorem bits4 (k : Fin 32) : bAnd .i64 (k.val : Int) 4 = 0 ↔ ¬ (wr ((k.val : Int).tdiv 4)).tmod 2 = 1 := by
  revert k
  decide +kernel
theorem bits16 (k : Fin 32) : bAnd .i64 (k.val : Int) 16 = 0 ↔ ¬ (wr ((k.val : Int).tdiv 16)).tmod 2 = 1 := by
  revert k
  decide +kernel
theorem bit3 {h bit : Int} (h0 : 0 ≤ h) (h1 : h ≤ 31) (hb : bit = 1 ∨ bit = 4 ∨ bit = 16) : bAnd .i64 h bit = 0 ↔ ¬ (wr (h.tdiv bit)).tmod 2 = 1 := by
  have e : ((h.toNat : Nat) : Int) = h := by omega
  rcases hb with rfl | rfl | rfl
  · have := bits1 ⟨h.toNat, by omega⟩; rwa [e] at this
  · have := bits4 ⟨h.toNat, by omega⟩; rwa [e] at this
  · have := bits16 ⟨h.toNat, by omega⟩; rwa [e] at this
theorem oHas_eq {x : Node} (h : NB x) {bit : Int} (hb : bit = 1 ∨ bit = 4 ∨ bit = 16) : m_origin_has x bit = some (hasB x bit) := by
  unfold m_origin_has hasB
  rw [if_pos h.has0]
  have := bit3 h.has0 h.has1 hb
  by_cases hc : bAnd .i64 x.attr.has bit = 0
  · rw [if_pos hc]; simp [this.1 hc]
  · rw [if_neg hc]
    have : (wr (x.attr.has.tdiv bit)).tmod 2 = 1 := Classical.byContradiction fun h => hc (this.2 h)
    simp [this]
theorem rHas_eq {x : Node} (h : NB x) {bit : Int} (hb : bit = 1 ∨ bit = 4 ∨ bit = 16) : m_ref09_Has x.attr bit = some (hasB x bit) := by
  unfold m_ref09_Has m_ref09_has ck
  rw [if_pos h.has0, if_pos (by rcases hb with rfl | rfl | rfl <;> decide)]
  simp only [Option.bind_some]
  unfold hasB
  by_cases hc : (wr (x.attr.has.tdiv bit)).tmod 2 = 1
  · rw [if_pos hc]; simp [hc]
  · rw [if_neg hc]; simp [hc]
def lowP (s : Stack) (o : Origin) : Node := if 1 ≤ o.layer ∧ o.layer ≤ (s.lowers.length : Int) then nodeP ((s.lowers[(o.layer - 1).toNat]?).getD default) o.ino else zeroNode
def foundP (s : Stack) (o : Origin) : Bool := decide ((lowP s o).kind = 1 ∨ (lowP s o).kind = 2 ∨ (lowP s o).kind = 3) && decide ((lowP s o).gen = o.gen)
def findN (s : Stack) (o : Origin) : Node × Bool := if foundP s o = true then (lowP s o, true) else (zeroNode, false)
theorem low_ix {s : Stack} {o : Origin} (hs : SB s) (h1 : ¬ o.layer < 1) (h2 : ¬ (s.lowers.length : Int) < o.layer) : ∃ b, ix s.lowers (wr (o.layer - 1)) = some b ∧ PB b ∧ lowP s o = nodeP b o.ino := by
  have hl := hs.low
  have hlt : (o.layer - 1).toNat < s.lowers.length := by omega
  refine ⟨s.lowers[(o.layer - 1).toNat], ?_, ?_, ?_⟩
  · rw [wr_in (by omega) (by omega), ix_of (by omega) (by omega)]
  · have := hs.lows _ (List.getElem_mem hlt)
    exact ⟨this.1, fun x hx => (this.2 x hx).ents⟩
  · unfold lowP
    rw [if_pos ⟨by omega, by omega⟩, List.getElem?_eq_getElem hlt]
    rfl
theorem find_split {x : Node} {g : Int} : (if x.kind = 1 then if x.gen = g then some (x, true) else some (zeroNode, false) else if x.kind = 2 then if x.gen = g then some (x, true) else some (zeroNode, false) else if x.kind = 3 then if x.gen = g then some (x, true) else some (zeroNode, false) else some (zeroNode, false))
    = some (if (decide (x.kind = 1 ∨ x.kind = 2 ∨ x.kind = 3) && decide (x.gen = g)) = true then (x, true) else (zeroNode, false)) := by
  by_cases h1 : x.kind = 1
  · by_cases hg : x.gen = g <;> simp [h1, hg]
  · by_cases h2 : x.kind = 2
    · by_cases hg : x.gen = g <;> simp [h2, hg]
    · by_cases h3 : x.kind = 3
      · by_cases hg : x.gen = g <;> simp [h3, hg]
      · simp [h1, h2, h3]
theorem low_out {s : Stack} {o : Origin} (h : o.layer < 1 ∨ (s.lowers.length : Int) < o.layer) : lowP s o = zeroNode := by
  unfold lowP
  rw [if_neg (by omega)]
theorem find_zero {s : Stack} {o : Origin} (h : lowP s o = zeroNode) : findN s o = (zeroNode, false) := by
  unfold findN foundP
  rw [h]
  simp [zeroNode]
theorem hFind_eq {s : Stack} (hs : SB s) (o : Origin) : m_handle_Find s o = some (findN s o) := by
  unfold m_handle_Find
  by_cases h1 : o.layer < 1
  · rw [if_pos h1, find_zero (low_out (.inl h1))]; rfl
  rw [if_neg h1]
  by_cases h2 : (s.lowers.length : Int) < o.layer
  · rw [if_pos h2, find_zero (low_out (.inr h2))]; rfl
  rw [if_neg h2]
  obtain ⟨b, e1, e2, e3⟩ := low_ix hs h1 h2
  rw [e1]
  simp only [Option.bind_some]
  by_cases h3 : o.ino < 1
  · rw [if_pos h3, find_zero (by rw [e3]; exact nodeP_out (.inl h3))]; rfl
  rw [if_neg h3]
  by_cases h4 : (b.nodes.length : Int) < o.ino
  · rw [if_pos h4, find_zero (by rw [e3]; exact nodeP_out (.inr h4))]; rfl
  rw [if_neg h4, nodeP_in h3 h4 e2.len]
  simp only [Option.bind_some]
  unfold findN foundP
  rw [e3]
  exact find_split
theorem rFind_eq {s : Stack} (hs : SB s) (o : Origin) : m_ref15_Find s o = some (findN s o) := by
  have hlow : m_ref15_Lower s (⟨o.layer, o.ino⟩ : Place) = some (lowP s o) := by
    unfold m_ref15_Lower
    simp only
    by_cases h1 : o.layer < 1
    · rw [if_pos h1, low_out (.inl h1)]; rfl
    rw [if_neg h1]
    by_cases h2 : (s.lowers.length : Int) < o.layer
    · rw [if_pos h2, low_out (.inr h2)]; rfl
    rw [if_neg h2]
    obtain ⟨b, e1, e2, e3⟩ := low_ix hs h1 h2
    rw [e1]
    simp only [Option.bind_some]
    rw [at_eq e2, e3]
    rfl
  unfold m_ref15_Find
  rw [hlow]
  simp only [Option.bind_some]
  unfold findN foundP
  exact find_split
theorem find_kind (s : Stack) (o : Origin) : ((findN s o).2 = false ∧ (findN s o).1.kind = 0) ∨ ((findN s o).2 = true ∧ ((findN s o).1.kind = 1 ∨ (findN s o).1.kind = 2 ∨ (findN s o).1.kind = 3)) := by
  unfold findN
  by_cases h : foundP s o = true
  · rw [if_pos h]
    refine .inr ⟨rfl, ?_⟩
    unfold foundP at h
    simp only [Bool.and_eq_true, decide_eq_true_eq] at h
    exact h.1
  · rw [if_neg h]
    exact .inl ⟨rfl, rfl⟩
def oddP (x : Node) : Bool := hasB x 1 && !(decide (x.kind = 1) && decide (x.attr.opaque0 = 121))
theorem odd_eq {x : Node} (h : NB x) : m_origin_Odd x = some (oddP x) ∧ m_ref22_Odd x = some (oddP x) := by
  unfold m_origin_Odd m_ref22_Odd oddP
  rw [oHas_eq h (.inl rfl), rHas_eq h (.inl rfl)]
  simp only [Option.bind_some]
  cases hasB x 1 with
  | false => simp
  | true =>
    by_cases h1 : x.kind = 1
    · by_cases h2 : x.attr.opaque0 = 121 <;> simp [h1, h2]
    · simp [h1]
theorem stale_eq {s : Stack} (hs : SB s) {x : Node} (h : NB x) : ∃ r, m_origin_Stale s x = some r ∧ m_ref22_Stale s x = some r := by
  unfold m_origin_Stale m_ref22_Stale m_origin_kind
  rw [oHas_eq h (.inr (.inl rfl)), rHas_eq h (.inr (.inl rfl)), hFind_eq hs, rFind_eq hs]
  simp only [Option.bind_some]
  cases hasB x 4 with
  | false => exact ⟨false, by simp, by simp⟩
  | true =>
    rcases find_kind s x.attr.origin with ⟨e1, e2⟩ | ⟨e1, e2⟩
    · by_cases k1 : x.kind = 1
      · exact ⟨true, by simp [k1, e2], by simp [k1, e1]⟩
      by_cases k2 : x.kind = 2
      · exact ⟨true, by simp [k2, e2], by simp [k2, e1]⟩
      by_cases k3 : x.kind = 3
      · exact ⟨true, by simp [k3, e2], by simp [k3, e1]⟩
      exact ⟨true, by simp [k1, k2, k3], by simp [k1, k2, k3]⟩
    · rcases e2 with e2 | e2 | e2
      all_goals
        by_cases k1 : x.kind = 1
        · exact ⟨_, by simp [k1, e2]; rfl, by simp [k1, e1, e2]⟩
        by_cases k2 : x.kind = 2
        · exact ⟨_, by simp [k2, e2]; rfl, by simp [k2, e1, e2]⟩
        by_cases k3 : x.kind = 3
        · exact ⟨_, by simp [k3, e2]; rfl, by simp [k3, e1, e2]⟩
        exact ⟨true, by simp [k1, k2, k3], by simp [k1, k2, k3]⟩
theorem lacks_eq {s : Stack} (hs : SB s) {x : Node} (h : NB x) : ∃ r, m_origin_Lacks s x = some r ∧ m_ref22_Lacks s x = some r := by
  unfold m_origin_Lacks m_ref22_Lacks m_origin_kind
  rw [oHas_eq h (.inr (.inr rfl)), rHas_eq h (.inr (.inr rfl)), oHas_eq h (.inr (.inl rfl)), rHas_eq h (.inr (.inl rfl)), hFind_eq hs, rFind_eq hs]
  simp only [Option.bind_some]
  cases hasB x 16 with
  | false => exact ⟨false, by simp, by simp⟩
  | true =>
    by_cases k2 : x.kind = 2
    · cases hasB x 4 with
      | false => exact ⟨true, by simp [k2], by simp [k2]⟩
      | true =>
        rcases find_kind s x.attr.origin with ⟨e1, e2⟩ | ⟨e1, e2⟩
        · exact ⟨true, by simp [k2, e2], by simp [k2, e1]⟩
        · rcases e2 with e2 | e2 | e2
          · exact ⟨true, by simp [k2, e2], by simp [k2, e1, e2]⟩
          · exact ⟨false, by simp [k2, e2], by simp [k2, e1, e2]⟩
          · exact ⟨true, by simp [k2, e2], by simp [k2, e1, e2]⟩
    · exact ⟨true, by simp [k2], by simp [k2]⟩
end Go.Proofs.Ytnmljicimdhpmaa.AL

/- Plain laws, part 8: OriginTells. -/
set_option linter.all false
namespace Go.Proofs.Ytnmljicimdhpmaa.AL
open Go Go.Proofs

noncomputable def staleB (s : Stack) (x : Node) : Bool := (m_origin_Stale s x).getD false
noncomputable def lacksB (s : Stack) (x : Node) : Bool := (m_origin_Lacks s x).getD false
theorem staleB_eq {s : Stack} (hs : SB s) {x : Node} (h : NB x) : m_origin_Stale s x = some (staleB s x) ∧ m_ref22_Stale s x = some (staleB s x) := by
  obtain ⟨r, h1, h2⟩ := stale_eq hs h
  unfold staleB
  rw [h1, h2]
  exact ⟨rfl, rfl⟩
theorem lacksB_eq {s : Stack} (hs : SB s) {x : Node} (h : NB x) : m_origin_Lacks s x = some (lacksB s x) ∧ m_ref22_Lacks s x = some (lacksB s x) := by
  obtain ⟨r, h1, h2⟩ := lacks_eq hs h
  unfold lacksB
  rw [h1, h2]
  exact ⟨rfl, rfl⟩
noncomputable def wrongB (s : Stack) (c : Int) (x : Node) : Bool := if c = 8 then oddP x else if c = 13 then staleB s x else lacksB s x
theorem wrongB_eq {s : Stack} (hs : SB s) (c : Int) {x : Node} (h : NB x) : m_origin_wrong s c x = some (wrongB s c x) := by
  unfold m_origin_wrong wrongB
  by_cases h1 : c = 8
  · rw [if_pos h1, if_pos h1, (odd_eq h).1]; rfl
  rw [if_neg h1, if_neg h1]
  by_cases h2 : c = 13
  · rw [if_pos h2, if_pos h2, (staleB_eq hs h).1]; rfl
  rw [if_neg h2, if_neg h2, (lacksB_eq hs h).1]; rfl
def fnd2 (c : Int) (i : Nat) : Finding := ⟨c, 0, (i : Int) + 1, -1⟩
noncomputable def oStep (s : Stack) (c : Int) (acc : List Finding) (i : Nat) : List Finding := if inB s.upper ((i : Int) + 1) = true ∧ wrongB s c (nodeP s.upper ((i : Int) + 1)) = true then acc ++ [fnd2 c i] else acc
theorem oStep_len (s : Stack) (c : Int) (acc : List Finding) (i : Nat) : (oStep s c acc i).length ≤ acc.length + 1 := by unfold oStep; split <;> simp
noncomputable def oRow (s : Stack) (acc : List Finding) (c : Int) : List Finding := (List.range s.upper.nodes.length).foldl (oStep s c) acc
theorem oFold_len (s : Stack) (c : Int) : ∀ (l : List Nat) (acc : List Finding), (l.foldl (oStep s c) acc).length ≤ acc.length + l.length
  | [], acc => by simp
  | i :: l, acc => by
    rw [List.foldl_cons]
    have := oFold_len s c l (oStep s c acc i)
    have := oStep_len s c acc i
    simp only [List.length_cons]
    omega
theorem oRow_len (s : Stack) (acc : List Finding) (c : Int) : (oRow s acc c).length ≤ acc.length + s.upper.nodes.length := by
  have := oFold_len s c (List.range s.upper.nodes.length) acc
  unfold oRow
  simpa using this
theorem node_ix {b : Branch} (hn : b.nodes.length ≤ 24) {i : Nat} (hi : i < b.nodes.length) : ix b.nodes (i : Int) = some (nodeP b ((i : Int) + 1)) := by
  have := nodeP_in (b := b) (ino := (i : Int) + 1) (by omega) (by omega) hn
  rwa [wr_in (by omega) (by omega), show (i : Int) + 1 - 1 = (i : Int) by omega] at this
theorem in_ix {b : Branch} (hn : b.nodes.length ≤ 24) {i : Nat} (hi : i < b.nodes.length) : ix (reachP b [1]) (i : Int) = some (inB b ((i : Int) + 1)) := by
  have := reach_ix (b := b) (ino := (i : Int) + 1) (by omega) (by omega) hn
  rwa [wr_in (by omega) (by omega), show (i : Int) + 1 - 1 = (i : Int) by omega] at this
theorem my_row {s : Stack} (hs : SB s) (c : Int) {acc : List Finding} (ha : acc.length ≤ 200) : iter (m_origin_Findings_b1 s (reachP s.upper [1]) c) big (acc, 0) = some (oRow s acc c) := by
  have h := hs.pn
  have hn := h.len
  have hl := reachP_len s.upper [1]
  have key := (iter_fold (B := m_origin_Findings_b1 s (reachP s.upper [1]) c) (fun (i : Nat) (acc : List Finding) => (acc, (i : Int))) (List.range s.upper.nodes.length) (oStep s c) (fun acc => acc) (fun i a => a.length ≤ acc.length + i) (by
    intro i a hi hlen
    simp only [List.length_range] at hi
    simp only [List.getElem_range]
    refine ⟨?_, by have := oStep_len s c a i; omega⟩
    have hw1 : wr ((i : Int) + 1) = (i : Int) + 1 := wr_in (by omega) (by omega)
    have hap : ap 32 a [fnd2 c i] = some (a ++ [fnd2 c i]) := ap_of (by simp; omega) (by omega)
    unfold fnd2 at hap
    simp only [m_origin_Findings_b1]
    rw [if_pos (by omega), in_ix hn hi, hw1]
    simp only [Option.bind_some]
    unfold oStep
    cases hi1 : inB s.upper ((i : Int) + 1) with
    | false => simp
    | true =>
      rw [if_neg (by simp), node_ix hn hi]
      simp only [Option.bind_some]
      rw [wrongB_eq hs c (nodeP_nb h _)]
      simp only [Option.bind_some]
      cases hw : wrongB s c (nodeP s.upper ((i : Int) + 1)) with
      | false => simp
      | true =>
        rw [if_neg (by simp), if_pos (by simp), hap]
        rfl) (by
    intro a hlen
    simp only [m_origin_Findings_b1, List.length_range]
    rw [if_neg (by omega)]) (s0 := acc) (by simp) (fuel := big) (by rw [big_eq]; simp; omega)).1
  exact key
noncomputable def oFind (s : Stack) : List Finding := ([8, 13, 14] : List Int).foldl (oRow s) []
theorem myO_eq {s : Stack} (hs : SB s) : m_origin_Findings s = some (oFind s) := by
  have hn := hs.pn.len
  unfold m_origin_Findings
  rw [walkReach_eq hs.pn.pb (by simp)]
  simp only [Option.bind_some]
  have key := (iter_fold (B := m_origin_Findings_b0 s (reachP s.upper [1])) (fun (i : Nat) (acc : List Finding) => (acc, (i : Int))) ([8, 13, 14] : List Int) (oRow s) (fun acc => acc) (fun i a => a.length ≤ 24 * i) (by
    intro i a hi hlen
    simp only [List.length_cons, List.length_nil] at hi
    refine ⟨?_, by have := oRow_len s a ([8, 13, 14] : List Int)[i]; omega⟩
    simp only [m_origin_Findings_b0]
    rw [if_pos (by omega), ix_at (xs := ([8, 13, 14] : List Int)) (by simpa using hi)]
    simp only [Option.bind_some]
    rw [my_row hs _ (by omega), wr_suc (by omega)]
    rfl) (by
    intro a hlen
    simp only [m_origin_Findings_b0]
    rw [if_neg (by simp)]) (s0 := []) (by simp) (fuel := big) (by rw [big_eq]; simp)).1
  rw [show ((0 : Nat) : Int) = 0 from rfl] at key
  rw [key]
  rfl
end Go.Proofs.Ytnmljicimdhpmaa.AL

/- Plain laws, part 9: ImpureSet, OriginNone. -/
set_option linter.all false
namespace Go.Proofs.Ytnmljicimdhpmaa.AL
open Go Go.Proofs

/-- Layers that have the same tree. -/
structure Sm (b c : Branch) : Prop where
  len : c.nodes.length = b.nodes.length
  k : ∀ i, (nodeP c i).kind = (nodeP b i).kind
  e : ∀ i, (nodeP c i).entries = (nodeP b i).entries
theorem Sm.walk {b c : Branch} (h : Sm b c) (fr : List Int) : walkP c fr = walkP b fr := by
  have h1 : eStep c = eStep b := by
    funext k ino s e
    unfold eStep
    rw [h.k]
  have h2 : wStep c = wStep b := by
    funext k s
    unfold wStep
    rw [h.e, h1]
  have h3 : fStep c = fStep b := by
    funext t r
    unfold fStep wLoop
    rw [h.k, h2]
  unfold walkP
  rw [h3]
theorem Sm.reach {b c : Branch} (h : Sm b c) (fr : List Int) : reachP c fr = reachP b fr := by
  unfold reachP reachW reachL
  rw [h.walk, h.len]
  simp only [h.e]
/-- What stands at each place of a row of nodes, told by its places. -/
theorem nodeP_of {b c : Branch} (hl : c.nodes.length = b.nodes.length) {f : Nat → Node → Node} (h : ∀ j x, b.nodes[j]? = some x → c.nodes[j]? = some (f j x)) (ino : Int) : (∃ j : Nat, ino = (j : Int) + 1 ∧ j < b.nodes.length ∧ nodeP c ino = f j (nodeP b ino)) ∨ ((ino < 1 ∨ (b.nodes.length : Int) < ino) ∧ nodeP c ino = zeroNode ∧ nodeP b ino = zeroNode) := by
  by_cases h1 : ino < 1
  · exact .inr ⟨.inl h1, nodeP_out (.inl h1), nodeP_out (.inl h1)⟩
  by_cases h2 : (b.nodes.length : Int) < ino
  · exact .inr ⟨.inr h2, nodeP_out (.inr (by omega)), nodeP_out (.inr h2)⟩
  refine .inl ⟨(ino - 1).toNat, by omega, by omega, ?_⟩
  have hlt : (ino - 1).toNat < b.nodes.length := by omega
  have e1 : nodeP b ino = b.nodes[(ino - 1).toNat] := by
    unfold nodeP
    rw [if_neg h1, if_neg h2, List.getElem?_eq_getElem hlt]; rfl
  have e2 := h _ _ (List.getElem?_eq_getElem hlt)
  rw [e1]
  unfold nodeP
  rw [if_neg h1, if_neg (by omega), e2]; rfl
/-! ### ImpureSet -/
theorem clone_node {l : List Node} (h : l.length ≤ 24) : cloneM 144 l = some l := by
  unfold cloneM
  rw [ap_of (by simp; omega) (by omega)]
  rfl
/-! ### OriginNone -/
def zeroAttr : Attr := ⟨0, 0, noBytes, ⟨0, 0, 0⟩, 0⟩
theorem hasB_zero {x : Node} (h : x.attr = zeroAttr) (bit : Int) (hb : bit = 1 ∨ bit = 4 ∨ bit = 16) : hasB x bit = false := by
  unfold hasB
  rw [h]
  rcases hb with rfl | rfl | rfl <;> decide +kernel
theorem none_odd {x : Node} (hb : NB x) (h : x.attr = zeroAttr) : oddP x = false := by
  unfold oddP
  rw [hasB_zero h 1 (.inl rfl)]; rfl
theorem none_stale {s : Stack} {x : Node} (hb : NB x) (h : x.attr = zeroAttr) : m_origin_Stale s x = some false := by
  unfold m_origin_Stale
  rw [oHas_eq hb (.inr (.inl rfl)), hasB_zero h 4 (.inr (.inl rfl))]
  rfl
theorem none_lacks {s : Stack} {x : Node} (hb : NB x) (h : x.attr = zeroAttr) : m_origin_Lacks s x = some false := by
  unfold m_origin_Lacks
  rw [oHas_eq hb (.inr (.inr rfl)), hasB_zero h 16 (.inr (.inr rfl))]
  rfl
def clr (x : Node) : Node := { x with attr := zeroAttr }
theorem nb_clr {x : Node} (h : NB x) : NB (clr x) := ⟨h.ents, by simp [clr, zeroAttr], by simp [clr, zeroAttr]⟩
theorem none_loop {s : Stack} (h : PN s.upper) : ∃ v, iter (m_law22_OriginNone_b0 s s.upper.nodes) big (0, s.upper.nodes) = some (.inl v) ∧ v.length = s.upper.nodes.length ∧ ∀ (j : Nat) (x : Node), s.upper.nodes[j]? = some x → v[j]? = some (clr x) := by
  have hn := h.len
  have key := iter_term (B := m_law22_OriginNone_b0 s s.upper.nodes) (R := fun r => ∃ v : List Node, r = .inl v ∧ v.length = s.upper.nodes.length ∧ ∀ (j : Nat) (x : Node), s.upper.nodes[j]? = some x → v[j]? = some (clr x))
    (fun i t => t.1 = (i : Int) ∧ i ≤ s.upper.nodes.length ∧ t.2.length = s.upper.nodes.length ∧ ∀ j x, s.upper.nodes[j]? = some x → t.2[j]? = some (if j < i then clr x else x)) s.upper.nodes.length ?_ big 0 (0, s.upper.nodes) ⟨rfl, by omega, rfl, fun j x hx => by simp [hx]⟩ (by rw [big_eq]; omega)
  · obtain ⟨r, g1, g2⟩ := key
    obtain ⟨v, rfl, e⟩ := g2
    exact ⟨v, g1, e⟩
  rintro i ⟨q, v⟩ ⟨h1, h2, h3, h4⟩
  simp only at h1 h3 h4
  subst h1
  refine ⟨h2, ?_⟩
  simp only [m_law22_OriginNone_b0]
  by_cases hi : i < s.upper.nodes.length
  · have hw1 : wr ((i : Int) + 1) = ((i + 1 : Nat) : Int) := wr_suc (by omega)
    have hx := List.getElem?_eq_getElem hi
    have hv := h4 i _ hx
    rw [if_neg (by omega)] at hv
    have hv2 : v[i]'(by omega) = s.upper.nodes[i] := by
      rw [List.getElem?_eq_getElem (by omega)] at hv
      exact Option.some.inj hv
    have hb := h.nb _ (List.getElem_mem hi)
    have hnx : ∀ (w : List Node), w = v.set i (clr s.upper.nodes[i]) → ∃ s' : Int × List Node, (some (St.nx (((i + 1 : Nat) : Int), w)) : Option (St (Int × List Node) (List Node ⊕ Bool))) = some (.nx s') ∧ s'.1 = ((i + 1 : Nat) : Int) ∧ i + 1 ≤ s.upper.nodes.length ∧ s'.2.length = s.upper.nodes.length ∧ ∀ j x, s.upper.nodes[j]? = some x → s'.2[j]? = some (if j < i + 1 then clr x else x) := by
      rintro w rfl
      refine ⟨_, rfl, rfl, by omega, by simpa using h3, ?_⟩
      intro j x hj
      simp only [List.getElem?_set]
      by_cases e : i = j
      · subst e
        rw [if_pos rfl, if_pos (by omega), if_pos (by omega)]
        rw [hx] at hj
        obtain rfl := Option.some.inj hj
        rfl
      · rw [if_neg e, h4 j x hj]
        by_cases c : j < i
        · rw [if_pos c, if_pos (by omega)]
        · rw [if_neg c, if_neg (by omega)]
    rw [if_pos (by omega), hw1, ix_at (by omega)]
    simp only [Option.bind_some, hv2, Int.toNat_natCast]
    by_cases hz : s.upper.nodes[i].attr = zeroAttr
    · rw [if_pos (by simpa [zeroAttr] using hz), (odd_eq hb).1, none_odd hb hz, none_stale hb hz, none_lacks hb hz]
      simp only [Option.bind_some, Bool.false_eq_true, if_false]
      exact .inl (hnx _ rfl)
    · rw [if_neg (by simpa [zeroAttr] using hz)]
      exact .inl (hnx _ rfl)
  · rw [if_neg (by omega)]
    refine .inr ⟨_, rfl, v, rfl, h3, fun j x hj => ?_⟩
    have := (List.getElem?_eq_some_iff.1 hj).1
    rw [h4 j x hj, if_pos (by omega)]
theorem law_originNone (s : Stack) : m_law22_OriginNone s = some true := by
  unfold m_law22_OriginNone
  obtain ⟨r, h1, h2⟩ := stack_tot s
  rw [h1]
  simp only [Option.bind_some]
  cases r with
  | false => rfl
  | true =>
    have hsb := h2 rfl
    have h := hsb.pn
    rw [if_neg (by simp), clone_node h.len]
    simp only [Option.bind_some]
    obtain ⟨v, e1, e2, e3⟩ := none_loop h
    rw [e1]
    simp only [Option.bind_some]
    have hnode := nodeP_of (b := s.upper) (c := ⟨v⟩) (f := fun _ x => clr x) e2 e3
    have hzn : clr zeroNode = zeroNode := rfl
    have hs2 : SB (⟨s.geo, ⟨v⟩, s.lowers⟩ : Stack) := ⟨hsb.low, ⟨by show v.length ≤ 24; rw [e2]; exact h.len, fun x hx => by
      obtain ⟨j, hj, rfl⟩ := List.getElem_of_mem (show x ∈ v from hx)
      have hj' : j < s.upper.nodes.length := by omega
      have e := e3 j _ (List.getElem?_eq_getElem hj')
      rw [List.getElem?_eq_getElem hj] at e
      rw [Option.some.inj e]
      exact nb_clr (h.nb _ (List.getElem_mem hj'))⟩, hsb.lows⟩
    have hz : ∀ i, (nodeP ⟨v⟩ i).attr = zeroAttr := fun i => by rcases hnode i with ⟨j, _, _, e⟩ | ⟨_, e, e'⟩ <;> rw [e] <;> rfl
    have e4 := myO_eq hs2
    rw [show (⟨⟨s.geo.lowers, s.geo.inodes, s.geo.blocks, s.geo.log⟩, ⟨v⟩, s.lowers⟩ : Stack) = ⟨s.geo, ⟨v⟩, s.lowers⟩ from rfl, e4]
    simp only [Option.bind_some]
    have hf : oFind (⟨s.geo, ⟨v⟩, s.lowers⟩ : Stack) = [] := by
      have hw : ∀ c i, wrongB (⟨s.geo, ⟨v⟩, s.lowers⟩ : Stack) c (nodeP ⟨v⟩ i) = false := by
        intro c i
        have hb := nodeP_nb hs2.pn i
        unfold wrongB staleB lacksB
        rw [none_odd hb (hz i), none_stale hb (hz i), none_lacks hb (hz i)]
        simp
      have hstep : ∀ c acc i, oStep (⟨s.geo, ⟨v⟩, s.lowers⟩ : Stack) c acc i = acc := by
        intro c acc i
        unfold oStep
        rw [hw]
        simp
      have hrow : ∀ c acc, oRow (⟨s.geo, ⟨v⟩, s.lowers⟩ : Stack) acc c = acc := by
        intro c acc
        unfold oRow
        generalize List.range _ = l
        induction l with
        | nil => rfl
        | cons x l ih => rw [List.foldl_cons, hstep]; exact ih
      unfold oFind
      simp only [List.foldl_cons, List.foldl_nil, hrow]
    rw [hf, if_pos (by simp)]
    rfl
theorem ok_originNone (s : Stack) : Ok Try.prog 7 [encStack s] (bool true) := ok_law22_OriginNone s true (law_originNone s)
end Go.Proofs.Ytnmljicimdhpmaa.AL

/- Nodes without attributes are none of those whose attributes may not be: for every stack. -/
namespace Go.Proofs.Ytnmljicimdhpmaa
theorem originNone_holds : Rows.OriginNoneSaid := holds_originNone_of fun s _ => AL.ok_originNone s
#print axioms originNone_holds
end Go.Proofs.Ytnmljicimdhpmaa

