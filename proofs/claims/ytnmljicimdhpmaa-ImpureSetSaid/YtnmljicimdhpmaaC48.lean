/- A law of the given program is proved: part 48 of 51. -/
import Derived.Test.YtnmljicimdhpmaaC47
set_option linter.all false
/- The table of functions for closed runs; written by tabgen.py. -/
set_option linter.all false
namespace Go.Proofs.Ytnmljicimdhpmaa.AL
open Go Go.Proofs
def tabL_Aw24 : List (Nat × Nat × List ResultVar × AC) := [(13, 37, [.tmp 0], c_law24_awake), (14, 26, [.tmp 4], c_slices_Equal_api_Finding_api_Finding), (15, 56, [.tmp 2], c_impure_Findings), (17, 36, [.tmp 4], c_impure_Want), (55, 25, [.cell 0 29], c_plain_Base), (44, 9, [.tmp 4], c_walk_Reach), (56, 14, [.tmp 4], c_impure_want), (86, 5, [.cell 2 46], c_plain_dir), (64, 42, [.tmp 4], c_walk_walk), (65, 9, [.tmp 4], c_slices_ContainsFunc_api_Entry_api_Entry), (87, 8, [.tmp 3], c_impure_want_1), (92, 27, [.cell 4 46], c_walk_trail_node), (93, 31, [.tmp 4], c_walk_trail_come), (94, 55, [], c_walk_trail_enter), (95, 19, [.tmp 4], c_slices_IndexFunc_api_Entry_api_Entry), (88, 37, [.tmp 4], c_impure_copied)]
def tabF_Aw24 : List (Nat × Nat × List ResultVar × AC) → FuncId → Option (Nat × List ResultVar × AC)
  | [], _ => none
  | p :: l, f => bif Nat.beq p.1 f then some p.2 else tabF_Aw24 l f
theorem tabL_ok_Aw24 : ∀ p ∈ tabL_Aw24, FnC Try.prog p.1 p.2.1 p.2.2.1 p.2.2.2 := by
  unfold tabL_Aw24
  simp only [List.forall_mem_cons]
  exact ⟨fc_law24_awake, fc_slices_Equal_api_Finding_api_Finding, fc_impure_Findings, fc_impure_Want, fc_plain_Base, fc_walk_Reach, fc_impure_want, fc_plain_dir, fc_walk_walk, fc_slices_ContainsFunc_api_Entry_api_Entry, fc_impure_want_1, fc_walk_trail_node, fc_walk_trail_come, fc_walk_trail_enter, fc_slices_IndexFunc_api_Entry_api_Entry, fc_impure_copied, fun p h => by cases h⟩
theorem tabF_ok_Aw24 {l : List (Nat × Nat × List ResultVar × AC)} (h : ∀ p ∈ l, FnC Try.prog p.1 p.2.1 p.2.2.1 p.2.2.2) : ∀ f n rs ac, tabF_Aw24 l f = some (n, rs, ac) → FnC Try.prog f n rs ac := by
  induction l with
  | nil => intro f n rs ac e; simp [tabF_Aw24] at e
  | cons p l ih =>
    intro f n rs ac e
    unfold tabF_Aw24 at e
    cases hb : Nat.beq p.1 f with
    | true =>
      rw [hb] at e
      simp only [cond_true, Option.some.injEq] at e
      have := h p (by simp)
      rw [e, Nat.eq_of_beq_eq_true hb] at this
      exact this
    | false =>
      rw [hb] at e
      exact ih (fun q hq => h q (by simp [hq])) f n rs ac e
noncomputable def runsTrue_Aw24 (k : Nat) (f : FuncId) : Bool := match xF Try.prog (tabF_Aw24 tabL_Aw24) told (xC Try.prog (tabF_Aw24 tabL_Aw24) told k) f [] [] 0 with
  | some (.val (.bool true), _, _) => true
  | _ => false
theorem ok_runsTrue_Aw24 {k : Nat} {f : FuncId} (hf : told f = none) (h : runsTrue_Aw24 k f = true) : Ok Try.prog f [] (bool true) := by
  unfold runsTrue_Aw24 at h
  split at h
  · rename_i H nx hr
    refine ok_of_acall ((xF_call (tabF_ok_Aw24 tabL_ok_Aw24) (xC_sound (tabF_ok_Aw24 tabL_ok_Aw24) told_ok (by kernel_rfl) k) hf hr).mono ?_)
    rintro r H2 n2 ⟨rfl, rfl, rfl⟩
    exact ⟨_, Sub.refl _, 0, frz_closed rfl _ 0⟩
  · cases h
def m_law24_awake : Option Bool := some true
theorem ok_law24_awake (r : Bool) (h : m_law24_awake = some r) : Ok Try.prog 13 [] (bool r) := by
  injection h with h
  subst h
  exact ok_runsTrue_Aw24 (k := 3000) (by kernel_rfl) (by kernel_rfl)
end Go.Proofs.Ytnmljicimdhpmaa.AL

/- Models of functions, and that the functions are as their models: written by gen.py. -/
set_option linter.all false
set_option maxRecDepth 100000
namespace Go.Proofs.Ytnmljicimdhpmaa.AL
open Go Go.Proofs
def m_law24_ImpureSet_b0 (a0 : Stack) (v7 : List Node) : (Int × List Node) → Option (St (Int × List Node) (List Node))
 | (v10, v11) => if v10 < (v7.length : Int) then (m_impure_Want a0 (wr (v10 + 1))).bind fun v16 => (ix v11 v10).bind fun v18 => some (.nx ((wr (v10 + 1)), (v11.set (v10).toNat ({ v18 with impure := v16 } : Node))))
 else some (.out v11)
def m_law24_ImpureSet (a0 : Stack) : Option (Bool) := (m_plain_Stack a0 24).bind fun v1 => if (!v1) = true then (m_law24_awake ).bind fun v5 => some v5
 else (cloneM 144 a0.upper.nodes).bind fun v7 => (iter (m_law24_ImpureSet_b0 a0 v7) big (0, v7)).bind fun o => (match o with
 | v13 => (m_impure_Findings (⟨(⟨a0.geo.lowers, a0.geo.inodes, a0.geo.blocks, a0.geo.log⟩ : Geo), (⟨v13⟩ : Branch), a0.lowers⟩ : Stack)).bind fun v21 => if (v21.length : Int) = 0 then (m_law24_awake ).bind fun v25 => some v25
 else some false)
def Y_law24_ImpureSet := And.intro (And.intro (And.intro (And.intro ((@EV)) ((@R3))) (And.intro ((@R24)) ((@R26)))) (And.intro (And.intro ((@R29)) ((@R33))) (And.intro ((@R35)) ((@R46))))) (And.intro (And.intro (And.intro ((@DGeo)) ((@DBranch))) (And.intro ((@DStack)) ((@DFinding)))) (And.intro (And.intro ((@DOrigin)) ((@DAttr))) (And.intro ((@DNode)) (And.intro ((@DEntry)) ((@mixed))))))
set_option maxHeartbeats 2000000 in
theorem ok_law24_ImpureSet (a0 : Stack) (r : Bool) (hm0 : m_law24_ImpureSet a0 = some r) : Ok Try.prog 4 [encStack a0] (bool r) := by
 unfold m_law24_ImpureSet at hm0
 refine okG fc_law24_ImpureSet ?_
 unfold c_law24_ImpureSet
 obtain ⟨v1, h2, hm0⟩ := bsE hm0
 simp only [Y_law24_ImpureSet, ↓EVd, isCall, sevalprocAttr]
 refine qc (ok_plain_Stack _ _ _ h2) rfl ?_
 rcases itbE hm0 with ⟨e4, hm0⟩ | ⟨e4, hm0⟩
 · obtain ⟨v5, h6, hm0⟩ := bsE hm0
   simp only [e4, Y_law24_ImpureSet, ↓EVd, isCall, sevalprocAttr]
   refine qc (ok_law24_awake  _ h6) rfl ?_
   obtain rfl := Option.some.inj hm0
   simp only [e4, Y_law24_ImpureSet, ↓EVd, isCall, sevalprocAttr]
   all_goals first | done | rfl
 obtain ⟨v7, h8, hm0⟩ := bsE hm0
 simp only [e4, Y_law24_ImpureSet, ↓EVd, isCall, sevalprocAttr]
 refine qco (cloneO_ok fc_slices_Clone_api_Node_api_Node elemOfT_24 aggN_46 bytesOfT_46 zero_46 rfl (by decide) encNode _ _ h8 (fun z => by simp only [CLO])) rfl ?_
 obtain ⟨o0, ho0, hm0⟩ := bsE hm0
 simp only [e4, Y_law24_ImpureSet, ↓EVd, isCall, sevalprocAttr]
 refine cwp_cx 0 (fun s => ∃ v13 : List Node, (s.T 1 = .loc 0 6 0 0 ∧ s.H 0 = some (.row 29 6 [.agg [int a0.geo.lowers, int a0.geo.inodes, int a0.geo.blocks, int a0.geo.log, .msl 15 v13.length, .sl 1 (a0.lowers.map encBranch)]]) ∧ s.H 15 = some (.row 46 13 (v13.map encNode)) ∧ Lq 0 s.nx ∧ Lq 15 s.nx) ∧ v13 = o0) ?_ fun J0_0 hJ0_0 => ?_
 · rintro T0 H0 x12 ⟨v13, kk0_0, rfl⟩
   dsimp only [Lq, Nq] at kk0_0
   try dsimp only at hm0
   obtain ⟨v21, h22, hm0⟩ := bsE hm0
   simp only [kk0_0, e4, Y_law24_ImpureSet, ↓EVd, isCall, sevalprocAttr]
   refine qcqs (ok_impure_Findings _ _ h22) rfl (.cons (.agg (.refl _)) .nil) (by simp only [kk0_0, e4, FQ, CLO, Y_law24_ImpureSet, ↓EVd, isCall, sevalprocAttr]; first | done | rfl) ?_
   rcases iteE hm0 with ⟨e24, hm0⟩ | ⟨e24, hm0⟩
   · obtain ⟨v25, h26, hm0⟩ := bsE hm0
     simp only [kk0_0, e4, e24, Y_law24_ImpureSet, ↓EVd, isCall, sevalprocAttr]
     refine qc (ok_law24_awake  _ h26) rfl ?_
     obtain rfl := Option.some.inj hm0
     simp only [kk0_0, e4, e24, Y_law24_ImpureSet, ↓EVd, isCall, sevalprocAttr]
     all_goals first | done | rfl
   obtain rfl := Option.some.inj hm0
   simp only [kk0_0, e4, e24, Y_law24_ImpureSet, ↓EVd, isCall, sevalprocAttr]
   all_goals first | done | rfl
 refine cwp_lp ho0 (fun (v10, v11) s => s.T 1 = .loc 0 6 0 0 ∧ s.T 3 = .loc 6 6 0 0 ∧ s.T 19 = int (v7.length : Int) ∧ s.T 20 = int v10 ∧ s.H 0 = some (.row 29 6 [.agg [int a0.geo.lowers, int a0.geo.inodes, int a0.geo.blocks, int a0.geo.log, .msl 15 v11.length, .sl 1 (a0.lowers.map encBranch)]]) ∧ s.H 6 = some (.row 29 6 [encStack a0]) ∧ s.H 15 = some (.row 46 13 (v11.map encNode)) ∧ Lq 0 s.nx ∧ Lq 6 s.nx ∧ Lq 15 s.nx) ?_ ?_
 · refine TI.here ⟨?_, ?_, ?_, ?_, ?_, ?_, ?_, ?_, ?_, ?_⟩
   all_goals try simp only [e4, Y_law24_ImpureSet, ↓EVd, isCall, sevalprocAttr]
   all_goals first | omega | exact lq (by omega) | exact nq (by omega) | rfl | (congr 1; omega)
 rintro I0 ⟨v10, v11⟩ T0 H0 x9 st0 kk0 hm1 hI0 hO0
 dsimp only [Lq, Nq] at kk0
 simp only [m_law24_ImpureSet_b0] at hm1
 rcases iteE hm1 with ⟨e15, hm1⟩ | ⟨e15, hm1⟩
 · obtain ⟨v16, h17, hm1⟩ := bsE hm1
   simp only [kk0, e4, e15, Y_law24_ImpureSet, ↓EVd, isCall, sevalprocAttr]
   refine qd (ok_impure_Want _ _ _ h17) rfl ?_
   obtain ⟨v18, e20, hm1⟩ := ixE encNode hm1
   obtain rfl := Option.some.inj hm1
   simp only [kk0, e4, e15, e20, Y_law24_ImpureSet, ↓EVd, isCall, sevalprocAttr]
   refine TI.here (hI0 _ rfl _ ⟨?_, ?_, ?_, ?_, ?_, ?_, ?_, ?_, ?_, ?_⟩)
   all_goals try simp only [kk0, e4, e15, e20, Y_law24_ImpureSet, ↓EVd, isCall, sevalprocAttr]
   all_goals first | omega | exact lq (by omega) | exact nq (by omega) | rfl | (congr 1; omega)
 obtain rfl := Option.some.inj hm1
 simp only [kk0, e4, e15, Y_law24_ImpureSet, ↓EVd, isCall, sevalprocAttr]
 refine TI.here (hJ0_0 _ ⟨v11, ⟨?_, ?_, ?_, ?_, ?_⟩, hO0 _ rfl⟩)
 all_goals try simp only [kk0, e4, e15, Y_law24_ImpureSet, ↓EVd, isCall, sevalprocAttr]
 all_goals first | omega | exact lq (by omega) | exact nq (by omega) | rfl | (congr 1; omega)
end Go.Proofs.Ytnmljicimdhpmaa.AL

/- Plain laws, part 5: chapter 24. -/
set_option linter.all false
namespace Go.Proofs.Ytnmljicimdhpmaa.AL
open Go Go.Proofs

theorem bits (k : Fin 32) : bAnd .i64 (k.val : Int) 4 = 0 ↔ ¬ (wr ((k.val : Int).tdiv 4)).tmod 2 = 1 := by
  revert k
  decide +kernel
theorem bit_iff {h : Int} (h0 : 0 ≤ h) (h1 : h ≤ 31) : bAnd .i64 h 4 = 0 ↔ ¬ (wr (h.tdiv 4)).tmod 2 = 1 := by
  have := bits ⟨h.toNat, by omega⟩
  rwa [show ((h.toNat : Nat) : Int) = h by omega] at this
def hasO (x : Node) : Bool := decide ((wr (x.attr.has.tdiv 4)).tmod 2 = 1)
structure PN (b : Branch) : Prop where
  len : b.nodes.length ≤ 24
  nb : ∀ x ∈ b.nodes, NB x
theorem PN.pb {b : Branch} (h : PN b) : PB b := ⟨h.len, fun x hx => (h.nb x hx).ents⟩
theorem nodeP_nb {b : Branch} (h : PN b) (ino : Int) : NB (nodeP b ino) := by
  unfold nodeP
  split
  · exact ⟨by simp [zeroNode], by simp [zeroNode], by simp [zeroNode]⟩
  · split
    · exact ⟨by simp [zeroNode], by simp [zeroNode], by simp [zeroNode]⟩
    · have hlt : (ino - 1).toNat < b.nodes.length := by omega
      simp only [List.getElem?_eq_getElem hlt, Option.getD_some]
      exact h.nb _ (List.getElem_mem hlt)
theorem hasO_zero : hasO zeroNode = false := by decide +kernel
theorem copied_eq {b : Branch} (h : PN b) (ino : Int) : m_impure_copied b ino = some (hasO (nodeP b ino)) := by
  have hn := h.len
  unfold m_impure_copied
  by_cases h1 : 1 ≤ ino
  · rw [if_pos h1]
    by_cases h2 : ino ≤ (b.nodes.length : Int)
    · rw [if_pos h2, nodeP_in (by omega) (by omega) hn]
      simp only [Option.bind_some]
      have hb := nodeP_nb h ino
      rw [if_pos hb.has0]
      have := bit_iff hb.has0 hb.has1
      by_cases hz : bAnd .i64 (nodeP b ino).attr.has 4 = 0
      · rw [if_pos hz]
        have := this.1 hz
        simp [hasO, this]
      · rw [if_neg hz]
        have : (wr ((nodeP b ino).attr.has.tdiv 4)).tmod 2 = 1 := Classical.byContradiction fun hc => hz (this.2 hc)
        simp [hasO, this]
    · rw [if_neg h2, nodeP_out (.inr (by omega)), hasO_zero]
  · rw [if_neg h1, nodeP_out (.inl (by omega)), hasO_zero]
def wantP (b : Branch) (x : Node) : Int := if x.kind = 1 ∧ (x.entries.any fun e => hasO (nodeP b e.ino)) = true then 121 else 0
theorem want_eq {b : Branch} (h : PN b) {x : Node} (hx : NB x) : m_impure_want b x = some (wantP b x) := by
  unfold m_impure_want wantP
  have he := hx.ents
  by_cases hk : x.kind = 1
  · rw [if_pos hk, contains_tot (f := fun e => hasO (nodeP b e.ino)) x.entries (fun e _ => by unfold m_impure_want_1; rw [copied_eq h]; rfl) (by omega)]
    simp only [Option.bind_some]
    by_cases ha : (x.entries.any fun e => hasO (nodeP b e.ino)) = true
    · rw [if_pos ha, if_pos ⟨hk, ha⟩]
    · rw [if_neg ha, if_neg (fun h => ha h.2)]
  · rw [if_neg hk, if_neg (fun h => hk h.1)]
def inB (b : Branch) (ino : Int) : Bool := ((reachP b [1])[(ino - 1).toNat]?).getD false
def WantP (b : Branch) (ino : Int) : Int := if 1 ≤ ino ∧ ino ≤ (b.nodes.length : Int) ∧ inB b ino = true then wantP b (nodeP b ino) else 0
theorem reach_ix {b : Branch} {ino : Int} (h1 : 1 ≤ ino) (h2 : ino ≤ (b.nodes.length : Int)) (hn : b.nodes.length ≤ 24) : ix (reachP b [1]) (wr (ino - 1)) = some (inB b ino) := by
  have hl := reachP_len b [1]
  rw [wr_in (by omega) (by omega), ix_of (by omega) (by omega)]
  unfold inB
  rw [List.getElem?_eq_getElem (by omega)]
  rfl
theorem myWant_eq {s : Stack} (h : PN s.upper) (ino : Int) : m_impure_Want s ino = some (WantP s.upper ino) := by
  have hn := h.len
  have hl := reachP_len s.upper [1]
  unfold m_impure_Want WantP
  rw [walkReach_eq h.pb (by simp)]
  simp only [Option.bind_some]
  by_cases h1 : ino < 1
  · rw [if_pos h1, if_neg (fun h => by omega)]
  rw [if_neg h1]
  by_cases h2 : ((reachP s.upper [1]).length : Int) < ino
  · rw [if_pos h2, if_neg (fun h => by omega)]
  rw [if_neg h2, reach_ix (by omega) (by omega) hn]
  simp only [Option.bind_some]
  cases hi : inB s.upper ino with
  | false => simp
  | true =>
    rw [if_neg (by simp), if_pos ⟨by omega, by omega, rfl⟩, nodeP_in (by omega) (by omega) hn]
    simp only [Option.bind_some]
    rw [want_eq h (nodeP_nb h _)]
    rfl
/-! ### The findings -/
def fnd (i : Nat) : Finding := ⟨18, 0, (i : Int) + 1, -1⟩
def askP (b : Branch) (i : Nat) : Bool := inB b ((i : Int) + 1) || (decide ((nodeP b ((i : Int) + 1)).kind = 1) && (decide (i + 1 = 2) || decide (i + 1 = 3)))
def findStep (b : Branch) (acc : List Finding) (i : Nat) : List Finding := if askP b i = true ∧ ¬ (nodeP b ((i : Int) + 1)).impure = WantP b ((i : Int) + 1) then acc ++ [fnd i] else acc
def findP (b : Branch) : List Finding := (List.range b.nodes.length).foldl (findStep b) []
theorem findStep_len (b : Branch) (acc : List Finding) (i : Nat) : (findStep b acc i).length ≤ acc.length + 1 := by
  unfold findStep; split <;> simp
theorem myFind_eq {s : Stack} (h : PN s.upper) : m_impure_Findings s = some (findP s.upper) := by
  have hn := h.len
  have hl := reachP_len s.upper [1]
  unfold m_impure_Findings
  rw [walkReach_eq h.pb (by simp)]
  simp only [Option.bind_some]
  have key := (iter_fold (B := m_impure_Findings_b0 s (reachP s.upper [1])) (fun (i : Nat) (acc : List Finding) => (acc, (i : Int))) (List.range s.upper.nodes.length) (findStep s.upper) (fun acc => acc) (fun i acc => acc.length ≤ i) (by
    intro i acc hi ha
    simp only [List.length_range] at hi
    simp only [List.getElem_range]
    refine ⟨?_, by have := findStep_len s.upper acc i; omega⟩
    have hir : i < (reachP s.upper [1]).length := by omega
    have hnode : ix s.upper.nodes (i : Int) = some (nodeP s.upper ((i : Int) + 1)) := by
      have := nodeP_in (b := s.upper) (ino := (i : Int) + 1) (by omega) (by omega) hn
      rwa [wr_in (by omega) (by omega), show (i : Int) + 1 - 1 = (i : Int) by omega] at this
    have hin : ix (reachP s.upper [1]) (i : Int) = some (inB s.upper ((i : Int) + 1)) := by
      have := reach_ix (b := s.upper) (ino := (i : Int) + 1) (by omega) (by omega) hn
      rwa [wr_in (by omega) (by omega), show (i : Int) + 1 - 1 = (i : Int) by omega] at this
    have hw1 : wr ((i : Int) + 1) = (i : Int) + 1 := wr_in (by omega) (by omega)
    simp only [m_impure_Findings_b0]
    rw [if_pos (by omega), hin, hnode]
    simp only [Option.bind_some]
    have hap : ap 32 acc [fnd i] = some (acc ++ [fnd i]) := ap_of (by simp; omega) (by omega)
    unfold findStep askP
    rw [hw1]
    cases hi1 : inB s.upper ((i : Int) + 1) with
    | true =>
      rw [if_pos rfl, want_eq h (nodeP_nb h _)]
      simp only [Option.bind_some, Bool.true_or, true_and]
      have hW : WantP s.upper ((i : Int) + 1) = wantP s.upper (nodeP s.upper ((i : Int) + 1)) := by
        unfold WantP; rw [if_pos ⟨by omega, by omega, hi1⟩]
      rw [hW]
      by_cases hc : (nodeP s.upper ((i : Int) + 1)).impure = wantP s.upper (nodeP s.upper ((i : Int) + 1))
      · rw [if_pos hc, if_neg (fun h => h hc)]; rfl
      · rw [if_neg hc, if_pos hc]
        unfold fnd at hap
        rw [hap]
        rfl
    | false =>
      have hW : WantP s.upper ((i : Int) + 1) = 0 := by
        unfold WantP; rw [if_neg (fun h => by rw [hi1] at h; exact absurd h.2.2 (by simp))]
      rw [hW, if_neg (by simp)]
      simp only [Bool.false_or]
      by_cases hk : (nodeP s.upper ((i : Int) + 1)).kind = 1
      · rw [if_pos hk]
        by_cases h2 : i + 1 = 2
        · rw [if_pos (by omega)]
          by_cases hc : (nodeP s.upper ((i : Int) + 1)).impure = 0
          · rw [if_pos hc, if_neg (fun h => h.2 hc)]; rfl
          · rw [if_neg hc, if_pos ⟨by simp [hk, h2], hc⟩]
            unfold fnd at hap
            rw [hap]
            rfl
        · rw [if_neg (by omega)]
          by_cases h3 : i + 1 = 3
          · rw [if_pos (by omega)]
            by_cases hc : (nodeP s.upper ((i : Int) + 1)).impure = 0
            · rw [if_pos hc, if_neg (fun h => h.2 hc)]; rfl
            · rw [if_neg hc, if_pos ⟨by simp [hk, h3], hc⟩]
              unfold fnd at hap
              rw [hap]
              rfl
          · rw [if_neg (by omega), if_neg (fun h => by simp [h2, h3] at h)]; rfl
      · rw [if_neg hk, if_neg (fun h => by simp [hk] at h)]; rfl) (by
    intro acc ha
    simp only [m_impure_Findings_b0, List.length_range]
    rw [if_neg (by omega)]) (s0 := []) (by simp) (fuel := big) (by rw [big_eq]; simp; omega)).1
  rw [show ((0 : Nat) : Int) = 0 from rfl] at key
  rw [key]
  rfl
end Go.Proofs.Ytnmljicimdhpmaa.AL

/- Plain laws, part 6: ImpureTells. -/
set_option linter.all false
namespace Go.Proofs.Ytnmljicimdhpmaa.AL
open Go Go.Proofs

theorem SB.pn {s : Stack} (h : SB s) : PN s.upper := ⟨h.up.1, h.up.2⟩
end Go.Proofs.Ytnmljicimdhpmaa.AL

