/- A law of the given program is proved: part 50 of 50. -/
import Derived.Test.YtapdjibjnfeipaaGreatDoorC49
set_option linter.all false
/- Models of functions, and that the functions are as their models: written by gen.py. -/
set_option linter.all false
set_option maxRecDepth 100000
namespace Go.Proofs.YtapdjibjnfeipaaGreatDoor.AL
open Go Go.Proofs
def m_law20_awake  : Option (Bool) := (m_plain_Idle ).bind fun v1 => (m_view_Root v1).bind fun v3 => (m_white_Findings v1).bind fun v5 => (m_slices_Equal_api_Finding_api_Finding v5 ([(⟨15, 0, 1, 1⟩ : Finding)] : List Finding)).bind fun v8 => if v8 = true then (m_plain_Base ).bind fun v12 => (m_white_Findings v12).bind fun v14 => if (v14.length : Int) = 0 then (m_white_Hides v1 v3 (ByteArray.mk #[97])).bind fun v18 => if v18 = true then (m_white_Hides v1 v3 (ByteArray.mk #[122])).bind fun v22 => if (!v22) = true then (m_white_Names v1 v3).bind fun v26 => (m_slices_Equal_string_string v26 ([(ByteArray.mk #[122])] : List ByteArray)).bind fun v28 => some v28
 else some false
 else some false
 else some false
 else some false
def Y_law20_awake := And.intro (And.intro (And.intro (And.intro ((@EV)) ((@R3))) (And.intro ((@R9)) ((@R29)))) (And.intro (And.intro ((@R32)) ((@R36))) (And.intro ((@R38)) (And.intro ((@R42)) ((@DGeo)))))) (And.intro (And.intro (And.intro ((@DBranch)) ((@DStack))) (And.intro ((@DView)) ((@DFinding)))) (And.intro (And.intro ((@DPlace)) ((@DEntry))) (And.intro ((@DOrigin)) (And.intro ((@DAttr)) ((@DNode))))))
set_option maxHeartbeats 2000000 in
theorem ok_law20_awake  (r : Bool) (hm0 : m_law20_awake  = some r) : Ok Tryz.prog 9 [] (bool r) := by
 unfold m_law20_awake at hm0
 refine okG fc_law20_awake ?_
 unfold c_law20_awake
 obtain ⟨v1, h2, hm0⟩ := bsE hm0
 simp only [Y_law20_awake, ↓EVd, isCall, sevalprocAttr]
 refine qc (ok_plain_Idle  _ h2) rfl ?_
 obtain ⟨v3, h4, hm0⟩ := bsE hm0
 simp only [Y_law20_awake, ↓EVd, isCall, sevalprocAttr]
 refine qc (ok_view_Root _ _ h4) rfl ?_
 obtain ⟨v5, h6, hm0⟩ := bsE hm0
 simp only [Y_law20_awake, ↓EVd, isCall, sevalprocAttr]
 refine qc (ok_white_Findings _ _ h6) rfl ?_
 have e7 : (.agg [int 15, int 0, int 1, int 1] : AV) = encFinding (⟨15, 0, 1, 1⟩ : Finding) := _root_.id rfl
 obtain ⟨v8, h9, hm0⟩ := bsE hm0
 simp only [e7, Y_law20_awake, ↓EVd, isCall, sevalprocAttr]
 refine qcb (ok_slices_Equal_api_Finding_api_Finding _ _ _ h9) rfl (by simp only [e7, FZ, CLO, Y_law20_awake, ↓EVd, isCall, sevalprocAttr]) ?_
 rcases itbE hm0 with ⟨e11, hm0⟩ | ⟨e11, hm0⟩
 · obtain ⟨v12, h13, hm0⟩ := bsE hm0
   simp only [e7, e11, Y_law20_awake, ↓EVd, isCall, sevalprocAttr]
   refine qc (ok_plain_Base  _ h13) rfl ?_
   obtain ⟨v14, h15, hm0⟩ := bsE hm0
   simp only [e7, e11, Y_law20_awake, ↓EVd, isCall, sevalprocAttr]
   refine qc (ok_white_Findings _ _ h15) rfl ?_
   rcases iteE hm0 with ⟨e17, hm0⟩ | ⟨e17, hm0⟩
   · obtain ⟨v18, h19, hm0⟩ := bsE hm0
     simp only [e7, e11, e17, Y_law20_awake, ↓EVd, isCall, sevalprocAttr]
     refine qc (ok_white_Hides _ _ _ _ h19) rfl ?_
     rcases itbE hm0 with ⟨e21, hm0⟩ | ⟨e21, hm0⟩
     · obtain ⟨v22, h23, hm0⟩ := bsE hm0
       simp only [e7, e11, e17, e21, Y_law20_awake, ↓EVd, isCall, sevalprocAttr]
       refine qc (ok_white_Hides _ _ _ _ h23) rfl ?_
       rcases itbE hm0 with ⟨e25, hm0⟩ | ⟨e25, hm0⟩
       · obtain ⟨v26, h27, hm0⟩ := bsE hm0
         simp only [e7, e11, e17, e21, e25, Y_law20_awake, ↓EVd, isCall, sevalprocAttr]
         refine qc (ok_white_Names _ _ _ h27) rfl ?_
         obtain ⟨v28, h29, hm0⟩ := bsE hm0
         simp only [e7, e11, e17, e21, e25, Y_law20_awake, ↓EVd, isCall, sevalprocAttr]
         refine qcb (ok_slices_Equal_string_string _ _ _ h29) rfl (by simp only [e7, e11, e17, e21, e25, FZ, CLO, Y_law20_awake, ↓EVd, isCall, sevalprocAttr]) ?_
         obtain rfl := Option.some.inj hm0
         simp only [e7, e11, e17, e21, e25, Y_law20_awake, ↓EVd, isCall, sevalprocAttr]
         all_goals first | done | rfl
       obtain rfl := Option.some.inj hm0
       simp only [e7, e11, e17, e21, e25, Y_law20_awake, ↓EVd, isCall, sevalprocAttr]
       all_goals first | done | rfl
     obtain rfl := Option.some.inj hm0
     simp only [e7, e11, e17, e21, Y_law20_awake, ↓EVd, isCall, sevalprocAttr]
     all_goals first | done | rfl
   obtain rfl := Option.some.inj hm0
   simp only [e7, e11, e17, Y_law20_awake, ↓EVd, isCall, sevalprocAttr]
   all_goals first | done | rfl
 obtain rfl := Option.some.inj hm0
 simp only [e7, e11, Y_law20_awake, ↓EVd, isCall, sevalprocAttr]
 all_goals first | done | rfl
def m_law20_WhiteTells (a0 : Stack) (a1 : View) (a2 : ByteArray) : Option (Bool) := (m_plain_Stack a0 24).bind fun v1 => if (!v1) = true then (m_law20_awake ).bind fun v5 => some v5
 else if 8 < (a1.lower.length : Int) then (m_law20_awake ).bind fun v9 => some v9
 else if 40 < (a2.size : Int) then (m_law20_awake ).bind fun v13 => some v13
 else (m_white_Findings a0).bind fun v15 => (m_ref20_Findings a0).bind fun v17 => (m_slices_Equal_api_Finding_api_Finding v15 v17).bind fun v19 => if v19 = true then (m_white_Hides a0 a1 a2).bind fun v23 => (m_ref20_Hides a0 a1 a2).bind fun v25 => if v23 = true then if v25 = true then (m_white_Names a0 a1).bind fun v31 => (m_ref20_Names a0 a1).bind fun v33 => (m_slices_Equal_string_string v31 v33).bind fun v35 => if v35 = true then (m_law20_awake ).bind fun v39 => some v39
 else some false
 else some false
 else if v25 = true then some false
 else (m_white_Names a0 a1).bind fun v43 => (m_ref20_Names a0 a1).bind fun v45 => (m_slices_Equal_string_string v43 v45).bind fun v47 => if v47 = true then (m_law20_awake ).bind fun v51 => some v51
 else some false
 else some false
def Y_law20_WhiteTells := And.intro (And.intro (And.intro (And.intro ((@EV)) ((@R3))) (And.intro ((@R4)) (And.intro ((@R9)) ((@R29))))) (And.intro (And.intro ((@R30)) (And.intro ((@R32)) ((@R36)))) (And.intro ((@R38)) (And.intro ((@R42)) ((@R45)))))) (And.intro (And.intro (And.intro ((@DGeo)) ((@DBranch))) (And.intro ((@DStack)) (And.intro ((@DView)) ((@DFinding))))) (And.intro (And.intro ((@DPlace)) (And.intro ((@DEntry)) ((@DOrigin)))) (And.intro ((@DAttr)) (And.intro ((@DNode)) ((@mixed))))))
set_option maxHeartbeats 2000000 in
theorem ok_law20_WhiteTells (a0 : Stack) (a1 : View) (a2 : ByteArray) (r : Bool) (hm0 : m_law20_WhiteTells a0 a1 a2 = some r) : Ok Tryz.prog 3 [encStack a0, encView a1, str a2] (bool r) := by
 unfold m_law20_WhiteTells at hm0
 refine okG fc_law20_WhiteTells ?_
 unfold c_law20_WhiteTells
 obtain ⟨v1, h2, hm0⟩ := bsE hm0
 simp only [Y_law20_WhiteTells, ↓EVd, isCall, sevalprocAttr]
 refine qc (ok_plain_Stack _ _ _ h2) rfl ?_
 rcases itbE hm0 with ⟨e4, hm0⟩ | ⟨e4, hm0⟩
 · obtain ⟨v5, h6, hm0⟩ := bsE hm0
   simp only [e4, Y_law20_WhiteTells, ↓EVd, isCall, sevalprocAttr]
   refine qc (ok_law20_awake  _ h6) rfl ?_
   obtain rfl := Option.some.inj hm0
   simp only [e4, Y_law20_WhiteTells, ↓EVd, isCall, sevalprocAttr]
   all_goals first | done | rfl
 rcases iteE hm0 with ⟨e8, hm0⟩ | ⟨e8, hm0⟩
 · obtain ⟨v9, h10, hm0⟩ := bsE hm0
   simp only [e4, e8, Y_law20_WhiteTells, ↓EVd, isCall, sevalprocAttr]
   refine qc (ok_law20_awake  _ h10) rfl ?_
   obtain rfl := Option.some.inj hm0
   simp only [e4, e8, Y_law20_WhiteTells, ↓EVd, isCall, sevalprocAttr]
   all_goals first | done | rfl
 rcases iteE hm0 with ⟨e12, hm0⟩ | ⟨e12, hm0⟩
 · obtain ⟨v13, h14, hm0⟩ := bsE hm0
   simp only [e4, e8, e12, Y_law20_WhiteTells, ↓EVd, isCall, sevalprocAttr]
   refine qc (ok_law20_awake  _ h14) rfl ?_
   obtain rfl := Option.some.inj hm0
   simp only [e4, e8, e12, Y_law20_WhiteTells, ↓EVd, isCall, sevalprocAttr]
   all_goals first | done | rfl
 obtain ⟨v15, h16, hm0⟩ := bsE hm0
 simp only [e4, e8, e12, Y_law20_WhiteTells, ↓EVd, isCall, sevalprocAttr]
 refine qd (ok_white_Findings _ _ h16) rfl ?_
 obtain ⟨v17, h18, hm0⟩ := bsE hm0
 simp only [e4, e8, e12, Y_law20_WhiteTells, ↓EVd, isCall, sevalprocAttr]
 refine qd (ok_ref20_Findings _ _ h18) rfl ?_
 obtain ⟨v19, h20, hm0⟩ := bsE hm0
 simp only [e4, e8, e12, Y_law20_WhiteTells, ↓EVd, isCall, sevalprocAttr]
 refine qd (ok_slices_Equal_api_Finding_api_Finding _ _ _ h20) rfl ?_
 rcases itbE hm0 with ⟨e22, hm0⟩ | ⟨e22, hm0⟩
 · obtain ⟨v23, h24, hm0⟩ := bsE hm0
   simp only [e4, e8, e12, e22, Y_law20_WhiteTells, ↓EVd, isCall, sevalprocAttr]
   refine qd (ok_white_Hides _ _ _ _ h24) rfl ?_
   obtain ⟨v25, h26, hm0⟩ := bsE hm0
   simp only [e4, e8, e12, e22, Y_law20_WhiteTells, ↓EVd, isCall, sevalprocAttr]
   refine qd (ok_ref20_Hides _ _ _ _ h26) rfl ?_
   rcases itbE hm0 with ⟨e28, hm0⟩ | ⟨e28, hm0⟩
   · rcases itbE hm0 with ⟨e30, hm0⟩ | ⟨e30, hm0⟩
     · obtain ⟨v31, h32, hm0⟩ := bsE hm0
       simp only [e4, e8, e12, e22, e28, e30, Y_law20_WhiteTells, ↓EVd, isCall, sevalprocAttr]
       refine qd (ok_white_Names _ _ _ h32) rfl ?_
       obtain ⟨v33, h34, hm0⟩ := bsE hm0
       simp only [e4, e8, e12, e22, e28, e30, Y_law20_WhiteTells, ↓EVd, isCall, sevalprocAttr]
       refine qd (ok_ref20_Names _ _ _ h34) rfl ?_
       obtain ⟨v35, h36, hm0⟩ := bsE hm0
       simp only [e4, e8, e12, e22, e28, e30, Y_law20_WhiteTells, ↓EVd, isCall, sevalprocAttr]
       refine qd (ok_slices_Equal_string_string _ _ _ h36) rfl ?_
       rcases itbE hm0 with ⟨e38, hm0⟩ | ⟨e38, hm0⟩
       · obtain ⟨v39, h40, hm0⟩ := bsE hm0
         simp only [e4, e8, e12, e22, e28, e30, e38, Y_law20_WhiteTells, ↓EVd, isCall, sevalprocAttr]
         refine qd (ok_law20_awake  _ h40) rfl ?_
         obtain rfl := Option.some.inj hm0
         simp only [e4, e8, e12, e22, e28, e30, e38, Y_law20_WhiteTells, ↓EVd, isCall, sevalprocAttr]
         all_goals first | done | rfl
       obtain rfl := Option.some.inj hm0
       simp only [e4, e8, e12, e22, e28, e30, e38, Y_law20_WhiteTells, ↓EVd, isCall, sevalprocAttr]
       all_goals first | done | rfl
     obtain rfl := Option.some.inj hm0
     simp only [e4, e8, e12, e22, e28, e30, Y_law20_WhiteTells, ↓EVd, isCall, sevalprocAttr]
     all_goals first | done | rfl
   rcases itbE hm0 with ⟨e42, hm0⟩ | ⟨e42, hm0⟩
   · obtain rfl := Option.some.inj hm0
     simp only [e4, e8, e12, e22, e28, e42, Y_law20_WhiteTells, ↓EVd, isCall, sevalprocAttr]
     all_goals first | done | rfl
   obtain ⟨v43, h44, hm0⟩ := bsE hm0
   simp only [e4, e8, e12, e22, e28, e42, Y_law20_WhiteTells, ↓EVd, isCall, sevalprocAttr]
   refine qd (ok_white_Names _ _ _ h44) rfl ?_
   obtain ⟨v45, h46, hm0⟩ := bsE hm0
   simp only [e4, e8, e12, e22, e28, e42, Y_law20_WhiteTells, ↓EVd, isCall, sevalprocAttr]
   refine qd (ok_ref20_Names _ _ _ h46) rfl ?_
   obtain ⟨v47, h48, hm0⟩ := bsE hm0
   simp only [e4, e8, e12, e22, e28, e42, Y_law20_WhiteTells, ↓EVd, isCall, sevalprocAttr]
   refine qd (ok_slices_Equal_string_string _ _ _ h48) rfl ?_
   rcases itbE hm0 with ⟨e50, hm0⟩ | ⟨e50, hm0⟩
   · obtain ⟨v51, h52, hm0⟩ := bsE hm0
     simp only [e4, e8, e12, e22, e28, e42, e50, Y_law20_WhiteTells, ↓EVd, isCall, sevalprocAttr]
     refine qd (ok_law20_awake  _ h52) rfl ?_
     obtain rfl := Option.some.inj hm0
     simp only [e4, e8, e12, e22, e28, e42, e50, Y_law20_WhiteTells, ↓EVd, isCall, sevalprocAttr]
     all_goals first | done | rfl
   obtain rfl := Option.some.inj hm0
   simp only [e4, e8, e12, e22, e28, e42, e50, Y_law20_WhiteTells, ↓EVd, isCall, sevalprocAttr]
   all_goals first | done | rfl
 obtain rfl := Option.some.inj hm0
 simp only [e4, e8, e12, e22, Y_law20_WhiteTells, ↓EVd, isCall, sevalprocAttr]
 all_goals first | done | rfl
end Go.Proofs.YtapdjibjnfeipaaGreatDoor.AL

/- Plain laws of chapter 20: the law. -/
set_option linter.all false
namespace Go.Proofs.YtapdjibjnfeipaaGreatDoor.AL
open Go Go.Proofs
theorem awake20 : m_law20_awake = some true := by kernel_rfl
theorem equal_finding {a b : List Finding} (h : a.length ≤ 1000000000) : m_slices_Equal_api_Finding_api_Finding a b = some (decide (a = b)) := by
  unfold m_slices_Equal_api_Finding_api_Finding
  by_cases hl : a.length = b.length
  · rw [if_pos (by omega), eqLoop hl h]
    · by_cases he : a = b <;> simp [he]
    · intro i h1 h2
      simp only [m_slices_Equal_api_Finding_api_Finding_b0]
      rw [if_pos (by omega), ix_at h1, ix_at h2]
      simp only [Option.bind_some, decide_eq_true_eq]
      rw [wr_suc (by omega)]
    · simp only [m_slices_Equal_api_Finding_api_Finding_b0]
      rw [if_neg (by omega)]
  · rw [if_neg (by omega)]
    have : ¬ a = b := by rintro rfl; exact hl rfl
    simp [this]
theorem law_whiteTells (s : Stack) (v : View) (nm : ByteArray) : m_law20_WhiteTells s v nm = some true := by
  unfold m_law20_WhiteTells
  obtain ⟨r, h1, h2⟩ := stack_tot s
  rw [h1]
  simp only [Option.bind_some]
  cases r with
  | false => rw [if_pos (by simp), awake20]; rfl
  | true =>
    rw [if_neg (by simp)]
    have h := (h2 rfl).sv
    have hb := (h2 rfl).pb
    by_cases hl : 8 < (v.lower.length : Int)
    · rw [if_pos hl, awake20]; rfl
    rw [if_neg hl]
    by_cases hn : 40 < (nm.size : Int)
    · rw [if_pos hn, awake20]; rfl
    have hil := idlesV_len h hb
    have hnl := whNames_len h v
    rw [if_neg hn, wfind_eq h hb, rwfind_eq h hb]
    simp only [Option.bind_some]
    rw [equal_finding (by omega)]
    simp only [Option.bind_some, decide_true, if_true]
    rw [hides_eq h (by omega), rhides_eq h (by omega), wnames_eq h, rwnames_eq h, awake20]
    simp only [Option.bind_some]
    rw [equal_str (by omega)]
    simp only [Option.bind_some, decide_true, if_true]
    cases fndQ s.lowers v.lower nm <;> rfl
theorem ok_whiteTells (s : Stack) (v : View) (nm : ByteArray) : Ok Tryz.prog 3 [encStack s, encView v, str nm] (bool true) := ok_law20_WhiteTells s v nm true (law_whiteTells s v nm)
end Go.Proofs.YtapdjibjnfeipaaGreatDoor.AL

/- Which whiteouts of any stack hide nothing, and what is hidden, is what the document says: for every stack, view and name. -/
namespace Go.Proofs.YtapdjibjnfeipaaGreatDoor
theorem whiteTells_holds : Rows.WhiteTellsCardSaid := card_whiteTells_of (holds_whiteTells_of fun s v nm _ _ _ => AL.ok_whiteTells s v nm)
#print axioms whiteTells_holds
end Go.Proofs.YtapdjibjnfeipaaGreatDoor

