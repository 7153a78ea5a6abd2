/- A law of the given program is proved: part 41 of 49. -/
import Derived.Test.YtnmljicimdhpmaaH40
set_option linter.all false
/- Models of functions, and that the functions are as their models: written by gen.py. -/
set_option linter.all false
set_option maxRecDepth 100000
namespace Go.Proofs.Ytnmljicimdhpmaa.AL
open Go Go.Proofs
def m_ref13_At (a0 : Branch) (a1 : Int) : Option (Node) := if a1 < 1 then some (⟨0, 0, 0, 0, [], [], (⟨0, 0, noBytes, (⟨0, 0, 0⟩ : Origin), 0⟩ : Attr)⟩ : Node)
 else if (a0.nodes.length : Int) < a1 then some (⟨0, 0, 0, 0, [], [], (⟨0, 0, noBytes, (⟨0, 0, 0⟩ : Origin), 0⟩ : Attr)⟩ : Node)
 else (ix a0.nodes (wr (a1 - 1))).bind fun v5 => some v5
def m_ref13_place_b0 (a0 : List Way) (a1 : Int) : Int → Option (St (Int) ((Unit) ⊕ (Int)))
 | v2 => if v2 < (a0.length : Int) then (ix a0 v2).bind fun v6 => if v6.ino = a1 then some (.out (.inr v2))
 else some (.nx (wr (v2 + 1)))
 else some (.out (.inl ()))
def m_ref13_place (a0 : List Way) (a1 : Int) : Option (Int) := (iter (m_ref13_place_b0 a0 a1) big 0).bind fun o => (match o with
 | (.inl _) => some (-1)
 | (.inr r) => some r)
def m_ref13_walk_b2 (a0 : Branch) (v36 : Int) (v48 : Node) : (List Way × List Ar2_Int × Int) → Option (St (List Way × List Ar2_Int × Int) (List Way × List Ar2_Int))
 | (v52, v54, v55) => if v55 < (v48.entries.length : Int) then (ix v48.entries v55).bind fun v63 => (m_ref13_At a0 v63.ino).bind fun v66 => if v66.kind = 1 then (m_ref13_place v52 v63.ino).bind fun v70 => if 0 ≤ v70 then (ix v52 v36).bind fun v74 => (ap 16 v54 ([(⟨v74.ino, v63.slot⟩ : Ar2_Int)] : List Ar2_Int)).bind fun _ => some (.nx (v52, (v54 ++ ([(⟨v74.ino, v63.slot⟩ : Ar2_Int)] : List Ar2_Int)), (wr (v55 + 1))))
 else (ap 32 v52 ([(⟨v63.ino, v36, v63.name⟩ : Way)] : List Way)).bind fun _ => some (.nx ((v52 ++ ([(⟨v63.ino, v36, v63.name⟩ : Way)] : List Way)), v54, (wr (v55 + 1))))
 else some (.nx (v52, v54, (wr (v55 + 1))))
 else some (.out (v52, v54))
def m_ref13_walk_b1 (a0 : Branch) : (List Way × List Ar2_Int × Int) → Option (St (List Way × List Ar2_Int × Int) (List Way × List Ar2_Int × Int))
 | (v33, v35, v36) => if v36 < (v33.length : Int) then (ix v33 v36).bind fun v45 => (m_ref13_At a0 v45.ino).bind fun v48 => (iter (m_ref13_walk_b2 a0 v36 v48) big (v33, v35, 0)).bind fun o => (match o with
 | (v58, v60) => some (.nx (v58, v60, (wr (v36 + 1)))))
 else some (.out (v33, v35, v36))
def m_ref13_walk_b0 (a0 : Branch) (a1 : List Int) : (List Way × List Ar2_Int × Int × Int) → Option (St (List Way × List Ar2_Int × Int × Int) (List Way × List Ar2_Int))
 | (v3, v5, v6, v7) => if v7 < (a1.length : Int) then (ix a1 v7).bind fun v15 => (m_ref13_At a0 v15).bind fun v18 => if v18.kind = 1 then (m_ref13_place v3 v15).bind fun v22 => if 0 ≤ v22 then some (.nx (v3, v5, v6, (wr (v7 + 1))))
 else (ap 32 v3 ([(⟨v15, (-1), noBytes⟩ : Way)] : List Way)).bind fun _ => (iter (m_ref13_walk_b1 a0) big ((v3 ++ ([(⟨v15, (-1), noBytes⟩ : Way)] : List Way)), v5, v6)).bind fun o => (match o with
 | (v39, v41, v42) => some (.nx (v39, v41, v42, (wr (v7 + 1)))))
 else some (.nx (v3, v5, v6, (wr (v7 + 1))))
 else some (.out (v3, v5))
def m_ref13_walk (a0 : Branch) (a1 : List Int) : Option (List Way × List Ar2_Int) := (iter (m_ref13_walk_b0 a0 a1) big (([] : List Way), ([] : List Ar2_Int), 0, 0)).bind fun o => (match o with
 | (v10, v12) => some (v10, v12))
end Go.Proofs.Ytnmljicimdhpmaa.AL

