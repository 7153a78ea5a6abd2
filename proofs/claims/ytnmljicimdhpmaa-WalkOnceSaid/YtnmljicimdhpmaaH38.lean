/- A law of the given program is proved: part 38 of 49. -/
import Derived.Shelf.Abstract
import Derived.Test.YtnmljicimdhpmaaH37
set_option linter.all false
/- (*walk.trail).reach: its contract. -/
set_option linter.all false
namespace Go.Proofs.Ytnmljicimdhpmaa.AL
open Go Go.Proofs Go.RowKit

def reachM (b : Branch) (ways : List Way) (nd : Way → Node) : List Bool := (entsN nd ways ways.length).foldl stepE (ways.foldl stepW (List.replicate b.nodes.length false))
theorem entV_rep (E : Env) (x : Entry) : VRep E (encEntry x) (entV x) := by
  simp only [encEntry, int, str, VRep, VReps]
  exact ⟨_, ⟨_, _, rfl, ⟨_, _, rfl, ⟨_, _, rfl, rfl, rfl⟩, rfl⟩, rfl⟩, rfl⟩
theorem loc8_rep {Es : Env} {Z : Nat → Prop} {W : World} {u : Value} (h : VRep Es (.loc 8 1 0 0) u) : VRep (Er Es Z W) (.loc 8 1 0 0) u := by
  simp only [VRep] at h ⊢
  obtain ⟨b0, h1, h2, h3⟩ := h
  refine ⟨b0, h1, h2, fun b c e => ?_⟩
  simp only [Er, kp8, if_true] at e
  exact h3 b c e
/-- What is known of a round's frame behind its assignment. -/
def AxR (C : Ctx) (Es : Env) (x : Entry) (a : Act) (W : World) : Prop :=
  a.tmps.size = 48 ∧ a.defers = [] ∧ VRep Es (.loc 8 1 0 0) (a.tmps.getD 3 undef) ∧ ∃ bb o, W.heap[bb]? = some o ∧ o.isCells = true ∧ C.base ≤ bb ∧ ¬ Xb Es bb ∧ a.tmps.getD 6 undef = .pointer (some ⟨bb, 0, none⟩) ∧ CellsAt W bb 0 (entV x).cells
set_option maxHeartbeats 2000000 in
theorem okn_reach (b : Branch) (ways : List Way) (nd : Way → Node) (hi : ∀ w ∈ ways, 1 ≤ w.ino ∧ w.ino ≤ (b.nodes.length : Int)) (hN : b.nodes.length ≤ 281474976710656) (hW : ways.length < 4611686018427387904)
    (hn : ∀ w ∈ ways, nodeAt b w.ino = some (nd w)) (hb2 : ∀ w ∈ ways, (nd w).entries.length < 4611686018427387904) :
    OkN Try.prog 75 [.ptr (trailAV b ways) 0] (.sl 1 ((reachM b ways nd).map bool)) := by
  obtain ⟨fn, c0, c1, c2, c7, asg, bd, ct, hf, hbody, hn48, hres, hcall, p0, p1, p2, p7, pa, pb, pt⟩ := fc_reach
  refine ⟨hcall, fun Z w vals hZ hv => ?_⟩
  obtain ⟨C, hC⟩ : ∃ C : Ctx, C = { base := w.heap.size, w0 := w, zone := Z, gw := hZ.gw, gb := hZ.gw.size } := ⟨_, rfl⟩
  have hR0 : HR C (Ec Z w) (fun _ => none) := by
    rw [hC]
    exact ⟨Below.refl _ _, Nat.le_refl _, hZ.zlt, fun _ _ _ _ e => by simp [Ec] at e, fun b hz => .inl hz, fun _ => rfl, fun _ _ e => by simp [Ec] at e, fun _ _ _ _ _ e => by simp [Ec] at e, fun _ _ _ e => by simp at e, fun _ _ _ e => by simp [Ec] at e⟩
  refine (callsIn_wide (n := 10)).1 (callsIn_of_wp_marks hf hbody trivial ?_ rfl)
  have hl := hv.length
  simp only [List.length_cons, List.length_nil] at hl
  have hS0 : SR C (Ec Z w) 0 48 ⟨argT [.ptr (trailAV b ways) 0], fun _ => none, 0⟩ { tmps := vals.toArray ++ Array.replicate (fn.ntmps - vals.toArray.size) undef, defers := [] } (Ec Z w) :=
    ⟨hR0, Stab.refl _, fun l k => k.elim, fun l k => .inl k, by simp; omega, rfl, start_tmps hv _⟩
  refine peel p0 (reach_pre b ways hi hN hW) (Nat.le_refl _) hS0 ?_
  intro s1 a1 E1 h1 k1 hS1
  refine peel p1 h1 k1 hS1 ?_
  intro s2 a2 E2 h2 k2 hS2
  refine peel p2 h2 k2 hS2 ?_
  intro s3 a3 E3 h3 k3 hS3
  refine wpIn_seq (wpIn_seq (wpIn_mono (wpIn_wide.2 (cw_cwp _ h3 c7 p7 C _ 0 E3 a3 k3 hS3)) ?_))
  rintro e a w' ⟨s, Es, q1, q2, hS, rfl⟩
  obtain ⟨rfl, t3, t30, g7, g8, hnx⟩ := q1
  show (Code.block 2 _).wpIn Fence.wide 10 Try.prog _ a Es.w
  refine wpIn_block ?_
  -- the function that is ranged over
  have z30 := hS.tmps 30
  rw [t30, VRep] at z30
  obtain ⟨fa, fb, r1, r2, r3⟩ := z30
  rw [VReps] at r1
  rw [VReps] at r2
  obtain ⟨v, us', r2, r4, r5⟩ := r2
  rw [VReps] at r4
  subst r1 r4 r5
  have hvc : VRep (Ec Es.Z Es.w) (.ptr (.ptr (trailAV b ways) 0) 0) v := VRep.close (fun _ h => h) _ _ (closed_pp _ (closed_trail b ways)) r2
  have hK : Es.K 7 ∧ Es.K 8 := by
    have e7 := hS.heap.dom 7
    have e8 := hS.heap.dom 8
    rw [g7] at e7
    rw [g8] at e8
    obtain ⟨x7, e7⟩ := Option.isSome_iff_exists.1 e7.symm
    obtain ⟨x8, e8⟩ := Option.isSome_iff_exists.1 e8.symm
    exact ⟨hS.heap.known 7 x7 e7, hS.heap.known 8 x8 e8⟩
  have hXw : ∀ b, Xb Es b → b < Es.w.heap.size := fun b ⟨l, c, _, e⟩ => (hS.heap.old l b c e).2
  generalize hbs : ways.foldl stepW (List.replicate b.nodes.length false) = bs1 at g7
  have hlen1 : bs1.length = b.nodes.length := by rw [← hbs, foldW_len]; simp
  have hI0 : HR C (Er Es Es.Z Es.w) (Hk b.nodes.length bs1) := HR.shrink hS.heap g7 g8 (fun _ _ => rfl) hK (fun _ h => h)
  have hl8 : VRep Es (.loc 8 1 0 0) (a.tmps.getD 3 undef) := by have := hS.tmps 3; rwa [t3] at this
  have hH7 : ∀ bs, Hk b.nodes.length bs 7 = some (.row 4 1 (bs.map bool)) := fun bs => rfl
  have hH8 : ∀ bs, Hk b.nodes.length bs 8 = some (.row 72 1 [.msl 7 b.nodes.length]) := fun bs => rfl
  refine wpIn_rangeFunc_ownH (n := 10) rfl (by omega) (gf := 109) (lb := #[v]) r3 trivial (_root_.Go.Proofs.enters_of Try.func109 (by kernel_rfl) rfl)
    (names_stops (n := 9) (b := b) (ways := ways) (nd := nd) (X := Xb Es) (Z := Es.Z) (w := Es.w) hn hW hb2 hvc hS.heap.zlt (fun b hb ⟨l, c, _, e⟩ => hS.heap.zlive b hb l c e) hXw)
    ?hKt ?hKb (Below.refl _ _) (fun _ => rfl)
    (fun pre W => HR C (Er Es Es.Z W) (Hk b.nodes.length (pre.foldl stepE bs1))) (fun _ _ _ => False)
    (fun pre W W' row h hg hr => HR.grown h hg hr hS.heap.base hS.heap.zlt) (fun c s A B row hs _ _ => hs) hI0 (AxR C Es) ?hAx ?hassign ?hbody ?hdone (fun _ _ _ _ _ _ h _ => h.elim)
  case hKt =>
    rintro A B D ⟨s1, k1⟩ ⟨s2, k2⟩
    exact ⟨Nat.le_trans s1 s2, fun b o hx ho hc => k2 b o hx (k1 b o hx ho hc) hc⟩
  case hKb =>
    intro W l o o' hl' ho hc _
    refine ⟨by simp [World.putObj], fun b ob hx hob hcb => ?_⟩
    have : b ≠ l := by rintro rfl; rw [ho] at hob; injection hob with hob; subst hob; rw [hc] at hcb; cases hcb
    rw [World.putObj_heap_other this]; exact hob
  case hAx =>
    rintro x a' _ W W' row ⟨x1, x2, x3, bb, o, x4, x5, x6, x7, x8, x9⟩ hg hr
    have hlt : bb < W.heap.size := (Array.getElem?_eq_some_iff.1 x4).1
    have hne : ¬ row = some bb := by
      intro e
      obtain ⟨_, ob, g1, g2⟩ := hr bb e
      rw [x4] at g1; injection g1 with g1; subst g1; rw [x5] at g2; cases g2
    have hs := hg.block bb hlt (fun e => hne e.symm)
    exact ⟨x1, x2, x3, bb, o, hs.trans x4, x5, x6, x7, x8, fun j u hj => (World.cell?_of_block (a := ⟨bb, 0 + j, none⟩) hs).trans (x9 j u hj)⟩
  case hassign =>
    intro l pre x W K hI hk
    obtain ⟨hw, hst⟩ := hI.wide
    have hS' : SR C (Er Es (Z1 C Es Es.Z W) W) s.nx 48 ⟨upd (upd (fun _ => .junk) 3 (.loc 8 1 0 0)) 31 (encEntry x), Hk b.nodes.length (pre.foldl stepE bs1), s.nx⟩ { tmps := a.tmps.setIfInBounds 31 (entV x), defers := [] } (Er Es (Z1 C Es Es.Z W) W) := by
      refine ⟨hw, Stab.refl _, hS.bound, fun l k => .inl k, by simp [hS.size], rfl, fun t => ?_⟩
      by_cases e : t = 31
      · subst e
        have : (a.tmps.setIfInBounds 31 (entV x)).getD 31 undef = entV x := by simp [hS.size]
        rw [this]
        exact entV_rep _ x
      · have e1 : (a.tmps.setIfInBounds 31 (entV x)).getD t undef = a.tmps.getD t undef := by simp [Array.getElem?_setIfInBounds_ne (Ne.symm e)]
        rw [e1]
        by_cases e3 : t = 3
        · subst e3; exact loc8_rep hl8
        · simp only [upd_at, if_neg e, if_neg e3, VRep]
    have hz : ((#[31] : Array Nat).zip #[entV x]) = #[(31, entV x)] := by simp
    rw [hz]
    show asg.wpIn (Fence.wide.inRound l) 8 Try.prog _ { tmps := a.tmps.setIfInBounds 31 (entV x), defers := [] } W
    refine wpIn_mono (cw_in (ro := some l) (m := 8) (ds := []) c_reach_asg rfl (asg_walk (n := b.nodes.length) (bs := pre.foldl stepE bs1) rfl rfl (hH7 _) (hH8 _) hnx) asg pa (Nat.le_refl _) hS') ?_
    rintro e a' w' ⟨s', E', a0, ⟨rfl, f3, ⟨lb, f6, n7, n8, hlb⟩, f7, f8⟩, f2, hS2, rfl, rfl⟩
    obtain ⟨A1, A2, A3⟩ := after hI hK hS2 f7 f8
    refine hk _ _ ⟨A2, fun k o hk ho hc => A3 k o (fun hx => by have := hXw k hx; omega) ho⟩ ⟨A2, fun b o hx ho _ => A3 b o hx ho⟩ A1 ?_
    have y6 := hS2.tmps 6
    rw [f6] at y6
    obtain ⟨p, hp, ho⟩ := hS2.heap.live hlb
    cases p with
    | none => simp only [ORep] at ho; cases ho
    | some q =>
      obtain ⟨bb, c⟩ := q
      obtain ⟨u, u1, u2, u3, u4⟩ := ho.cells (i := 0) (x := encEntry x) rfl
      obtain rfl := entV_of u1
      simp only [VRep] at y6
      obtain ⟨b0, _, y6, y7⟩ := y6
      obtain rfl := y7 bb c hp
      have y3 := hS2.tmps 3
      rw [f3] at y3
      have hL8 : E'.L 8 = Es.L 8 := by
        obtain ⟨p8, hp8, _⟩ := hS2.heap.live f8
        have := hS2.stab.L 8 hK.2 p8 hp8
        simp only [Er, kp8, if_true] at this
        rw [hp8, this]
      have hL7 : E'.L 7 = Es.L 7 := by
        obtain ⟨p8, hp8, _⟩ := hS2.heap.live f7
        have := hS2.stab.L 7 hK.1 p8 hp8
        simp only [Er, kp7, if_true] at this
        rw [hp8, this]
      simp only [ORep] at ho
      obtain ⟨cur, us, ho, _⟩ := ho
      refine ⟨hS2.size, rfl, ?_, b0, _, ho, rfl, (hS2.heap.old lb b0 c hp).1, ?_, by simpa using y6, by simpa using u4⟩
      · simp only [VRep] at y3 ⊢
        obtain ⟨b8, _, y4, y5⟩ := y3
        exact ⟨b8, hK.2, y4, by rw [← hL8]; exact y5⟩
      · rintro ⟨l', c', hl', e⟩
        simp only [kp, Bool.or_eq_true, beq_iff_eq] at hl'
        rcases hl' with rfl | rfl
        · rw [← hL7] at e; exact n7 (hS2.heap.inj lb 7 b0 c c' hp e)
        · rw [← hL8] at e; exact n8 (hS2.heap.inj lb 8 b0 c c' hp e)
  case hbody =>
    rintro l pre x ⟨tm, df⟩ W hl' hloop hI ⟨x1, x2, x3, bb, o, x4, x5, x6, x7, x8, x9⟩ hlen
    dsimp only at x1 x2 x3 x8
    subst x2
    obtain ⟨hw, hst⟩ := hI.wide
    have hS' : SR C (Er Es (Z1 C Es Es.Z W) W) s.nx 48 ⟨upd (upd (fun _ => .junk) 3 (.loc 8 1 0 0)) 6 (.ptr (encEntry x) 0), Hk b.nodes.length (pre.foldl stepE bs1), s.nx⟩ { tmps := tm, defers := [] } (Er Es (Z1 C Es Es.Z W) W) := by
      refine ⟨hw, Stab.refl _, hS.bound, fun l k => .inl k, x1, rfl, fun t => ?_⟩
      by_cases e : t = 6
      · subst e
        show VRep _ (.ptr (encEntry x) 0) (tm.getD 6 undef)
        rw [x8]
        rw [VRep]
        exact ⟨entV x, bb, 0, entV_rep _ x, rfl, .inr ⟨x6, (Array.getElem?_eq_some_iff.1 x4).1, x7⟩, x9⟩
      · by_cases e3 : t = 3
        · subst e3; exact loc8_rep x3
        · simp only [upd_at, if_neg e, if_neg e3, VRep]
    refine wpIn_mono (cw_in (ro := some l) (m := 8) (ds := []) c_reach_body rfl (body_walk (n := b.nodes.length) (bs := pre.foldl stepE bs1) rfl rfl (hH7 _) (hH8 _) hnx (by rw [foldE_len, hlen1]) hN) bd pb (Nat.le_refl _) hS') ?_
    rintro e a' w' ⟨s', E', a0, ⟨rfl, f7, f8⟩, f2, hS2, rfl, rfl⟩
    obtain ⟨A1, A2, A3⟩ := after hI hK hS2 f7 f8
    refine ⟨⟨A2, fun k o hk ho hc => A3 k o (fun hx => by have := hXw k hx; omega) ho⟩, ⟨A2, fun b o hx ho _ => A3 b o hx ho⟩, ?_⟩
    show HR C _ (Hk _ (List.foldl stepE bs1 (pre ++ [x])))
    rw [List.foldl_append]
    exact A1
  case hdone =>
    rintro D xs W hD rfl hI hDW
    show ct.wpIn Fence.wide 10 Try.prog _ _ W
    obtain ⟨hw, hst⟩ := hI.wide
    rw [hS.defers]
    have hS' : SR C (Er Es (Z1 C Es Es.Z W) W) s.nx 48 ⟨upd (fun _ => .junk) 3 (.loc 8 1 0 0), Hk b.nodes.length ((entsN nd ways ways.length).foldl stepE bs1), s.nx⟩ { a with defers := [] } (Er Es (Z1 C Es Es.Z W) W) := by
      refine ⟨hw, Stab.refl _, hS.bound, fun l k => .inl k, hS.size, rfl, fun t => ?_⟩
      by_cases e3 : t = 3
      · subst e3; exact loc8_rep hl8
      · simp only [upd_at, if_neg e3, VRep]
    refine wpIn_mono (cw_in (ro := none) (m := 10) (ds := [{ target := .collected D, args := #[] }]) c_reach_tail rfl (tail_walk (n := b.nodes.length) (bs := (entsN nd ways ways.length).foldl stepE bs1) rfl (hH7 _) (hH8 _)) ct pt (Nat.le_refl _) hS') ?_
    rintro e a' w' ⟨s', E', a0, ⟨rfl, f2, f7, f8⟩, _, hS2, rfl, rfl⟩
    have hDX : ¬ Xb Es D := fun hx => by have := hXw D hx; omega
    have hDlt : D < W.heap.size := (Array.getElem?_eq_some_iff.1 hDW).1
    have hD2 : E'.w.heap[D]? = some (.deferred (some [])) := by
      rw [(hS2.stab.Z D (.inr ⟨by have := hS.heap.base; omega, hDlt, hDX⟩)).2]; exact hDW
    refine ⟨by simp, .inl ⟨_, _, rfl, run_takeDeferred hD2, ?_⟩⟩
    refine ⟨_, results_tmp (t := 2) (by cases hr : fn.results; rw [hr] at hres; simp only at hres; rw [hres]) _ _ _, ?_⟩
    have hL7 : E'.L 7 = Es.L 7 := by
      obtain ⟨p8, hp8, _⟩ := hS2.heap.live f7
      have := hS2.stab.L 7 hK.1 p8 hp8
      simp only [Er, kp7, if_true] at this
      rw [hp8, this]
    have A1 := (after hI hK hS2 f7 f8).1
    have A2 : HR C (Er Es (fun _ => False) E'.w) _ := HR.shrink (E := Er Es Es.Z E'.w) (Z := fun _ => False) A1 (hH7 _) (hH8 _) (fun l hl => by simp only [Er, hl, if_true]) hK (fun b h => h.elim)
    have y2 := hS2.tmps 2
    rw [f2] at y2
    have y2' : VRep (Er Es (fun _ => False) E'.w) (.msl 7 b.nodes.length) (a0.tmps.getD 2 undef) := by
      simp only [VRep] at y2 ⊢
      obtain ⟨A, c0, q1, q2, q3, q4, q5, q6⟩ := y2
      exact ⟨A, c0, hK.1, q2, q3, q4, by simpa only [Er, kp7, if_true, hL7] using q5, by simpa only [Er, kp7, if_true, hL7] using q6⟩
    have hl2 : b.nodes.length = (List.map bool ((entsN nd ways ways.length).foldl stepE bs1)).length := by rw [List.length_map, foldE_len, hlen1]
    have hcb : closeds (List.map bool ((entsN nd ways ways.length).foldl stepE bs1)) = true := closeds_map bool (fun _ => rfl) _
    have h1 := (frz_sound A2 2).1 (.msl 7 b.nodes.length) (.sl 1 ((reachM b ways nd).map bool)) _ (by
      unfold reachM
      rw [hbs]
      simp only [frz, closed, Bool.false_eq_true, if_false, hH7]
      rw [if_pos hl2, frzs_closed hcb]
      rfl) y2'
    have h2 := VRep.cellsZ _ _ (posz_sll 1 bool (by omega) (fun _ => rfl) _) h1
    have hbase : C.base = w.heap.size := by rw [hC]
    have hw0 : C.w0 = w := by rw [hC]
    have hDb : w.heap.size ≤ D := by have := hS.heap.base; omega
    have hbel := hS2.heap.below
    rw [hw0, hbase] at hbel
    refine ⟨_, rfl, ⟨hbel.os, hbel.tape, hbel.output, by simpa [World.putObj] using hbel.size, fun k hk => (World.putObj_heap_other (by omega)).trans (hbel.block k hk)⟩, VRep.stab (E := Ec (Zc (Zall (Er Es (fun _ => False) E'.w)) E'.w) E'.w) (E' := Ec (fun b => w.heap.size ≤ b ∧ b < (E'.w.putObj D (.deferred none)).heap.size) (E'.w.putObj D (.deferred none))) ⟨fun _ h => h, fun _ h => h.elim, ?_⟩ _ _ h2⟩
    rintro b ⟨hb, ob, ho, hcb⟩
    have hne : b ≠ D := by
      rintro rfl
      have ho' : E'.w.heap[b]? = some ob := ho
      rw [hD2] at ho'; injection ho' with ho'; subst ho'; cases hcb
    refine ⟨?_, World.putObj_heap_other hne⟩
    have hsz : (E'.w.putObj D (.deferred none)).heap.size = E'.w.heap.size := by simp [World.putObj]
    show w.heap.size ≤ b ∧ b < (E'.w.putObj D (.deferred none)).heap.size
    rw [hsz]
    rcases hb with hb | ⟨l, c, hb⟩
    · exact hb.elim
    · have := A2.old l b c hb
      exact ⟨by omega, this.2⟩
/-- As a model: what it asks for is checked. -/
def m_walk_trail_reach (b : Branch) (ways : List Way) : Option (List Bool) :=
  (ck (b.nodes.length ≤ 281474976710656 ∧ ways.length < 4611686018427387904 ∧ (∀ w ∈ ways, 1 ≤ w.ino ∧ w.ino ≤ (b.nodes.length : Int)) ∧ (∀ w ∈ ways, (nodeAt b w.ino).isSome = true) ∧ ∀ w ∈ ways, ((nodeAt b w.ino).getD default).entries.length < 4611686018427387904)).bind fun _ =>
  some (reachM b ways fun w => (nodeAt b w.ino).getD default)
theorem okn_walk_trail_reach (b : Branch) (ways : List Way) (tw : AV) (r : List Bool) (h : m_walk_trail_reach b ways = some r) : OkN Try.prog 75 [.ptr (.agg [(sll 13 encNode) b.nodes, (sll 3 encWay) ways, .junk, tw]) 0] (.sl 1 (r.map bool)) := by
  unfold m_walk_trail_reach at h
  obtain ⟨u, h1, h2⟩ := Option.bind_eq_some_iff.1 h
  injection h2 with h2
  subst h2
  obtain ⟨g1, g2, g3, g4, g5⟩ := ck_some h1
  refine OkN.sub (okn_reach b ways (fun w => (nodeAt b w.ino).getD default) g3 g1 g2 (fun w hw => ?_) g5) ?_
  · obtain ⟨x, hx⟩ := Option.isSome_iff_exists.1 (g4 w hw)
    rw [hx]; rfl
  · intro E vs hv
    simp only [trailAV, VReps] at hv ⊢
    obtain ⟨u, us', hu, hr, e⟩ := hv
    refine ⟨u, us', ?_, hr, e⟩
    rw [VRep] at hu ⊢
    obtain ⟨v, b', o, k1, k2⟩ := hu
    refine ⟨v, b', o, ?_, k2⟩
    rw [VRep] at k1 ⊢
    obtain ⟨us, q1, q2⟩ := k1
    refine ⟨us, ?_, q2⟩
    simp only [VReps] at q1 ⊢
    obtain ⟨u1, v1, p1, ⟨u2, v2, p2, ⟨u3, v3, p3, ⟨u4, v4, p4, p5, p6⟩, p7⟩, p8⟩, p9⟩ := q1
    exact ⟨u1, v1, p1, ⟨u2, v2, p2, ⟨u3, v3, p3, ⟨u4, v4, by simp only [VRep], p5, p6⟩, p7⟩, p8⟩, p9⟩
end Go.Proofs.Ytnmljicimdhpmaa.AL

/- AL: calls that hand back a row of their own, and calls that turn a row in place. -/
set_option linter.all false
namespace Go.Proofs.Ytnmljicimdhpmaa.AL
open Go Go.Proofs Go.RowKit
mutual
/-- All names that it speaks of are known. -/
def inK (K : Nat → Prop) : AV → Prop
  | .val _ => True
  | .agg cs => inKs K cs
  | .tup cs => inKs K cs
  | .sl _ xs => inKs K xs
  | .ptr x _ => inK K x
  | .loc l _ _ _ => K l
  | .msl l _ => K l
  | .mp l => K l
  | .mtl l _ _ _ => K l
  | .fn _ a b => inKs K a ∧ inKs K b
  | .ifc _ x => inK K x
  | .e0 => True
  | .junk => True
def inKs (K : Nat → Prop) : List AV → Prop
  | [] => True
  | x :: xs => inK K x ∧ inKs K xs
end
mutual
theorem VRep.inK {E : Env} : ∀ (x : AV) (u : Value), VRep E x u → AL.inK E.K x
  | .val v, u, h => trivial
  | .agg cs, u, h => by
    simp only [VRep] at h; obtain ⟨us, h1, _⟩ := h
    simpa only [AL.inK] using VReps.inK cs us h1
  | .tup cs, u, h => by
    simp only [VRep] at h; obtain ⟨us, h1, _⟩ := h
    simpa only [AL.inK] using VReps.inK cs us h1
  | .sl sz xs, u, h => by
    simp only [VRep] at h; obtain ⟨us, A, cap, h1, _⟩ := h
    simpa only [AL.inK] using VReps.inK xs us h1
  | .ptr x off, u, h => by
    simp only [VRep] at h; obtain ⟨v, b, o, h1, _⟩ := h
    simpa only [AL.inK] using VRep.inK x v h1
  | .loc l sz i off, u, h => by
    simp only [VRep] at h; obtain ⟨b0, h1, _⟩ := h
    simpa only [AL.inK] using h1
  | .msl l n, u, h => by
    simp only [VRep] at h; obtain ⟨A, c0, h1, _⟩ := h
    simpa only [AL.inK] using h1
  | .mp l, u, h => by
    simp only [VRep] at h; obtain ⟨b0, h1, _⟩ := h
    simpa only [AL.inK] using h1
  | .mtl l sz q n, u, h => by
    simp only [VRep] at h; obtain ⟨A, c0, h1, _⟩ := h
    simpa only [AL.inK] using h1
  | .fn f fi ca, u, h => by
    simp only [VRep] at h; obtain ⟨a, b, h1, h2, _⟩ := h
    simp only [AL.inK]
    exact ⟨VReps.inK fi a h1, VReps.inK ca b h2⟩
  | .ifc t x, u, h => by
    simp only [VRep] at h; obtain ⟨v, h1, _⟩ := h
    simpa only [AL.inK] using VRep.inK x v h1
  | .e0, u, h => trivial
  | .junk, u, h => trivial
theorem VReps.inK {E : Env} : ∀ (xs : List AV) (us : List Value), VReps E xs us → inKs E.K xs
  | [], us, h => trivial
  | x :: xs, us, h => by
    simp only [VReps] at h; obtain ⟨u, us', h1, h2, _⟩ := h
    exact ⟨VRep.inK x u h1, VReps.inK xs us' h2⟩
end
/-- What an environment says of some names, another says too. -/
structure Lo (K : Nat → Prop) (E E2 : Env) : Prop where
  K : ∀ j, K j → E2.K j ∧ ∀ p, E2.L j = some p → E.L j = some p
  Z : ∀ b, E.Z b → E2.Z b
  w : E2.w = E.w
theorem SlAt.lo {K : Nat → Prop} {E E2 : Env} (s : Lo K E E2) {sz : Nat} {A : Option Addr} {us : List Value} (h : SlAt E sz A us) : SlAt E2 sz A us := by
  rcases h with h | ⟨b, o, rfl, hz, h⟩
  · exact .inl h
  · exact .inr ⟨b, o, rfl, s.Z b hz, fun i u hu => by rw [s.w]; exact h i u hu⟩
mutual
theorem VRep.lo {K : Nat → Prop} {E E2 : Env} (s : Lo K E E2) : ∀ (x : AV) (u : Value), AL.inK K x → VRep E x u → VRep E2 x u
  | .val v, u, _, h => by simpa only [VRep] using h
  | .agg cs, u, k, h => by
    simp only [AL.inK] at k
    simp only [VRep] at h ⊢
    obtain ⟨us, h1, h2⟩ := h
    exact ⟨us, VReps.lo s cs us k h1, h2⟩
  | .tup cs, u, k, h => by
    simp only [AL.inK] at k
    simp only [VRep] at h ⊢
    obtain ⟨us, h1, h2⟩ := h
    exact ⟨us, VReps.lo s cs us k h1, h2⟩
  | .sl sz xs, u, k, h => by
    simp only [AL.inK] at k
    simp only [VRep] at h ⊢
    obtain ⟨us, A, cap, h1, h2, h3, h4⟩ := h
    exact ⟨us, A, cap, VReps.lo s xs us k h1, h2, h3, h4.lo s⟩
  | .ptr x off, u, k, h => by
    simp only [AL.inK] at k
    simp only [VRep] at h ⊢
    obtain ⟨v, b, o, h1, h2, h3, h4⟩ := h
    exact ⟨v, b, o, VRep.lo s x v k h1, h2, s.Z b h3, by rw [s.w]; exact h4⟩
  | .loc l sz i off, u, k, h => by
    simp only [AL.inK] at k
    simp only [VRep] at h ⊢
    obtain ⟨b0, h1, h2, h3⟩ := h
    exact ⟨b0, (s.K l k).1, h2, fun b c hb => h3 b c ((s.K l k).2 _ hb)⟩
  | .msl l n, u, k, h => by
    simp only [AL.inK] at k
    simp only [VRep] at h ⊢
    obtain ⟨A, c0, h1, h2, h5, h6, h3, h4⟩ := h
    exact ⟨A, c0, (s.K l k).1, h2, h5, h6, fun b c hb => h3 b c ((s.K l k).2 _ hb), fun hb => h4 ((s.K l k).2 _ hb)⟩
  | .mp l, u, k, h => by
    simp only [AL.inK] at k
    simp only [VRep] at h ⊢
    obtain ⟨b0, h1, h2, h3⟩ := h
    exact ⟨b0, (s.K l k).1, h2, fun b c hb => h3 b c ((s.K l k).2 _ hb)⟩
  | .mtl l sz q n, u, k, h => by
    simp only [AL.inK] at k
    simp only [VRep] at h ⊢
    obtain ⟨A, c0, h1, h2, h3, h4⟩ := h
    refine ⟨A, c0, (s.K l k).1, h2, h3, fun hn => ?_⟩
    obtain ⟨b0, h5, h6⟩ := h4 hn
    exact ⟨b0, h5, fun b c hb => h6 b c ((s.K l k).2 _ hb)⟩
  | .fn f fi ca, u, k, h => by
    simp only [AL.inK] at k
    simp only [VRep] at h ⊢
    obtain ⟨a, b, h1, h2, h3⟩ := h
    exact ⟨a, b, VReps.lo s fi a k.1 h1, VReps.lo s ca b k.2 h2, h3⟩
  | .ifc t x, u, k, h => by
    simp only [AL.inK] at k
    simp only [VRep] at h ⊢
    obtain ⟨v, h1, h2⟩ := h
    exact ⟨v, VRep.lo s x v k h1, h2⟩
  | .e0, u, _, h => by simpa only [VRep] using h
  | .junk, u, _, h => by simp only [VRep]
theorem VReps.lo {K : Nat → Prop} {E E2 : Env} (s : Lo K E E2) : ∀ (xs : List AV) (us : List Value), inKs K xs → VReps E xs us → VReps E2 xs us
  | [], us, _, h => by simpa only [VReps] using h
  | x :: xs, us, k, h => by
    simp only [VReps] at h ⊢
    obtain ⟨u, us', h1, h2, h3⟩ := h
    exact ⟨u, us', VRep.lo s x u k.1 h1, VReps.lo s xs us' k.2 h2, h3⟩
end
mutual
theorem inK_closed {K : Nat → Prop} : ∀ (x : AV), closed x = true → AL.inK K x
  | .val v, h => trivial
  | .agg cs, h => by simp only [closed] at h; simpa only [AL.inK] using inKs_closed cs h
  | .tup cs, h => by simp only [closed] at h; simpa only [AL.inK] using inKs_closed cs h
  | .sl sz xs, h => by simp only [closed] at h; simpa only [AL.inK] using inKs_closed xs h
  | .ptr x off, h => by simp only [closed] at h; simpa only [AL.inK] using inK_closed x h
  | .loc _ _ _ _, h => by simp [closed] at h
  | .msl _ _, h => by simp [closed] at h
  | .mp _, h => by simp [closed] at h
  | .mtl _ _ _ _, h => by simp [closed] at h
  | .fn f a b, h => by simp only [closed, Bool.and_eq_true] at h; simp only [AL.inK]; exact ⟨inKs_closed a h.1, inKs_closed b h.2⟩
  | .ifc t x, h => by simp only [closed] at h; simpa only [AL.inK] using inK_closed x h
  | .e0, h => trivial
  | .junk, h => trivial
theorem inKs_closed {K : Nat → Prop} : ∀ (xs : List AV), closeds xs = true → inKs K xs
  | [], h => trivial
  | x :: xs, h => by simp only [closeds, Bool.and_eq_true] at h; exact ⟨inK_closed x h.1, inKs_closed xs h.2⟩
end
def inO (K : Nat → Prop) : AO → Prop
  | .row _ _ xs => inKs K xs
  | .map _ vs => inKs K vs
  | .siter _ _ => True
theorem ORep.inO {E : Env} : ∀ (p : Option (Nat × Nat)) (o : AO), ORep E p o → AL.inO E.K o
  | some (b, c), .row T sz xs, h => by
    simp only [ORep] at h; obtain ⟨cur, us, _, h2, _⟩ := h
    exact VReps.inK xs us h2
  | none, .row T sz xs, h => by simp only [ORep] at h; subst h; trivial
  | some (b, c), .map ks vs, h => by
    simp only [ORep] at h; obtain ⟨es, cl, _, _, h2⟩ := h
    exact VReps.inK vs _ h2
  | none, .map ks vs, h => by simp only [ORep] at h
  | _, .siter _ _, h => trivial
theorem ORep.lo {K : Nat → Prop} {E E2 : Env} (s : Lo K E E2) : ∀ (p : Option (Nat × Nat)) (o : AO), AL.inO K o → ORep E p o → ORep E2 p o
  | some (b, c), .row T sz xs, k, h => by
    simp only [ORep] at h ⊢; obtain ⟨cur, us, h1, h2, h3⟩ := h
    exact ⟨cur, us, by rw [s.w]; exact h1, VReps.lo s xs us k h2, h3⟩
  | none, .row T sz xs, k, h => by simpa only [ORep] using h
  | some (b, c), .map ks vs, k, h => by
    simp only [ORep] at h ⊢; obtain ⟨es, cl, h1, h3, h2⟩ := h
    exact ⟨es, cl, by rw [s.w]; exact h1, h3, VReps.lo s vs _ k h2⟩
  | none, .map ks vs, k, h => by simp only [ORep] at h
  | some (b, c), .siter _ _, k, h => by simp only [ORep] at h ⊢; rw [s.w]; exact h
  | none, .siter _ _, k, h => by simp only [ORep] at h
/-- The old names, and one more (or one of them). -/
noncomputable def envLo (E E1 : Env) (l0 : Nat) (q : Option (Option (Nat × Nat))) : Env :=
  open Classical in { Z := E1.Z, w := E1.w, K := fun j => E.K j ∨ j = l0, L := fun j => if j = l0 then q else if E.K j then E1.L j else none }
theorem low_one {C : Ctx} {E E1 : Env} {H H1 : Nat → Option AO} {nx : Nat} (hR : HR C E H) (hb : ∀ j, E.K j → j < nx) (hR1 : HR C E1 H1) (hS : Stab E E1) {l l0 T sz : Nat} {xs : List AV} {q : Option (Nat × Nat)}
    (hq : (E1.L l = some q ∧ H1 l = some (.row T sz xs)) ∨ (q = none ∧ xs = [])) (hc : closeds xs = true) (hl0 : (l0 = nx ∧ nx ≤ l) ∨ (l0 = l ∧ E.K l ∧ E1.L l = some q)) (hH : ∀ j, j < nx → j ≠ l0 → H1 j = H j) :
    HR C (envLo E E1 l0 (some q)) (upd H l0 (some (.row T sz xs))) ∧ Stab E (envLo E E1 l0 (some q)) ∧ Lo E.K E1 (envLo E E1 l0 (some q)) := by
  have key : ∀ j x, (envLo E E1 l0 (some q)).L j = some x → (j = l0 ∧ q = x) ∨ (j ≠ l0 ∧ E.K j ∧ E1.L j = some x) := by
    intro j x e
    simp only [envLo] at e
    by_cases e1 : j = l0
    · rw [if_pos e1] at e; exact .inl ⟨e1, Option.some.inj e⟩
    · rw [if_neg e1] at e
      by_cases e2 : E.K j
      · rw [if_pos e2] at e; exact .inr ⟨e1, e2, e⟩
      · rw [if_neg e2] at e; cases e
  have hlo : Lo E.K E1 (envLo E E1 l0 (some q)) := ⟨fun j h1 => ⟨.inl h1, fun p e => by
    rcases key j p e with ⟨e1, e2⟩ | ⟨_, _, e3⟩
    · rcases hl0 with ⟨g1, _⟩ | ⟨g1, _, g3⟩
      · have := hb j h1; omega
      · subst e1; subst e2; subst g1; exact g3
    · exact e3⟩, fun _ h => h, rfl⟩
  have hqL : ∀ b c, q = some (b, c) → E1.L l = some (some (b, c)) := by
    intro b c e
    rcases hq with hq | hq
    · rw [hq.1, e]
    · rw [hq.1] at e; cases e
  have hst : Stab E (envLo E E1 l0 (some q)) := ⟨fun j h => .inl h, fun j hj x e => by
      rcases key j x e with ⟨e1, e2⟩ | ⟨_, _, e3⟩
      · rcases hl0 with ⟨h1, _⟩ | ⟨h1, _, h3⟩
        · have := hb j hj; omega
        · subst e1; subst e2; subst h1
          exact hS.L _ hj _ h3
      · exact hS.L j hj x e3, fun b hz => hS.Z b hz⟩
  refine ⟨?_, hst, hlo⟩
  exact {
    below := hR1.below
    base := hR1.base
    zlt := hR1.zlt
    zlive := fun b hz j c e => by
      rcases key j _ e with ⟨_, e⟩ | ⟨_, _, e⟩
      · exact hR1.zlive b hz l c (hqL b c e)
      · exact hR1.zlive b hz j c e
    zsrc := hR1.zsrc
    dom := fun j => by
      simp only [envLo, upd_at]
      by_cases e1 : j = l0
      · rw [if_pos e1, if_pos e1]; rfl
      · rw [if_neg e1, if_neg e1]
        by_cases e2 : E.K j
        · rw [if_pos e2, ← hH j (hb j e2) e1]; exact hR1.dom j
        · rw [if_neg e2, hR.dom j]
          cases hL : E.L j with
          | none => rfl
          | some x => exact absurd (hR.known j x hL) e2
    known := fun j x e => by
      rcases key j x e with ⟨e, _⟩ | ⟨_, e, _⟩
      · exact .inr e
      · exact .inl e
    inj := fun i j b c c' e e' => by
      rcases key i _ e with ⟨e1, e2⟩ | ⟨e1, e2, e3⟩ <;> rcases key j _ e' with ⟨e1', e2'⟩ | ⟨e1', e2', e3'⟩
      · rw [e1, e1']
      · have := hR1.inj _ _ _ _ _ (hqL _ _ e2) e3'
        rcases hl0 with ⟨h1, h2⟩ | ⟨h1, _⟩
        · have := hb j e2'; omega
        · omega
      · have := hR1.inj _ _ _ _ _ (hqL _ _ e2') e3
        rcases hl0 with ⟨h1, h2⟩ | ⟨h1, _⟩
        · have := hb i e2; omega
        · omega
      · exact hR1.inj _ _ _ _ _ e3 e3'
    obj := fun j o p e e' => by
      rcases key j p e' with ⟨e1, e2⟩ | ⟨e1, e2, e3⟩
      · subst e1; subst e2
        simp only [upd_same, Option.some.injEq] at e
        subst e
        refine ORep.lo hlo _ _ (inKs_closed xs hc) ?_
        rcases hq with hq | hq
        · exact hR1.obj l _ _ hq.2 hq.1
        · obtain ⟨rfl, rfl⟩ := hq; simp only [ORep]
      · simp only [upd_ne _ _ e1] at e
        have h1 : ORep E1 p o := hR1.obj j o p ((hH j (hb j e2) e1).trans e) e3
        have h2 : ORep E p o := hR.obj j o p e (hS.L j e2 p e3)
        exact ORep.lo hlo _ _ (ORep.inO _ _ h2) h1
    old := fun j b c e => by
      rcases key j _ e with ⟨_, e⟩ | ⟨_, _, e⟩
      · exact hR1.old l b c (hqL b c e)
      · exact hR1.old j b c e }
/-- A row of the call's own. -/
def OkO (P : Program) (f : FuncId) (args : List AV) (T sz : Nat) (xs : List AV) : Prop :=
  closeds xs = true ∧ ∀ (H : Nat → Option AO) (nx : Nat), ACall P f args H nx fun r H' nx' => (r = nilS ∧ xs = [] ∧ ∀ j, j < nx → H' j = H j) ∨ ∃ l, nx ≤ l ∧ r = .msl l xs.length ∧ H' l = some (.row T sz xs) ∧ ∀ j, j < nx → H' j = H j
theorem OkO.acall {P : Program} {f : FuncId} {args : List AV} {T sz : Nat} {xs : List AV} (h : OkO P f args T sz xs) (H : Nat → Option AO) (nx : Nat) :
    ACall P f args H nx fun r H' nx' => r = .msl nx xs.length ∧ H' = upd H nx (some (.row T sz xs)) ∧ nx' = nx + 1 := by
  refine ⟨(h.2 H nx).1, fun C E vals hR hb hv => ((h.2 H nx).2 C E vals hR hb hv).mono ?_⟩
  rintro e w' ⟨v, r, H1, nx1, E1, rfl, h1, hv1, hR1, hS, hn1, hn2, rfl⟩
  rcases h1 with ⟨rfl, rfl, hH⟩ | ⟨l, hl, rfl, hH1, hH⟩
  · obtain ⟨g1, g2, g3⟩ := low_one (l := nx) (l0 := nx) (T := T) (sz := sz) (xs := []) (q := none) hR hb hR1 hS (.inr ⟨rfl, rfl⟩) rfl (.inl ⟨rfl, Nat.le_refl _⟩) (fun j hj _ => hH j hj)
    refine ⟨v, .msl nx 0, _, nx + 1, _, rfl, ⟨rfl, rfl, rfl⟩, ?_, g1, g2, by omega, ?_, rfl⟩
    · simp only [VRep] at hv1 ⊢
      exact ⟨none, 0, .inr rfl, hv1, fun h => absurd h (by omega), Nat.le_refl _, fun b c e => by simp [envLo] at e, fun _ => by simp⟩
    · rintro j (hj | hj)
      · exact .inl hj
      · exact .inr (by omega)
  · obtain ⟨q, hq, ho⟩ := hR1.live hH1
    obtain ⟨g1, g2, g3⟩ := low_one (l := l) (l0 := nx) (T := T) (sz := sz) (xs := xs) (q := q) hR hb hR1 hS (.inl ⟨hq, hH1⟩) h.1 (.inl ⟨rfl, hl⟩) (fun j hj _ => hH j hj)
    refine ⟨v, .msl nx xs.length, _, nx + 1, _, rfl, ⟨rfl, rfl, rfl⟩, ?_, g1, g2, by omega, ?_, rfl⟩
    · simp only [VRep] at hv1 ⊢
      obtain ⟨A, c0, _, k1, k2, k3, k4, k5⟩ := hv1
      refine ⟨A, c0, .inr rfl, k1, k2, k3, fun b c e => ?_, fun e => ?_⟩
      · simp only [envLo, if_true, Option.some.injEq] at e
        exact k4 b c (by rw [hq, e])
      · simp only [envLo, if_true, Option.some.injEq] at e
        exact k5 (by rw [hq, e])
    · rintro j (hj | hj)
      · exact .inl hj
      · exact .inr (by omega)
/-- A row is turned in place (and cut to so many elements). -/
def OkI (P : Program) (f : FuncId) (l : Nat) (args : List AV) (r : AV) (T sz : Nat) (xs ys : List AV) : Prop :=
  closeds ys = true ∧ ∀ (H : Nat → Option AO) (nx : Nat), l < nx → H l = some (.row T sz xs) → ACall P f args H nx fun r' H' nx' => r' = r ∧ H' l = some (.row T sz ys) ∧ ∀ j, j < nx → j ≠ l → H' j = H j
theorem OkI.acall {P : Program} {f : FuncId} {l : Nat} {args : List AV} {r : AV} {T sz : Nat} {xs ys : List AV} (h : OkI P f l args r T sz xs ys) (hr : ∀ K : Nat → Prop, K l → inK K r) (H : Nat → Option AO) (nx : Nat) (hl : l < nx) (hH : H l = some (.row T sz xs)) :
    ACall P f args H nx fun r' H' nx' => r' = r ∧ H' = upd H l (some (.row T sz ys)) ∧ nx' = nx := by
  refine ⟨(h.2 H nx hl hH).1, fun C E vals hR hb hv => ((h.2 H nx hl hH).2 C E vals hR hb hv).mono ?_⟩
  rintro e w' ⟨v, r', H1, nx1, E1, rfl, ⟨rfl, hH1, hH2⟩, hv1, hR1, hS, hn1, hn2, rfl⟩
  obtain ⟨q, hq, ho⟩ := hR1.live hH1
  obtain ⟨p, hp, _⟩ := hR.live hH
  have hk := hR.known l p hp
  obtain ⟨g1, g2, g3⟩ := low_one (l := l) (l0 := l) (T := T) (sz := sz) (xs := ys) (q := q) hR hb hR1 hS (.inl ⟨hq, hH1⟩) h.1 (.inr ⟨rfl, hk, hq⟩) hH2
  refine ⟨v, r', _, nx, _, rfl, ⟨rfl, rfl, rfl⟩, VRep.lo g3 _ _ (hr _ hk) hv1, g1, g2, Nat.le_refl _, ?_, rfl⟩
  rintro j (hj | hj)
  · exact .inl hj
  · subst hj; exact .inl hk
section
variable {P : Program} {H : Nat → Option AO} {nx new : Nat} {ρ : Operand → AV} {k : AV → (Nat → Option AO) → Nat → Prop} {c : Call} {f : FuncId} {ag ag' : List AV} {r : AV} {T sz : Nat} {xs ys : List AV}
theorem OkO.sub (h : OkO P f ag' T sz xs) (hs : Subs ag ag') : OkO P f ag T sz xs := ⟨h.1, fun H nx => ⟨(h.2 H nx).1, fun C E vals hR hb hv => (h.2 H nx).2 C E vals hR hb (hs _ _ hv)⟩⟩
end
/-! ### A row of the call's own, in a draw of the finer kind -/
theorem OpSL_oko {P : Program} {V : Nat → Option AO} {new : Nat} {ρ : Operand → AV} {c : Call} {f : FuncId} {ag : List AV} {T sz : Nat} {xs : List AV} (h : OkO P f ag T sz xs) (hc : callArgs ρ c = some (f, ag)) (hcl : closeds ag = true) :
    OpSL P (.call c) V ρ new (.msl new xs.length) [(new, some (.row T sz xs))] := by
  intro o ho C E H a hR hV hρ hn next Q hnext
  have hA0 := h.acall (fun _ => none) 0
  obtain ⟨vals, h1, h2⟩ := callArgs_run (P := P) ho hρ hc hA0.1
  unfold Oper.wp
  rw [h2, Oper.upon_enter]
  let C' : Ctx := { base := E.w.heap.size, w0 := E.w, zone := E.Z, gw := hR.gw, gb := hR.gw.size }
  have hR0 : HR C' (Ec E.Z E.w) (fun _ => none) :=
    ⟨Below.refl _ _, Nat.le_refl _, hR.zlt, fun _ _ _ _ e => by simp [Ec] at e, fun b hz => .inl hz, fun _ => rfl, fun _ _ e => by simp [Ec] at e, fun _ _ _ _ _ e => by simp [Ec] at e, fun _ _ _ e => by simp at e, fun _ _ _ e => by simp [Ec] at e⟩
  refine (hA0.2 C' (Ec E.Z E.w) vals hR0 (fun l k => k.elim) (VReps.close (fun b hz => hz) _ _ hcl h1)).mono ?_
  rintro e w' ⟨v, r, H', nx', E1, rfl, ⟨rfl, rfl, rfl⟩, hv, hR1, hS1, _, hK1, rfl⟩
  have hB : Below E.w.heap.size E.w E1.w := hR1.below
  obtain ⟨q, hq, ho'⟩ := hR1.live (l := 0) (upd_same _ _ _)
  let E' : Env := { Z := fun b => E.Z b ∨ (E.w.heap.size ≤ b ∧ E1.Z b), w := E1.w, L := upd E.L new (E1.L 0), K := fun k => E.K k ∨ k = new }
  have key : ∀ l x, E'.L l = some x → (l = new ∧ E1.L 0 = some x) ∨ (l ≠ new ∧ E.L l = some x) := by
    intro l x e
    by_cases hl : l = new
    · subst hl
      have e2 : upd E.L l (E1.L 0) l = some x := e
      rw [upd_same] at e2
      exact .inl ⟨rfl, e2⟩
    · have e2 : upd E.L new (E1.L 0) l = some x := e
      rw [upd_ne _ _ hl] at e2
      exact .inr ⟨hl, e2⟩
  have hst : Stab E E' := ⟨fun _ k => .inl k, fun l k x e => by
    rcases key l x e with ⟨rfl, _⟩ | ⟨_, e⟩
    · exact absurd k hn
    · exact e, fun b hz => ⟨.inl hz, hB.block b (hR.zlt b hz)⟩⟩
  have hlo : Lo (fun _ => False) E1 E' := ⟨fun _ k => k.elim, fun b hz => by
    rcases hR1.zsrc b hz with h | h
    · exact .inl h
    · exact .inr ⟨h, hz⟩, rfl⟩
  refine hnext v E' ?_ ?_ hst fun l k => k
  · simp only [VRep] at hv ⊢
    obtain ⟨A, c0, _, g1, g2, g3, g4, g5⟩ := hv
    have hL : E'.L new = E1.L 0 := upd_same _ _ _
    rw [hL]
    exact ⟨A, c0, .inr rfl, g1, g2, g3, g4, g5⟩
  · show HR C E' (upd H new (some (.row T sz xs)))
    exact {
      below := hR.below.trans (hB.mono hR.base)
      base := Nat.le_trans hR.base hB.size
      zlt := fun b hz => by
        rcases hz with hz | hz
        · have := hR.zlt b hz; have := hB.size; show b < E1.w.heap.size; omega
        · exact hR1.zlt b hz.2
      zlive := fun b hz l c e => by
        rcases key l _ e with ⟨_, e⟩ | ⟨_, e⟩
        · rcases hz with hz | hz
          · have h1 := hR.zlt b hz
            have h2 : E.w.heap.size ≤ b := (hR1.old 0 b c e).1
            omega
          · exact hR1.zlive b hz.2 0 c e
        · rcases hz with hz | hz
          · exact hR.zlive b hz l c e
          · have := (hR.old l b c e).2; omega
      zsrc := fun b hz => by
        rcases hz with hz | hz
        · exact hR.zsrc b hz
        · exact .inr (Nat.le_trans hR.base hz.1)
      dom := fun l => by
        by_cases hl : l = new
        · subst hl
          have hL : E'.L l = E1.L 0 := upd_same _ _ _
          rw [hL, hq, upd_same]; rfl
        · have hL : E'.L l = E.L l := upd_ne _ _ hl
          rw [hL, upd_ne _ _ hl]; exact hR.dom l
      known := fun l x e => by
        rcases key l x e with ⟨e1, _⟩ | ⟨_, e⟩
        · exact .inr e1
        · exact .inl (hR.known l x e)
      inj := fun i j b c c' e e' => by
        rcases key i _ e with ⟨e1, e2⟩ | ⟨e1, e2⟩ <;> rcases key j _ e' with ⟨e1', e2'⟩ | ⟨e1', e2'⟩
        · rw [e1, e1']
        · have h1 : E.w.heap.size ≤ b := (hR1.old 0 b c e2).1
          have h2 := (hR.old j b c' e2').2
          omega
        · have h1 : E.w.heap.size ≤ b := (hR1.old 0 b c' e2').1
          have h2 := (hR.old i b c e2).2
          omega
        · exact hR.inj _ _ _ _ _ e2 e2'
      obj := fun l o p e e' => by
        rcases key l p e' with ⟨e1, e2⟩ | ⟨e1, e2⟩
        · subst e1
          simp only [upd_same, Option.some.injEq] at e
          subst e
          rw [hq] at e2
          injection e2 with e2
          subst e2
          exact ORep.lo hlo _ _ (inKs_closed xs h.1) ho'
        · simp only [upd_ne _ _ e1] at e
          exact (hR.obj l o p e e2).stab hst (fun b c hp => hB.block b (hR.old l b c (hp ▸ e2)).2)
      old := fun l b c e => by
        rcases key l _ e with ⟨_, e⟩ | ⟨_, e⟩
        · have h1 := hR1.old 0 b c e
          exact ⟨Nat.le_trans hR.base h1.1, h1.2⟩
        · have h1 := hR.old l b c e
          have h2 := hB.size
          exact ⟨h1.1, by show b < E1.w.heap.size; omega⟩ }
theorem qvo {P : Program} {V : Nat → Option AO} {W : List Nat} {new : Nat} {ρ : Operand → AV} {c : Call} {f : FuncId} {ag : List AV} {T sz : Nat} {xs : List AV} {K : AV → Upds → Prop} (h : OkO P f ag T sz xs) (hc : callArgs ρ c = some (f, ag)) (hk : K (.msl new xs.length) [(new, some (.row T sz xs))]) (hcl : closeds ag = true := by simp only [CLO]) : ∃ v us, OpSL P (.call c) V ρ new v us ∧ okL W new us ∧ K v us :=
  ⟨_, _, OpSL_oko h hc hcl, ⟨.inl rfl, trivial⟩, hk⟩
/-! ### Rows that are given up with the arguments -/
mutual
def fqA (H : Nat → Option AO) : AV → Option (AV × (Nat → Option AO))
  | .msl l m => (fkK m (H l)).map fun y => (y, upd H l none)
  | .agg cs => (fqL H cs).map fun p => (.agg p.1, p.2)
  | x => if closed x = true then some (x, H) else none
def fqL (H : Nat → Option AO) : List AV → Option (List AV × (Nat → Option AO))
  | [] => some ([], H)
  | x :: xs => (fqA H x).bind fun p => (fqL p.2 xs).map fun q => (p.1 :: q.1, q.2)
end
structure Fz (C : Ctx) (E E' : Env) (H' : Nat → Option AO) : Prop where
  hr : HR C E' H'
  st : Stab E E'
  k : ∀ l, E'.K l → E.K l
  w : E'.w = E.w
theorem fk1 {C : Ctx} {E : Env} {H : Nat → Option AO} {l m : Nat} {u : Value} {y : AV} (hR : HR C E H) (hu : VRep E (.msl l m) u) (h : fkK m (H l) = some y) : Fz C E (E.kill l) (upd H l none) ∧ VRep (E.kill l) y u ∧ closed y = true := by
  have h1 : fk H [.msl l m] = some ([y], upd H l none) := by
    simp only [fk, h, fkO]
  refine ⟨⟨hR.kill l, Env.kill_stab E l, fun _ h => h, rfl⟩, ?_⟩
  cases ho : H l with
  | none => rw [ho] at h; simp [fkK] at h
  | some ob =>
    cases ob with
    | map ks vs => rw [ho] at h; simp [fkK] at h
    | siter s q => rw [ho] at h; simp [fkK] at h
    | row Ty sz zs =>
      rw [ho] at h
      simp only [fkK] at h
      split at h
      · rename_i hmc
        obtain ⟨hm, hc⟩ := hmc
        simp only [Option.some.injEq] at h
        subst h
        refine ⟨?_, by simpa [closed] using hc⟩
        have hs := Env.kill_stab E l
        simp only [VRep] at hu ⊢
        obtain ⟨A, c0, _, g0, q1, q2, q3, q4⟩ := hu
        obtain ⟨p, hp, ho'⟩ := hR.live ho
        subst hm
        cases p with
        | none =>
          simp only [ORep] at ho'
          subst ho'
          exact ⟨[], A, c0, VReps.nil, g0, Nat.zero_le _, .inl rfl⟩
        | some q =>
          obtain ⟨b, c⟩ := q
          obtain ⟨rfl, rfl⟩ := q3 b c hp
          simp only [ORep] at ho'
          obtain ⟨cur, vs, h1, h2, h3, h4, h5, h6, h7⟩ := ho'
          refine ⟨vs, _, c0, h2.stab hs, g0, q2, ?_⟩
          by_cases hz : vs = []
          · exact .inl hz
          refine .inr ⟨b, 0, rfl, .inr ⟨c0, hp⟩, fun i u hu => ⟨(h3 u (List.mem_of_getElem? hu)).1, (h3 u (List.mem_of_getElem? hu)).2, fun j v hj => ?_⟩⟩
          show E.w.cell? _ = _
          rw [cell_of_row E.w b _ cur Ty (0, 0) h1]
          have e := flatV_at (fun u hu => (h3 u hu).1) hu j v hj
          rw [← h7, List.getElem?_take] at e
          split at e
          · simpa using e
          · cases e
      · cases h
theorem Fz.trans {C : Ctx} {E E1 E2 : Env} {H1 H2 : Nat → Option AO} (h : Fz C E E1 H1) (k : Fz C E1 E2 H2) : Fz C E E2 H2 := ⟨k.hr, h.st.trans k.st, fun l hl => h.k l (k.k l hl), k.w.trans h.w⟩
mutual
theorem fqA_sound {C : Ctx} : ∀ (x : AV) (E : Env) (H : Nat → Option AO) (u : Value) (y : AV) (H' : Nat → Option AO), HR C E H → VRep E x u → fqA H x = some (y, H') → ∃ E', Fz C E E' H' ∧ VRep E' y u ∧ closed y = true
  | .msl l m, E, H, u, y, H', hR, hu, h => by
    simp only [fqA, Option.map_eq_some_iff, Prod.mk.injEq] at h
    obtain ⟨y', h1, rfl, rfl⟩ := h
    exact ⟨_, fk1 hR hu h1⟩
  | .agg cs, E, H, u, y, H', hR, hu, h => by
    simp only [fqA, Option.map_eq_some_iff, Prod.mk.injEq] at h
    obtain ⟨⟨ys, H2⟩, h1, rfl, rfl⟩ := h
    simp only [VRep] at hu
    obtain ⟨us, hus, rfl⟩ := hu
    obtain ⟨E', g1, g2, g3⟩ := fqL_sound cs E H us ys H2 hR hus h1
    refine ⟨E', g1, ?_, by simpa only [closed] using g3⟩
    simp only [VRep]
    exact ⟨us, g2, rfl⟩
  | .val v, E, H, u, y, H', hR, hu, h => by simp only [fqA, closed, if_true, Option.some.injEq, Prod.mk.injEq] at h; obtain ⟨rfl, rfl⟩ := h; exact ⟨E, ⟨hR, Stab.refl E, fun _ h => h, rfl⟩, hu, rfl⟩
  | .tup cs, E, H, u, y, H', hR, hu, h => by
    simp only [fqA] at h
    split at h
    · rename_i hc; simp only [Option.some.injEq, Prod.mk.injEq] at h; obtain ⟨rfl, rfl⟩ := h; exact ⟨E, ⟨hR, Stab.refl E, fun _ h => h, rfl⟩, hu, hc⟩
    · cases h
  | .sl sz xs, E, H, u, y, H', hR, hu, h => by
    simp only [fqA] at h
    split at h
    · rename_i hc; simp only [Option.some.injEq, Prod.mk.injEq] at h; obtain ⟨rfl, rfl⟩ := h; exact ⟨E, ⟨hR, Stab.refl E, fun _ h => h, rfl⟩, hu, hc⟩
    · cases h
  | .ptr x off, E, H, u, y, H', hR, hu, h => by
    simp only [fqA] at h
    split at h
    · rename_i hc; simp only [Option.some.injEq, Prod.mk.injEq] at h; obtain ⟨rfl, rfl⟩ := h; exact ⟨E, ⟨hR, Stab.refl E, fun _ h => h, rfl⟩, hu, hc⟩
    · cases h
  | .loc l sz i off, E, H, u, y, H', hR, hu, h => by simp [fqA, closed] at h
  | .mp l, E, H, u, y, H', hR, hu, h => by simp [fqA, closed] at h
  | .mtl l sz q n, E, H, u, y, H', hR, hu, h => by simp [fqA, closed] at h
  | .fn f fi ca, E, H, u, y, H', hR, hu, h => by
    simp only [fqA] at h
    split at h
    · rename_i hc; simp only [Option.some.injEq, Prod.mk.injEq] at h; obtain ⟨rfl, rfl⟩ := h; exact ⟨E, ⟨hR, Stab.refl E, fun _ h => h, rfl⟩, hu, hc⟩
    · cases h
  | .ifc t x, E, H, u, y, H', hR, hu, h => by
    simp only [fqA] at h
    split at h
    · rename_i hc; simp only [Option.some.injEq, Prod.mk.injEq] at h; obtain ⟨rfl, rfl⟩ := h; exact ⟨E, ⟨hR, Stab.refl E, fun _ h => h, rfl⟩, hu, hc⟩
    · cases h
  | .e0, E, H, u, y, H', hR, hu, h => by simp only [fqA, closed, if_true, Option.some.injEq, Prod.mk.injEq] at h; obtain ⟨rfl, rfl⟩ := h; exact ⟨E, ⟨hR, Stab.refl E, fun _ h => h, rfl⟩, hu, rfl⟩
  | .junk, E, H, u, y, H', hR, hu, h => by simp only [fqA, closed, if_true, Option.some.injEq, Prod.mk.injEq] at h; obtain ⟨rfl, rfl⟩ := h; exact ⟨E, ⟨hR, Stab.refl E, fun _ h => h, rfl⟩, hu, rfl⟩
theorem fqL_sound {C : Ctx} : ∀ (xs : List AV) (E : Env) (H : Nat → Option AO) (us : List Value) (ys : List AV) (H' : Nat → Option AO), HR C E H → VReps E xs us → fqL H xs = some (ys, H') → ∃ E', Fz C E E' H' ∧ VReps E' ys us ∧ closeds ys = true
  | [], E, H, us, ys, H', hR, hu, h => by
    simp only [fqL, Option.some.injEq, Prod.mk.injEq] at h
    obtain ⟨rfl, rfl⟩ := h
    exact ⟨E, ⟨hR, Stab.refl E, fun _ h => h, rfl⟩, hu, rfl⟩
  | x :: xs, E, H, us, ys, H', hR, hu, h => by
    simp only [VReps] at hu
    obtain ⟨u, us', h1, h2, rfl⟩ := hu
    unfold fqL at h
    obtain ⟨⟨y, H1⟩, k1, k2⟩ := Option.bind_eq_some_iff.1 h
    simp only [Option.map_eq_some_iff, Prod.mk.injEq] at k2
    obtain ⟨⟨zs, H2⟩, k2, rfl, rfl⟩ := k2
    obtain ⟨E1, g1, g2, g3⟩ := fqA_sound x E H u y H1 hR h1 k1
    obtain ⟨E2, e1, e2, e3⟩ := fqL_sound xs E1 H1 us' zs H2 g1.hr (VReps.stab g1.st _ _ h2) k2
    exact ⟨E2, g1.trans e1, .cons (VRep.stab e1.st _ _ g2) e2, by simp [closeds, g3, e3]⟩
end
section
variable (H : Nat → Option AO)
end
section
variable {P : Program} {H H' : Nat → Option AO} {nx new : Nat} {ρ : Operand → AV} {k : AV → (Nat → Option AO) → Nat → Prop} {c : Call} {f : FuncId} {ag ag' ag2 : List AV} {r : AV}
end
/-! ### slices.Clone -/
theorem cloneO_ok {α : Type} {P : Program} {g : FuncId} {S E n by_ : Nat} {b : Bool} {z : AV} (hf : FnC P g 8 [.tmp 2] (cloneAC S)) (hS : elemOfT P S = some E) (hE : aggN P E = some (b, n)) (hB : bytesOfT P E = some by_) (hz : zeroOf P E = some z) (hzs : hasSize z n = true) (hn : 0 < n)
    (enc : α → AV) (l r : List α) (hr : cloneM by_ l = some r) (hx : ∀ x, closed (enc x) = true) : OkO P g [.sl n (l.map enc)] E n (r.map enc) := by
  have hxs : closeds (l.map enc) = true := closeds_map enc hx l
  unfold cloneM at hr
  obtain ⟨hrl, h1, h2⟩ := ap_some hr
  simp only [List.nil_append] at hrl
  rw [hrl]
  clear hrl hr
  simp only [List.length_nil, Nat.zero_add] at h1 h2
  have a1 : ∀ (V : Nat → Option AO) (s x : AV) (new : Nat), evalAppend P S V s x new = appK by_ E n new (oldsOf V s E n) (newsOf V x n) := fun V s x new => append_eq P V hS hE hB hz hzs s x new
  have a2 : ∀ (V : Nat → Option AO) (new : Nat) (ρ : Operand → AV), evalOp P (.buildSlice S 0 #[]) V new ρ = some (.msl new 0, [(new, some (.row E n []))]) := by
    intro V new ρ
    rw [E_buildSlice P V new ρ S 0 #[] E hS, hE, hz]
    simp [buildSliceK, hzs, hn, setsA]
  refine ⟨hxs, fun H nx => acallF hf (by simp) ?_⟩
  unfold cloneAC
  simp only [EV, ↓EVd, isCall, sevalprocAttr]
  refine S1_nilSl hS rfl (fun he => ?_) ?_
  · simp only [EV, ↓EVd, isCall, sevalprocAttr]
    exact .inl ⟨he, fun _ _ => trivial⟩
  · simp only [a1, a2, h1, h2, EV, ↓EVd, isCall, sevalprocAttr]
    refine .inr ⟨nx + 5, by omega, by simp, if_pos rfl, ?_⟩
    · intro j hj
      rw [if_neg (by omega), if_neg (by omega), if_neg (by omega)]
end Go.Proofs.Ytnmljicimdhpmaa.AL

