/- A law of the given program is proved: part 42 of 50. -/
import Derived.Shelf.Abstract
import Derived.Test.YtefdlpandfhcgaaGreatDoorA41
set_option linter.all false
/- (*walk.trail).reach: its contract. -/
set_option linter.all false
namespace Go.Proofs.YtefdlpandfhcgaaGreatDoor.AL
open Go Go.Proofs Go.RowKit
def reachM (b : Branch) (ways : List Way) (nd : Way → Node) : List Bool := (entsN nd ways ways.length).foldl stepE (ways.foldl stepW (List.replicate b.nodes.length false))
theorem xox (E : Env) (x : Entry) : VRep E (xd x) (entV x) := by
  simp only [xd, int, str, VRep, VReps]
  exact ⟨_, ⟨_, _, rfl, ⟨_, _, rfl, ⟨_, _, rfl, rfl, rfl⟩, rfl⟩, rfl⟩, rfl⟩
theorem x2q {Es : Env} {Z : Nat → Prop} {W : World} {u : Value} (h : VRep Es (.loc 8 1 0 0) u) : VRep (Er Es Z W) (.loc 8 1 0 0) u := by
  simp only [VRep] at h ⊢
  obtain ⟨b0, h1, h2, h3⟩ := h
  refine ⟨b0, h1, h2, fun b c e => ?_⟩
  simp only [Er, kp8, if_true] at e
  exact h3 b c e
def AxR (C : Ctx) (Es : Env) (x : Entry) (a : Act) (W : World) : Prop :=
  a.tmps.size = 48 ∧ a.defers = [] ∧ VRep Es (.loc 8 1 0 0) (a.tmps.getD 3 undef) ∧ ∃ bb o, W.heap[bb]? = some o ∧ o.isCells = true ∧ C.base ≤ bb ∧ ¬ Xb Es bb ∧ a.tmps.getD 6 undef = .pointer (some ⟨bb, 0, none⟩) ∧ xnf W bb 0 (entV x).cells
set_option maxHeartbeats 2000000 in
theorem xt3 (b : Branch) (ways : List Way) (nd : Way → Node) (hi : ∀ w ∈ ways, 1 ≤ w.ino ∧ w.ino ≤ (b.nodes.length : Int)) (hN : b.nodes.length ≤ 281474976710656) (hW : ways.length < 4611686018427387904)
    (hn : ∀ w ∈ ways, nodeAt b w.ino = some (nd w)) (hb2 : ∀ w ∈ ways, (nd w).entries.length < 4611686018427387904) :
    OkN Tryz.prog 46 [.ptr (x8b b ways) 0] (.sl 1 ((reachM b ways nd).map bool)) := by
  obtain ⟨fn, c0, c1, c2, c7, asg, bd, ct, hf, hbody, hn48, hres, hcall, p0, p1, p2, p7, pa, pb, pt⟩ := xe5
  refine ⟨hcall, fun Z w vals hZ hv => ?_⟩
  obtain ⟨C, hC⟩ : ∃ C : Ctx, C = { base := w.heap.size, w0 := w, zone := Z, gw := hZ.gw, gb := hZ.gw.size } := ⟨_, rfl⟩
  have hR0 : HR C (Ec Z w) (fun _ => none) := by
    rw [hC]
    exact ⟨Below.refl _ _, Nat.le_refl _, hZ.zlt, fun _ _ _ _ e => by simp [Ec] at e, fun b hz => .inl hz, fun _ => rfl, fun _ _ e => by simp [Ec] at e, fun _ _ _ _ _ e => by simp [Ec] at e, fun _ _ _ e => by simp at e, fun _ _ _ e => by simp [Ec] at e⟩
  refine (callsIn_wide (n := 10)).1 (callsIn_of_wp_marks hf hbody trivial ?_ rfl)
  have hl := hv.length
  simp only [List.length_cons, List.length_nil] at hl
  have hS0 : SR C (Ec Z w) 0 48 ⟨argT [.ptr (x8b b ways) 0], fun _ => none, 0⟩ { tmps := vals.toArray ++ Array.replicate (fn.ntmps - vals.toArray.size) undef, defers := [] } (Ec Z w) :=
    ⟨hR0, Stab.refl _, fun l k => k.elim, fun l k => .inl k, by simp; omega, rfl, xps hv _⟩
  refine peel p0 (xo3 b ways hi hN hW) (Nat.le_refl _) hS0 ?_
  intro s1 a1 E1 h1 k1 hS1
  refine peel p1 h1 k1 hS1 ?_
  intro s2 a2 E2 h2 k2 hS2
  refine peel p2 h2 k2 hS2 ?_
  intro s3 a3 E3 h3 k3 hS3
  refine wpIn_seq (wpIn_seq (wpIn_mono (wpIn_wide.2 (cw_cwp _ h3 c7 p7 C _ 0 E3 a3 k3 hS3)) ?_))
  rintro e a w' ⟨s, Es, q1, q2, hS, rfl⟩
  obtain ⟨rfl, t3, t30, g7, g8, hnx⟩ := q1
  show (Code.block 2 _).wpIn Fence.wide 10 Tryz.prog _ a Es.w
  refine wpIn_block ?_
  -- the function that is ranged over
  have z30 := hS.tmps 30
  rw [t30, VRep] at z30
  obtain ⟨fa, fb, r1, r2, r3⟩ := z30
  rw [VReps] at r1
  rw [VReps] at r2
  obtain ⟨v, us', r2, r4, r5⟩ := r2
  rw [VReps] at r4
  subst r1 r4 r5
  have hvc : VRep (Ec Es.Z Es.w) (.ptr (.ptr (x8b b ways) 0) 0) v := VRep.close (fun _ h => h) _ _ (xmu _ (xei b ways)) r2
  have hK : Es.K 7 ∧ Es.K 8 := by
    have e7 := hS.heap.dom 7
    have e8 := hS.heap.dom 8
    rw [g7] at e7
    rw [g8] at e8
    obtain ⟨x7, e7⟩ := Option.isSome_iff_exists.1 e7.symm
    obtain ⟨x8, e8⟩ := Option.isSome_iff_exists.1 e8.symm
    exact ⟨hS.heap.known 7 x7 e7, hS.heap.known 8 x8 e8⟩
  have hXw : ∀ b, Xb Es b → b < Es.w.heap.size := fun b ⟨l, c, _, e⟩ => (hS.heap.old l b c e).2
  generalize hbs : ways.foldl stepW (List.replicate b.nodes.length false) = bs1 at g7
  have hlen1 : bs1.length = b.nodes.length := by rw [← hbs, xtu]; simp
  have hI0 : HR C (Er Es Es.Z Es.w) (Hk b.nodes.length bs1) := HR.shrink hS.heap g7 g8 (fun _ _ => rfl) hK (fun _ h => h)
  have hl8 : VRep Es (.loc 8 1 0 0) (a.tmps.getD 3 undef) := by have := hS.tmps 3; rwa [t3] at this
  have hH7 : ∀ bs, Hk b.nodes.length bs 7 = some (.row 4 1 (bs.map bool)) := fun bs => rfl
  have hH8 : ∀ bs, Hk b.nodes.length bs 8 = some (.row 53 1 [.msl 7 b.nodes.length]) := fun bs => rfl
  refine wpIn_rangeFunc_ownH (n := 10) rfl (by omega) (gf := 65) (lb := #[v]) r3 trivial (_root_.Go.Proofs.enters_of Tryz.func65 (by kernel_rfl) rfl)
    (xsy (n := 9) (b := b) (ways := ways) (nd := nd) (X := Xb Es) (Z := Es.Z) (w := Es.w) hn hW hb2 hvc hS.heap.zlt (fun b hb ⟨l, c, _, e⟩ => hS.heap.zlive b hb l c e) hXw (fun b ⟨l, c, _, e⟩ => Nat.le_trans C.gb (hS.heap.old l b c e).1) hS.heap.gw)
    ?hKt ?hKb (Below.refl _ _) (fun _ => rfl)
    (fun pre W => HR C (Er Es Es.Z W) (Hk b.nodes.length (pre.foldl stepE bs1))) (fun _ _ _ => False)
    (fun pre W W' row h hg hr => HR.grown h hg hr hS.heap.base hS.heap.zlt) (fun c s A B row hs _ _ => hs) hI0 (AxR C Es) ?hAx ?hassign ?hbody ?hdone (fun _ _ _ _ _ _ h _ => h.elim)
  case hKt =>
    rintro A B D ⟨s1, k1⟩ ⟨s2, k2⟩
    exact ⟨Nat.le_trans s1 s2, fun b o hx ho hc => k2 b o hx (k1 b o hx ho hc) hc⟩
  case hKb =>
    intro W l o o' hl' ho hc _
    refine ⟨by simp [World.putObj], fun b ob hx hob hcb => ?_⟩
    have : b ≠ l := by rintro rfl; rw [ho] at hob; injection hob with hob; subst hob; rw [hc] at hcb; cases hcb
    rw [World.putObj_heap_other this]; exact hob
  case hAx =>
    rintro x a' _ W W' row ⟨x1, x2, x3, bb, o, x4, x5, x6, x7, x8, x9⟩ hg hr
    have hlt : bb < W.heap.size := (Array.getElem?_eq_some_iff.1 x4).1
    have hne : ¬ row = some bb := by
      intro e
      obtain ⟨_, ob, g1, g2⟩ := hr bb e
      rw [x4] at g1; injection g1 with g1; subst g1; rw [x5] at g2; cases g2
    have hs := hg.block bb hlt (fun e => hne e.symm)
    exact ⟨x1, x2, x3, bb, o, hs.trans x4, x5, x6, x7, x8, fun j u hj => (World.cell?_of_block (a := ⟨bb, 0 + j, none⟩) hs).trans (x9 j u hj)⟩
  case hassign =>
    intro l pre x W K hI hk
    obtain ⟨hw, hst⟩ := hI.wide
    have hS' : SR C (Er Es (Z1 C Es Es.Z W) W) s.nx 48 ⟨upd (upd (fun _ => .junk) 3 (.loc 8 1 0 0)) 31 (xd x), Hk b.nodes.length (pre.foldl stepE bs1), s.nx⟩ { tmps := a.tmps.setIfInBounds 31 (entV x), defers := [] } (Er Es (Z1 C Es Es.Z W) W) := by
      refine ⟨hw, Stab.refl _, hS.bound, fun l k => .inl k, by simp [hS.size], rfl, fun t => ?_⟩
      by_cases e : t = 31
      · subst e
        have : (a.tmps.setIfInBounds 31 (entV x)).getD 31 undef = entV x := by simp [hS.size]
        rw [this]
        exact xox _ x
      · have e1 : (a.tmps.setIfInBounds 31 (entV x)).getD t undef = a.tmps.getD t undef := by simp [Array.getElem?_setIfInBounds_ne (Ne.symm e)]
        rw [e1]
        by_cases e3 : t = 3
        · subst e3; exact x2q hl8
        · simp only [upd_at, if_neg e, if_neg e3, VRep]
    have hz : ((#[31] : Array Nat).zip #[entV x]) = #[(31, entV x)] := by simp
    rw [hz]
    show asg.wpIn (Fence.wide.inRound l) 8 Tryz.prog _ { tmps := a.tmps.setIfInBounds 31 (entV x), defers := [] } W
    refine wpIn_mono (cw_in (ro := some l) (m := 8) (ds := []) x8i rfl (xj6 (n := b.nodes.length) (bs := pre.foldl stepE bs1) rfl rfl (hH7 _) (hH8 _) hnx) asg pa (Nat.le_refl _) hS') ?_
    rintro e a' w' ⟨s', E', a0, ⟨rfl, f3, ⟨lb, f6, n7, n8, hlb⟩, f7, f8⟩, f2, hS2, rfl, rfl⟩
    obtain ⟨A1, A2, A3⟩ := after hI hK hS2 f7 f8
    refine hk _ _ ⟨A2, fun k o hk ho hc => A3 k o (fun hx => by have := hXw k hx; omega) ho⟩ ⟨A2, fun b o hx ho _ => A3 b o hx ho⟩ A1 ?_
    have y6 := hS2.tmps 6
    rw [f6] at y6
    obtain ⟨p, hp, ho⟩ := hS2.heap.live hlb
    cases p with
    | none => simp only [ORep] at ho; cases ho
    | some q =>
      obtain ⟨bb, c⟩ := q
      obtain ⟨u, u1, u2, u3, u4⟩ := ho.cells (i := 0) (x := xd x) rfl
      obtain rfl := xhz u1
      simp only [VRep] at y6
      obtain ⟨b0, _, y6, y7⟩ := y6
      obtain rfl := y7 bb c hp
      have y3 := hS2.tmps 3
      rw [f3] at y3
      have hL8 : E'.L 8 = Es.L 8 := by
        obtain ⟨p8, hp8, _⟩ := hS2.heap.live f8
        have := hS2.stab.L 8 hK.2 p8 hp8
        simp only [Er, kp8, if_true] at this
        rw [hp8, this]
      have hL7 : E'.L 7 = Es.L 7 := by
        obtain ⟨p8, hp8, _⟩ := hS2.heap.live f7
        have := hS2.stab.L 7 hK.1 p8 hp8
        simp only [Er, kp7, if_true] at this
        rw [hp8, this]
      simp only [ORep] at ho
      obtain ⟨cur, us, ho, _⟩ := ho
      refine ⟨hS2.size, rfl, ?_, b0, _, ho, rfl, (hS2.heap.old lb b0 c hp).1, ?_, by simpa using y6, by simpa using u4⟩
      · simp only [VRep] at y3 ⊢
        obtain ⟨b8, _, y4, y5⟩ := y3
        exact ⟨b8, hK.2, y4, by rw [← hL8]; exact y5⟩
      · rintro ⟨l', c', hl', e⟩
        simp only [kp, Bool.or_eq_true, beq_iff_eq] at hl'
        rcases hl' with rfl | rfl
        · rw [← hL7] at e; exact n7 (hS2.heap.inj lb 7 b0 c c' hp e)
        · rw [← hL8] at e; exact n8 (hS2.heap.inj lb 8 b0 c c' hp e)
  case hbody =>
    rintro l pre x ⟨tm, df⟩ W hl' hloop hI ⟨x1, x2, x3, bb, o, x4, x5, x6, x7, x8, x9⟩ hlen
    dsimp only at x1 x2 x3 x8
    subst x2
    obtain ⟨hw, hst⟩ := hI.wide
    have hS' : SR C (Er Es (Z1 C Es Es.Z W) W) s.nx 48 ⟨upd (upd (fun _ => .junk) 3 (.loc 8 1 0 0)) 6 (.ptr (xd x) 0), Hk b.nodes.length (pre.foldl stepE bs1), s.nx⟩ { tmps := tm, defers := [] } (Er Es (Z1 C Es Es.Z W) W) := by
      refine ⟨hw, Stab.refl _, hS.bound, fun l k => .inl k, x1, rfl, fun t => ?_⟩
      by_cases e : t = 6
      · subst e
        show VRep _ (.ptr (xd x) 0) (tm.getD 6 undef)
        rw [x8]
        rw [VRep]
        exact ⟨entV x, bb, 0, xox _ x, rfl, .inr ⟨x6, (Array.getElem?_eq_some_iff.1 x4).1, x7⟩, x9⟩
      · by_cases e3 : t = 3
        · subst e3; exact x2q x3
        · simp only [upd_at, if_neg e, if_neg e3, VRep]
    refine wpIn_mono (cw_in (ro := some l) (m := 8) (ds := []) xfi rfl (xk3 (n := b.nodes.length) (bs := pre.foldl stepE bs1) rfl rfl (hH7 _) (hH8 _) hnx (by rw [x9k, hlen1]) hN) bd pb (Nat.le_refl _) hS') ?_
    rintro e a' w' ⟨s', E', a0, ⟨rfl, f7, f8⟩, f2, hS2, rfl, rfl⟩
    obtain ⟨A1, A2, A3⟩ := after hI hK hS2 f7 f8
    refine ⟨⟨A2, fun k o hk ho hc => A3 k o (fun hx => by have := hXw k hx; omega) ho⟩, ⟨A2, fun b o hx ho _ => A3 b o hx ho⟩, ?_⟩
    show HR C _ (Hk _ (List.foldl stepE bs1 (pre ++ [x])))
    rw [List.foldl_append]
    exact A1
  case hdone =>
    rintro D xs W hD rfl hI hDW
    show ct.wpIn Fence.wide 10 Tryz.prog _ _ W
    obtain ⟨hw, hst⟩ := hI.wide
    rw [hS.defers]
    have hS' : SR C (Er Es (Z1 C Es Es.Z W) W) s.nx 48 ⟨upd (fun _ => .junk) 3 (.loc 8 1 0 0), Hk b.nodes.length ((entsN nd ways ways.length).foldl stepE bs1), s.nx⟩ { a with defers := [] } (Er Es (Z1 C Es Es.Z W) W) := by
      refine ⟨hw, Stab.refl _, hS.bound, fun l k => .inl k, hS.size, rfl, fun t => ?_⟩
      by_cases e3 : t = 3
      · subst e3; exact x2q hl8
      · simp only [upd_at, if_neg e3, VRep]
    refine wpIn_mono (cw_in (ro := none) (m := 10) (ds := [{ target := .collected D, args := #[] }]) xmi rfl (x91 (n := b.nodes.length) (bs := (entsN nd ways ways.length).foldl stepE bs1) rfl (hH7 _) (hH8 _)) ct pt (Nat.le_refl _) hS') ?_
    rintro e a' w' ⟨s', E', a0, ⟨rfl, f2, f7, f8⟩, _, hS2, rfl, rfl⟩
    have hDX : ¬ Xb Es D := fun hx => by have := hXw D hx; omega
    have hDlt : D < W.heap.size := (Array.getElem?_eq_some_iff.1 hDW).1
    have hD2 : E'.w.heap[D]? = some (.deferred (some [])) := by
      rw [(hS2.stab.Z D (.inr ⟨by have := hS.heap.base; omega, hDlt, hDX⟩)).2]; exact hDW
    refine ⟨by simp, .inl ⟨_, _, rfl, run_takeDeferred hD2, ?_⟩⟩
    refine ⟨_, results_tmp (t := 2) (by cases hr : fn.results; rw [hr] at hres; simp only at hres; rw [hres]) _ _ _, ?_⟩
    have hL7 : E'.L 7 = Es.L 7 := by
      obtain ⟨p8, hp8, _⟩ := hS2.heap.live f7
      have := hS2.stab.L 7 hK.1 p8 hp8
      simp only [Er, kp7, if_true] at this
      rw [hp8, this]
    have A1 := (after hI hK hS2 f7 f8).1
    have A2 : HR C (Er Es (fun _ => False) E'.w) _ := HR.shrink (E := Er Es Es.Z E'.w) (Z := fun _ => False) A1 (hH7 _) (hH8 _) (fun l hl => by simp only [Er, hl, if_true]) hK (fun b h => h.elim)
    have y2 := hS2.tmps 2
    rw [f2] at y2
    have y2' : VRep (Er Es (fun _ => False) E'.w) (.msl 7 b.nodes.length) (a0.tmps.getD 2 undef) := by
      simp only [VRep] at y2 ⊢
      obtain ⟨A, c0, q1, q2, q3, q4, q5, q6⟩ := y2
      exact ⟨A, c0, hK.1, q2, q3, q4, by simpa only [Er, kp7, if_true, hL7] using q5, by simpa only [Er, kp7, if_true, hL7] using q6⟩
    have hl2 : b.nodes.length = (List.map bool ((entsN nd ways ways.length).foldl stepE bs1)).length := by rw [List.length_map, x9k, hlen1]
    have hcb : closeds (List.map bool ((entsN nd ways ways.length).foldl stepE bs1)) = true := xeb bool (fun _ => rfl) _
    have h1 := (x8h A2 2).1 (.msl 7 b.nodes.length) (.sl 1 ((reachM b ways nd).map bool)) _ (by
      unfold reachM
      rw [hbs]
      simp only [frz, closed, Bool.false_eq_true, if_false, hH7]
      rw [if_pos hl2, xwd hcb]
      rfl) y2'
    have h2 := VRep.cellsZ _ _ (x4h 1 bool (by omega) (fun _ => rfl) _) h1
    have hbase : C.base = w.heap.size := by rw [hC]
    have hw0 : C.w0 = w := by rw [hC]
    have hDb : w.heap.size ≤ D := by have := hS.heap.base; omega
    have hbel := hS2.heap.below
    rw [hw0, hbase] at hbel
    refine ⟨_, rfl, ⟨hbel.os, hbel.tape, hbel.output, by simpa [World.putObj] using hbel.size, fun k hk => (World.putObj_heap_other (by omega)).trans (hbel.block k hk)⟩, VRep.stab (E := Ec (Zc (Zall (Er Es (fun _ => False) E'.w)) E'.w) E'.w) (E' := Ec (fun b => w.heap.size ≤ b ∧ b < (E'.w.putObj D (.deferred none)).heap.size) (E'.w.putObj D (.deferred none))) ⟨fun _ h => h, fun _ h => h.elim, ?_⟩ _ _ h2⟩
    rintro b ⟨hb, ob, ho, hcb⟩
    have hne : b ≠ D := by
      rintro rfl
      have ho' : E'.w.heap[b]? = some ob := ho
      rw [hD2] at ho'; injection ho' with ho'; subst ho'; cases hcb
    refine ⟨?_, World.putObj_heap_other hne⟩
    have hsz : (E'.w.putObj D (.deferred none)).heap.size = E'.w.heap.size := by simp [World.putObj]
    show w.heap.size ≤ b ∧ b < (E'.w.putObj D (.deferred none)).heap.size
    rw [hsz]
    rcases hb with hb | ⟨l, c, hb⟩
    · exact hb.elim
    · have := A2.old l b c hb
      exact ⟨by omega, this.2⟩
def x2c (b : Branch) (ways : List Way) : Option (List Bool) :=
  (ck (b.nodes.length ≤ 281474976710656 ∧ ways.length < 4611686018427387904 ∧ (∀ w ∈ ways, 1 ≤ w.ino ∧ w.ino ≤ (b.nodes.length : Int)) ∧ (∀ w ∈ ways, (nodeAt b w.ino).isSome = true) ∧ ∀ w ∈ ways, ((nodeAt b w.ino).getD default).entries.length < 4611686018427387904)).bind fun _ =>
  some (reachM b ways fun w => (nodeAt b w.ino).getD default)
theorem xni (b : Branch) (ways : List Way) (tw : AV) (r : List Bool) (h : x2c b ways = some r) : OkN Tryz.prog 46 [.ptr (.agg [(sll 13 xj) b.nodes, (sll 3 encWay) ways, .junk, tw]) 0] (.sl 1 (r.map bool)) := by
  unfold x2c at h
  obtain ⟨u, h1, h2⟩ := Option.bind_eq_some_iff.1 h
  injection h2 with h2
  subst h2
  obtain ⟨g1, g2, g3, g4, g5⟩ := xss h1
  refine OkN.sub (xt3 b ways (fun w => (nodeAt b w.ino).getD default) g3 g1 g2 (fun w hw => ?_) g5) ?_
  · obtain ⟨x, hx⟩ := Option.isSome_iff_exists.1 (g4 w hw)
    rw [hx]; rfl
  · intro E vs hv
    simp only [x8b, VReps] at hv ⊢
    obtain ⟨u, us', hu, hr, e⟩ := hv
    refine ⟨u, us', ?_, hr, e⟩
    rw [VRep] at hu ⊢
    obtain ⟨v, b', o, k1, k2⟩ := hu
    refine ⟨v, b', o, ?_, k2⟩
    rw [VRep] at k1 ⊢
    obtain ⟨us, q1, q2⟩ := k1
    refine ⟨us, ?_, q2⟩
    simp only [VReps] at q1 ⊢
    obtain ⟨u1, v1, p1, ⟨u2, v2, p2, ⟨u3, v3, p3, ⟨u4, v4, p4, p5, p6⟩, p7⟩, p8⟩, p9⟩ := q1
    exact ⟨u1, v1, p1, ⟨u2, v2, p2, ⟨u3, v3, p3, ⟨u4, v4, by simp only [VRep], p5, p6⟩, p7⟩, p8⟩, p9⟩
end Go.Proofs.YtefdlpandfhcgaaGreatDoor.AL

/- Models of functions, and that the functions are as their models: written by gen.py. -/
set_option linter.all false
set_option maxRecDepth 100000
namespace Go.Proofs.YtefdlpandfhcgaaGreatDoor.AL
open Go Go.Proofs
def xvg (a0 : Branch) (v5 : List Way) (v8 : List (Int × Int)) (v17 : Int) : Option (List Way × List (Int × Int)) := if v17 < 1 then some (v5, v8)
 else if (a0.nodes.length : Int) < v17 then some (v5, v8)
 else (ix a0.nodes (wr (v17 - 1))).bind fun v103 => if v103.kind = 1 then if 0 < (mget v8 v17) then some (v5, v8)
 else (ap 32 v5 ([(⟨v17, (-1), xq⟩ : Way)] : List Way)).bind fun _ => some ((v5 ++ ([(⟨v17, (-1), xq⟩ : Way)] : List Way)), (mset v8 v17 (wr ((mget v8 v17) + 1))))
 else some (v5, v8)
def xxk  : Unit → Option (St (Unit) (Unit))
 | _ => some (.out ())
def xll  : Unit → Option (St (Unit) (Unit))
 | _ => some (.out ())
def x4d (a0 : Branch) (v25 : Int) (v40 : Way) (v53 : Node) : (Int × List Way × List Ar2_Int × List (Int × Int)) → Option (St (Int × List Way × List Ar2_Int × List (Int × Int)) (List Way × List (Int × Int) × List Ar2_Int))
 | (v57, v59, v61, v62) => if v57 < (v53.entries.length : Int) then (ix v53.entries v57).bind fun v71 => if v71.ino < 1 then some (.nx ((wr (v57 + 1)), v59, v61, v62))
 else if (a0.nodes.length : Int) < v71.ino then some (.nx ((wr (v57 + 1)), v59, v61, v62))
 else (ix a0.nodes (wr (v71.ino - 1))).bind fun v80 => if v80.kind = 1 then if 0 < (mget v62 v71.ino) then (ap 16 v61 ([(⟨v40.ino, v71.slot⟩ : Ar2_Int)] : List Ar2_Int)).bind fun _ => some (.nx ((wr (v57 + 1)), v59, (v61 ++ ([(⟨v40.ino, v71.slot⟩ : Ar2_Int)] : List Ar2_Int)), v62))
 else (ap 32 v59 ([(⟨v71.ino, v25, v71.name⟩ : Way)] : List Way)).bind fun _ => some (.nx ((wr (v57 + 1)), (v59 ++ ([(⟨v71.ino, v25, v71.name⟩ : Way)] : List Way)), v61, (mset v62 v71.ino (wr ((mget v62 v71.ino) + 1)))))
 else some (.nx ((wr (v57 + 1)), v59, v61, v62))
 else some (.out (v59, v62, v61))
def x7d (a0 : Branch) : (Int × List Way × List Ar2_Int × List (Int × Int)) → Option (St (Int × List Way × List Ar2_Int × List (Int × Int)) (List Way × List (Int × Int) × List Ar2_Int × Int))
 | (v25, v27, v29, v30) => if v25 < (v27.length : Int) then (ix v27 v25).bind fun v40 => if v40.ino < 1 then (iter (xxk) big ()).bind fun o => (match o with
 | _ => some (.nx ((wr (v25 + 1)), v27, v29, v30)))
 else if (a0.nodes.length : Int) < v40.ino then (iter (xll) big ()).bind fun o => (match o with
 | _ => some (.nx ((wr (v25 + 1)), v27, v29, v30)))
 else (ix a0.nodes (wr (v40.ino - 1))).bind fun v53 => (iter (x4d a0 v25 v40 v53) big (0, v27, v29, v30)).bind fun o => (match o with
 | (v65, v66, v68) => some (.nx ((wr (v25 + 1)), v65, v68, v66)))
 else some (.out (v27, v30, v29, v25))
def x3d (a0 : Branch) (a1 : List Int) : (Int × Int × List Way × List Ar2_Int × List (Int × Int)) → Option (St (Int × Int × List Way × List Ar2_Int × List (Int × Int)) (List Way × List (Int × Int) × List Ar2_Int))
 | (v2, v3, v5, v7, v8) => if v3 < (a1.length : Int) then (ix a1 v3).bind fun v17 => (xvg a0 v5 v8 v17).bind fun o => (match o with
 | (v22, v23) => (iter (x7d a0) (big + 1) (v2, v22, v7, v23)).bind fun o => (match o with
 | (v33, v34, v36, v37) => some (.nx (v37, (wr (v3 + 1)), v33, v36, v34))))
 else some (.out (v5, v8, v7))
def xmf (a0 : Branch) (a1 : List Int) : Option (List Bool) := (iter (x3d a0 a1) big (0, 0, [], [], ([] : List (Int × Int)))).bind fun o => (match o with
 | (v11, v12, v14) => (x2c a0 v11).bind fun v115 => some v115)
def xb := aI (aI (aI (aI (@EV) (aI (@R3) (@R4))) (aI (@R9) (aI (@R24) (@R26)))) (aI (aI (@R31) (aI (@R45) (@R52))) (aI (aI (@R53) (@R67)) (aI (@R82) (@R85))))) (aI (aI (aI (@R89) (aI (@R103) (@R108))) (aI (@R110) (aI (@R120) (@DBranch)))) (aI (aI (@DEntry) (aI (@DOrigin) (@DAttr))) (aI (aI (@DNode) (@DWay)) (aI (@xex) (@mixed)))))
set_option maxHeartbeats 2000000 in
theorem xrv (a0 : Branch) (a1 : List Int) (r : List Bool) (hm0 : xmf a0 a1 = some r) : Ok Tryz.prog 31 [xp a0, .sl 1 (a1.map int)] (.sl 1 (r.map bool)) := by
 unfold xmf at hm0
 refine okG xln ?_
 unfold xpk
 simp only [xb, ↓EVd, isCall, sevalprocAttr]
 refine xpg (acallF x1n (by simp) ?_) rfl
 unfold xrl
 obtain ⟨o0, ho0, hm0⟩ := bsE hm0
 simp only [xb, ↓EVd, isCall, sevalprocAttr]
 refine cwp_cx 0 (fun s => ∃ v11 : List Way, ∃ v12 : List (Int × Int), ∃ v14 : List Ar2_Int, ∃ l10 : Nat, ∃ l13 : Nat, (s.T 5 = .loc 12 4 0 0 ∧ s.H 0 = some (.row 26 1 [xp a0]) ∧ s.H 12 = some (.row 110 4 [.agg [.sl 13 (a0.nodes.map xj), .msl l10 v11.length, .mp 10, .msl l13 v14.length]]) ∧ s.H l10 = some (.row 85 3 (v11.map encWay)) ∧ s.H 10 = some (.map (v12.map (kI .i64)) (v12.map fun p => .val (.int .i64 p.2))) ∧ s.H l13 = some (.row 120 2 (v14.map xob)) ∧ Lq 0 s.nx ∧ Lq 12 s.nx ∧ Lq l10 s.nx ∧ Lq 10 s.nx ∧ Lq l13 s.nx ∧ Nq 0 l10 ∧ Nq 0 l13 ∧ Nq 12 l10 ∧ Nq 12 l13 ∧ Nq l10 10 ∧ Nq l10 l13 ∧ Nq 10 l13) ∧ (v11, v12, v14) = o0) ?_ fun J0_0 hJ0_0 => ?_
 · rintro T0 H0 x9 ⟨v11, v12, v14, l10, l13, kk0_0, rfl⟩
   dsimp only [Lq, Nq] at kk0_0
   try dsimp only at hm0
   obtain ⟨v115, h116, hm0⟩ := bsE hm0
   simp only [kk0_0, xb, ↓EVd, isCall, sevalprocAttr]
   refine qcn (xni a0 v11 _ _ h116) rfl (by simp only [kk0_0, FZ, CLO, xb, ↓EVd, isCall, sevalprocAttr]; first | done | rfl) ?_
   obtain rfl := Option.some.inj hm0
   simp only [kk0_0, xb, ↓EVd, isCall, sevalprocAttr]
   all_goals first | done | rfl | exact xc (by simp only [CLO])
 refine cwp_lp ho0 (fun (v2, v3, v5, v7, v8) s => ∃ l4 : Nat, ∃ l6 : Nat, s.T 5 = .loc 12 4 0 0 ∧ s.T 6 = int v2 ∧ s.T 13 = .sl 1 (a1.map int) ∧ s.T 14 = int (a1.length : Int) ∧ s.T 15 = int v3 ∧ s.H 0 = some (.row 26 1 [xp a0]) ∧ s.H 10 = some (.map (v8.map (kI .i64)) (v8.map fun p => .val (.int .i64 p.2))) ∧ s.H 12 = some (.row 110 4 [.agg [.sl 13 (a0.nodes.map xj), .msl l4 v5.length, .mp 10, .msl l6 v7.length]]) ∧ s.H l4 = some (.row 85 3 (v5.map encWay)) ∧ s.H l6 = some (.row 120 2 (v7.map xob)) ∧ Lq 0 s.nx ∧ Lq 10 s.nx ∧ Lq 12 s.nx ∧ Lq l4 s.nx ∧ Lq l6 s.nx ∧ Nq 0 l4 ∧ Nq 0 l6 ∧ Nq 10 l4 ∧ Nq 10 l6 ∧ Nq 12 l4 ∧ Nq 12 l6 ∧ Nq l4 l6) ?_ ?_
 · refine TI.by (Tn.adoptC 12 1 110 4 85 3 [.sl 13 (a0.nodes.map xj), nilS, .mp 10, nilS] (by simp only [xb, ↓EVd, isCall, sevalprocAttr]) rfl) ?_
   refine TI.by (Tn.adoptC 12 3 110 4 120 2 [.sl 13 (a0.nodes.map xj), .msl 18 ([] : List Way).length, .mp 10, nilS] (by simp only [xb, ↓EVd, isCall, sevalprocAttr]) rfl) ?_
   refine TI.here ⟨18, 19, ?_, ?_, ?_, ?_, ?_, ?_, ?_, ?_, ?_, ?_, ?_, ?_, ?_, ?_, ?_, ?_, ?_, ?_, ?_, ?_, ?_, ?_⟩
   all_goals try simp only [xb, ↓EVd, isCall, sevalprocAttr]
   all_goals first | omega | exact lq (by omega) | exact nq (by omega) | rfl | (congr 1; omega)
 rintro I0 ⟨v2, v3, v5, v7, v8⟩ T0 H0 x1 st0 ⟨l4, l6, kk0⟩ hm1 hI0 hO0
 dsimp only [Lq, Nq] at kk0
 simp only [x3d] at hm1
 rcases iteE hm1 with ⟨e16, hm1⟩ | ⟨e16, hm1⟩
 · obtain ⟨v17, e19, hm1⟩ := ixE int hm1
   obtain ⟨⟨v22, v23⟩, hp2, hm1⟩ := bsE hm1
   try dsimp only at hm1
   obtain ⟨o2, ho2, hm1⟩ := bsE hm1
   simp only [kk0, e16, e19, xb, ↓EVd, isCall, sevalprocAttr]
   refine cwp_cn (fun s => ∃ v33 : List Way, ∃ v34 : List (Int × Int), ∃ v36 : List Ar2_Int, ∃ v37 : Int, ∃ l32 : Nat, ∃ l35 : Nat, (s.T 5 = .loc 12 4 0 0 ∧ s.T 6 = int v37 ∧ s.T 13 = .sl 1 (a1.map int) ∧ s.T 14 = int (a1.length : Int) ∧ s.T 15 = int v3 ∧ s.H 0 = some (.row 26 1 [xp a0]) ∧ s.H 12 = some (.row 110 4 [.agg [.sl 13 (a0.nodes.map xj), .msl l32 v33.length, .mp 10, .msl l35 v36.length]]) ∧ s.H l32 = some (.row 85 3 (v33.map encWay)) ∧ s.H 10 = some (.map (v34.map (kI .i64)) (v34.map fun p => .val (.int .i64 p.2))) ∧ s.H l35 = some (.row 120 2 (v36.map xob)) ∧ Lq 0 s.nx ∧ Lq 12 s.nx ∧ Lq l32 s.nx ∧ Lq 10 s.nx ∧ Lq l35 s.nx ∧ Nq 0 l32 ∧ Nq 0 l35 ∧ Nq 12 l32 ∧ Nq 12 l35 ∧ Nq l32 10 ∧ Nq l32 l35 ∧ Nq 10 l35) ∧ (v33, v34, v36, v37) = o2) ?_ fun J2_0 hJ2_0 => ?_
   · rintro T2 H2 x31 ⟨v33, v34, v36, v37, l32, l35, kk2_0, rfl⟩
     dsimp only [Lq, Nq] at kk2_0
     try dsimp only at hm1
     obtain rfl := Option.some.inj hm1
     simp only [kk2_0, kk0, e16, e19, xb, ↓EVd, isCall, sevalprocAttr]
     refine TI.here (hI0 _ rfl _ ⟨l32, l35, ?_, ?_, ?_, ?_, ?_, ?_, ?_, ?_, ?_, ?_, ?_, ?_, ?_, ?_, ?_, ?_, ?_, ?_, ?_, ?_, ?_, ?_⟩)
     all_goals try simp only [kk2_0, kk0, e16, e19, xb, ↓EVd, isCall, sevalprocAttr]
     all_goals first | omega | exact lq (by omega) | exact nq (by omega) | rfl | (congr 1; omega)
   refine cwp_sl 0 ho2 (fun (v25, v27, v29, v30) s => ∃ l26 : Nat, ∃ l28 : Nat, s.T 5 = .loc 12 4 0 0 ∧ s.T 6 = int v25 ∧ s.T 13 = .sl 1 (a1.map int) ∧ s.T 14 = int (a1.length : Int) ∧ s.T 15 = int v3 ∧ s.H 0 = some (.row 26 1 [xp a0]) ∧ s.H 12 = some (.row 110 4 [.agg [.sl 13 (a0.nodes.map xj), .msl l26 v27.length, .mp 10, .msl l28 v29.length]]) ∧ s.H 10 = some (.map (v30.map (kI .i64)) (v30.map fun p => .val (.int .i64 p.2))) ∧ s.H l26 = some (.row 85 3 (v27.map encWay)) ∧ s.H l28 = some (.row 120 2 (v29.map xob)) ∧ Lq 0 s.nx ∧ Lq 12 s.nx ∧ Lq 10 s.nx ∧ Lq l26 s.nx ∧ Lq l28 s.nx ∧ Nq 0 l26 ∧ Nq 0 l28 ∧ Nq 12 l26 ∧ Nq 12 l28 ∧ Nq 10 l26 ∧ Nq 10 l28 ∧ Nq l26 l28) rfl ?_ ?_
   · intro K2 hK2
     have hm2 := hp2
     unfold xvg at hm2
     simp only [kk0, e16, e19, xb, ↓EVd, isCall, sevalprocAttr]
     refine xpg (acallF x2d (by simp) ?_) rfl
     unfold xdd
     rcases iteE hm2 with ⟨e98, hm2⟩ | ⟨e98, hm2⟩
     · have e99 : ((0 : Int) = 1) = False := by decide
       simp only [Option.some.injEq, Prod.mk.injEq] at hm2
       obtain ⟨rfl, rfl⟩ := hm2
       simp only [kk0, e16, e19, e98, e99, xb, ↓EVd, isCall, sevalprocAttr]
       apply hK2
       refine TI.here ⟨l4, l6, ?_, ?_, ?_, ?_, ?_, ?_, ?_, ?_, ?_, ?_, ?_, ?_, ?_, ?_, ?_, ?_, ?_, ?_, ?_, ?_, ?_, ?_⟩
       all_goals try simp only [kk0, e16, e19, e98, e99, xb, ↓EVd, isCall, sevalprocAttr]
       all_goals first | omega | exact lq (by omega) | exact nq (by omega) | rfl | (congr 1; omega)
     rcases iteE hm2 with ⟨e101, hm2⟩ | ⟨e101, hm2⟩
     · have e102 : ((0 : Int) = 1) = False := by decide
       simp only [Option.some.injEq, Prod.mk.injEq] at hm2
       obtain ⟨rfl, rfl⟩ := hm2
       simp only [kk0, e16, e19, e98, e101, e102, xb, ↓EVd, isCall, sevalprocAttr]
       apply hK2
       refine TI.here ⟨l4, l6, ?_, ?_, ?_, ?_, ?_, ?_, ?_, ?_, ?_, ?_, ?_, ?_, ?_, ?_, ?_, ?_, ?_, ?_, ?_, ?_, ?_, ?_⟩
       all_goals try simp only [kk0, e16, e19, e98, e101, e102, xb, ↓EVd, isCall, sevalprocAttr]
       all_goals first | omega | exact lq (by omega) | exact nq (by omega) | rfl | (congr 1; omega)
     obtain ⟨v103, e105, hm2⟩ := ixE xj hm2
     rcases iteE hm2 with ⟨e107, hm2⟩ | ⟨e107, hm2⟩
     · have e108 : (.agg [int v17, int (-1), str xq] : AV) = encWay (⟨v17, (-1), xq⟩ : Way) := _root_.id rfl
       simp only [kk0, e16, e19, e98, e101, e105, e107, e108, xb, ↓EVd, isCall, sevalprocAttr]
       refine xpg (acallF xxg (by simp) ?_) rfl
       unfold xgf
       rcases iteE hm2 with ⟨e110, hm2⟩ | ⟨e110, hm2⟩
       · simp only [Option.some.injEq, Prod.mk.injEq] at hm2
         obtain ⟨rfl, rfl⟩ := hm2
         simp only [kk0, e16, e19, e98, e101, e105, e107, e108, e110, xb, ↓EVd, isCall, sevalprocAttr]
         apply hK2
         refine TI.here ⟨l4, l6, ?_, ?_, ?_, ?_, ?_, ?_, ?_, ?_, ?_, ?_, ?_, ?_, ?_, ?_, ?_, ?_, ?_, ?_, ?_, ?_, ?_, ?_⟩
         all_goals try simp only [kk0, e16, e19, e98, e101, e105, e107, e108, e110, xb, ↓EVd, isCall, sevalprocAttr]
         all_goals first | omega | exact lq (by omega) | exact nq (by omega) | rfl | (congr 1; omega)
       obtain ⟨e113, hm2⟩ := apE hm2
       try simp only [ZL] at e113
       simp only [Option.some.injEq, Prod.mk.injEq] at hm2
       obtain ⟨rfl, rfl⟩ := hm2
       simp only [kk0, e16, e19, e98, e101, e105, e107, e108, e110, e113, xb, ↓EVd, isCall, sevalprocAttr]
       apply hK2
       refine TI.here ⟨(x1 + 62), l6, ?_, ?_, ?_, ?_, ?_, ?_, ?_, ?_, ?_, ?_, ?_, ?_, ?_, ?_, ?_, ?_, ?_, ?_, ?_, ?_, ?_, ?_⟩
       all_goals try simp only [kk0, e16, e19, e98, e101, e105, e107, e108, e110, e113, xb, ↓EVd, isCall, sevalprocAttr]
       all_goals first | omega | exact lq (by omega) | exact nq (by omega) | rfl | (congr 1; omega)
     simp only [Option.some.injEq, Prod.mk.injEq] at hm2
     obtain ⟨rfl, rfl⟩ := hm2
     simp only [kk0, e16, e19, e98, e101, e105, e107, xb, ↓EVd, isCall, sevalprocAttr]
     apply hK2
     refine TI.here ⟨l4, l6, ?_, ?_, ?_, ?_, ?_, ?_, ?_, ?_, ?_, ?_, ?_, ?_, ?_, ?_, ?_, ?_, ?_, ?_, ?_, ?_, ?_, ?_⟩
     all_goals try simp only [kk0, e16, e19, e98, e101, e105, e107, xb, ↓EVd, isCall, sevalprocAttr]
     all_goals first | omega | exact lq (by omega) | exact nq (by omega) | rfl | (congr 1; omega)
   rintro I2 ⟨v25, v27, v29, v30⟩ T2 H2 x24 st2 ⟨l26, l28, kk2⟩ hm2 hI2 hO2
   dsimp only [Lq, Nq] at kk2
   simp only [x7d] at hm2
   rcases iteE hm2 with ⟨e39, hm2⟩ | ⟨e39, hm2⟩
   · simp only [kk2, kk0, e16, e19, e39, xb, ↓EVd, isCall, sevalprocAttr]
     refine xpg (acallF xzi (by simp) ?_) rfl
     unfold x2g
     obtain ⟨v40, e42, hm2⟩ := ixE encWay hm2
     simp only [kk2, kk0, e16, e19, e39, e42, xb, ↓EVd, isCall, sevalprocAttr]
     refine xpg (acallF x2d (by simp) ?_) rfl
     unfold xdd
     rcases iteE hm2 with ⟨e44, hm2⟩ | ⟨e44, hm2⟩
     · obtain ⟨o3, ho3, hm2⟩ := bsE hm2
       simp only [kk2, kk0, e16, e19, e39, e42, e44, xb, ↓EVd, isCall, sevalprocAttr]
       refine cwp_cx 0 (fun s => (s.H 0 = some (.row 26 1 [xp a0]) ∧ s.H 12 = some (.row 110 4 [.agg [.sl 13 (a0.nodes.map xj), .msl l26 v27.length, .mp 10, .msl l28 v29.length]]) ∧ s.H l26 = some (.row 85 3 (v27.map encWay)) ∧ s.H 10 = some (.map (v30.map (kI .i64)) (v30.map fun p => .val (.int .i64 p.2))) ∧ s.H l28 = some (.row 120 2 (v29.map xob)) ∧ Lq 0 s.nx ∧ Lq 12 s.nx ∧ Lq l26 s.nx ∧ Lq 10 s.nx ∧ Lq l28 s.nx ∧ Nq 0 l26 ∧ Nq 0 l28 ∧ Nq 12 l26 ∧ Nq 12 l28 ∧ Nq l26 10 ∧ Nq l26 l28 ∧ Nq 10 l28) ∧ () = o3) ?_ fun J3_0 hJ3_0 => ?_
       · rintro T3 H3 x46 ⟨kk3_0, rfl⟩
         dsimp only [Lq, Nq] at kk3_0
         try dsimp only at hm2
         obtain rfl := Option.some.inj hm2
         simp only [kk3_0, kk2, kk0, e16, e19, e39, e42, e44, xb, ↓EVd, isCall, sevalprocAttr]
         refine TI.here (hI2 _ rfl _ ⟨l26, l28, ?_, ?_, ?_, ?_, ?_, ?_, ?_, ?_, ?_, ?_, ?_, ?_, ?_, ?_, ?_, ?_, ?_, ?_, ?_, ?_, ?_, ?_⟩)
         all_goals try simp only [kk3_0, kk2, kk0, e16, e19, e39, e42, e44, xb, ↓EVd, isCall, sevalprocAttr]
         all_goals first | omega | exact lq (by omega) | exact nq (by omega) | rfl | (congr 1; omega)
       refine cwp_lp ho3 (fun (_ : Unit) s => s.T 0 = .loc 12 4 0 0 ∧ s.T 1 = int v25 ∧ s.T 4 = int v40.ino ∧ s.T 18 = nilS ∧ s.T 19 = int 0 ∧ s.T 20 = int 0 ∧ s.H 0 = some (.row 26 1 [xp a0]) ∧ s.H 12 = some (.row 110 4 [.agg [.sl 13 (a0.nodes.map xj), .msl l26 v27.length, .mp 10, .msl l28 v29.length]]) ∧ s.H 10 = some (.map (v30.map (kI .i64)) (v30.map fun p => .val (.int .i64 p.2))) ∧ s.H l26 = some (.row 85 3 (v27.map encWay)) ∧ s.H l28 = some (.row 120 2 (v29.map xob)) ∧ Lq 0 s.nx ∧ Lq 12 s.nx ∧ Lq 10 s.nx ∧ Lq l26 s.nx ∧ Lq l28 s.nx ∧ Nq 0 l26 ∧ Nq 0 l28 ∧ Nq 12 l26 ∧ Nq 12 l28 ∧ Nq 10 l26 ∧ Nq 10 l28 ∧ Nq l26 l28) ?_ ?_
       · refine TI.here ⟨?_, ?_, ?_, ?_, ?_, ?_, ?_, ?_, ?_, ?_, ?_, ?_, ?_, ?_, ?_, ?_, ?_, ?_, ?_, ?_, ?_, ?_, ?_⟩
         all_goals try simp only [kk2, kk0, e16, e19, e39, e42, e44, xb, ↓EVd, isCall, sevalprocAttr]
         all_goals first | omega | exact lq (by omega) | exact nq (by omega) | rfl | (congr 1; omega)
       rintro I3 _ T3 H3 x45 st3 kk3 hm3 hI3 hO3
       dsimp only [Lq, Nq] at kk3
       simp only [xxk] at hm3
       have e47 : ((0 : Int) < 0) = False := by decide
       obtain rfl := Option.some.inj hm3
       simp only [kk3, kk2, kk0, e16, e19, e39, e42, e44, e47, xb, ↓EVd, isCall, sevalprocAttr]
       refine TI.here (hJ3_0 _ ⟨⟨?_, ?_, ?_, ?_, ?_, ?_, ?_, ?_, ?_, ?_, ?_, ?_, ?_, ?_, ?_, ?_, ?_⟩, hO3 _ rfl⟩)
       all_goals try simp only [kk3, kk2, kk0, e16, e19, e39, e42, e44, e47, xb, ↓EVd, isCall, sevalprocAttr]
       all_goals first | omega | exact lq (by omega) | exact nq (by omega) | rfl | (congr 1; omega)
     rcases iteE hm2 with ⟨e49, hm2⟩ | ⟨e49, hm2⟩
     · obtain ⟨o4, ho4, hm2⟩ := bsE hm2
       simp only [kk2, kk0, e16, e19, e39, e42, e44, e49, xb, ↓EVd, isCall, sevalprocAttr]
       refine cwp_cx 0 (fun s => (s.H 0 = some (.row 26 1 [xp a0]) ∧ s.H 12 = some (.row 110 4 [.agg [.sl 13 (a0.nodes.map xj), .msl l26 v27.length, .mp 10, .msl l28 v29.length]]) ∧ s.H l26 = some (.row 85 3 (v27.map encWay)) ∧ s.H 10 = some (.map (v30.map (kI .i64)) (v30.map fun p => .val (.int .i64 p.2))) ∧ s.H l28 = some (.row 120 2 (v29.map xob)) ∧ Lq 0 s.nx ∧ Lq 12 s.nx ∧ Lq l26 s.nx ∧ Lq 10 s.nx ∧ Lq l28 s.nx ∧ Nq 0 l26 ∧ Nq 0 l28 ∧ Nq 12 l26 ∧ Nq 12 l28 ∧ Nq l26 10 ∧ Nq l26 l28 ∧ Nq 10 l28) ∧ () = o4) ?_ fun J4_0 hJ4_0 => ?_
       · rintro T4 H4 x51 ⟨kk4_0, rfl⟩
         dsimp only [Lq, Nq] at kk4_0
         try dsimp only at hm2
         obtain rfl := Option.some.inj hm2
         simp only [kk4_0, kk2, kk0, e16, e19, e39, e42, e44, e49, xb, ↓EVd, isCall, sevalprocAttr]
         refine TI.here (hI2 _ rfl _ ⟨l26, l28, ?_, ?_, ?_, ?_, ?_, ?_, ?_, ?_, ?_, ?_, ?_, ?_, ?_, ?_, ?_, ?_, ?_, ?_, ?_, ?_, ?_, ?_⟩)
         all_goals try simp only [kk4_0, kk2, kk0, e16, e19, e39, e42, e44, e49, xb, ↓EVd, isCall, sevalprocAttr]
         all_goals first | omega | exact lq (by omega) | exact nq (by omega) | rfl | (congr 1; omega)
       refine cwp_lp ho4 (fun (_ : Unit) s => s.T 0 = .loc 12 4 0 0 ∧ s.T 1 = int v25 ∧ s.T 4 = int v40.ino ∧ s.T 18 = nilS ∧ s.T 19 = int 0 ∧ s.T 20 = int 0 ∧ s.H 0 = some (.row 26 1 [xp a0]) ∧ s.H 12 = some (.row 110 4 [.agg [.sl 13 (a0.nodes.map xj), .msl l26 v27.length, .mp 10, .msl l28 v29.length]]) ∧ s.H 10 = some (.map (v30.map (kI .i64)) (v30.map fun p => .val (.int .i64 p.2))) ∧ s.H l26 = some (.row 85 3 (v27.map encWay)) ∧ s.H l28 = some (.row 120 2 (v29.map xob)) ∧ Lq 0 s.nx ∧ Lq 12 s.nx ∧ Lq 10 s.nx ∧ Lq l26 s.nx ∧ Lq l28 s.nx ∧ Nq 0 l26 ∧ Nq 0 l28 ∧ Nq 12 l26 ∧ Nq 12 l28 ∧ Nq 10 l26 ∧ Nq 10 l28 ∧ Nq l26 l28) ?_ ?_
       · refine TI.here ⟨?_, ?_, ?_, ?_, ?_, ?_, ?_, ?_, ?_, ?_, ?_, ?_, ?_, ?_, ?_, ?_, ?_, ?_, ?_, ?_, ?_, ?_, ?_⟩
         all_goals try simp only [kk2, kk0, e16, e19, e39, e42, e44, e49, xb, ↓EVd, isCall, sevalprocAttr]
         all_goals first | omega | exact lq (by omega) | exact nq (by omega) | rfl | (congr 1; omega)
       rintro I4 _ T4 H4 x50 st4 kk4 hm3 hI4 hO4
       dsimp only [Lq, Nq] at kk4
       simp only [xll] at hm3
       have e52 : ((0 : Int) < 0) = False := by decide
       obtain rfl := Option.some.inj hm3
       simp only [kk4, kk2, kk0, e16, e19, e39, e42, e44, e49, e52, xb, ↓EVd, isCall, sevalprocAttr]
       refine TI.here (hJ4_0 _ ⟨⟨?_, ?_, ?_, ?_, ?_, ?_, ?_, ?_, ?_, ?_, ?_, ?_, ?_, ?_, ?_, ?_, ?_⟩, hO4 _ rfl⟩)
       all_goals try simp only [kk4, kk2, kk0, e16, e19, e39, e42, e44, e49, e52, xb, ↓EVd, isCall, sevalprocAttr]
       all_goals first | omega | exact lq (by omega) | exact nq (by omega) | rfl | (congr 1; omega)
     obtain ⟨v53, e55, hm2⟩ := ixE xj hm2
     obtain ⟨o5, ho5, hm2⟩ := bsE hm2
     simp only [kk2, kk0, e16, e19, e39, e42, e44, e49, e55, xb, ↓EVd, isCall, sevalprocAttr]
     refine cwp_cx 0 (fun s => ∃ v65 : List Way, ∃ v66 : List (Int × Int), ∃ v68 : List Ar2_Int, ∃ l64 : Nat, ∃ l67 : Nat, (s.H 0 = some (.row 26 1 [xp a0]) ∧ s.H 12 = some (.row 110 4 [.agg [.sl 13 (a0.nodes.map xj), .msl l64 v65.length, .mp 10, .msl l67 v68.length]]) ∧ s.H l64 = some (.row 85 3 (v65.map encWay)) ∧ s.H 10 = some (.map (v66.map (kI .i64)) (v66.map fun p => .val (.int .i64 p.2))) ∧ s.H l67 = some (.row 120 2 (v68.map xob)) ∧ Lq 0 s.nx ∧ Lq 12 s.nx ∧ Lq l64 s.nx ∧ Lq 10 s.nx ∧ Lq l67 s.nx ∧ Nq 0 l64 ∧ Nq 0 l67 ∧ Nq 12 l64 ∧ Nq 12 l67 ∧ Nq l64 10 ∧ Nq l64 l67 ∧ Nq 10 l67) ∧ (v65, v66, v68) = o5) ?_ fun J5_0 hJ5_0 => ?_
     · rintro T5 H5 x63 ⟨v65, v66, v68, l64, l67, kk5_0, rfl⟩
       dsimp only [Lq, Nq] at kk5_0
       try dsimp only at hm2
       obtain rfl := Option.some.inj hm2
       simp only [kk5_0, kk2, kk0, e16, e19, e39, e42, e44, e49, e55, xb, ↓EVd, isCall, sevalprocAttr]
       refine TI.here (hI2 _ rfl _ ⟨l64, l67, ?_, ?_, ?_, ?_, ?_, ?_, ?_, ?_, ?_, ?_, ?_, ?_, ?_, ?_, ?_, ?_, ?_, ?_, ?_, ?_, ?_, ?_⟩)
       all_goals try simp only [kk5_0, kk2, kk0, e16, e19, e39, e42, e44, e49, e55, xb, ↓EVd, isCall, sevalprocAttr]
       all_goals first | omega | exact lq (by omega) | exact nq (by omega) | rfl | (congr 1; omega)
     refine cwp_lp ho5 (fun (v57, v59, v61, v62) s => ∃ l58 : Nat, ∃ l60 : Nat, s.T 0 = .loc 12 4 0 0 ∧ s.T 1 = int v25 ∧ s.T 4 = int v40.ino ∧ s.T 18 = .sl 3 (v53.entries.map xd) ∧ s.T 19 = int (v53.entries.length : Int) ∧ s.T 20 = int v57 ∧ s.H 0 = some (.row 26 1 [xp a0]) ∧ s.H 12 = some (.row 110 4 [.agg [.sl 13 (a0.nodes.map xj), .msl l58 v59.length, .mp 10, .msl l60 v61.length]]) ∧ s.H 10 = some (.map (v62.map (kI .i64)) (v62.map fun p => .val (.int .i64 p.2))) ∧ s.H l58 = some (.row 85 3 (v59.map encWay)) ∧ s.H l60 = some (.row 120 2 (v61.map xob)) ∧ Lq 0 s.nx ∧ Lq 12 s.nx ∧ Lq 10 s.nx ∧ Lq l58 s.nx ∧ Lq l60 s.nx ∧ Nq 0 l58 ∧ Nq 0 l60 ∧ Nq 12 l58 ∧ Nq 12 l60 ∧ Nq 10 l58 ∧ Nq 10 l60 ∧ Nq l58 l60) ?_ ?_
     · refine TI.here ⟨l26, l28, ?_, ?_, ?_, ?_, ?_, ?_, ?_, ?_, ?_, ?_, ?_, ?_, ?_, ?_, ?_, ?_, ?_, ?_, ?_, ?_, ?_, ?_, ?_⟩
       all_goals try simp only [kk2, kk0, e16, e19, e39, e42, e44, e49, e55, xb, ↓EVd, isCall, sevalprocAttr]
       all_goals first | omega | exact lq (by omega) | exact nq (by omega) | rfl | (congr 1; omega)
     rintro I5 ⟨v57, v59, v61, v62⟩ T5 H5 x56 st5 ⟨l58, l60, kk5⟩ hm3 hI5 hO5
     dsimp only [Lq, Nq] at kk5
     simp only [x4d] at hm3
     rcases iteE hm3 with ⟨e70, hm3⟩ | ⟨e70, hm3⟩
     · obtain ⟨v71, e73, hm3⟩ := ixE xd hm3
       simp only [kk5, kk2, kk0, e16, e19, e39, e42, e44, e49, e55, e70, e73, xb, ↓EVd, isCall, sevalprocAttr]
       refine xpg (acallF x2d (by simp) ?_) rfl
       unfold xdd
       have g117 := And.intro (And.intro (And.intro ((e16)) ((e19))) (And.intro ((e39)) ((e42)))) (And.intro (And.intro ((e44)) ((e49))) (And.intro ((e55)) (And.intro ((e70)) ((e73)))))
       rcases iteE hm3 with ⟨e75, hm3⟩ | ⟨e75, hm3⟩
       · have e76 : ((0 : Int) = 1) = False := by decide
         obtain rfl := Option.some.inj hm3
         simp only [kk5, kk2, kk0, g117, e75, e76, xb, ↓EVd, isCall, sevalprocAttr]
         refine TI.here (hI5 _ rfl _ ⟨l58, l60, ?_, ?_, ?_, ?_, ?_, ?_, ?_, ?_, ?_, ?_, ?_, ?_, ?_, ?_, ?_, ?_, ?_, ?_, ?_, ?_, ?_, ?_, ?_⟩)
         all_goals try simp only [kk5, kk2, kk0, g117, e75, e76, xb, ↓EVd, isCall, sevalprocAttr]
         all_goals first | omega | exact lq (by omega) | exact nq (by omega) | rfl | (congr 1; omega)
       rcases iteE hm3 with ⟨e78, hm3⟩ | ⟨e78, hm3⟩
       · have e79 : ((0 : Int) = 1) = False := by decide
         obtain rfl := Option.some.inj hm3
         simp only [kk5, kk2, kk0, g117, e75, e78, e79, xb, ↓EVd, isCall, sevalprocAttr]
         refine TI.here (hI5 _ rfl _ ⟨l58, l60, ?_, ?_, ?_, ?_, ?_, ?_, ?_, ?_, ?_, ?_, ?_, ?_, ?_, ?_, ?_, ?_, ?_, ?_, ?_, ?_, ?_, ?_, ?_⟩)
         all_goals try simp only [kk5, kk2, kk0, g117, e75, e78, e79, xb, ↓EVd, isCall, sevalprocAttr]
         all_goals first | omega | exact lq (by omega) | exact nq (by omega) | rfl | (congr 1; omega)
       obtain ⟨v80, e82, hm3⟩ := ixE xj hm3
       rcases iteE hm3 with ⟨e84, hm3⟩ | ⟨e84, hm3⟩
       · have e85 : (.agg [int v71.ino, int v25, str v71.name] : AV) = encWay (⟨v71.ino, v25, v71.name⟩ : Way) := _root_.id rfl
         simp only [kk5, kk2, kk0, g117, e75, e78, e82, e84, e85, xb, ↓EVd, isCall, sevalprocAttr]
         refine xpg (acallF xxg (by simp) ?_) rfl
         unfold xgf
         rcases iteE hm3 with ⟨e87, hm3⟩ | ⟨e87, hm3⟩
         · have e88 : (.agg [int v40.ino, int v71.slot] : AV) = xob (⟨v40.ino, v71.slot⟩ : Ar2_Int) := _root_.id rfl
           obtain ⟨e91, hm3⟩ := apE hm3
           try simp only [ZL] at e91
           obtain rfl := Option.some.inj hm3
           simp only [kk5, kk2, kk0, g117, e75, e78, e82, e84, e85, e87, e88, e91, xb, ↓EVd, isCall, sevalprocAttr]
           refine TI.here (hI5 _ rfl _ ⟨l58, (x56 + 66), ?_, ?_, ?_, ?_, ?_, ?_, ?_, ?_, ?_, ?_, ?_, ?_, ?_, ?_, ?_, ?_, ?_, ?_, ?_, ?_, ?_, ?_, ?_⟩)
           all_goals try simp only [kk5, kk2, kk0, g117, e75, e78, e82, e84, e85, e87, e88, e91, xb, ↓EVd, isCall, sevalprocAttr]
           all_goals first | omega | exact lq (by omega) | exact nq (by omega) | rfl | (congr 1; omega)
         obtain ⟨e95, hm3⟩ := apE hm3
         try simp only [ZL] at e95
         obtain rfl := Option.some.inj hm3
         simp only [kk5, kk2, kk0, g117, e75, e78, e82, e84, e85, e87, e95, xb, ↓EVd, isCall, sevalprocAttr]
         refine TI.here (hI5 _ rfl _ ⟨(x56 + 71), l60, ?_, ?_, ?_, ?_, ?_, ?_, ?_, ?_, ?_, ?_, ?_, ?_, ?_, ?_, ?_, ?_, ?_, ?_, ?_, ?_, ?_, ?_, ?_⟩)
         all_goals try simp only [kk5, kk2, kk0, g117, e75, e78, e82, e84, e85, e87, e95, xb, ↓EVd, isCall, sevalprocAttr]
         all_goals first | omega | exact lq (by omega) | exact nq (by omega) | rfl | (congr 1; omega)
       obtain rfl := Option.some.inj hm3
       simp only [kk5, kk2, kk0, g117, e75, e78, e82, e84, xb, ↓EVd, isCall, sevalprocAttr]
       refine TI.here (hI5 _ rfl _ ⟨l58, l60, ?_, ?_, ?_, ?_, ?_, ?_, ?_, ?_, ?_, ?_, ?_, ?_, ?_, ?_, ?_, ?_, ?_, ?_, ?_, ?_, ?_, ?_, ?_⟩)
       all_goals try simp only [kk5, kk2, kk0, g117, e75, e78, e82, e84, xb, ↓EVd, isCall, sevalprocAttr]
       all_goals first | omega | exact lq (by omega) | exact nq (by omega) | rfl | (congr 1; omega)
     obtain rfl := Option.some.inj hm3
     simp only [kk5, kk2, kk0, e16, e19, e39, e42, e44, e49, e55, e70, xb, ↓EVd, isCall, sevalprocAttr]
     refine TI.here (hJ5_0 _ ⟨v59, v62, v61, l58, l60, ⟨?_, ?_, ?_, ?_, ?_, ?_, ?_, ?_, ?_, ?_, ?_, ?_, ?_, ?_, ?_, ?_, ?_⟩, hO5 _ rfl⟩)
     all_goals try simp only [kk5, kk2, kk0, e16, e19, e39, e42, e44, e49, e55, e70, xb, ↓EVd, isCall, sevalprocAttr]
     all_goals first | omega | exact lq (by omega) | exact nq (by omega) | rfl | (congr 1; omega)
   obtain rfl := Option.some.inj hm2
   simp only [kk2, kk0, e16, e19, e39, xb, ↓EVd, isCall, sevalprocAttr]
   refine TI.here (hJ2_0 _ ⟨v27, v30, v29, v25, l26, l28, ⟨?_, ?_, ?_, ?_, ?_, ?_, ?_, ?_, ?_, ?_, ?_, ?_, ?_, ?_, ?_, ?_, ?_, ?_, ?_, ?_, ?_, ?_⟩, hO2 _ rfl⟩)
   all_goals try simp only [kk2, kk0, e16, e19, e39, xb, ↓EVd, isCall, sevalprocAttr]
   all_goals first | omega | exact lq (by omega) | exact nq (by omega) | rfl | (congr 1; omega)
 obtain rfl := Option.some.inj hm1
 simp only [kk0, e16, xb, ↓EVd, isCall, sevalprocAttr]
 refine TI.here (hJ0_0 _ ⟨v5, v8, v7, l4, l6, ⟨?_, ?_, ?_, ?_, ?_, ?_, ?_, ?_, ?_, ?_, ?_, ?_, ?_, ?_, ?_, ?_, ?_, ?_⟩, hO0 _ rfl⟩)
 all_goals try simp only [kk0, e16, xb, ↓EVd, isCall, sevalprocAttr]
 all_goals first | omega | exact lq (by omega) | exact nq (by omega) | rfl | (congr 1; omega)
end Go.Proofs.YtefdlpandfhcgaaGreatDoor.AL

/- Plain laws, part 1: loops; the walk. -/
set_option linter.all false
namespace Go.Proofs.YtefdlpandfhcgaaGreatDoor.AL
open Go Go.Proofs
def seenB (ways : List Way) (ino : Int) : Bool := ways.any fun w => decide (w.ino = ino)
abbrev WS := List Way × List Ar2_Int
def eStep (b : Branch) (k : Nat) (ino : Int) (s : WS) (e : Entry) : WS :=
  if (nodeP b e.ino).kind = 1 then if seenB s.1 e.ino = true then (s.1, s.2 ++ [⟨ino, e.slot⟩]) else (s.1 ++ [⟨e.ino, k, e.name⟩], s.2) else s
def wIno (s : WS) (k : Nat) : Int := ((s.1[k]?).getD default).ino
def wStep (b : Branch) (k : Nat) (s : WS) : WS := (nodeP b (wIno s k)).entries.foldl (eStep b k (wIno s k)) s
def wLoop (b : Branch) (k : Nat) (s : WS) : Nat × WS := wl (wStep b) (fun s => s.1.length) 25 k s
def fStep (b : Branch) (t : Nat × WS) (r : Int) : Nat × WS :=
  if (nodeP b r).kind = 1 ∧ seenB t.2.1 r = false then wLoop b t.1 (t.2.1 ++ [⟨r, -1, xq⟩], t.2.2) else t
def walkP (b : Branch) (fr : List Int) : Nat × WS := fr.foldl (fStep b) (0, [], [])
structure WI (b : Branch) (ways : List Way) : Prop where
  nd : (ways.map (·.ino)).Nodup
  dir : ∀ w ∈ ways, (nodeP b w.ino).kind = 1
theorem x3o : ∀ (n : Nat) (l : List Nat), l.Nodup → (∀ x ∈ l, x < n) → l.length ≤ n
  | 0, l, _, h => by
    cases l with
    | nil => simp
    | cons x l => have := h x (by simp); omega
  | n + 1, l, hd, h => by
    have h1 := x3o n (l.erase n) (hd.erase n) (fun x hx => by
      have := (List.Nodup.mem_erase_iff hd).1 hx
      have := h x this.2
      omega)
    have := List.length_erase (a := n) (l := l)
    split at this <;> omega
theorem WI.len {b : Branch} {ways : List Way} (h : WI b ways) : ways.length ≤ b.nodes.length := by
  have h1 : (ways.map fun w => (w.ino - 1).toNat).Nodup := by
    refine List.pairwise_map.2 (List.Pairwise.imp_of_mem ?_ (List.pairwise_map.1 h.nd))
    intro x y hx hy hne e
    have := xnh (h.dir x hx)
    have := xnh (h.dir y hy)
    omega
  have := x3o b.nodes.length _ h1 (fun x hx => by
    obtain ⟨w, hw, rfl⟩ := List.mem_map.1 hx
    have := xnh (h.dir w hw)
    omega)
  simpa using this
theorem x8n {ways : List Way} {ino : Int} : seenB ways ino = true ↔ ∃ w ∈ ways, w.ino = ino := by simp [seenB]
theorem WI.push {b : Branch} {ways : List Way} (h : WI b ways) {w : Way} (hk : (nodeP b w.ino).kind = 1) (hs : seenB ways w.ino = false) : WI b (ways ++ [w]) := by
  refine ⟨?_, ?_⟩
  · rw [List.map_append, List.map_cons, List.map_nil]
    refine List.nodup_append.2 ⟨h.nd, by simp, ?_⟩
    intro x hx y hy e
    simp only [List.mem_singleton] at hy
    subst hy; subst e
    obtain ⟨w', hw', e⟩ := List.mem_map.1 hx
    have : seenB ways w.ino = true := x8n.2 ⟨w', hw', e⟩
    rw [hs] at this; cases this
  · intro x hx
    rcases List.mem_append.1 hx with hx | hx
    · exact h.dir x hx
    · simp only [List.mem_singleton] at hx; subst hx; exact hk
theorem x7o {b : Branch} {k : Nat} {ino : Int} {s : WS} {e : Entry} (h : WI b s.1) : WI b (eStep b k ino s e).1 ∧ s.1.length ≤ (eStep b k ino s e).1.length ∧ (eStep b k ino s e).2.length ≤ s.2.length + 1 ∧ (∀ j, j < s.1.length → (eStep b k ino s e).1[j]? = s.1[j]?) := by
  unfold eStep
  split
  · rename_i hk
    split
    · exact ⟨h, Nat.le_refl _, by simp, fun _ _ => rfl⟩
    · rename_i hs
      refine ⟨h.push (w := ⟨e.ino, k, e.name⟩) hk (by simpa using hs), by simp, by simp, fun j hj => List.getElem?_append_left hj⟩
  · exact ⟨h, Nat.le_refl _, by omega, fun _ _ => rfl⟩
theorem xru {b : Branch} {k : Nat} {ino : Int} : ∀ (es : List Entry) {s : WS}, WI b s.1 → WI b (es.foldl (eStep b k ino) s).1 ∧ s.1.length ≤ (es.foldl (eStep b k ino) s).1.length ∧ (es.foldl (eStep b k ino) s).2.length ≤ s.2.length + es.length ∧ (∀ j, j < s.1.length → (es.foldl (eStep b k ino) s).1[j]? = s.1[j]?)
  | [], s, h => ⟨h, Nat.le_refl _, by simp, fun _ _ => rfl⟩
  | e :: es, s, h => by
    obtain ⟨a1, a2, a3, a4⟩ := x7o (k := k) (ino := ino) (e := e) h
    obtain ⟨b1, b2, b3, b4⟩ := xru es (k := k) (ino := ino) (s := eStep b k ino s e) a1
    rw [List.foldl_cons]
    exact ⟨b1, by omega, by simp only [List.length_cons]; omega, fun j hj => (b4 j (by omega)).trans (a4 j hj)⟩
structure LI (b : Branch) (k : Nat) (s : WS) : Prop where
  wi : WI b s.1
  at' : k ≤ s.1.length
  tw : s.2.length ≤ 16 * k
theorem xil {b : Branch} (hb : PB b) {k : Nat} {s : WS} (h : LI b k s) (hk : k < s.1.length) : LI b (k + 1) (wStep b k s) := by
  obtain ⟨a1, a2, a3, a4⟩ := xru (b := b) (k := k) (ino := wIno s k) (nodeP b (wIno s k)).entries h.wi
  have := xjh hb (wIno s k)
  have := h.tw
  refine ⟨a1, ?_, ?_⟩
  · unfold wStep; omega
  · unfold wStep; omega
theorem xsu {b : Branch} (hb : PB b) : ∀ (f k : Nat) (s : WS), LI b k s → LI b (wl (wStep b) (fun s => s.1.length) f k s).1 (wl (wStep b) (fun s => s.1.length) f k s).2
  | 0, k, s, h => h
  | f + 1, k, s, h => by
    unfold wl
    split
    · rename_i hk; exact xsu hb f (k + 1) _ (xil hb h hk)
    · exact h
theorem xbx {ways : List Way} (hw : ways.length ≤ 24) (ino : Int) : ∃ r, xye ways ino = some r ∧ (0 ≤ r ↔ seenB ways ino = true) := by
  unfold xye
  have key := xyf (B := xue ways ino) (R := fun r => match r with | .inl _ => seenB ways ino = false | .inr i => 0 ≤ i ∧ seenB ways ino = true)
    (fun i s => s = (i : Int) ∧ i ≤ ways.length ∧ ∀ j (h : j < ways.length), j < i → ways[j].ino ≠ ino) ways.length (by
    rintro i s ⟨rfl, hi, hj⟩
    refine ⟨hi, ?_⟩
    by_cases hlt : i < ways.length
    · simp only [xue]
      rw [if_pos (by omega), ix_at hlt]
      simp only [Option.bind_some]
      by_cases he : ways[i].ino = ino
      · rw [if_pos he]
        exact .inr ⟨_, rfl, by omega, x8n.2 ⟨_, List.getElem_mem hlt, he⟩⟩
      · rw [if_neg he, wr_suc (by omega)]
        refine .inl ⟨_, rfl, rfl, by omega, fun j h hj' => ?_⟩
        by_cases e : j = i
        · subst e; exact he
        · exact hj j h (by omega)
    · simp only [xue]
      rw [if_neg (by omega)]
      refine .inr ⟨_, rfl, ?_⟩
      simp only
      cases hs : seenB ways ino with
      | false => rfl
      | true =>
        obtain ⟨w, hw, e⟩ := x8n.1 hs
        obtain ⟨j, hj', rfl⟩ := List.getElem_of_mem hw
        exact absurd e (hj j hj' (by omega))) big 0 0 ⟨rfl, by omega, fun j _ h => by omega⟩ (by rw [big_eq]; omega)
  obtain ⟨r, h1, h2⟩ := key
  rw [h1]
  cases r with
  | inl u => exact ⟨-1, rfl, by simp only at h2; simp [h2]⟩
  | inr i => exact ⟨i, rfl, by simp only at h2; simp [h2.1, h2.2]⟩
theorem x83 {b : Branch} (hb : PB b) {k : Nat} {s : WS} (h : LI b k s) (hk : k < s.1.length) :
    iter (x8d b (k : Int) (nodeP b (wIno s k))) big (s.1, s.2, 0) = some (wStep b k s) := by
  have hlen := xjh hb (wIno s k)
  have hn := hb.len
  have := (xxf (B := x8d b (k : Int) (nodeP b (wIno s k))) (fun (i : Nat) (s : WS) => (s.1, s.2, (i : Int))) (nodeP b (wIno s k)).entries (eStep b k (wIno s k)) (fun s => s)
    (fun i t => WI b t.1 ∧ t.2.length ≤ s.2.length + i ∧ (∀ j, j < s.1.length → t.1[j]? = s.1[j]?)) ?_ ?_ (s0 := s) ⟨h.wi, by omega, fun _ _ => rfl⟩ (fuel := big) (by rw [big_eq]; omega)).1
  · exact this
  · rintro i t hi ⟨w1, w2, w3⟩
    have htl := w1.len
    have hs2 := h.tw
    have hsl := h.wi.len
    obtain ⟨a1, a2, a3, a4⟩ := x7o (k := k) (ino := wIno s k) (e := (nodeP b (wIno s k)).entries[i]) w1
    refine ⟨?_, a1, by omega, fun j hj => (a4 j ?_).trans (w3 j hj)⟩
    rotate_left
    · have := w3 j hj
      rw [List.getElem?_eq_getElem hj] at this
      exact (List.getElem?_eq_some_iff.1 this).1
    simp only [x8d]
    rw [if_pos (by omega), ix_at hi]
    simp only [Option.bind_some]
    rw [at_eq hb]
    simp only [Option.bind_some]
    generalize (nodeP b (wIno s k)).entries[i] = e
    unfold eStep
    by_cases hkd : (nodeP b e.ino).kind = 1
    · rw [if_pos hkd, if_pos hkd]
      obtain ⟨r, hr, hr2⟩ := xbx (ways := t.1) (by omega) e.ino
      rw [hr]
      simp only [Option.bind_some]
      have hkt : t.1[k]? = s.1[k]? := w3 k hk
      have hkl : k < t.1.length := by
        rw [List.getElem?_eq_getElem hk] at hkt
        exact (List.getElem?_eq_some_iff.1 hkt).1
      by_cases hs : seenB t.1 e.ino = true
      · rw [if_pos (hr2.2 hs), if_pos hs, ix_at hkl]
        have he : t.1[k].ino = wIno s k := by
          unfold wIno
          rw [← hkt, List.getElem?_eq_getElem hkl]
          rfl
        simp only [Option.bind_some]
        rw [ap_of (by simp; omega) (by omega), wr_suc (by omega), he]
        rfl
      · rw [if_neg (fun h => hs (hr2.1 h)), if_neg hs, ap_of (by simp; omega) (by omega), wr_suc (by omega)]
        rfl
    · rw [if_neg hkd, if_neg hkd, wr_suc (by omega)]
  · rintro t ⟨w1, w2, w3⟩
    simp only [x8d]
    rw [if_neg (by omega)]
theorem xi4 {b : Branch} (hb : PB b) {k : Nat} {s : WS} (h : LI b k s) :
    iter (x5d b) big (s.1, s.2, (k : Int)) = some ((wLoop b k s).2.1, (wLoop b k s).2.2, ((wLoop b k s).1 : Int)) ∧ LI b (wLoop b k s).1 (wLoop b k s).2 ∧ (wLoop b k s).1 = (wLoop b k s).2.1.length := by
  have hn := hb.len
  refine x6s (B := x5d b) (fun (k : Nat) (s : WS) => (s.1, s.2, (k : Int))) (wStep b) (fun s => s.1.length) (fun k s => (s.1, s.2, (k : Int))) (LI b) 24 (fun k s h => ⟨h.at', Nat.le_trans h.wi.len hn⟩) ?_ ?_ 25 k s big h (by omega) (by rw [big_eq]; omega)
  · intro k s h hk
    have := h.wi.len
    refine ⟨?_, xil hb h hk⟩
    simp only [x5d]
    rw [if_pos (by omega), ix_at hk]
    simp only [Option.bind_some]
    rw [at_eq hb]
    simp only [Option.bind_some]
    have he : s.1[k].ino = wIno s k := by unfold wIno; rw [List.getElem?_eq_getElem hk]; rfl
    rw [he, x83 hb h hk, wr_suc (by omega)]
    rfl
  · intro k s h hk
    simp only [x5d]
    rw [if_neg (by omega)]
theorem xe9 {σ : Type} {step : Nat → σ → σ} {len : σ → Nat} {f k : Nat} {s : σ} (h : ¬ k < len s) : wl step len f k s = (k, s) := by
  cases f with
  | zero => rfl
  | succ f => unfold wl; rw [if_neg h]
structure FI (b : Branch) (t : Nat × WS) : Prop where
  li : LI b t.1 t.2
  all : t.1 = t.2.1.length
theorem LI.push {b : Branch} {k : Nat} {s : WS} (h : LI b k s) {w : Way} (hk : (nodeP b w.ino).kind = 1) (hs : seenB s.1 w.ino = false) : LI b k (s.1 ++ [w], s.2) :=
  ⟨h.wi.push hk hs, by have := h.at'; simp; omega, h.tw⟩
theorem wl_all {b : Branch} (hb : PB b) : ∀ (f k : Nat) (s : WS), LI b k s → 25 ≤ f + k → (wl (wStep b) (fun s => s.1.length) f k s).1 = (wl (wStep b) (fun s => s.1.length) f k s).2.1.length
  | 0, k, s, h, hf => by
    have := h.at'
    have := h.wi.len
    have := hb.len
    omega
  | f + 1, k, s, h, hf => by
    unfold wl
    split
    · rename_i hk; exact wl_all hb f (k + 1) _ (xil hb h hk) (by omega)
    · rename_i hk; have := h.at'; show k = s.1.length; omega
theorem xzo {b : Branch} (hb : PB b) {t : Nat × WS} (h : FI b t) (r : Int) : FI b (fStep b t r) := by
  unfold fStep
  split
  · rename_i hc
    have hp := h.li.push (w := ⟨r, -1, xq⟩) hc.1 hc.2
    exact ⟨xsu hb 25 _ _ hp, wl_all hb 25 _ _ hp (by omega)⟩
  · exact h
theorem FI.nil (b : Branch) : FI b (0, [], []) := ⟨⟨⟨by simp, by simp⟩, by simp, by simp⟩, rfl⟩
theorem xq9 {b : Branch} (hb : PB b) (fr : List Int) : FI b (walkP b fr) := by
  have key : ∀ (l : List Int) (t : Nat × WS), FI b t → FI b (l.foldl (fStep b) t) := by
    intro l
    induction l with
    | nil => exact fun t h => h
    | cons x l ih => exact fun t h => ih _ (xzo hb h x)
  exact key fr _ (FI.nil b)
theorem xl4 {b : Branch} (hb : PB b) {fr : List Int} (hf : fr.length ≤ 1000) : xeh b fr = some (walkP b fr).2 ∧ FI b (walkP b fr) := by
  have hn := hb.len
  have key := xxf (B := x1e b fr) (fun (i : Nat) (t : Nat × WS) => (t.2.1, t.2.2, (t.1 : Int), (i : Int))) fr (fStep b) (fun t => (t.2.1, t.2.2)) (fun _ t => FI b t) (by
    intro i t hi h
    have hl := h.li.wi.len
    have ht := h.li.tw
    refine ⟨?_, xzo hb h _⟩
    simp only [x1e]
    rw [if_pos (by omega), ix_at hi]
    simp only [Option.bind_some]
    rw [at_eq hb]
    simp only [Option.bind_some]
    unfold fStep
    by_cases hk : (nodeP b fr[i]).kind = 1
    · rw [if_pos hk]
      obtain ⟨r, hr, hr2⟩ := xbx (ways := t.2.1) (by omega) fr[i]
      rw [hr]
      simp only [Option.bind_some]
      by_cases hs : seenB t.2.1 fr[i] = true
      · rw [if_pos (hr2.2 hs), if_neg (by rw [hs]; simp), wr_suc (by omega)]
      · have hs' : seenB t.2.1 fr[i] = false := by simpa using hs
        rw [if_neg (fun h => hs (hr2.1 h)), if_pos ⟨hk, hs'⟩, ap_of (by simp; omega) (by omega)]
        have := (xi4 hb (h.li.push (w := ⟨fr[i], -1, xq⟩) hk hs')).1
        simp only [Option.bind_some]
        rw [this, wr_suc (by omega)]
        rfl
    · rw [if_neg hk, if_neg (fun h => hk h.1), wr_suc (by omega)]) (by
    intro t h
    simp only [x1e]
    rw [if_neg (by omega)]) (FI.nil b) (fuel := big) (by rw [big_eq]; omega)
  refine ⟨?_, key.2⟩
  unfold xeh
  have h1 := key.1
  simp only at h1
  rw [show ((0 : Nat) : Int) = 0 from rfl] at h1
  rw [h1]
  rfl
end Go.Proofs.YtefdlpandfhcgaaGreatDoor.AL

/- Plain laws, part 2: the program's walk; what is common. -/
set_option linter.all false
namespace Go.Proofs.YtefdlpandfhcgaaGreatDoor.AL
open Go Go.Proofs
theorem xbu (m : List (Int × Int)) (k v k' : Int) : mget (mset m k v) k' = if k' = k then v else mget m k' := by
  induction m with
  | nil =>
    unfold mget mset
    by_cases h : k' = k
    · subst h; simp
    · have : (k' == k) = false := by simpa using h
      simp [this, h]
  | cons p m ih =>
    unfold mset
    by_cases h : k = p.1
    · rw [if_pos h]
      unfold mget
      by_cases h' : k' = k
      · subst h'; simp [h]
      · have : (k' == p.1) = false := by simp; omega
        simp [this, h']
    · rw [if_neg h]
      unfold mget at ih ⊢
      by_cases h' : k' = p.1
      · have h2 : ¬ k' = k := by omega
        have : (k' == p.1) = true := by simpa using h'
        simp [this, h2]
      · have : (k' == p.1) = false := by simpa using h'
        simpa [List.find?_cons, this] using ih
abbrev MS := WS × List (Int × Int)
def SM (t : MS) : Prop := ∀ ino, mget t.2 ino = if seenB t.1.1 ino = true then 1 else 0
def eStepM (b : Branch) (k : Nat) (ino : Int) (t : MS) (e : Entry) : MS :=
  (eStep b k ino t.1 e, if (nodeP b e.ino).kind = 1 ∧ seenB t.1.1 e.ino = false then mset t.2 e.ino 1 else t.2)
theorem xes (ways : List Way) (w : Way) (ino : Int) : seenB (ways ++ [w]) ino = (seenB ways ino || decide (w.ino = ino)) := by simp [seenB]
theorem xu3 {b : Branch} {k : Nat} {ino : Int} {t : MS} {e : Entry} (h : SM t) : SM (eStepM b k ino t e) := by
  intro i
  unfold eStepM eStep
  by_cases hk : (nodeP b e.ino).kind = 1
  · by_cases hs : seenB t.1.1 e.ino = true
    · simp only [hk, hs, true_and, if_true, reduceCtorEq, if_false]
      simpa using h i
    · have hs' : seenB t.1.1 e.ino = false := by simpa using hs
      simp only [hk, hs', true_and, if_true, if_false, Bool.false_eq_true]
      rw [xbu, xes, h i]
      by_cases hi : i = e.ino
      · subst hi; simp
      · have : ¬ e.ino = i := fun h => hi h.symm
        simp [hi, this]
  · simp only [hk, false_and, if_false]
    exact h i
theorem xau (b : Branch) (k : Nat) (ino : Int) : ∀ (es : List Entry) (t : MS), (es.foldl (eStepM b k ino) t).1 = es.foldl (eStep b k ino) t.1
  | [], t => rfl
  | e :: es, t => by rw [List.foldl_cons, List.foldl_cons, xau b k ino es]; rfl
def wStepM (b : Branch) (k : Nat) (t : MS) : MS := (nodeP b (wIno t.1 k)).entries.foldl (eStepM b k (wIno t.1 k)) t
theorem xzr (b : Branch) (k : Nat) (t : MS) : (wStepM b k t).1 = wStep b k t.1 := xau _ _ _ _ _
theorem xwk {b : Branch} {ino : Int} (h1 : ¬ ino < 1) (h2 : ¬ (b.nodes.length : Int) < ino) (hn : b.nodes.length ≤ 24) : ix b.nodes (wr (ino - 1)) = some (nodeP b ino) := by
  rw [wr_in (by omega) (by omega), ix_of (by omega) (by omega)]
  unfold nodeP
  rw [if_neg h1, if_neg h2]
  have hlt : (ino - 1).toNat < b.nodes.length := by omega
  simp only [List.getElem?_eq_getElem hlt, Option.getD_some]
theorem xhe {b : Branch} {ino : Int} (h : ino < 1 ∨ (b.nodes.length : Int) < ino) : nodeP b ino = xub := by
  unfold nodeP
  rcases h with h | h
  · rw [if_pos h]
  · rw [if_pos h]; split <;> rfl
theorem x6h : ¬ xub.kind = 1 := by simp [xub]
def wLoopM (b : Branch) (k : Nat) (t : MS) : Nat × MS := wl (wStepM b) (fun t => t.1.1.length) 25 k t
theorem xfz (b : Branch) : ∀ (f k : Nat) (t : MS), (wl (wStepM b) (fun t => t.1.1.length) f k t).1 = (wl (wStep b) (fun s => s.1.length) f k t.1).1 ∧ (wl (wStepM b) (fun t => t.1.1.length) f k t).2.1 = (wl (wStep b) (fun s => s.1.length) f k t.1).2
  | 0, k, t => ⟨rfl, rfl⟩
  | f + 1, k, t => by
    unfold wl
    by_cases h : k < t.1.1.length
    · rw [if_pos h, if_pos h]
      have := xfz b f (k + 1) (wStepM b k t)
      rw [xzr] at this
      exact this
    · rw [if_neg h, if_neg h]
      exact ⟨rfl, rfl⟩
def fStepM (b : Branch) (t : Nat × MS) (r : Int) : Nat × MS :=
  if (nodeP b r).kind = 1 ∧ seenB t.2.1.1 r = false then wLoopM b t.1 ((t.2.1.1 ++ [⟨r, -1, xq⟩], t.2.1.2), mset t.2.2 r 1) else t
theorem x0r (b : Branch) (t : Nat × MS) (r : Int) : ((fStepM b t r).1, (fStepM b t r).2.1) = fStep b (t.1, t.2.1) r := by
  unfold fStepM fStep
  split
  · have := xfz b 25 t.1 ((t.2.1.1 ++ [⟨r, -1, xq⟩], t.2.1.2), mset t.2.2 r 1)
    exact Prod.ext this.1 this.2
  · rfl
theorem SM.push {t : MS} (h : SM t) (r : Int) (hs : seenB t.1.1 r = false) : SM ((t.1.1 ++ [⟨r, -1, xq⟩], t.1.2), mset t.2 r 1) := by
  intro i
  rw [xbu, xes, h i]
  by_cases hi : i = r
  · subst hi; simp
  · have : ¬ r = i := fun h => hi h.symm
    simp [hi, this]
end Go.Proofs.YtefdlpandfhcgaaGreatDoor.AL

/- Models of functions, and that the functions are as their models: written by gen.py. -/
set_option linter.all false
set_option maxRecDepth 100000
namespace Go.Proofs.YtefdlpandfhcgaaGreatDoor.AL
open Go Go.Proofs
end Go.Proofs.YtefdlpandfhcgaaGreatDoor.AL

/- Models of functions, and that the functions are as their models: written by gen.py. -/
set_option linter.all false
set_option maxRecDepth 100000
namespace Go.Proofs.YtefdlpandfhcgaaGreatDoor.AL
open Go Go.Proofs
def xbg (a0 : Stack) (a1 : Origin) : Option (Node × Bool) := if a1.layer < 1 then some ((⟨0, 0, 0, 0, [], [], (⟨0, 0, xq, (⟨0, 0, 0⟩ : Origin), 0⟩ : Attr)⟩ : Node), false)
 else if (a0.lowers.length : Int) < a1.layer then some ((⟨0, 0, 0, 0, [], [], (⟨0, 0, xq, (⟨0, 0, 0⟩ : Origin), 0⟩ : Attr)⟩ : Node), false)
 else (ix a0.lowers (wr (a1.layer - 1))).bind fun v5 => if a1.ino < 1 then some ((⟨0, 0, 0, 0, [], [], (⟨0, 0, xq, (⟨0, 0, 0⟩ : Origin), 0⟩ : Attr)⟩ : Node), false)
 else if (v5.nodes.length : Int) < a1.ino then some ((⟨0, 0, 0, 0, [], [], (⟨0, 0, xq, (⟨0, 0, 0⟩ : Origin), 0⟩ : Attr)⟩ : Node), false)
 else (ix v5.nodes (wr (a1.ino - 1))).bind fun v12 => if v12.kind = 1 then if v12.gen = a1.gen then some (v12, true)
 else some ((⟨0, 0, 0, 0, [], [], (⟨0, 0, xq, (⟨0, 0, 0⟩ : Origin), 0⟩ : Attr)⟩ : Node), false)
 else if v12.kind = 2 then if v12.gen = a1.gen then some (v12, true)
 else some ((⟨0, 0, 0, 0, [], [], (⟨0, 0, xq, (⟨0, 0, 0⟩ : Origin), 0⟩ : Attr)⟩ : Node), false)
 else if v12.kind = 3 then if v12.gen = a1.gen then some (v12, true)
 else some ((⟨0, 0, 0, 0, [], [], (⟨0, 0, xq, (⟨0, 0, 0⟩ : Origin), 0⟩ : Attr)⟩ : Node), false)
 else some ((⟨0, 0, 0, 0, [], [], (⟨0, 0, xq, (⟨0, 0, 0⟩ : Origin), 0⟩ : Attr)⟩ : Node), false)
def xhc := aI (aI (aI (@EV) (aI (@R3) (@R24))) (aI (aI (@R26) (@R27)) (aI (@R29) (@R48)))) (aI (aI (@R52) (aI (@DBranch) (@DStack))) (aI (aI (@DEntry) (@DOrigin)) (aI (@DAttr) (@DNode))))
set_option maxHeartbeats 2000000 in
theorem xyt (a0 : Stack) (a1 : Origin) (r : Node × Bool) (hm0 : xbg a0 a1 = some r) : Ok Tryz.prog 34 [xnb a0, xm a1] (.tup [xj r.1, bool r.2]) := by
 unfold xbg at hm0
 refine okG xvl ?_
 unfold xnj
 rcases iteE hm0 with ⟨e2, hm0⟩ | ⟨e2, hm0⟩
 · obtain rfl := Option.some.inj hm0
   simp only [e2, xhc, ↓EVd, isCall, sevalprocAttr]
   all_goals first | done | rfl | exact xc (by simp only [CLO]) | exact xn (by simp only [CLO]) (Sub.tup (Subs.cons (Sub.agg (Subs.cons (Sub.refl _) (Subs.cons (Sub.refl _) (Subs.cons (Sub.refl _) (Subs.cons (Sub.refl _) (Subs.cons (Sub.nilS _) (Subs.cons (Sub.nilS _) (Subs.cons (Sub.refl _) (Subs.cons (Sub.refl _) (Subs.cons (Sub.refl _) (Subs.cons (Sub.refl _) (Subs.cons (Sub.refl _) (Subs.cons (Sub.refl _) (Subs.cons (Sub.refl _) (Subs.nil))))))))))))))) (Subs.cons (Sub.refl _) (Subs.nil))))
 rcases iteE hm0 with ⟨e4, hm0⟩ | ⟨e4, hm0⟩
 · obtain rfl := Option.some.inj hm0
   simp only [e2, e4, xhc, ↓EVd, isCall, sevalprocAttr]
   all_goals first | done | rfl | exact xc (by simp only [CLO]) | exact xn (by simp only [CLO]) (Sub.tup (Subs.cons (Sub.agg (Subs.cons (Sub.refl _) (Subs.cons (Sub.refl _) (Subs.cons (Sub.refl _) (Subs.cons (Sub.refl _) (Subs.cons (Sub.nilS _) (Subs.cons (Sub.nilS _) (Subs.cons (Sub.refl _) (Subs.cons (Sub.refl _) (Subs.cons (Sub.refl _) (Subs.cons (Sub.refl _) (Subs.cons (Sub.refl _) (Subs.cons (Sub.refl _) (Subs.cons (Sub.refl _) (Subs.nil))))))))))))))) (Subs.cons (Sub.refl _) (Subs.nil))))
 obtain ⟨v5, e7, hm0⟩ := ixE xp hm0
 rcases iteE hm0 with ⟨e9, hm0⟩ | ⟨e9, hm0⟩
 · obtain rfl := Option.some.inj hm0
   simp only [e2, e4, e7, e9, xhc, ↓EVd, isCall, sevalprocAttr]
   all_goals first | done | rfl | exact xc (by simp only [CLO]) | exact xn (by simp only [CLO]) (Sub.tup (Subs.cons (Sub.agg (Subs.cons (Sub.refl _) (Subs.cons (Sub.refl _) (Subs.cons (Sub.refl _) (Subs.cons (Sub.refl _) (Subs.cons (Sub.nilS _) (Subs.cons (Sub.nilS _) (Subs.cons (Sub.refl _) (Subs.cons (Sub.refl _) (Subs.cons (Sub.refl _) (Subs.cons (Sub.refl _) (Subs.cons (Sub.refl _) (Subs.cons (Sub.refl _) (Subs.cons (Sub.refl _) (Subs.nil))))))))))))))) (Subs.cons (Sub.refl _) (Subs.nil))))
 rcases iteE hm0 with ⟨e11, hm0⟩ | ⟨e11, hm0⟩
 · obtain rfl := Option.some.inj hm0
   simp only [e2, e4, e7, e9, e11, xhc, ↓EVd, isCall, sevalprocAttr]
   all_goals first | done | rfl | exact xc (by simp only [CLO]) | exact xn (by simp only [CLO]) (Sub.tup (Subs.cons (Sub.agg (Subs.cons (Sub.refl _) (Subs.cons (Sub.refl _) (Subs.cons (Sub.refl _) (Subs.cons (Sub.refl _) (Subs.cons (Sub.nilS _) (Subs.cons (Sub.nilS _) (Subs.cons (Sub.refl _) (Subs.cons (Sub.refl _) (Subs.cons (Sub.refl _) (Subs.cons (Sub.refl _) (Subs.cons (Sub.refl _) (Subs.cons (Sub.refl _) (Subs.cons (Sub.refl _) (Subs.nil))))))))))))))) (Subs.cons (Sub.refl _) (Subs.nil))))
 obtain ⟨v12, e14, hm0⟩ := ixE xj hm0
 rcases iteE hm0 with ⟨e16, hm0⟩ | ⟨e16, hm0⟩
 · rcases iteE hm0 with ⟨e18, hm0⟩ | ⟨e18, hm0⟩
   · obtain rfl := Option.some.inj hm0
     simp only [e2, e4, e7, e9, e11, e14, e16, e18, xhc, ↓EVd, isCall, sevalprocAttr]
     all_goals first | done | rfl | exact xc (by simp only [CLO]) | exact xn (by simp only [CLO]) (Sub.tup (Subs.cons (Sub.refl _) (Subs.cons (Sub.refl _) (Subs.nil))))
   obtain rfl := Option.some.inj hm0
   simp only [e2, e4, e7, e9, e11, e14, e16, e18, xhc, ↓EVd, isCall, sevalprocAttr]
   all_goals first | done | rfl | exact xc (by simp only [CLO]) | exact xn (by simp only [CLO]) (Sub.tup (Subs.cons (Sub.agg (Subs.cons (Sub.refl _) (Subs.cons (Sub.refl _) (Subs.cons (Sub.refl _) (Subs.cons (Sub.refl _) (Subs.cons (Sub.nilS _) (Subs.cons (Sub.nilS _) (Subs.cons (Sub.refl _) (Subs.cons (Sub.refl _) (Subs.cons (Sub.refl _) (Subs.cons (Sub.refl _) (Subs.cons (Sub.refl _) (Subs.cons (Sub.refl _) (Subs.cons (Sub.refl _) (Subs.nil))))))))))))))) (Subs.cons (Sub.refl _) (Subs.nil))))
 rcases iteE hm0 with ⟨e20, hm0⟩ | ⟨e20, hm0⟩
 · have g27 := And.intro (And.intro (And.intro ((e2)) ((e4))) (And.intro ((e7)) ((e9)))) (And.intro (And.intro ((e11)) ((e14))) (And.intro ((e16)) ((e20))))
   rcases iteE hm0 with ⟨e22, hm0⟩ | ⟨e22, hm0⟩
   · obtain rfl := Option.some.inj hm0
     simp only [g27, e22, xhc, ↓EVd, isCall, sevalprocAttr]
     all_goals first | done | rfl | exact xc (by simp only [CLO]) | exact xn (by simp only [CLO]) (Sub.tup (Subs.cons (Sub.refl _) (Subs.cons (Sub.refl _) (Subs.nil))))
   obtain rfl := Option.some.inj hm0
   simp only [g27, e22, xhc, ↓EVd, isCall, sevalprocAttr]
   all_goals first | done | rfl | exact xc (by simp only [CLO]) | exact xn (by simp only [CLO]) (Sub.tup (Subs.cons (Sub.agg (Subs.cons (Sub.refl _) (Subs.cons (Sub.refl _) (Subs.cons (Sub.refl _) (Subs.cons (Sub.refl _) (Subs.cons (Sub.nilS _) (Subs.cons (Sub.nilS _) (Subs.cons (Sub.refl _) (Subs.cons (Sub.refl _) (Subs.cons (Sub.refl _) (Subs.cons (Sub.refl _) (Subs.cons (Sub.refl _) (Subs.cons (Sub.refl _) (Subs.cons (Sub.refl _) (Subs.nil))))))))))))))) (Subs.cons (Sub.refl _) (Subs.nil))))
 have g28 := And.intro (And.intro (And.intro ((e2)) ((e4))) (And.intro ((e7)) ((e9)))) (And.intro (And.intro ((e11)) ((e14))) (And.intro ((e16)) ((e20))))
 rcases iteE hm0 with ⟨e24, hm0⟩ | ⟨e24, hm0⟩
 · rcases iteE hm0 with ⟨e26, hm0⟩ | ⟨e26, hm0⟩
   · obtain rfl := Option.some.inj hm0
     simp only [g28, e24, e26, xhc, ↓EVd, isCall, sevalprocAttr]
     all_goals first | done | rfl | exact xc (by simp only [CLO]) | exact xn (by simp only [CLO]) (Sub.tup (Subs.cons (Sub.refl _) (Subs.cons (Sub.refl _) (Subs.nil))))
   obtain rfl := Option.some.inj hm0
   simp only [g28, e24, e26, xhc, ↓EVd, isCall, sevalprocAttr]
   all_goals first | done | rfl | exact xc (by simp only [CLO]) | exact xn (by simp only [CLO]) (Sub.tup (Subs.cons (Sub.agg (Subs.cons (Sub.refl _) (Subs.cons (Sub.refl _) (Subs.cons (Sub.refl _) (Subs.cons (Sub.refl _) (Subs.cons (Sub.nilS _) (Subs.cons (Sub.nilS _) (Subs.cons (Sub.refl _) (Subs.cons (Sub.refl _) (Subs.cons (Sub.refl _) (Subs.cons (Sub.refl _) (Subs.cons (Sub.refl _) (Subs.cons (Sub.refl _) (Subs.cons (Sub.refl _) (Subs.nil))))))))))))))) (Subs.cons (Sub.refl _) (Subs.nil))))
 obtain rfl := Option.some.inj hm0
 simp only [g28, e24, xhc, ↓EVd, isCall, sevalprocAttr]
 all_goals first | done | rfl | exact xc (by simp only [CLO]) | exact xn (by simp only [CLO]) (Sub.tup (Subs.cons (Sub.agg (Subs.cons (Sub.refl _) (Subs.cons (Sub.refl _) (Subs.cons (Sub.refl _) (Subs.cons (Sub.refl _) (Subs.cons (Sub.nilS _) (Subs.cons (Sub.nilS _) (Subs.cons (Sub.refl _) (Subs.cons (Sub.refl _) (Subs.cons (Sub.refl _) (Subs.cons (Sub.refl _) (Subs.cons (Sub.refl _) (Subs.cons (Sub.refl _) (Subs.cons (Sub.refl _) (Subs.nil))))))))))))))) (Subs.cons (Sub.refl _) (Subs.nil))))
def xde (a0 : Origin) (a1 : Origin) : Option (Bool) := if (decide (a0 = a1)) = true then some true
 else some false
def xen := aI (aI (@EV) (@R48)) (aI (@DOrigin) (@eq48))
set_option maxHeartbeats 2000000 in
theorem x5l (a0 : Origin) (a1 : Origin) (r : Bool) (hm0 : xde a0 a1 = some r) : Ok Tryz.prog 35 [xm a0, xm a1] (bool r) := by
 unfold xde at hm0
 refine okG x3l ?_
 unfold xpj
 rcases itbE hm0 with ⟨e2, hm0⟩ | ⟨e2, hm0⟩
 · obtain rfl := Option.some.inj hm0
   simp only [e2, xen, ↓EVd, isCall, sevalprocAttr]
   all_goals first | done | rfl
 obtain rfl := Option.some.inj hm0
 simp only [e2, xen, ↓EVd, isCall, sevalprocAttr]
 all_goals first | done | rfl
end Go.Proofs.YtefdlpandfhcgaaGreatDoor.AL

