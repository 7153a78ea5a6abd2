/- What of the attributes of any stack, and of any node, may not be, is what the document says: part 37 of 53. -/
import Derived.Shelf.Abstract
import Derived.Test.YtnmljicimdhpmaaB36
set_option linter.all false
/- (*walk.trail).reach: its contract. -/
set_option linter.all false
namespace Go.Proofs.Ytnmljicimdhpmaa.AL
open Go Go.Proofs Go.RowKit

/-- A call that reads what it is given and hands back what is new. -/
def OkN (P : Program) (f : FuncId) (args : List AV) (r : AV) : Prop :=
  callable P f = true ∧ ∀ (Z : Nat → Prop) (w : World) (vals : List Value), (∀ b, Z b → b < w.heap.size) → VReps (Ec Z w) args vals →
    Calls P f vals.toArray w fun e w' => ∃ v, e = .returned v ∧ Below w.heap.size w w' ∧ VRep (Ec (fun b => w.heap.size ≤ b ∧ b < w'.heap.size) w') r v
theorem OkN.sub {P : Program} {f : FuncId} {ag ag' : List AV} {r : AV} (h : OkN P f ag' r) (hs : Subs ag ag') : OkN P f ag r := ⟨h.1, fun Z w vals hZ hv => h.2 Z w vals hZ (hs _ _ hv)⟩
theorem S1_okn {P : Program} {H : Nat → Option AO} {nx new : Nat} {ρ : Operand → AV} {k : AV → (Nat → Option AO) → Nat → Prop} {c : Call} {f : FuncId} {ag ag' : List AV} {r : AV} (m : Nat) (h : OkN P f ag' r) (hc : callArgs ρ c = some (f, ag)) (hm : frzs H m ag = some ag') (hk : k r H nx) :
    Sem1 P (.call c) H nx new ρ k := by
  intro o ho C E a hR hρ hn hb hnx next Q hnext
  obtain ⟨vals, h1, h2⟩ := callArgs_run (P := P) ho hρ hc h.1
  unfold Oper.wp
  rw [h2, Oper.upon_enter]
  refine (h.2 (Zall E) E.w vals ?_ ((frz_sound hR m).2 _ _ _ hm h1)).mono ?_
  · intro b hz
    rcases hz with hz | ⟨l, c, hz⟩
    · exact hR.zlt b hz
    · exact (hR.old l b c hz).2
  rintro e w' ⟨v, rfl, hb, hv⟩
  obtain ⟨k1, k2⟩ := after_ok hR hb
  refine hnext r v H nx _ hk ?_ k1 k2 (Nat.le_refl _) fun l kl => .inl kl
  exact hv.stab (Ec.stab (E := { E with w := w', Z := fun b => E.Z b ∨ (E.w.heap.size ≤ b ∧ b < w'.heap.size) }) fun b hz => .inr hz)
theorem frz_mp (H : Nat → Option AO) (m l : Nat) : frz H (m + 1) (.mp l) = some .junk := by simp [frz, closed]
def reachM (b : Branch) (ways : List Way) (nd : Way → Node) : List Bool := (entsN nd ways ways.length).foldl stepE (ways.foldl stepW (List.replicate b.nodes.length false))
theorem entV_rep (E : Env) (x : Entry) : VRep E (encEntry x) (entV x) := by
  simp only [encEntry, int, str, VRep, VReps]
  exact ⟨_, ⟨_, _, rfl, ⟨_, _, rfl, ⟨_, _, rfl, rfl, rfl⟩, rfl⟩, rfl⟩, rfl⟩
theorem loc8_rep {Es : Env} {Z : Nat → Prop} {W : World} {u : Value} (h : VRep Es (.loc 8 1 0 0) u) : VRep (Er Es Z W) (.loc 8 1 0 0) u := by
  simp only [VRep] at h ⊢
  obtain ⟨b0, h1, h2, h3⟩ := h
  refine ⟨b0, h1, h2, fun b c e => ?_⟩
  simp only [Er, kp8, if_true] at e
  exact h3 b c e
/-- What is known of a round's frame behind its assignment. -/
def AxR (C : Ctx) (Es : Env) (x : Entry) (a : Act) (W : World) : Prop :=
  a.tmps.size = 48 ∧ a.defers = [] ∧ VRep Es (.loc 8 1 0 0) (a.tmps.getD 3 undef) ∧ ∃ bb o, W.heap[bb]? = some o ∧ o.isCells = true ∧ C.base ≤ bb ∧ ¬ Xb Es bb ∧ a.tmps.getD 6 undef = .pointer (some ⟨bb, 0, none⟩) ∧ CellsAt W bb 0 (entV x).cells
set_option maxHeartbeats 2000000 in
theorem okn_reach (b : Branch) (ways : List Way) (nd : Way → Node) (hi : ∀ w ∈ ways, 1 ≤ w.ino ∧ w.ino ≤ (b.nodes.length : Int)) (hN : b.nodes.length ≤ 281474976710656) (hW : ways.length < 4611686018427387904)
    (hn : ∀ w ∈ ways, nodeAt b w.ino = some (nd w)) (hb2 : ∀ w ∈ ways, (nd w).entries.length < 4611686018427387904) :
    OkN Try.prog 75 [.ptr (trailAV b ways) 0] (.sl 1 ((reachM b ways nd).map bool)) := by
  obtain ⟨fn, c0, c1, c2, c7, asg, bd, ct, hf, hbody, hn48, hres, hcall, p0, p1, p2, p7, pa, pb, pt⟩ := fc_reach
  refine ⟨hcall, fun Z w vals hZ hv => ?_⟩
  obtain ⟨C, hC⟩ : ∃ C : Ctx, C = { base := w.heap.size, w0 := w, zone := Z } := ⟨_, rfl⟩
  have hR0 : HR C (Ec Z w) (fun _ => none) := by
    rw [hC]
    exact ⟨Below.refl _ _, Nat.le_refl _, hZ, fun _ _ _ _ e => by simp [Ec] at e, fun b hz => .inl hz, fun _ => rfl, fun _ _ e => by simp [Ec] at e, fun _ _ _ _ _ e => by simp [Ec] at e, fun _ _ _ e => by simp at e, fun _ _ _ e => by simp [Ec] at e⟩
  refine (callsIn_wide (n := 10)).1 (callsIn_of_wp_marks hf hbody trivial ?_ rfl)
  have hl := hv.length
  simp only [List.length_cons, List.length_nil] at hl
  have hS0 : SR C (Ec Z w) 0 48 ⟨argT [.ptr (trailAV b ways) 0], fun _ => none, 0⟩ { tmps := vals.toArray ++ Array.replicate (fn.ntmps - vals.toArray.size) undef, defers := [] } (Ec Z w) :=
    ⟨hR0, Stab.refl _, fun l k => k.elim, fun l k => .inl k, by simp; omega, rfl, start_tmps hv _⟩
  refine peel p0 (reach_pre b ways hi hN hW) (Nat.le_refl _) hS0 ?_
  intro s1 a1 E1 h1 k1 hS1
  refine peel p1 h1 k1 hS1 ?_
  intro s2 a2 E2 h2 k2 hS2
  refine peel p2 h2 k2 hS2 ?_
  intro s3 a3 E3 h3 k3 hS3
  refine wpIn_seq (wpIn_seq (wpIn_mono (wpIn_wide.2 (cw_cwp _ h3 c7 p7 C _ 0 E3 a3 k3 hS3)) ?_))
  rintro e a w' ⟨s, Es, q1, q2, hS, rfl⟩
  obtain ⟨rfl, t3, t30, g7, g8, hnx⟩ := q1
  show (Code.block 2 _).wpIn Fence.wide 10 Try.prog _ a Es.w
  refine wpIn_block ?_
  -- the function that is ranged over
  have z30 := hS.tmps 30
  rw [t30, VRep] at z30
  obtain ⟨fa, fb, r1, r2, r3⟩ := z30
  rw [VReps] at r1
  rw [VReps] at r2
  obtain ⟨v, us', r2, r4, r5⟩ := r2
  rw [VReps] at r4
  subst r1 r4 r5
  have hvc : VRep (Ec Es.Z Es.w) (.ptr (.ptr (trailAV b ways) 0) 0) v := VRep.close (fun _ h => h) _ _ (closed_pp _ (closed_trail b ways)) r2
  have hK : Es.K 7 ∧ Es.K 8 := by
    have e7 := hS.heap.dom 7
    have e8 := hS.heap.dom 8
    rw [g7] at e7
    rw [g8] at e8
    obtain ⟨x7, e7⟩ := Option.isSome_iff_exists.1 e7.symm
    obtain ⟨x8, e8⟩ := Option.isSome_iff_exists.1 e8.symm
    exact ⟨hS.heap.known 7 x7 e7, hS.heap.known 8 x8 e8⟩
  have hXw : ∀ b, Xb Es b → b < Es.w.heap.size := fun b ⟨l, c, _, e⟩ => (hS.heap.old l b c e).2
  generalize hbs : ways.foldl stepW (List.replicate b.nodes.length false) = bs1 at g7
  have hlen1 : bs1.length = b.nodes.length := by rw [← hbs, foldW_len]; simp
  have hI0 : HR C (Er Es Es.Z Es.w) (Hk b.nodes.length bs1) := HR.shrink hS.heap g7 g8 (fun _ _ => rfl) hK (fun _ h => h)
  have hl8 : VRep Es (.loc 8 1 0 0) (a.tmps.getD 3 undef) := by have := hS.tmps 3; rwa [t3] at this
  have hH7 : ∀ bs, Hk b.nodes.length bs 7 = some (.row 4 1 (bs.map bool)) := fun bs => rfl
  have hH8 : ∀ bs, Hk b.nodes.length bs 8 = some (.row 72 1 [.msl 7 b.nodes.length]) := fun bs => rfl
  refine wpIn_rangeFunc_ownH (n := 10) rfl (by omega) (gf := 109) (lb := #[v]) r3 trivial (_root_.Go.Proofs.enters_of Try.func109 (by kernel_rfl) rfl)
    (names_stops (n := 9) (b := b) (ways := ways) (nd := nd) (X := Xb Es) (Z := Es.Z) (w := Es.w) hn hW hb2 hvc hS.heap.zlt (fun b hb ⟨l, c, _, e⟩ => hS.heap.zlive b hb l c e) hXw)
    ?hKt ?hKb (Below.refl _ _) (fun _ => rfl)
    (fun pre W => HR C (Er Es Es.Z W) (Hk b.nodes.length (pre.foldl stepE bs1))) (fun _ _ _ => False)
    (fun pre W W' row h hg hr => HR.grown h hg hr hS.heap.base hS.heap.zlt) (fun c s A B row hs _ _ => hs) hI0 (AxR C Es) ?hAx ?hassign ?hbody ?hdone (fun _ _ _ _ _ _ h _ => h.elim)
  case hKt =>
    rintro A B D ⟨s1, k1⟩ ⟨s2, k2⟩
    exact ⟨Nat.le_trans s1 s2, fun b o hx ho hc => k2 b o hx (k1 b o hx ho hc) hc⟩
  case hKb =>
    intro W l o o' hl' ho hc _
    refine ⟨by simp [World.putObj], fun b ob hx hob hcb => ?_⟩
    have : b ≠ l := by rintro rfl; rw [ho] at hob; injection hob with hob; subst hob; rw [hc] at hcb; cases hcb
    rw [World.putObj_heap_other this]; exact hob
  case hAx =>
    rintro x a' _ W W' row ⟨x1, x2, x3, bb, o, x4, x5, x6, x7, x8, x9⟩ hg hr
    have hlt : bb < W.heap.size := (Array.getElem?_eq_some_iff.1 x4).1
    have hne : ¬ row = some bb := by
      intro e
      obtain ⟨_, ob, g1, g2⟩ := hr bb e
      rw [x4] at g1; injection g1 with g1; subst g1; rw [x5] at g2; cases g2
    have hs := hg.block bb hlt (fun e => hne e.symm)
    exact ⟨x1, x2, x3, bb, o, hs.trans x4, x5, x6, x7, x8, fun j u hj => (World.cell?_of_block (a := ⟨bb, 0 + j, none⟩) hs).trans (x9 j u hj)⟩
  case hassign =>
    intro l pre x W K hI hk
    obtain ⟨hw, hst⟩ := hI.wide
    have hS' : SR C (Er Es (Z1 C Es Es.Z W) W) s.nx 48 ⟨upd (upd (fun _ => .junk) 3 (.loc 8 1 0 0)) 31 (encEntry x), Hk b.nodes.length (pre.foldl stepE bs1), s.nx⟩ { tmps := a.tmps.setIfInBounds 31 (entV x), defers := [] } (Er Es (Z1 C Es Es.Z W) W) := by
      refine ⟨hw, Stab.refl _, hS.bound, fun l k => .inl k, by simp [hS.size], rfl, fun t => ?_⟩
      by_cases e : t = 31
      · subst e
        have : (a.tmps.setIfInBounds 31 (entV x)).getD 31 undef = entV x := by simp [hS.size]
        rw [this]
        exact entV_rep _ x
      · have e1 : (a.tmps.setIfInBounds 31 (entV x)).getD t undef = a.tmps.getD t undef := by simp [Array.getElem?_setIfInBounds_ne (Ne.symm e)]
        rw [e1]
        by_cases e3 : t = 3
        · subst e3; exact loc8_rep hl8
        · simp only [upd_at, if_neg e, if_neg e3, VRep]
    have hz : ((#[31] : Array Nat).zip #[entV x]) = #[(31, entV x)] := by simp
    rw [hz]
    show asg.wpIn (Fence.wide.inRound l) 8 Try.prog _ { tmps := a.tmps.setIfInBounds 31 (entV x), defers := [] } W
    refine wpIn_mono (cw_in (ro := some l) (m := 8) (ds := []) c_reach_asg rfl (asg_walk (n := b.nodes.length) (bs := pre.foldl stepE bs1) rfl rfl (hH7 _) (hH8 _) hnx) asg pa (Nat.le_refl _) hS') ?_
    rintro e a' w' ⟨s', E', a0, ⟨rfl, f3, ⟨lb, f6, n7, n8, hlb⟩, f7, f8⟩, f2, hS2, rfl, rfl⟩
    obtain ⟨A1, A2, A3⟩ := after hI hK hS2 f7 f8
    refine hk _ _ ⟨A2, fun k o hk ho hc => A3 k o (fun hx => by have := hXw k hx; omega) ho⟩ ⟨A2, fun b o hx ho _ => A3 b o hx ho⟩ A1 ?_
    have y6 := hS2.tmps 6
    rw [f6] at y6
    obtain ⟨p, hp, ho⟩ := hS2.heap.live hlb
    cases p with
    | none => simp only [ORep] at ho; cases ho
    | some q =>
      obtain ⟨bb, c⟩ := q
      obtain ⟨u, u1, u2, u3, u4⟩ := ho.cells (i := 0) (x := encEntry x) rfl
      obtain rfl := entV_of u1
      simp only [VRep] at y6
      obtain ⟨b0, _, y6, y7⟩ := y6
      obtain rfl := y7 bb c hp
      have y3 := hS2.tmps 3
      rw [f3] at y3
      have hL8 : E'.L 8 = Es.L 8 := by
        obtain ⟨p8, hp8, _⟩ := hS2.heap.live f8
        have := hS2.stab.L 8 hK.2 p8 hp8
        simp only [Er, kp8, if_true] at this
        rw [hp8, this]
      have hL7 : E'.L 7 = Es.L 7 := by
        obtain ⟨p8, hp8, _⟩ := hS2.heap.live f7
        have := hS2.stab.L 7 hK.1 p8 hp8
        simp only [Er, kp7, if_true] at this
        rw [hp8, this]
      simp only [ORep] at ho
      obtain ⟨cur, us, ho, _⟩ := ho
      refine ⟨hS2.size, rfl, ?_, b0, _, ho, rfl, (hS2.heap.old lb b0 c hp).1, ?_, by simpa using y6, by simpa using u4⟩
      · simp only [VRep] at y3 ⊢
        obtain ⟨b8, _, y4, y5⟩ := y3
        exact ⟨b8, hK.2, y4, by rw [← hL8]; exact y5⟩
      · rintro ⟨l', c', hl', e⟩
        simp only [kp, Bool.or_eq_true, beq_iff_eq] at hl'
        rcases hl' with rfl | rfl
        · rw [← hL7] at e; exact n7 (hS2.heap.inj lb 7 b0 c c' hp e)
        · rw [← hL8] at e; exact n8 (hS2.heap.inj lb 8 b0 c c' hp e)
  case hbody =>
    rintro l pre x ⟨tm, df⟩ W hl' hloop hI ⟨x1, x2, x3, bb, o, x4, x5, x6, x7, x8, x9⟩ hlen
    dsimp only at x1 x2 x3 x8
    subst x2
    obtain ⟨hw, hst⟩ := hI.wide
    have hS' : SR C (Er Es (Z1 C Es Es.Z W) W) s.nx 48 ⟨upd (upd (fun _ => .junk) 3 (.loc 8 1 0 0)) 6 (.ptr (encEntry x) 0), Hk b.nodes.length (pre.foldl stepE bs1), s.nx⟩ { tmps := tm, defers := [] } (Er Es (Z1 C Es Es.Z W) W) := by
      refine ⟨hw, Stab.refl _, hS.bound, fun l k => .inl k, x1, rfl, fun t => ?_⟩
      by_cases e : t = 6
      · subst e
        show VRep _ (.ptr (encEntry x) 0) (tm.getD 6 undef)
        rw [x8]
        rw [VRep]
        exact ⟨entV x, bb, 0, entV_rep _ x, rfl, .inr ⟨x6, (Array.getElem?_eq_some_iff.1 x4).1, x7⟩, x9⟩
      · by_cases e3 : t = 3
        · subst e3; exact loc8_rep x3
        · simp only [upd_at, if_neg e, if_neg e3, VRep]
    refine wpIn_mono (cw_in (ro := some l) (m := 8) (ds := []) c_reach_body rfl (body_walk (n := b.nodes.length) (bs := pre.foldl stepE bs1) rfl rfl (hH7 _) (hH8 _) hnx (by rw [foldE_len, hlen1]) hN) bd pb (Nat.le_refl _) hS') ?_
    rintro e a' w' ⟨s', E', a0, ⟨rfl, f7, f8⟩, f2, hS2, rfl, rfl⟩
    obtain ⟨A1, A2, A3⟩ := after hI hK hS2 f7 f8
    refine ⟨⟨A2, fun k o hk ho hc => A3 k o (fun hx => by have := hXw k hx; omega) ho⟩, ⟨A2, fun b o hx ho _ => A3 b o hx ho⟩, ?_⟩
    show HR C _ (Hk _ (List.foldl stepE bs1 (pre ++ [x])))
    rw [List.foldl_append]
    exact A1
  case hdone =>
    rintro D xs W hD rfl hI hDW
    show ct.wpIn Fence.wide 10 Try.prog _ _ W
    obtain ⟨hw, hst⟩ := hI.wide
    rw [hS.defers]
    have hS' : SR C (Er Es (Z1 C Es Es.Z W) W) s.nx 48 ⟨upd (fun _ => .junk) 3 (.loc 8 1 0 0), Hk b.nodes.length ((entsN nd ways ways.length).foldl stepE bs1), s.nx⟩ { a with defers := [] } (Er Es (Z1 C Es Es.Z W) W) := by
      refine ⟨hw, Stab.refl _, hS.bound, fun l k => .inl k, hS.size, rfl, fun t => ?_⟩
      by_cases e3 : t = 3
      · subst e3; exact loc8_rep hl8
      · simp only [upd_at, if_neg e3, VRep]
    refine wpIn_mono (cw_in (ro := none) (m := 10) (ds := [{ target := .collected D, args := #[] }]) c_reach_tail rfl (tail_walk (n := b.nodes.length) (bs := (entsN nd ways ways.length).foldl stepE bs1) rfl (hH7 _) (hH8 _)) ct pt (Nat.le_refl _) hS') ?_
    rintro e a' w' ⟨s', E', a0, ⟨rfl, f2, f7, f8⟩, _, hS2, rfl, rfl⟩
    have hDX : ¬ Xb Es D := fun hx => by have := hXw D hx; omega
    have hDlt : D < W.heap.size := (Array.getElem?_eq_some_iff.1 hDW).1
    have hD2 : E'.w.heap[D]? = some (.deferred (some [])) := by
      rw [(hS2.stab.Z D (.inr ⟨by have := hS.heap.base; omega, hDlt, hDX⟩)).2]; exact hDW
    refine ⟨by simp, .inl ⟨_, _, rfl, run_takeDeferred hD2, ?_⟩⟩
    refine ⟨_, results_tmp (t := 2) (by cases hr : fn.results; rw [hr] at hres; simp only at hres; rw [hres]) _ _ _, ?_⟩
    have hL7 : E'.L 7 = Es.L 7 := by
      obtain ⟨p8, hp8, _⟩ := hS2.heap.live f7
      have := hS2.stab.L 7 hK.1 p8 hp8
      simp only [Er, kp7, if_true] at this
      rw [hp8, this]
    have A1 := (after hI hK hS2 f7 f8).1
    have A2 : HR C (Er Es (fun _ => False) E'.w) _ := HR.shrink (E := Er Es Es.Z E'.w) (Z := fun _ => False) A1 (hH7 _) (hH8 _) (fun l hl => by simp only [Er, hl, if_true]) hK (fun b h => h.elim)
    have y2 := hS2.tmps 2
    rw [f2] at y2
    have y2' : VRep (Er Es (fun _ => False) E'.w) (.msl 7 b.nodes.length) (a0.tmps.getD 2 undef) := by
      simp only [VRep] at y2 ⊢
      obtain ⟨A, c0, q1, q2, q3, q4, q5, q6⟩ := y2
      exact ⟨A, c0, hK.1, q2, q3, q4, by simpa only [Er, kp7, if_true, hL7] using q5, by simpa only [Er, kp7, if_true, hL7] using q6⟩
    have hl2 : b.nodes.length = (List.map bool ((entsN nd ways ways.length).foldl stepE bs1)).length := by rw [List.length_map, foldE_len, hlen1]
    have hcb : closeds (List.map bool ((entsN nd ways ways.length).foldl stepE bs1)) = true := closeds_map bool (fun _ => rfl) _
    have h1 := (frz_sound A2 2).1 (.msl 7 b.nodes.length) (.sl 1 ((reachM b ways nd).map bool)) _ (by
      unfold reachM
      rw [hbs]
      simp only [frz, closed, Bool.false_eq_true, if_false, hH7]
      rw [if_pos hl2, frzs_closed hcb]
      rfl) y2'
    have h2 := VRep.cellsZ _ _ (posz_sll 1 bool (by omega) (fun _ => rfl) _) h1
    have hbase : C.base = w.heap.size := by rw [hC]
    have hw0 : C.w0 = w := by rw [hC]
    have hDb : w.heap.size ≤ D := by have := hS.heap.base; omega
    have hbel := hS2.heap.below
    rw [hw0, hbase] at hbel
    refine ⟨_, rfl, ⟨hbel.os, hbel.tape, hbel.output, by simpa [World.putObj] using hbel.size, fun k hk => (World.putObj_heap_other (by omega)).trans (hbel.block k hk)⟩, VRep.stab (E := Ec (Zc (Zall (Er Es (fun _ => False) E'.w)) E'.w) E'.w) (E' := Ec (fun b => w.heap.size ≤ b ∧ b < (E'.w.putObj D (.deferred none)).heap.size) (E'.w.putObj D (.deferred none))) ⟨fun _ h => h, fun _ h => h.elim, ?_⟩ _ _ h2⟩
    rintro b ⟨hb, ob, ho, hcb⟩
    have hne : b ≠ D := by
      rintro rfl
      have ho' : E'.w.heap[b]? = some ob := ho
      rw [hD2] at ho'; injection ho' with ho'; subst ho'; cases hcb
    refine ⟨?_, World.putObj_heap_other hne⟩
    have hsz : (E'.w.putObj D (.deferred none)).heap.size = E'.w.heap.size := by simp [World.putObj]
    show w.heap.size ≤ b ∧ b < (E'.w.putObj D (.deferred none)).heap.size
    rw [hsz]
    rcases hb with hb | ⟨l, c, hb⟩
    · exact hb.elim
    · have := A2.old l b c hb
      exact ⟨by omega, this.2⟩
/-- As a model: what it asks for is checked. -/
def m_walk_trail_reach (b : Branch) (ways : List Way) : Option (List Bool) :=
  (ck (b.nodes.length ≤ 281474976710656 ∧ ways.length < 4611686018427387904 ∧ (∀ w ∈ ways, 1 ≤ w.ino ∧ w.ino ≤ (b.nodes.length : Int)) ∧ (∀ w ∈ ways, (nodeAt b w.ino).isSome = true) ∧ ∀ w ∈ ways, ((nodeAt b w.ino).getD default).entries.length < 4611686018427387904)).bind fun _ =>
  some (reachM b ways fun w => (nodeAt b w.ino).getD default)
theorem okn_walk_trail_reach (b : Branch) (ways : List Way) (tw : AV) (r : List Bool) (h : m_walk_trail_reach b ways = some r) : OkN Try.prog 75 [.ptr (.agg [(sll 13 encNode) b.nodes, (sll 3 encWay) ways, .junk, tw]) 0] (.sl 1 (r.map bool)) := by
  unfold m_walk_trail_reach at h
  obtain ⟨u, h1, h2⟩ := Option.bind_eq_some_iff.1 h
  injection h2 with h2
  subst h2
  obtain ⟨g1, g2, g3, g4, g5⟩ := ck_some h1
  refine OkN.sub (okn_reach b ways (fun w => (nodeAt b w.ino).getD default) g3 g1 g2 (fun w hw => ?_) g5) ?_
  · obtain ⟨x, hx⟩ := Option.isSome_iff_exists.1 (g4 w hw)
    rw [hx]; rfl
  · intro E vs hv
    simp only [trailAV, VReps] at hv ⊢
    obtain ⟨u, us', hu, hr, e⟩ := hv
    refine ⟨u, us', ?_, hr, e⟩
    rw [VRep] at hu ⊢
    obtain ⟨v, b', o, k1, k2⟩ := hu
    refine ⟨v, b', o, ?_, k2⟩
    rw [VRep] at k1 ⊢
    obtain ⟨us, q1, q2⟩ := k1
    refine ⟨us, ?_, q2⟩
    simp only [VReps] at q1 ⊢
    obtain ⟨u1, v1, p1, ⟨u2, v2, p2, ⟨u3, v3, p3, ⟨u4, v4, p4, p5, p6⟩, p7⟩, p8⟩, p9⟩ := q1
    exact ⟨u1, v1, p1, ⟨u2, v2, p2, ⟨u3, v3, p3, ⟨u4, v4, by simp only [VRep], p5, p6⟩, p7⟩, p8⟩, p9⟩
end Go.Proofs.Ytnmljicimdhpmaa.AL

