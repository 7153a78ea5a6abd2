/- A law of the given program is proved: part 47 of 50. -/
import Derived.WalkKit
import Derived.BigCall
import Derived.BigGuard
import Derived.Deep.RegionWith
import Derived.Laws.Rows
import Derived.Test.YtefdlpandfhcgaaGreatDoorA46
set_option linter.all false
/- index.open by contract, by hand: its one draw hands a row of its own on. -/
set_option linter.all false
namespace Go.Proofs.YtefdlpandfhcgaaGreatDoor.AL
open Go Go.Proofs Go.RowKit
def xve (s : Stack) : Option index_upper := (xmf s.upper [1]).bind fun t => some ⟨s, t⟩
theorem x1s {Z Z1 : Nat → Prop} {w W1 : World} {n : Nat} {x : AV} {v : Value} (h : VRep (Ec Z w) x v) (hz : ∀ b, Z b → b < n) (hb : Below n w W1) (hZ : ∀ b, Z b → Z1 b) : VRep (Ec Z1 W1) x v :=
  VRep.stab (E := Ec Z w) (E' := Ec Z1 W1) ⟨fun _ h => h.elim, fun _ h => h.elim, fun b hb' => ⟨hZ b hb', hb.block b (hz b hb')⟩⟩ x v h
theorem alloc3 (w : World) (o0 o1 o2 : Obj) (W : World) (n : Nat) (o : Obj) (hn : n < 3) (ho : [o0, o1, o2][n]? = some o) (hW : W.heap = (((w.alloc o0).alloc o1).alloc o2).heap := by rfl) : W.heap[w.heap.size + n]? = some o := by
  rw [hW]
  have k : ∀ (v : World) (a : Obj) (m : Nat), v.heap.size = m → (v.alloc a).heap[m]? = some a := fun v a m h => by rw [← h]; show (v.heap.push a)[v.heap.size]? = _; rw [Array.getElem?_push_size]
  have u : ∀ (v : World) (a c : Obj) (m : Nat), m < v.heap.size → v.heap[m]? = some c → (v.alloc a).heap[m]? = some c := fun v a c m h e => (Below.heap_alloc v a m h).trans e
  have : n = 0 ∨ n = 1 ∨ n = 2 := by omega
  rcases this with rfl | rfl | rfl
  · cases ho; exact u _ _ _ _ (by simp only [World.size_alloc]; omega) (u _ _ _ _ (by simp only [World.size_alloc]; omega) (k _ _ _ rfl))
  · cases ho; exact u _ _ _ _ (by simp only [World.size_alloc]; omega) (k _ _ _ (by simp only [World.size_alloc]))
  · cases ho; exact k _ _ _ (by simp only [World.size_alloc])
theorem x6i {W : World} {b j : Nat} {A : Array Value} {T : Nat} {fr : Nat × Nat} (h : W.heap[b]? = some (.cells A T fr)) (v : Value) : (W.setCell ⟨b, j, none⟩ v).heap[b]? = some (.cells (A.setIfInBounds j v) T fr) := by
  unfold World.setCell
  simp only [h]
  have hlt := (Array.getElem?_eq_some_iff.1 h).1
  rw [Array.getElem?_modify, if_pos rfl, h]
  rfl
theorem set7 {W : World} {b T : Nat} {a0 a1 a2 a3 a4 a5 a6 : Value} (h : W.heap[b]? = some (.cells #[a0, a1, a2, a3, a4, a5, a6] T (0, 0))) (v0 v1 v2 v3 v4 v5 v6 : Value) :
    (((((((W.setCell ⟨b, 0, none⟩ v0).setCell ⟨b, 1, none⟩ v1).setCell ⟨b, 2, none⟩ v2).setCell ⟨b, 3, none⟩ v3).setCell ⟨b, 4, none⟩ v4).setCell ⟨b, 5, none⟩ v5).setCell ⟨b, 6, none⟩ v6).heap[b]? = some (.cells #[v0, v1, v2, v3, v4, v5, v6] T (0, 0)) := by
  have h0 : (W.setCell ⟨b, 0, none⟩ v0).heap[b]? = some (.cells #[v0, a1, a2, a3, a4, a5, a6] T (0, 0)) := x6i h v0
  generalize W.setCell ⟨b, 0, none⟩ v0 = W at h0 ⊢
  have h1 : (W.setCell ⟨b, 1, none⟩ v1).heap[b]? = some (.cells #[v0, v1, a2, a3, a4, a5, a6] T (0, 0)) := x6i h0 v1
  generalize W.setCell ⟨b, 1, none⟩ v1 = W at h1 ⊢
  have h2 : (W.setCell ⟨b, 2, none⟩ v2).heap[b]? = some (.cells #[v0, v1, v2, a3, a4, a5, a6] T (0, 0)) := x6i h1 v2
  generalize W.setCell ⟨b, 2, none⟩ v2 = W at h2 ⊢
  have h3 : (W.setCell ⟨b, 3, none⟩ v3).heap[b]? = some (.cells #[v0, v1, v2, v3, a4, a5, a6] T (0, 0)) := x6i h2 v3
  generalize W.setCell ⟨b, 3, none⟩ v3 = W at h3 ⊢
  have h4 : (W.setCell ⟨b, 4, none⟩ v4).heap[b]? = some (.cells #[v0, v1, v2, v3, v4, a5, a6] T (0, 0)) := x6i h3 v4
  generalize W.setCell ⟨b, 4, none⟩ v4 = W at h4 ⊢
  have h5 : (W.setCell ⟨b, 5, none⟩ v5).heap[b]? = some (.cells #[v0, v1, v2, v3, v4, v5, a6] T (0, 0)) := x6i h4 v5
  generalize W.setCell ⟨b, 5, none⟩ v5 = W at h5 ⊢
  exact x6i h5 v6
theorem xo5 {w W : World} {b : Nat} (h : Below w.heap.size w W) (hb : w.heap.size ≤ b) (v0 v1 v2 v3 v4 v5 v6 : Value) :
    Below w.heap.size w (((((((W.setCell ⟨b, 0, none⟩ v0).setCell ⟨b, 1, none⟩ v1).setCell ⟨b, 2, none⟩ v2).setCell ⟨b, 3, none⟩ v3).setCell ⟨b, 4, none⟩ v4).setCell ⟨b, 5, none⟩ v5).setCell ⟨b, 6, none⟩ v6) :=
  ((((((h.setCell (p := ⟨b, 0, none⟩) hb _).setCell (p := ⟨b, 1, none⟩) hb _).setCell (p := ⟨b, 2, none⟩) hb _).setCell (p := ⟨b, 3, none⟩) hb _).setCell (p := ⟨b, 4, none⟩) hb _).setCell (p := ⟨b, 5, none⟩) hb _).setCell (p := ⟨b, 6, none⟩) hb _
theorem xe4 {W : World} {b k : Nat} (hk : k ≠ b) (v0 v1 v2 v3 v4 v5 v6 : Value) :
    (((((((W.setCell ⟨b, 0, none⟩ v0).setCell ⟨b, 1, none⟩ v1).setCell ⟨b, 2, none⟩ v2).setCell ⟨b, 3, none⟩ v3).setCell ⟨b, 4, none⟩ v4).setCell ⟨b, 5, none⟩ v5).setCell ⟨b, 6, none⟩ v6).heap[k]? = W.heap[k]? := by
  have k1 : ∀ (V : World) (i : Nat) (v : Value), (V.setCell ⟨b, i, none⟩ v).heap[k]? = V.heap[k]? := fun V i v => Below.heap_setCell V ⟨b, i, none⟩ v k hk
  rw [k1, k1, k1, k1, k1, k1, k1]
theorem xp2 {W : World} {b : Nat} (v0 v1 v2 v3 v4 v5 v6 : Value) :
    (((((((W.setCell ⟨b, 0, none⟩ v0).setCell ⟨b, 1, none⟩ v1).setCell ⟨b, 2, none⟩ v2).setCell ⟨b, 3, none⟩ v3).setCell ⟨b, 4, none⟩ v4).setCell ⟨b, 5, none⟩ v5).setCell ⟨b, 6, none⟩ v6).heap.size = W.heap.size := by simp
theorem box_at {W1 w2 : World} {b : Nat} {a0 a1 a2 a3 a4 a5 : Value} {T : Nat} (hb : Below W1.heap.size W1 w2) (hlt : b < W1.heap.size) (hc : W1.heap[b]? = some (.cells #[a0, a1, a2, a3, a4, a5] T (0, 0))) :
    w2.cell? ⟨b, 0, none⟩ = some a0 ∧ w2.cell? ⟨b, 1, none⟩ = some a1 ∧ w2.cell? ⟨b, 2, none⟩ = some a2 ∧ w2.cell? ⟨b, 3, none⟩ = some a3 ∧ w2.cell? ⟨b, 4, none⟩ = some a4 ∧ w2.cell? ⟨b, 5, none⟩ = some a5 := by
  have h := (hb.block b hlt).trans hc
  refine ⟨?_, ?_, ?_, ?_, ?_, ?_⟩ <;> simp [World.cell?, h]
theorem res_at {W1 w2 : World} {b : Nat} {a0 a1 a2 a3 a4 a5 a6 : Value} {T : Nat} (hb : Below W1.heap.size W1 w2) (hlt : b < W1.heap.size) (hc : W1.heap[b]? = some (.cells #[a0, a1, a2, a3, a4, a5, a6] T (0, 0))) :
    w2.cell? ⟨b, 0, none⟩ = some a0 ∧ w2.cell? ⟨b, 1, none⟩ = some a1 ∧ w2.cell? ⟨b, 2, none⟩ = some a2 ∧ w2.cell? ⟨b, 3, none⟩ = some a3 ∧ w2.cell? ⟨b, 4, none⟩ = some a4 ∧ w2.cell? ⟨b, 5, none⟩ = some a5 ∧ w2.cell? ⟨b, 6, none⟩ = some a6 ∧
    w2.frozen? ⟨b, 0, none⟩ = false ∧ w2.frozen? ⟨b, 1, none⟩ = false ∧ w2.frozen? ⟨b, 2, none⟩ = false ∧ w2.frozen? ⟨b, 3, none⟩ = false ∧ w2.frozen? ⟨b, 4, none⟩ = false ∧ w2.frozen? ⟨b, 5, none⟩ = false ∧ w2.frozen? ⟨b, 6, none⟩ = false := by
  have h := (hb.block b hlt).trans hc
  refine ⟨?_, ?_, ?_, ?_, ?_, ?_, ?_, ?_, ?_, ?_, ?_, ?_, ?_, ?_⟩ <;> first | (simp [World.cell?, h]; done) | simp [World.frozen?, h]
theorem xh4 {b : Branch} {t : List Bool} (ht : xmf b [1] = some t) {Z : Nat → Prop} {w : World} (hZ : ZG Z w) {uv : Value} (hu : VRep (Ec Z w) (sll 13 xj b.nodes) uv) (W1 : World) (g : Nat) (hW : Below w.heap.size w W1) (hg : w.heap.size ≤ g) (hc : W1.heap[g]? = some (.cells #[.int .i64 1] 3 (0, 0))) :
    Calls Tryz.prog 31 #[.agg #[uv], .slice (some ⟨g, 0, none⟩) 1 1] W1 fun e w' => ∃ tv, e = .returned tv ∧ Below W1.heap.size W1 w' ∧ VRep (Ec (fun b => (Z b ∨ b = g) ∨ (W1.heap.size ≤ b ∧ b < w'.heap.size)) w') (.sl 1 (t.map bool)) tv := by
  have hlt : g < W1.heap.size := (Array.getElem?_eq_some_iff.1 hc).1
  refine (xrv b [1] t ht).2 (fun b => Z b ∨ b = g) W1 [.agg #[uv], .slice (some ⟨g, 0, none⟩) 1 1] ⟨fun b hb => ?_, hZ.gw.mono hW hZ.gw.size⟩ ?_
  · rcases hb with hb | rfl
    · exact Nat.lt_of_lt_of_le (hZ.zlt b hb) hW.size
    · exact hlt
  · refine .cons ?_ (.cons ?_ .nil)
    · unfold xp
      simp only [VRep]
      exact ⟨[uv], .cons (x1s hu hZ.zlt hW (fun _ h => .inl h)) .nil, rfl⟩
    · simp only [VRep]
      refine ⟨[.int .i64 1], some ⟨g, 0, none⟩, 1, ?_, rfl, Nat.le_refl _, .inr ⟨g, 0, rfl, .inr rfl, ?_⟩⟩
      · exact .cons (by simp only [VRep]) .nil
      · intro i u hi
        have hi0 : i = 0 := by
          have := (List.getElem?_eq_some_iff.1 hi).1
          simpa using this
        subst hi0
        simp only [List.getElem?_cons_zero, Option.some.injEq] at hi
        subst hi
        refine ⟨rfl, fun v hv => ?_, fun j v hj => ?_⟩
        · simp only [Value.cells, List.mem_singleton, List.toList_toArray] at hv
          subst hv
          rfl
        · have hj0 : j = 0 := by
            have := (Array.getElem?_eq_some_iff.1 hj).1
            simp only [Value.cells] at this
            simpa using this
          subst hj0
          show W1.cell? ⟨g, 0 + 0 * 1 + 0, none⟩ = some v
          rw [Lib.cell_of_heap hc]
          simpa [Value.cells] using hj
set_option maxHeartbeats 4000000 in
set_option maxRecDepth 100000 in
theorem xqj (s : Stack) (r : index_upper) (h : xve s = some r) : Ok Tryz.prog 17 [xnb s] (xhb r) := by
  unfold xve at h
  obtain ⟨t, ht, h⟩ := bsE h
  obtain rfl := Option.some.inj h
  refine ⟨by kernel_rfl, fun Z w vals hZ hv => ?_⟩
  simp only [VReps] at hv
  obtain ⟨u, us, g1, rfl, rfl⟩ := hv
  unfold xnb at g1
  simp only [VRep, VReps, sll] at g1
  obtain ⟨cs, ⟨_, _, rfl, ⟨_, _, rfl, ⟨_, _, rfl, ⟨_, _, rfl, ⟨uv, _, q1, ⟨lv, _, q2, rfl, rfl⟩, rfl⟩, rfl⟩, rfl⟩, rfl⟩, rfl⟩, rfl⟩ := g1
  obtain ⟨ua, un, uc, rfl⟩ : ∃ a n c, uv = .slice a n c := by
    obtain ⟨us, A, cap, _, rfl, _⟩ := id q1
    exact ⟨_, _, _, rfl⟩
  obtain ⟨la, ln, lc, rfl⟩ : ∃ a n c, lv = .slice a n c := by
    obtain ⟨us, A, cap, _, rfl, _⟩ := id q2
    exact ⟨_, _, _, rfl⟩
  obtain ⟨ufs, ud1⟩ : ∃ fs, Program.underlying Tryz.prog 55 = some (.struct fs) := by
    have h : (match Program.underlying Tryz.prog 55 with | some (.struct _) => true | _ => false) = true := by kernel_rfl
    split at h
    · rename_i fs hfs
      exact ⟨_, hfs⟩
    · cases h
  have hg := hZ.gw
  have hz := hZ.zlt
  go_enter Tryz.func17, Tryz.ntmps17
  obtain ⟨A, hA⟩ : ∃ A, A = Obj.cells #[.int .i64 s.geo.lowers, .int .i64 s.geo.inodes, .int .i64 s.geo.blocks, .int .i64 s.geo.log, .slice ua un uc, .slice la ln lc] 29 := ⟨_, rfl⟩
  have hcall : ∀ W1 : World, W1 = (((w.alloc (.cells #[.int .i64 s.geo.lowers, .int .i64 s.geo.inodes, .int .i64 s.geo.blocks, .int .i64 s.geo.log, .slice ua un uc, .slice la ln lc] 29)).alloc (.cells #[.int .i64 0, .int .i64 0, .int .i64 0, .int .i64 0, .slice none 0 0, .slice none 0 0, .slice none 0 0] 55)).alloc (.cells #[.int .i64 1] 3)).drew →
      Calls Tryz.prog 31 #[.agg #[.slice ua un uc], .slice (some ⟨w.heap.size + 1 + 1, 0, none⟩) 1 1] W1 fun e w' => ∃ ta tn tc, e = .returned (.slice ta tn tc) ∧ Hid (Below w.heap.size w w' ∧ VRep (Ec (fun b => Z b ∨ (w.heap.size ≤ b ∧ b ≠ w.heap.size + 1 ∧ b < w'.heap.size)) w') (.sl 1 (t.map bool)) (.slice ta tn tc) ∧ w'.heap[w.heap.size + 1]? = some (.cells #[.int .i64 0, .int .i64 0, .int .i64 0, .int .i64 0, .slice none 0 0, .slice none 0 0, .slice none 0 0] 55 (0, 0))) ∧
        (w'.cell? ⟨w.heap.size, 0, none⟩ = some (.int .i64 s.geo.lowers) ∧ w'.cell? ⟨w.heap.size, 1, none⟩ = some (.int .i64 s.geo.inodes) ∧ w'.cell? ⟨w.heap.size, 2, none⟩ = some (.int .i64 s.geo.blocks) ∧ w'.cell? ⟨w.heap.size, 3, none⟩ = some (.int .i64 s.geo.log) ∧ w'.cell? ⟨w.heap.size, 4, none⟩ = some (.slice ua un uc) ∧ w'.cell? ⟨w.heap.size, 5, none⟩ = some (.slice la ln lc)) ∧
        (w'.cell? ⟨w.heap.size + 1, 0, none⟩ = some (.int .i64 0) ∧ w'.cell? ⟨w.heap.size + 1, 1, none⟩ = some (.int .i64 0) ∧ w'.cell? ⟨w.heap.size + 1, 2, none⟩ = some (.int .i64 0) ∧ w'.cell? ⟨w.heap.size + 1, 3, none⟩ = some (.int .i64 0) ∧ w'.cell? ⟨w.heap.size + 1, 4, none⟩ = some (.slice none 0 0) ∧ w'.cell? ⟨w.heap.size + 1, 5, none⟩ = some (.slice none 0 0) ∧ w'.cell? ⟨w.heap.size + 1, 6, none⟩ = some (.slice none 0 0) ∧
          w'.frozen? ⟨w.heap.size + 1, 0, none⟩ = false ∧ w'.frozen? ⟨w.heap.size + 1, 1, none⟩ = false ∧ w'.frozen? ⟨w.heap.size + 1, 2, none⟩ = false ∧ w'.frozen? ⟨w.heap.size + 1, 3, none⟩ = false ∧ w'.frozen? ⟨w.heap.size + 1, 4, none⟩ = false ∧ w'.frozen? ⟨w.heap.size + 1, 5, none⟩ = false ∧ w'.frozen? ⟨w.heap.size + 1, 6, none⟩ = false) := by
    intro W1 hW1
    have hsz : W1.heap.size = w.heap.size + 3 := by subst hW1; show (((w.heap.push _).push _).push _).size = _; simp
    have hbw : Below w.heap.size w W1 := by
      subst hW1
      exact Below.drew ((((Below.refl _ w).alloc (Nat.le_refl _) _).alloc (by simp) _).alloc (by simp; omega) _)
    have h0 : W1.heap[w.heap.size + 0]? = some (.cells #[.int .i64 s.geo.lowers, .int .i64 s.geo.inodes, .int .i64 s.geo.blocks, .int .i64 s.geo.log, .slice ua un uc, .slice la ln lc] 29 (0, 0)) := by subst hW1; exact alloc3 w _ _ _ _ 0 _ (by omega) rfl
    have h1 : W1.heap[w.heap.size + 1]? = some (.cells #[.int .i64 0, .int .i64 0, .int .i64 0, .int .i64 0, .slice none 0 0, .slice none 0 0, .slice none 0 0] 55 (0, 0)) := by subst hW1; exact alloc3 w _ _ _ _ 1 _ (by omega) rfl
    have h2 : W1.heap[w.heap.size + 2]? = some (.cells #[.int .i64 1] 3 (0, 0)) := by subst hW1; exact alloc3 w _ _ _ _ 2 _ (by omega) rfl
    refine (xh4 ht hZ (uv := .slice ua un uc) (by simp only [VRep, sll]; exact q1) W1 (w.heap.size + 1 + 1) hbw (by omega) h2).mono ?_
    rintro e w' ⟨tv, rfl, hb, hv⟩
    obtain ⟨ta, tn, tc, rfl⟩ : ∃ ta tn tc, tv = .slice ta tn tc := by
      simp only [VRep] at hv
      obtain ⟨us, A, cap, _, rfl, _⟩ := hv
      exact ⟨_, _, _, rfl⟩
    refine ⟨ta, tn, tc, rfl, Lib.hid ⟨hbw.trans (hb.mono (by omega)), ?_, (hb.block _ (by omega)).trans h1⟩, box_at hb (by omega) h0, res_at hb (by omega) h1⟩
    refine VRep.stab (E := Ec (fun b => (Z b ∨ b = w.heap.size + 1 + 1) ∨ (W1.heap.size ≤ b ∧ b < w'.heap.size)) w') (E' := Ec (fun b => Z b ∨ (w.heap.size ≤ b ∧ b ≠ w.heap.size + 1 ∧ b < w'.heap.size)) w') ⟨fun _ h => h.elim, fun _ h => h.elim, fun b (hq : (Z b ∨ b = w.heap.size + 1 + 1) ∨ (W1.heap.size ≤ b ∧ b < w'.heap.size)) => ⟨?_, rfl⟩⟩ _ _ hv
    have hss := hb.size
    rcases hq with (hq | rfl) | hq
    · exact .inl hq
    · exact .inr ⟨by omega, by omega, by omega⟩
    · exact .inr ⟨by omega, by omega, by omega⟩
  clear hA
  go_wp2
  go_region_with (go_at_call 31; refine (hcall _ rfl).mono ?_; rintro e w2 ⟨ta, tn, tc, rfl, hH, ⟨c0, c1, c2, c3, c4, c5⟩, ⟨d0, d1, d2, d3, d4, d5, d6, f0, f1, f2, f3, f4, f5, f6⟩⟩)
  all_goals
    obtain ⟨hbel, hvt, hblk⟩ := hH.out
    have hF0 := set7 hblk (.int .i64 s.geo.lowers) (.int .i64 s.geo.inodes) (.int .i64 s.geo.blocks) (.int .i64 s.geo.log) (.slice ua un uc) (.slice la ln lc) (.slice ta tn tc)
    have hF1 := xo5 hbel (b := w.heap.size + 1) (by omega) (.int .i64 s.geo.lowers) (.int .i64 s.geo.inodes) (.int .i64 s.geo.blocks) (.int .i64 s.geo.log) (.slice ua un uc) (.slice la ln lc) (.slice ta tn tc)
    have hF2 := fun k (hk : k ≠ w.heap.size + 1) => xe4 (W := w2) hk (.int .i64 s.geo.lowers) (.int .i64 s.geo.inodes) (.int .i64 s.geo.blocks) (.int .i64 s.geo.log) (.slice ua un uc) (.slice la ln lc) (.slice ta tn tc)
    have hF3 := xp2 (W := w2) (b := w.heap.size + 1) (.int .i64 s.geo.lowers) (.int .i64 s.geo.inodes) (.int .i64 s.geo.blocks) (.int .i64 s.geo.log) (.slice ua un uc) (.slice la ln lc) (.slice ta tn tc)
    clear c0 c1 c2 c3 c4 c5 d0 d1 d2 d3 d4 d5 d6 f0 f1 f2 f3 f4 f5 f6 hcall hH hblk
    generalize (((((((w2.setCell ⟨w.heap.size + 1, 0, none⟩ (.int .i64 s.geo.lowers)).setCell ⟨w.heap.size + 1, 1, none⟩ (.int .i64 s.geo.inodes)).setCell ⟨w.heap.size + 1, 2, none⟩ (.int .i64 s.geo.blocks)).setCell ⟨w.heap.size + 1, 3, none⟩ (.int .i64 s.geo.log)).setCell ⟨w.heap.size + 1, 4, none⟩ (.slice ua un uc)).setCell ⟨w.heap.size + 1, 5, none⟩ (.slice la ln lc)).setCell ⟨w.heap.size + 1, 6, none⟩ (.slice ta tn tc)) = WF at hF0 hF1 hF2 hF3 ⊢
    obtain ⟨e0, e1, e2, e3, e4, e5, e6, _⟩ := res_at (Below.refl WF.heap.size WF) (Array.getElem?_eq_some_iff.1 hF0).1 hF0
    go_wp2
    refine bodyPost_ret (results_cell_row (fn := Tryz.f17) rfl _ WF _ _ _ _ (.struct ufs) rfl hF0 ud1 rfl (by kernel_rfl)) rfl ?_
    refine ⟨_, rfl, hF1, ?_⟩
    simp only [xhb, VRep]
    refine ⟨_, .cons (by simp only [VRep]) (.cons (by simp only [VRep]) (.cons (by simp only [VRep]) (.cons (by simp only [VRep]) (.cons (x1s (by simp only [VRep, sll]; exact q1) hz hF1 (fun _ h => .inl h)) (.cons (x1s (by simp only [VRep, sll]; exact q2) hz hF1 (fun _ h => .inl h)) (.cons ?_ .nil)))))), rfl⟩
    refine VRep.stab (E := Ec (fun b => Z b ∨ (w.heap.size ≤ b ∧ b ≠ w.heap.size + 1 ∧ b < w2.heap.size)) w2) (E' := Ec (fun b => Z b ∨ (w.heap.size ≤ b ∧ b < WF.heap.size)) WF) ⟨fun _ h => h.elim, fun _ h => h.elim, fun b (hq : Z b ∨ (w.heap.size ≤ b ∧ b ≠ w.heap.size + 1 ∧ b < w2.heap.size)) => ⟨?_, hF2 b ?_⟩⟩ _ _ hvt
    · rcases hq with hq | hq
      · exact .inl hq
      · exact .inr ⟨hq.1, by rw [hF3]; exact hq.2.2⟩
    · rcases hq with hq | hq
      · have := hz b hq; omega
      · exact hq.2.1
end Go.Proofs.YtefdlpandfhcgaaGreatDoor.AL

