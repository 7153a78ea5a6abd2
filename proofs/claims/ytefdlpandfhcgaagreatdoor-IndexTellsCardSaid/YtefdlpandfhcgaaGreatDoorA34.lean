/- A law of the given program is proved: part 34 of 50. -/
import Derived.Shelf.Strconv.Lower
import Derived.Lib.ConvBytes
import Derived.Lib.Hide
import Derived.Laws.Strings3
import Derived.Laws.Closers25
import Derived.Laws.Closers25b
import Derived.WalkKit
import Derived.BigCall
import Derived.BigGuard
import Derived.Laws.Bits64b
import Derived.LoopN
import Derived.Test.YtefdlpandfhcgaaGreatDoorA33
set_option linter.all false
/- strconv.ParseUint to the base 16, of 32 bits, of few bytes. -/
set_option linter.all false
namespace Go.Proofs.YtefdlpandfhcgaaGreatDoor.AL
open Go Go.Proofs Go.RowKit
def p16V : Option Nat → Value
  | some n => .tuple #[.int .u64 n, .nilIface]
  | none => .tuple #[.int .u64 0, .iface 122 (.int .i64 2)]
theorem x0y (c : UInt8) : bits .or .u8 (c.toNat : Int) 32 = (lowB c : Int) := by
  have h : ∀ k : Fin 256, bits .or .u8 (k.val : Int) 32 = ((k.val ||| 32 : Nat) : Int) := by decide +kernel
  exact h ⟨c.toNat, c.toNat_lt⟩
theorem xs8 (c : UInt8) : lowB c < 256 := by
  have h : ∀ k : Fin 256, (k.val ||| 32 : Nat) < 256 := by decide +kernel
  exact h ⟨c.toNat, c.toNat_lt⟩
set_option maxHeartbeats 32000000 in
set_option maxRecDepth 100000 in
theorem xf1 (t : ByteArray) (hne : t.size ≠ 0) (h7 : t.size ≤ 7) (w : World) :
    Calls Tryz.prog 59 #[.string t, .int .i64 16, .int .i64 32] w fun e w' => e = .returned (p16V (parse16 0 t.data.toList)) ∧ w' = Lib.bytesWorld w 5 t := by
  have hemp : t.toList.isEmpty = false := by
    rw [← decide_eq_emptyBytes]
    exact decide_eq_false (fun h => hne (by rw [h]; rfl))
  have hcv := Lib.run_convert_string_bytes (P := Tryz.prog) w 9 46 5 t (u := .string) (by kernel_rfl) (by kernel_rfl) (by kernel_rfl)
  have hB : ∀ j, j < t.size → (Lib.bytesWorld w 5 t).cell? ⟨w.heap.size, j, none⟩ = some (.int .u8 (t.data.toList.getD j 0).toNat) := fun j hj => Lib.bytesWorld_cell w 5 t j hj
  obtain ⟨W1, hW1⟩ : ∃ W1, W1 = Lib.bytesWorld w 5 t := ⟨_, rfl⟩
  rw [← hW1] at hcv hB ⊢
  clear hW1
  obtain ⟨bs, hL⟩ : ∃ bs, bs = t.data.toList := ⟨_, rfl⟩
  have hLn : bs.length = t.size := by rw [hL, Lib.size_eq]
  rw [← hL] at hB ⊢
  clear hL
  have hmv : IntKind.u64.wrap (IntKind.u64.wrap 4294967296 - 1) = 4294967295 := by
    rw [IntKind.wrap_u64, IntKind.wrap_u64]
    decide
  go_enter Tryz.func59, Tryz.ntmps59
  go_wp2
  go_loop [12, 13, 101] (fun vu vn vi => ∃ (k acc : Nat) (a : Int), vu = .bool false ∧ vn = .int .u64 a ∧ vi = .int .i64 k ∧ k ≤ t.size ∧ Hid (a = (acc : Int) ∧ acc < 16 ^ k ∧ parse16 0 bs = parse16 acc (bs.drop k)))
    (fun _ _ vi => t.size - (intOf vi).toNat)
  case atStart => exact ⟨0, 0, 0, rfl, rfl, rfl, by omega, rfl, by decide, rfl⟩
  case round =>
    obtain ⟨k, acc, a, rfl, rfl, rfl, hk, hh⟩ := hrel
    obtain ⟨ha, hacc, hdec⟩ := hh.out
    clear hh
    have hpow : 16 ^ k ≤ 16 ^ 7 := Nat.pow_le_pow_right (by decide) (by omega)
    have hacc7 : acc < 268435456 := Nat.lt_of_lt_of_le hacc hpow
    clear hpow
    by_cases hkn : k < t.size
    · have hpow : 16 ^ k ≤ 16 ^ 6 := Nat.pow_le_pow_right (by decide) (by omega)
      have hacc6 : acc < 16777216 := Nat.lt_of_lt_of_le hacc hpow
      clear hpow hacc7
      have a0 : 0 ≤ a := by omega
      have a1 : a < 16777216 := by omega
      have hc := hB k hkn
      have hdrop : bs.drop k = bs[k]'(by omega) :: bs.drop (k + 1) := List.drop_eq_getElem_cons (by omega)
      have hget : bs.getD k 0 = bs[k]'(by omega) := by simp [List.getD, List.getElem?_eq_getElem (show k < bs.length by omega)]
      rw [hdrop] at hdec
      rw [hget] at hc
      generalize bs[k]'(by omega) = c at hc hdec
      have hc256 : c.toNat < 256 := c.toNat_lt
      clear hB hdrop hget
      have hstep : ∀ d : Nat, d < 16 → dig16 c = some d → Hid (a * 16 + (d : Int) = ((acc * 16 + d : Nat) : Int) ∧ acc * 16 + d < 16 ^ (k + 1) ∧ parse16 0 bs = parse16 (acc * 16 + d) (bs.drop (k + 1))) := by
        intro d hd he
        refine Lib.hid ⟨by omega, by rw [Nat.pow_succ]; omega, ?_⟩
        rw [hdec]
        simp only [parse16, he, Option.bind_some]
      have hbad : dig16 c = none → parse16 0 bs = none := by
        intro he
        rw [hdec]
        simp only [parse16, he, Option.bind_none]
      by_cases hdig : 48 ≤ c.toNat ∧ c.toNat ≤ 57
      · obtain ⟨hd0, hd1⟩ := hdig
        have HN := hstep (c.toNat - 48) (by omega) (by unfold dig16; rw [if_pos ⟨hd0, hd1⟩])
        have e0 : ((c.toNat - 48 : Nat) : Int) = (c.toNat : Int) - 48 := by omega
        rw [e0] at HN
        clear hstep hbad hacc hdec ha e0 hacc6
        go_wp2
        refine ⟨⟨k + 1, acc * 16 + (c.toNat - 48), a * 16 + ((c.toNat : Int) - 48), rfl, (by first | rfl | (congr 1; omega)), (by first | rfl | (congr 1; omega)), by omega, HN⟩, by simp [intOf]; omega⟩
      · have hl := xs8 c
        by_cases hlet : 97 ≤ lowB c ∧ lowB c ≤ 102
        · have HN := hstep (lowB c - 87) (by omega) (by unfold dig16; rw [if_neg hdig, if_pos hlet])
          have e0 : ((lowB c - 87 : Nat) : Int) = (lowB c : Int) - 87 := by omega
          rw [e0] at HN
          have hq := x0y c
          have h95 : ¬ (c.toNat : Int) = 95 := by
            intro h
            have h : c.toNat = 95 := by omega
            unfold lowB at hlet
            rw [h] at hlet
            exact absurd hlet (by decide)
          obtain ⟨lb, hlb⟩ : ∃ lb, lowB c = lb := ⟨_, rfl⟩
          rw [hlb] at HN hq hlet hl
          obtain ⟨hl0, hl1⟩ := hlet
          clear hstep hbad hacc hdec ha e0 hacc6 hl hlb
          go_wp2_with (go_at_call 66; refine (Tryz.internal_strconv_lower _ _).mono ?_; rintro e w' ⟨rfl, rfl⟩; rw [hq])
          all_goals refine ⟨⟨k + 1, acc * 16 + (lb - 87), a * 16 + ((lb : Int) - 87), rfl, (by first | rfl | (congr 1; omega)), (by first | rfl | (congr 1; omega)), by omega, HN⟩, by simp [intOf]; omega⟩
        · have hF := hbad (by unfold dig16; rw [if_neg hdig, if_neg hlet])
          by_cases h95 : (c.toNat : Int) = 95
          · have hq : bits .or .u8 (95 : Int) 32 = 127 := by decide +kernel
            rw [h95] at hc
            clear hstep hbad hacc hdec ha hacc6 hl hlet hdig h95 hc256
            go_wp2_with (go_at_call 66; refine (Tryz.internal_strconv_lower _ _).mono ?_; rintro e w' ⟨rfl, rfl⟩; rw [hq])
            all_goals go_ret2
            all_goals first | exact ⟨rfl, rfl⟩ | exact ⟨by rw [hF]; rfl, rfl⟩
          have hq := x0y c
          obtain ⟨lb, hlb⟩ : ∃ lb, lowB c = lb := ⟨_, rfl⟩
          rw [hlb] at hq hlet hl
          clear hstep hbad hacc hdec ha hacc6 hlb
          go_wp2_with (go_at_call 66; refine (Tryz.internal_strconv_lower _ _).mono ?_; rintro e w' ⟨rfl, rfl⟩; rw [hq])
          all_goals go_ret2
          all_goals first | exact ⟨rfl, rfl⟩ | exact ⟨by rw [hF]; rfl, rfl⟩
    · have hkk : k = t.size := by omega
      subst hkk
      have hF : parse16 acc (bs.drop t.size) = some acc := by rw [List.drop_eq_nil_of_le (by omega)]; rfl
      rw [hF] at hdec
      subst ha
      clear hacc hF
      go_wp2
      go_ret2
      exact ⟨rfl, rfl⟩
set_option maxHeartbeats 4000000 in
set_option maxRecDepth 100000 in
theorem xz3 (s : ByteArray) (hne : s.size ≠ 0) (h7 : s.size ≤ 7) (w : World) (hg : GW w) :
    Calls Tryz.prog 48 #[.string s, .int .i64 16, .int .i64 32] w fun e w' => (match parse16 0 s.data.toList with
      | some n => e = .returned (.tuple #[.int .u64 n, .nilIface])
      | none => ∃ N : Nat, e = .returned (.tuple #[.int .u64 0, .iface 125 (.pointer (some ⟨N, 0, none⟩))])) ∧ Below w.heap.size w w' := by
  have hI := xf1 s hne h7 w
  obtain ⟨r, hr⟩ : ∃ r, parse16 0 s.data.toList = r := ⟨_, rfl⟩
  rw [hr] at hI ⊢
  clear hr
  cases r with
  | some n =>
    have hI : Calls Tryz.prog 59 #[.string s, .int .i64 16, .int .i64 32] w fun e w' => e = .returned (.tuple #[.int .u64 n, .nilIface]) ∧ w' = Lib.bytesWorld w 5 s := hI
    go_enter Tryz.func48, Tryz.ntmps48
    go_wp2_with (go_at_call 59; refine hI.mono ?_; rintro e W1 ⟨rfl, hW⟩)
    go_wp2
    go_ret2
    exact ⟨rfl, Lib.bytesWorld_below _ _ _⟩
  | none =>
    have hI : Calls Tryz.prog 59 #[.string s, .int .i64 16, .int .i64 32] w fun e w' => e = .returned (.tuple #[.int .u64 0, .iface 122 (.int .i64 2)]) ∧ w' = Lib.bytesWorld w 5 s := hI
    obtain ⟨_, _, ⟨ev, hv, hev⟩, _⟩ := hg
    have hG := Lib.lt_of_cell hv
    dsimp only at hG
    go_enter Tryz.func48, Tryz.ntmps48
    go_wp2_with (go_at_call 59; refine hI.mono ?_)
    rintro e W1 ⟨rfl, hW⟩
    have hb1 : Below w.heap.size w W1 := by rw [hW]; exact Lib.bytesWorld_below _ _ _
    have hv1 := (hb1.cell (Lib.lt_of_cell hv)).trans hv
    clear hW hI
    go_wp2_with (go_at_call 60; refine (Tryz.strconv_toError_bad ⟨#[80, 97, 114, 115, 101, 85, 105, 110, 116]⟩ s 16 32 ev _ (by omega) ?_ hev).mono ?_)
    · exact hv1
    rintro e W2 ⟨N, rfl, h1, h2, h3⟩
    go_wp2
    go_ret2
    exact ⟨⟨N, rfl⟩, hb1.trans (h3.mono hb1.size)⟩
end Go.Proofs.YtefdlpandfhcgaaGreatDoor.AL

/- strconv.FormatInt to the base 16, of numbers of few digits. -/
set_option linter.all false
namespace Go.Proofs.YtefdlpandfhcgaaGreatDoor.AL
open Go Go.Proofs Go.RowKit
theorem two_w (w : World) : Calls Tryz.prog 95 #[.int .i64 16] w fun e w' => e = .returned (.bool true) ∧ w' = w := by
  go_enter Tryz.func95, Tryz.ntmps95
  go_wp2
  go_ret
  exact ⟨rfl, rfl⟩
set_option maxRecDepth 100000 in
theorem tz16_w (w : World) (hg : GW w) : Calls Tryz.prog 96 #[.int .u64 16] w fun e w' => e = .returned (.int .i64 4) ∧ w' = w := by
  obtain ⟨_, ⟨T, fr, ht⟩, _⟩ := hg
  have hc : w.cell? ⟨5, 15, none⟩ = some (.int .u8 4) := by rw [Lib.cell_of_heap ht]; rfl
  have h64 : Calls Tryz.prog 100 #[.int .u64 16] w fun e w' => e = .returned (.int .i64 4) ∧ w' = w := by
    have key : IntKind.u64.wrap (bits BinOp.and IntKind.u64 16 (IntKind.u64.wrap (-16)) * 285870213051353865) / 288230376151711744 = 15 := by decide +kernel
    go_enter Tryz.func100, Tryz.ntmps100
    go_wp2_with (simp only [key])
    go_ret
    exact ⟨rfl, rfl⟩
  go_enter Tryz.func96, Tryz.ntmps96
  go_wp2_with (go_at_call 100; refine h64.mono ?_; rintro e w' ⟨rfl, rfl⟩)
  go_ret
  exact ⟨rfl, rfl⟩
structure FB (w : World) (n : Nat) (u : Nat) (l : List UInt8) (A : Array Value) (W : World) : Prop where
  blk : W.heap[w.heap.size]? = some (.cells A 159 (0, 0))
  size : A.size = 65
  bel : Below w.heap.size w W
  len : l.length ≤ 6
  lt : u < 16 ^ (7 - l.length)
  cells : ∀ (j : Nat) (c : UInt8), l[j]? = some c → A[65 - l.length + j]? = some (.int .u8 (c.toNat : Int))
  txt : hexF 6 n = hexF (6 - l.length) u ++ l
theorem xgz {W : World} {b j : Nat} {A : Array Value} {T : Nat} {fr : Nat × Nat} (h : W.heap[b]? = some (.cells A T fr)) (v : Value) : (W.setCell ⟨b, j, none⟩ v).heap[b]? = some (.cells (A.setIfInBounds j v) T fr) := by
  unfold World.setCell
  simp only [h]
  have hlt := (Array.getElem?_eq_some_iff.1 h).1
  rw [Array.getElem?_modify, if_pos rfl, h]
  rfl
theorem FB.push {w : World} {n u : Nat} {l : List UInt8} {A : Array Value} {W : World} (h : FB w n u l A W) (h6 : l.length < 6) (hu : 16 ≤ u) : FB w n (u / 16) (hexD (u % 16) :: l) (A.setIfInBounds (64 - l.length) (.int .u8 ((hexD (u % 16)).toNat : Int))) (W.setCell ⟨w.heap.size, 64 - l.length, none⟩ (.int .u8 ((hexD (u % 16)).toNat : Int))) := by
  have hs := h.size
  refine ⟨xgz h.blk _, by simpa using hs, h.bel.setCell (p := ⟨w.heap.size, _, none⟩) (Nat.le_refl _) _, by simp only [List.length_cons]; omega, ?_, ?_, ?_⟩
  · have := h.lt
    rw [List.length_cons]
    rw [show 7 - l.length = (7 - (l.length + 1)) + 1 by omega, Nat.pow_succ] at this
    exact Nat.div_lt_of_lt_mul (by rw [Nat.mul_comm]; exact this)
  · intro j c hj
    rw [List.length_cons]
    cases j with
    | zero =>
      simp only [List.getElem?_cons_zero, Option.some.injEq] at hj
      subst hj
      rw [show 65 - (l.length + 1) + 0 = 64 - l.length by omega]
      simp only [Array.getElem?_setIfInBounds, if_true]
      rw [if_pos (by omega)]
    | succ j =>
      have hj' : l[j]? = some c := by simpa using hj
      rw [show 65 - (l.length + 1) + (j + 1) = 65 - l.length + j by omega, Array.getElem?_setIfInBounds_ne (by omega)]
      exact h.cells j c hj'
  · rw [h.txt, List.length_cons]
    rw [show 6 - l.length = (6 - (l.length + 1)) + 1 by omega]
    conv => lhs; unfold hexF
    rw [if_neg (by omega)]
    simp
theorem FB.full {w : World} {n u : Nat} {l : List UInt8} {A : Array Value} {W : World} (h : FB w n u l A W) (hu : u < 16) : hexF 6 n = hexD u :: l := by
  rw [h.txt]
  cases hq : 6 - l.length with
  | zero => unfold hexF; rw [show u % 16 = u by omega]; rfl
  | succ k => unfold hexF; rw [if_pos hu]; rfl
def zeros65 : Array Value := Array.replicate 65 (.int .u8 0)
def digs : ByteArray := ByteArray.mk #[48, 49, 50, 51, 52, 53, 54, 55, 56, 57, 97, 98, 99, 100, 101, 102, 103, 104, 105, 106, 107, 108, 109, 110, 111, 112, 113, 114, 115, 116, 117, 118, 119, 120, 121, 122]
theorem xcab {k : Nat} (h : k < 16) : digs[k]? = some (hexD k) := by
  have : ∀ j : Fin 16, digs[j.val]? = some (hexD j.val) := by decide +kernel
  exact this ⟨k, h⟩
theorem xb0 {j : Nat} (hj : j < 16) (W : World) : (Instr.index 9 (.string (ByteArray.mk #[48, 49, 50, 51, 52, 53, 54, 55, 56, 57, 97, 98, 99, 100, 101, 102, 103, 104, 105, 106, 107, 108, 109, 110, 111, 112, 113, 114, 115, 116, 117, 118, 119, 120, 121, 122])) (.int .u64 (j : Int))).run Tryz.prog W = .ok (.int .u8 ((hexD j).toNat : Int)) W := by
  have h := xcab hj
  unfold digs at h
  simp [Instr.index, asIntOf, run_underlying (show Program.underlying Tryz.prog 9 = some .string by kernel_rfl), h]
theorem and15 (u : Nat) (h : u < 268435456) : bits .and .u64 (u : Int) 15 = ((u % 16 : Nat) : Int) := by
  have := bits_and_u64_nat u 15 (by omega) (by omega)
  rw [show ((15 : Nat) : Int) = 15 from rfl] at this
  rw [this]
  congr 1
  exact Nat.and_two_pow_sub_one_eq_mod u 4
set_option maxHeartbeats 8000000 in
set_option maxRecDepth 100000 in
theorem xa8 (n : Nat) (hn : n < 268435456) (w : World) (hg : GW w) : Calls Tryz.prog 85 #[.slice none 0 0, .int .u64 n, .int .i64 16, .bool false, .bool false] w fun e w' => e = .returned (.tuple #[.slice none 0 0, .string (⟨(hexF 6 n).toArray⟩)]) ∧ Below w.heap.size w w' := by
  go_enter Tryz.func85, Tryz.ntmps85
  go_wp2_with (first
    | (go_at_call 95; refine (two_w _).mono ?_; rintro e w' ⟨rfl, rfl⟩)
    | (go_at_call 96; refine (tz16_w _ (hg.mono ((Below.refl _ w).alloc (Nat.le_refl _) _) hg.size)).mono ?_; rintro e w' ⟨rfl, rfl⟩))
  have hz : FB w n n [] zeros65 (w.alloc (.cells zeros65 159)) := by
    refine ⟨(by show (w.heap.push _)[w.heap.size]? = _; rw [Array.getElem?_push_size]), by simp [zeros65], (Below.refl _ w).alloc (Nat.le_refl _) _, by simp, by simpa using hn, by simp, by simp⟩
  go_loopw [1, 13] (fun vu vi wr => ∃ (u k : Nat) (l : List UInt8) (A : Array Value), vu = .int .u64 u ∧ vi = .int .i64 k ∧ Hid (k = 65 - l.length ∧ FB w n u l A wr)) (fun vu _ _ => (intOf vu).toNat)
  case atStart => exact ⟨n, 65, [], _, rfl, rfl, rfl, hz⟩
  case round =>
    clear hz
    obtain ⟨u, k, l, A, rfl, rfl, hh⟩ := hrel
    obtain ⟨hk, hF⟩ := hh.out
    clear hh
    have hpow : 16 ^ (7 - l.length) ≤ 16 ^ 7 := Nat.pow_le_pow_right (by decide) (by omega)
    have hu7 : u < 268435456 := Nat.lt_of_lt_of_le hF.lt hpow
    clear hpow
    have hl6 := hF.len
    have hix : ∀ j : Nat, j < 16 → ∀ W, (Instr.index 9 (.string (ByteArray.mk #[48, 49, 50, 51, 52, 53, 54, 55, 56, 57, 97, 98, 99, 100, 101, 102, 103, 104, 105, 106, 107, 108, 109, 110, 111, 112, 113, 114, 115, 116, 117, 118, 119, 120, 121, 122])) (.int .u64 (j : Int))).run Tryz.prog W = .ok (.int .u8 ((hexD j).toNat : Int)) W := fun j hj W => xb0 hj W
    have hk1 : 1 ≤ k := by omega
    have hk2 : k ≤ 65 := by omega
    by_cases hu : u < 16
    · have hfull := hF.full hu
      have hi := hix u hu
      have hB := hF.blk
      have hsz := hF.size
      have hbel := hF.bel
      have hj0 : ((k : Int) - 1).toNat = k - 1 := by omega
      have hcell : wr.cell? ⟨w.heap.size, k - 1, none⟩ = A[k - 1]? := by rw [Lib.cell_of_heap hB]
      have hcs : ∃ v, wr.cell? ⟨w.heap.size, k - 1, none⟩ = some v := ⟨A[k - 1]'(by omega), by rw [hcell]; simp [show k - 1 < A.size by omega]⟩
      obtain ⟨v0, hv0⟩ := hcs
      have hfz : wr.frozen? ⟨w.heap.size, k - 1, none⟩ = false := by simp [World.frozen?, hB]
      have hlen : (hexD u :: l).length = 65 - (k - 1) := by rw [List.length_cons]; omega
      have hsl : ∀ W, (Instr.sliceAt 159 (.pointer (some ⟨w.heap.size, 0, none⟩)) (some (.int .i64 ((k : Int) - 1))) none none).run Tryz.prog W = .ok (.slice (some ⟨w.heap.size, k - 1, none⟩) (65 - (k - 1)) (65 - (k - 1))) W := by
        intro W
        have h1 := run_sliceAt_array_l (P := Tryz.prog) W 159 ⟨w.heap.size, 0, none⟩ (by kernel_rfl) .i64 ((k : Int) - 1) (by omega) (by rw [show Program.arrayLen Tryz.prog 159 = 65 by kernel_rfl]; omega)
        rw [h1, show Program.arrayLen Tryz.prog 159 = 65 by kernel_rfl, show Program.elem Tryz.prog 159 = 5 by kernel_rfl]
        obtain ⟨q, hq, hq1⟩ : ∃ q, (Tryz.prog).info? 5 = some q ∧ q.size = 1 := Option.map_eq_some_iff.1 (show ((Tryz.prog).info? 5).map (·.size) = some 1 by kernel_rfl)
        have hne : ¬ 65 = k - 1 := by omega
        have hn0 : ¬ k - 1 = 0 := by omega
        simp [sizeOf, typeInfo, hq, hq1, slicedAt, hj0, Addr.add, hne, hn0]
      have hcv := run_convert_bytes_back (P := Tryz.prog) (wr.setCell ⟨w.heap.size, k - 1, none⟩ (.int .u8 ((hexD u).toNat : Int))) 46 9 5 ⟨w.heap.size, k - 1, none⟩ (65 - (k - 1)) (hexD u :: l) (by kernel_rfl) (by kernel_rfl) (by kernel_rfl) (by
        intro j hj
        rw [Lib.add_plain, Lib.cell_of_heap (xgz hB _)]
        cases j with
        | zero =>
          simp only [Nat.add_zero, Array.getElem?_setIfInBounds, if_true, List.getElem_cons_zero]
          rw [if_pos (by omega)]
        | succ j =>
          have hj2 : j < l.length := by simpa using hj
          rw [Array.getElem?_setIfInBounds_ne (by omega), List.getElem_cons_succ]
          rw [show k - 1 + (j + 1) = 65 - l.length + j by omega]
          exact hF.cells j _ (List.getElem?_eq_getElem hj2))
      rw [hlen, ← hfull] at hcv
      clear hix hF hu7 hcell hlen hsz hl6 hk hB
      go_wp2
      go_ret2
      exact ⟨rfl, hbel.setCell (p := ⟨w.heap.size, _, none⟩) (Nat.le_refl _) _⟩
    · have h5 : l.length < 6 := by
        rcases Nat.lt_or_ge l.length 6 with h | h
        · exact h
        · have := hF.lt
          rw [show 7 - l.length = 1 by omega] at this
          omega
      have HP0 := hF.push h5 (by omega)
      have hB := hF.blk
      have hsz := hF.size
      have e64 : 64 - l.length = k - 1 := by omega
      rw [e64] at HP0
      obtain ⟨d, hd⟩ : ∃ d, u % 16 = d := ⟨_, rfl⟩
      have hd16 : d < 16 := by omega
      have hi := hix d hd16
      have hand := and15 u hu7
      rw [hd] at hand HP0
      have HP := Lib.hid HP0
      have hj0 : ((k : Int) - 1).toNat = k - 1 := by omega
      have hcell : wr.cell? ⟨w.heap.size, k - 1, none⟩ = A[k - 1]? := by rw [Lib.cell_of_heap hB]
      have hcs : ∃ v, wr.cell? ⟨w.heap.size, k - 1, none⟩ = some v := ⟨A[k - 1]'(by omega), by rw [hcell]; simp [show k - 1 < A.size by omega]⟩
      obtain ⟨v0, hv0⟩ := hcs
      have hfz : wr.frozen? ⟨w.heap.size, k - 1, none⟩ = false := by simp [World.frozen?, hB]
      have hkl : Hid (k - 1 = 65 - (l.length + 1)) := Lib.hid (by omega)
      have hkb : 59 ≤ k := by omega
      have hu16 : 16 ≤ u := by omega
      clear hix hF hcell hsz hk hB hl6 HP0 e64 hd hu
      go_wp2
      refine ⟨⟨u / 16, k - 1, hexD d :: l, _, by simp, by congr 1; omega, Lib.hid ⟨hkl.out, HP.out⟩⟩, by simp [intOf]; omega⟩
end Go.Proofs.YtefdlpandfhcgaaGreatDoor.AL

/- Errors as values: nil, or one of which nothing is asked. -/
set_option linter.all false
namespace Go.Proofs.YtefdlpandfhcgaaGreatDoor.AL
open Go Go.Proofs Go.RowKit
def errA : Bool → AV
  | false => .val .nilIface
  | true => .ifc 125 .junk
theorem E_err (b : Bool) : x0b Tryz.prog .neq 98 (errA b) (.val .nilIface) = some (.val (.bool b)) := by
  have h : (match Program.underlying Tryz.prog 98 with
    | some (.interface _) => true
    | _ => false) = true := by kernel_rfl
  split at h
  · rename_i ms hu
    cases b <;> simp only [errA, x0b, hu]
  · cases h
def DErr := @E_err
end Go.Proofs.YtefdlpandfhcgaaGreatDoor.AL

/- strconv.FormatInt, strconv.ParseUint, strings.Repeat by contract. -/
set_option linter.all false
namespace Go.Proofs.YtefdlpandfhcgaaGreatDoor.AL
open Go Go.Proofs Go.RowKit
set_option maxRecDepth 100000 in
theorem ifmt_w (n : Nat) (hn : n < 268435456) (w : World) (hg : GW w) : Calls Tryz.prog 72 #[.int .i64 n, .int .i64 16] w fun e w' => e = .returned (.string (⟨(hexF 6 n).toArray⟩)) ∧ Below w.heap.size w w' := by
  have hw : IntKind.u64.wrap (n : Int) = n := by rw [IntKind.wrap_u64]; omega
  go_enter Tryz.func72, Tryz.ntmps72
  go_wp2_with (go_at_call 85; refine (xa8 n hn _ hg).mono ?_; rintro e w' ⟨rfl, hb⟩)
  go_ret
  exact ⟨rfl, hb⟩
set_option maxRecDepth 100000 in
theorem fmt_w (n : Nat) (hn : n < 268435456) (w : World) (hg : GW w) : Calls Tryz.prog 61 #[.int .i64 n, .int .i64 16] w fun e w' => e = .returned (.string (⟨(hexF 6 n).toArray⟩)) ∧ Below w.heap.size w w' := by
  go_enter Tryz.func61, Tryz.ntmps61
  go_wp2_with (go_at_call 72; refine (ifmt_w n hn _ hg).mono ?_; rintro e w' ⟨rfl, hb⟩)
  go_ret
  exact ⟨rfl, hb⟩
def xac (n b : Int) : Option ByteArray := (ck (0 ≤ n ∧ n < 268435456 ∧ b = 16)).bind fun _ => some ⟨(hexF 6 n.toNat).toArray⟩
theorem x5f (n b : Int) (r : ByteArray) (h : xac n b = some r) : Ok Tryz.prog 61 [int n, int b] (str r) := by
  unfold xac at h
  obtain ⟨⟨h1, h2, h3⟩, h4⟩ := ckE h
  subst h3
  have h5 := Option.some.inj h4
  subst h5
  obtain ⟨u, rfl⟩ : ∃ u : Nat, n = u := ⟨n.toNat, by omega⟩
  refine ⟨by kernel_rfl, fun Z w vals hZ hv => ?_⟩
  simp only [VReps] at hv
  obtain ⟨u1, us, g1, ⟨v, vs, g2, rfl, rfl⟩, rfl⟩ := hv
  simp only [VRep] at g1 g2
  subst g1; subst g2
  refine (fmt_w u (by omega) w hZ.gw).mono ?_
  rintro e w' ⟨rfl, hb⟩
  exact ⟨_, rfl, hb, by simp only [VRep, Int.toNat_natCast]⟩
def xjc (s : ByteArray) (b z : Int) : Option (Int × Bool) := (ck (s.size ≠ 0 ∧ s.size ≤ 7 ∧ b = 16 ∧ z = 32)).bind fun _ => some (match parse16 0 s.data.toList with | some n => ((n : Int), false) | none => (0, true))
theorem x6f (s : ByteArray) (b z : Int) (r : Int × Bool) (h : xjc s b z = some r) : Ok Tryz.prog 48 [str s, int b, int z] (.tup [ik .u64 r.1, errA r.2]) := by
  unfold xjc at h
  obtain ⟨⟨h1, h2, h3, h3'⟩, h4⟩ := ckE h
  subst h3; subst h3'
  have h5 := Option.some.inj h4
  subst h5
  refine ⟨by kernel_rfl, fun Z w vals hZ hv => ?_⟩
  simp only [VReps] at hv
  obtain ⟨u1, us, g1, ⟨v, vs, g2, ⟨v3, vs3, g3, rfl, rfl⟩, rfl⟩, rfl⟩ := hv
  simp only [VRep] at g1 g2 g3
  subst g1; subst g2; subst g3
  have hw := xz3 s h1 h2 w hZ.gw
  cases hp : parse16 0 s.data.toList with
  | some n =>
    rw [hp] at hw
    refine hw.mono ?_
    rintro e w' ⟨rfl, hb⟩
    exact ⟨_, rfl, hb, by simp only [VRep, VReps, errA]; exact ⟨_, ⟨_, _, rfl, ⟨_, _, rfl, rfl, rfl⟩, rfl⟩, rfl⟩⟩
  | none =>
    rw [hp] at hw
    refine hw.mono ?_
    rintro e w' ⟨⟨N, rfl⟩, hb⟩
    exact ⟨_, rfl, hb, by simp only [VRep, VReps, errA]; exact ⟨_, ⟨_, _, rfl, ⟨_, _, ⟨_, trivial, rfl⟩, rfl, rfl⟩, rfl⟩, rfl⟩⟩
def xqc (s : ByteArray) (n : Int) : Option ByteArray := (ck (0 ≤ n ∧ n ≤ 1000 ∧ s.size ≤ 1000)).bind fun _ => some ⟨(Lib.repeatL s.data.toList n.toNat).toArray⟩
theorem xrh (s : ByteArray) (n : Int) (r : ByteArray) (h : xqc s n = some r) : Ok Tryz.prog 62 [str s, int n] (str r) := by
  unfold xqc at h
  obtain ⟨⟨h1, h2, h3⟩, h⟩ := ckE h
  obtain rfl := Option.some.inj h
  obtain ⟨c, rfl⟩ : ∃ u : Nat, n = u := ⟨n.toNat, by omega⟩
  refine ⟨by kernel_rfl, fun Z w vals hZ hv => ?_⟩
  simp only [VReps] at hv
  obtain ⟨u1, us, g1, ⟨v, vs, g2, rfl, rfl⟩, rfl⟩ := hv
  simp only [VRep] at g1 g2
  subst g1; subst g2
  have hm : s.size * c ≤ 1000 * 1000 := Nat.mul_le_mul h3 (by omega)
  refine (Tryz.strings_Repeat s c w (by omega) (by omega)).mono ?_
  rintro e w' ⟨rfl, hb⟩
  exact ⟨_, rfl, hb, by simp only [VRep, Int.toNat_natCast]⟩
end Go.Proofs.YtefdlpandfhcgaaGreatDoor.AL

/- AL: own rows that are cut; pieces of strings; labels deeper in the code, and ways out ahead of them. -/
set_option linter.all false
namespace Go.Proofs.YtefdlpandfhcgaaGreatDoor.AL
open Go Go.Proofs Go.RowKit
def strM (s : ByteArray) (lo hi : Option Int) : Option ByteArray :=
  if 0 ≤ lo.getD 0 ∧ lo.getD 0 ≤ hi.getD s.size ∧ hi.getD s.size ≤ s.size then some (s.extract (lo.getD 0).toNat (hi.getD s.size).toNat) else none
theorem xj2 {s r : ByteArray} {lo hi : Option Int} (h : strM s lo hi = some r) : (0 ≤ lo.getD 0 ∧ lo.getD 0 ≤ hi.getD s.size ∧ hi.getD s.size ≤ s.size) ∧ r = s.extract (lo.getD 0).toNat (hi.getD s.size).toNat := by
  unfold strM at h
  split at h
  · injection h with h; exact ⟨‹_›, h.symm⟩
  · cases h
theorem xte {P : Program} {T : Nat} (hT : kindOf P T = .str) {s r : ByteArray} {lo hi : Option Int} (h : strM s lo hi = some r) : x9b P T (str s) (lo.map int) (hi.map int) none = some (str r) := by
  obtain ⟨⟨h1, h2, h3⟩, rfl⟩ := xj2 h
  have key : ∀ a c : Nat, bounds s.size (lo.map int) (hi.map int) = some (a, c) → (lo.getD 0).toNat = a → (hi.getD s.size).toNat = c → x9b P T (str s) (lo.map int) (hi.map int) none = some (str (s.extract (lo.getD 0).toNat (hi.getD s.size).toNat)) := by
    intro a c hb ha hc
    simp only [x9b, hT, hb, Option.map_some, ha, hc]
  refine key _ _ ?_ rfl rfl
  cases lo <;> cases hi <;> simp only [Option.getD_none, Option.getD_some, Option.map_none, Option.map_some] at h1 h2 h3 ⊢
  · simp [bounds, xhh]
  · rename_i a
    have e1 : 0 ≤ a ∧ a ≤ (s.size : Int) := ⟨h2, h3⟩
    simp [bounds, xhh, e1]
  · rename_i a
    have e1 : 0 ≤ a ∧ a ≤ (s.size : Int) := ⟨h1, h2⟩
    simp [bounds, xhh, e1]
  · rename_i a c
    have e1 : 0 ≤ c ∧ c ≤ (s.size : Int) := ⟨by omega, h3⟩
    have e2 : 0 ≤ a ∧ a ≤ ((c.toNat : Nat) : Int) := ⟨h1, by omega⟩
    unfold bounds xhh
    simp only
    rw [if_pos e1]
    simp only
    rw [if_pos e2]
section
variable {P : Program} {n : Nat} {Q : Exit → AS → Prop} {s : AS}
end
end Go.Proofs.YtefdlpandfhcgaaGreatDoor.AL

/- AL: calls that hand back a row of their own, and calls that turn a row in place. -/
set_option linter.all false
namespace Go.Proofs.YtefdlpandfhcgaaGreatDoor.AL
open Go Go.Proofs Go.RowKit
mutual
def inK (K : Nat → Prop) : AV → Prop
  | .val _ => True
  | .agg cs => inKs K cs
  | .tup cs => inKs K cs
  | .sl _ xs => inKs K xs
  | .ptr x _ => inK K x
  | .loc l _ _ _ => K l
  | .msl l _ => K l
  | .mp l => K l
  | .mtl l _ _ _ => K l
  | .fn _ a b => inKs K a ∧ inKs K b
  | .ifc _ x => inK K x
  | .e0 => True
  | .junk => True
def inKs (K : Nat → Prop) : List AV → Prop
  | [] => True
  | x :: xs => inK K x ∧ inKs K xs
end
mutual
theorem VRep.inK {E : Env} : ∀ (x : AV) (u : Value), VRep E x u → AL.inK E.K x
  | .val v, u, h => trivial
  | .agg cs, u, h => by
    simp only [VRep] at h; obtain ⟨us, h1, _⟩ := h
    simpa only [AL.inK] using VReps.inK cs us h1
  | .tup cs, u, h => by
    simp only [VRep] at h; obtain ⟨us, h1, _⟩ := h
    simpa only [AL.inK] using VReps.inK cs us h1
  | .sl sz xs, u, h => by
    simp only [VRep] at h; obtain ⟨us, A, cap, h1, _⟩ := h
    simpa only [AL.inK] using VReps.inK xs us h1
  | .ptr x off, u, h => by
    simp only [VRep] at h; obtain ⟨v, b, o, h1, _⟩ := h
    simpa only [AL.inK] using VRep.inK x v h1
  | .loc l sz i off, u, h => by
    simp only [VRep] at h; obtain ⟨b0, h1, _⟩ := h
    simpa only [AL.inK] using h1
  | .msl l n, u, h => by
    simp only [VRep] at h; obtain ⟨A, c0, h1, _⟩ := h
    simpa only [AL.inK] using h1
  | .mp l, u, h => by
    simp only [VRep] at h; obtain ⟨b0, h1, _⟩ := h
    simpa only [AL.inK] using h1
  | .mtl l sz q n, u, h => by
    simp only [VRep] at h; obtain ⟨A, c0, h1, _⟩ := h
    simpa only [AL.inK] using h1
  | .fn f fi ca, u, h => by
    simp only [VRep] at h; obtain ⟨a, b, h1, h2, _⟩ := h
    simp only [AL.inK]
    exact ⟨VReps.inK fi a h1, VReps.inK ca b h2⟩
  | .ifc t x, u, h => by
    simp only [VRep] at h; obtain ⟨v, h1, _⟩ := h
    simpa only [AL.inK] using VRep.inK x v h1
  | .e0, u, h => trivial
  | .junk, u, h => trivial
theorem VReps.inK {E : Env} : ∀ (xs : List AV) (us : List Value), VReps E xs us → inKs E.K xs
  | [], us, h => trivial
  | x :: xs, us, h => by
    simp only [VReps] at h; obtain ⟨u, us', h1, h2, _⟩ := h
    exact ⟨VRep.inK x u h1, VReps.inK xs us' h2⟩
end
structure Lo (K : Nat → Prop) (E E2 : Env) : Prop where
  K : ∀ j, K j → E2.K j ∧ ∀ p, E2.L j = some p → E.L j = some p
  Z : ∀ b, E.Z b → E2.Z b
  w : E2.w = E.w
theorem SlAt.lo {K : Nat → Prop} {E E2 : Env} (s : Lo K E E2) {sz : Nat} {A : Option Addr} {us : List Value} (h : SlAt E sz A us) : SlAt E2 sz A us := by
  rcases h with h | ⟨b, o, rfl, hz, h⟩
  · exact .inl h
  · exact .inr ⟨b, o, rfl, s.Z b hz, fun i u hu => by rw [s.w]; exact h i u hu⟩
mutual
theorem VRep.lo {K : Nat → Prop} {E E2 : Env} (s : Lo K E E2) : ∀ (x : AV) (u : Value), AL.inK K x → VRep E x u → VRep E2 x u
  | .val v, u, _, h => by simpa only [VRep] using h
  | .agg cs, u, k, h => by
    simp only [AL.inK] at k
    simp only [VRep] at h ⊢
    obtain ⟨us, h1, h2⟩ := h
    exact ⟨us, VReps.lo s cs us k h1, h2⟩
  | .tup cs, u, k, h => by
    simp only [AL.inK] at k
    simp only [VRep] at h ⊢
    obtain ⟨us, h1, h2⟩ := h
    exact ⟨us, VReps.lo s cs us k h1, h2⟩
  | .sl sz xs, u, k, h => by
    simp only [AL.inK] at k
    simp only [VRep] at h ⊢
    obtain ⟨us, A, cap, h1, h2, h3, h4⟩ := h
    exact ⟨us, A, cap, VReps.lo s xs us k h1, h2, h3, h4.lo s⟩
  | .ptr x off, u, k, h => by
    simp only [AL.inK] at k
    simp only [VRep] at h ⊢
    obtain ⟨v, b, o, h1, h2, h3, h4⟩ := h
    exact ⟨v, b, o, VRep.lo s x v k h1, h2, s.Z b h3, by rw [s.w]; exact h4⟩
  | .loc l sz i off, u, k, h => by
    simp only [AL.inK] at k
    simp only [VRep] at h ⊢
    obtain ⟨b0, h1, h2, h3⟩ := h
    exact ⟨b0, (s.K l k).1, h2, fun b c hb => h3 b c ((s.K l k).2 _ hb)⟩
  | .msl l n, u, k, h => by
    simp only [AL.inK] at k
    simp only [VRep] at h ⊢
    obtain ⟨A, c0, h1, h2, h5, h6, h3, h4⟩ := h
    exact ⟨A, c0, (s.K l k).1, h2, h5, h6, fun b c hb => h3 b c ((s.K l k).2 _ hb), fun hb => h4 ((s.K l k).2 _ hb)⟩
  | .mp l, u, k, h => by
    simp only [AL.inK] at k
    simp only [VRep] at h ⊢
    obtain ⟨b0, h1, h2, h3⟩ := h
    exact ⟨b0, (s.K l k).1, h2, fun b c hb => h3 b c ((s.K l k).2 _ hb)⟩
  | .mtl l sz q n, u, k, h => by
    simp only [AL.inK] at k
    simp only [VRep] at h ⊢
    obtain ⟨A, c0, h1, h2, h3, h4⟩ := h
    refine ⟨A, c0, (s.K l k).1, h2, h3, fun hn => ?_⟩
    obtain ⟨b0, h5, h6⟩ := h4 hn
    exact ⟨b0, h5, fun b c hb => h6 b c ((s.K l k).2 _ hb)⟩
  | .fn f fi ca, u, k, h => by
    simp only [AL.inK] at k
    simp only [VRep] at h ⊢
    obtain ⟨a, b, h1, h2, h3⟩ := h
    exact ⟨a, b, VReps.lo s fi a k.1 h1, VReps.lo s ca b k.2 h2, h3⟩
  | .ifc t x, u, k, h => by
    simp only [AL.inK] at k
    simp only [VRep] at h ⊢
    obtain ⟨v, h1, h2⟩ := h
    exact ⟨v, VRep.lo s x v k h1, h2⟩
  | .e0, u, _, h => by simpa only [VRep] using h
  | .junk, u, _, h => by simp only [VRep]
theorem VReps.lo {K : Nat → Prop} {E E2 : Env} (s : Lo K E E2) : ∀ (xs : List AV) (us : List Value), inKs K xs → VReps E xs us → VReps E2 xs us
  | [], us, _, h => by simpa only [VReps] using h
  | x :: xs, us, k, h => by
    simp only [VReps] at h ⊢
    obtain ⟨u, us', h1, h2, h3⟩ := h
    exact ⟨u, us', VRep.lo s x u k.1 h1, VReps.lo s xs us' k.2 h2, h3⟩
end
mutual
theorem inK_closed {K : Nat → Prop} : ∀ (x : AV), closed x = true → AL.inK K x
  | .val v, h => trivial
  | .agg cs, h => by simp only [closed] at h; simpa only [AL.inK] using inKs_closed cs h
  | .tup cs, h => by simp only [closed] at h; simpa only [AL.inK] using inKs_closed cs h
  | .sl sz xs, h => by simp only [closed] at h; simpa only [AL.inK] using inKs_closed xs h
  | .ptr x off, h => by simp only [closed] at h; simpa only [AL.inK] using inK_closed x h
  | .loc _ _ _ _, h => by simp [closed] at h
  | .msl _ _, h => by simp [closed] at h
  | .mp _, h => by simp [closed] at h
  | .mtl _ _ _ _, h => by simp [closed] at h
  | .fn f a b, h => by simp only [closed, Bool.and_eq_true] at h; simp only [AL.inK]; exact ⟨inKs_closed a h.1, inKs_closed b h.2⟩
  | .ifc t x, h => by simp only [closed] at h; simpa only [AL.inK] using inK_closed x h
  | .e0, h => trivial
  | .junk, h => trivial
theorem inKs_closed {K : Nat → Prop} : ∀ (xs : List AV), closeds xs = true → inKs K xs
  | [], h => trivial
  | x :: xs, h => by simp only [closeds, Bool.and_eq_true] at h; exact ⟨inK_closed x h.1, inKs_closed xs h.2⟩
end
def inO (K : Nat → Prop) : AO → Prop
  | .row _ _ xs => inKs K xs
  | .map _ vs => inKs K vs
  | .siter _ _ => True
  | .mapb _ _ _ vs => inKs K vs
theorem ORep.inO {E : Env} : ∀ (p : Option (Nat × Nat)) (o : AO), ORep E p o → AL.inO E.K o
  | some (b, c), .row T sz xs, h => by
    simp only [ORep] at h; obtain ⟨cur, us, _, h2, _⟩ := h
    exact VReps.inK xs us h2
  | none, .row T sz xs, h => by simp only [ORep] at h; subst h; trivial
  | some (b, c), .map ks vs, h => by
    simp only [ORep] at h; obtain ⟨es, cl, _, _, h2⟩ := h
    exact VReps.inK vs _ h2
  | none, .map ks vs, h => by simp only [ORep] at h
  | _, .siter _ _, h => trivial
  | some (b, c), .mapb bs ck ks vs, h => by
    simp only [ORep] at h; obtain ⟨es, _, _, _, h2⟩ := h
    exact VReps.inK vs _ h2
  | none, .mapb bs ck ks vs, h => by simp only [ORep] at h
theorem ORep.lo {K : Nat → Prop} {E E2 : Env} (s : Lo K E E2) : ∀ (p : Option (Nat × Nat)) (o : AO), AL.inO K o → ORep E p o → ORep E2 p o
  | some (b, c), .row T sz xs, k, h => by
    simp only [ORep] at h ⊢; obtain ⟨cur, us, h1, h2, h3⟩ := h
    exact ⟨cur, us, by rw [s.w]; exact h1, VReps.lo s xs us k h2, h3⟩
  | none, .row T sz xs, k, h => by simpa only [ORep] using h
  | some (b, c), .map ks vs, k, h => by
    simp only [ORep] at h ⊢; obtain ⟨es, cl, h1, h3, h2⟩ := h
    exact ⟨es, cl, by rw [s.w]; exact h1, h3, VReps.lo s vs _ k h2⟩
  | none, .map ks vs, k, h => by simp only [ORep] at h
  | some (b, c), .siter _ _, k, h => by simp only [ORep] at h ⊢; rw [s.w]; exact h
  | none, .siter _ _, k, h => by simp only [ORep] at h
  | some (b, c), .mapb bs ck ks vs, k, h => by
    simp only [ORep] at h ⊢; obtain ⟨es, h1, h3, h4, h2⟩ := h
    exact ⟨es, by rw [s.w]; exact h1, h3, h4, VReps.lo s vs _ k h2⟩
  | none, .mapb bs ck ks vs, k, h => by simp only [ORep] at h
noncomputable def envLo (E E1 : Env) (l0 : Nat) (q : Option (Option (Nat × Nat))) : Env :=
  open Classical in { Z := E1.Z, w := E1.w, K := fun j => E.K j ∨ j = l0, L := fun j => if j = l0 then q else if E.K j then E1.L j else none }
theorem xus {C : Ctx} {E E1 : Env} {H H1 : Nat → Option AO} {nx : Nat} (hR : HR C E H) (hb : ∀ j, E.K j → j < nx) (hR1 : HR C E1 H1) (hS : Stab E E1) {l l0 T sz : Nat} {xs : List AV} {q : Option (Nat × Nat)}
    (hq : (E1.L l = some q ∧ H1 l = some (.row T sz xs)) ∨ (q = none ∧ xs = [])) (hc : closeds xs = true) (hl0 : (l0 = nx ∧ nx ≤ l) ∨ (l0 = l ∧ E.K l ∧ E1.L l = some q)) (hH : ∀ j, j < nx → j ≠ l0 → H1 j = H j) :
    HR C (envLo E E1 l0 (some q)) (upd H l0 (some (.row T sz xs))) ∧ Stab E (envLo E E1 l0 (some q)) ∧ Lo E.K E1 (envLo E E1 l0 (some q)) := by
  have key : ∀ j x, (envLo E E1 l0 (some q)).L j = some x → (j = l0 ∧ q = x) ∨ (j ≠ l0 ∧ E.K j ∧ E1.L j = some x) := by
    intro j x e
    simp only [envLo] at e
    by_cases e1 : j = l0
    · rw [if_pos e1] at e; exact .inl ⟨e1, Option.some.inj e⟩
    · rw [if_neg e1] at e
      by_cases e2 : E.K j
      · rw [if_pos e2] at e; exact .inr ⟨e1, e2, e⟩
      · rw [if_neg e2] at e; cases e
  have hlo : Lo E.K E1 (envLo E E1 l0 (some q)) := ⟨fun j h1 => ⟨.inl h1, fun p e => by
    rcases key j p e with ⟨e1, e2⟩ | ⟨_, _, e3⟩
    · rcases hl0 with ⟨g1, _⟩ | ⟨g1, _, g3⟩
      · have := hb j h1; omega
      · subst e1; subst e2; subst g1; exact g3
    · exact e3⟩, fun _ h => h, rfl⟩
  have hqL : ∀ b c, q = some (b, c) → E1.L l = some (some (b, c)) := by
    intro b c e
    rcases hq with hq | hq
    · rw [hq.1, e]
    · rw [hq.1] at e; cases e
  have hst : Stab E (envLo E E1 l0 (some q)) := ⟨fun j h => .inl h, fun j hj x e => by
      rcases key j x e with ⟨e1, e2⟩ | ⟨_, _, e3⟩
      · rcases hl0 with ⟨h1, _⟩ | ⟨h1, _, h3⟩
        · have := hb j hj; omega
        · subst e1; subst e2; subst h1
          exact hS.L _ hj _ h3
      · exact hS.L j hj x e3, fun b hz => hS.Z b hz⟩
  refine ⟨?_, hst, hlo⟩
  exact {
    below := hR1.below
    base := hR1.base
    zlt := hR1.zlt
    zlive := fun b hz j c e => by
      rcases key j _ e with ⟨_, e⟩ | ⟨_, _, e⟩
      · exact hR1.zlive b hz l c (hqL b c e)
      · exact hR1.zlive b hz j c e
    zsrc := hR1.zsrc
    dom := fun j => by
      simp only [envLo, upd_at]
      by_cases e1 : j = l0
      · rw [if_pos e1, if_pos e1]; rfl
      · rw [if_neg e1, if_neg e1]
        by_cases e2 : E.K j
        · rw [if_pos e2, ← hH j (hb j e2) e1]; exact hR1.dom j
        · rw [if_neg e2, hR.dom j]
          cases hL : E.L j with
          | none => rfl
          | some x => exact absurd (hR.known j x hL) e2
    known := fun j x e => by
      rcases key j x e with ⟨e, _⟩ | ⟨_, e, _⟩
      · exact .inr e
      · exact .inl e
    inj := fun i j b c c' e e' => by
      rcases key i _ e with ⟨e1, e2⟩ | ⟨e1, e2, e3⟩ <;> rcases key j _ e' with ⟨e1', e2'⟩ | ⟨e1', e2', e3'⟩
      · rw [e1, e1']
      · have := hR1.inj _ _ _ _ _ (hqL _ _ e2) e3'
        rcases hl0 with ⟨h1, h2⟩ | ⟨h1, _⟩
        · have := hb j e2'; omega
        · omega
      · have := hR1.inj _ _ _ _ _ (hqL _ _ e2') e3
        rcases hl0 with ⟨h1, h2⟩ | ⟨h1, _⟩
        · have := hb i e2; omega
        · omega
      · exact hR1.inj _ _ _ _ _ e3 e3'
    obj := fun j o p e e' => by
      rcases key j p e' with ⟨e1, e2⟩ | ⟨e1, e2, e3⟩
      · subst e1; subst e2
        simp only [upd_same, Option.some.injEq] at e
        subst e
        refine ORep.lo hlo _ _ (inKs_closed xs hc) ?_
        rcases hq with hq | hq
        · exact hR1.obj l _ _ hq.2 hq.1
        · obtain ⟨rfl, rfl⟩ := hq; simp only [ORep]
      · simp only [upd_ne _ _ e1] at e
        have h1 : ORep E1 p o := hR1.obj j o p ((hH j (hb j e2) e1).trans e) e3
        have h2 : ORep E p o := hR.obj j o p e (hS.L j e2 p e3)
        exact ORep.lo hlo _ _ (ORep.inO _ _ h2) h1
    old := fun j b c e => by
      rcases key j _ e with ⟨_, e⟩ | ⟨_, _, e⟩
      · exact hR1.old l b c (hqL b c e)
      · exact hR1.old j b c e }
def OkO (P : Program) (f : FuncId) (args : List AV) (T sz : Nat) (xs : List AV) : Prop :=
  closeds xs = true ∧ ∀ (H : Nat → Option AO) (nx : Nat), ACall P f args H nx fun r H' nx' => (r = nilS ∧ xs = [] ∧ ∀ j, j < nx → H' j = H j) ∨ ∃ l, nx ≤ l ∧ r = .msl l xs.length ∧ H' l = some (.row T sz xs) ∧ ∀ j, j < nx → H' j = H j
theorem OkO.acall {P : Program} {f : FuncId} {args : List AV} {T sz : Nat} {xs : List AV} (h : OkO P f args T sz xs) (H : Nat → Option AO) (nx : Nat) :
    ACall P f args H nx fun r H' nx' => r = .msl nx xs.length ∧ H' = upd H nx (some (.row T sz xs)) ∧ nx' = nx + 1 := by
  refine ⟨(h.2 H nx).1, fun C E vals hR hb hv => ((h.2 H nx).2 C E vals hR hb hv).mono ?_⟩
  rintro e w' ⟨v, r, H1, nx1, E1, rfl, h1, hv1, hR1, hS, hn1, hn2, rfl⟩
  rcases h1 with ⟨rfl, rfl, hH⟩ | ⟨l, hl, rfl, hH1, hH⟩
  · obtain ⟨g1, g2, g3⟩ := xus (l := nx) (l0 := nx) (T := T) (sz := sz) (xs := []) (q := none) hR hb hR1 hS (.inr ⟨rfl, rfl⟩) rfl (.inl ⟨rfl, Nat.le_refl _⟩) (fun j hj _ => hH j hj)
    refine ⟨v, .msl nx 0, _, nx + 1, _, rfl, ⟨rfl, rfl, rfl⟩, ?_, g1, g2, by omega, ?_, rfl⟩
    · simp only [VRep] at hv1 ⊢
      exact ⟨none, 0, .inr rfl, hv1, fun h => absurd h (by omega), Nat.le_refl _, fun b c e => by simp [envLo] at e, fun _ => by simp⟩
    · rintro j (hj | hj)
      · exact .inl hj
      · exact .inr (by omega)
  · obtain ⟨q, hq, ho⟩ := hR1.live hH1
    obtain ⟨g1, g2, g3⟩ := xus (l := l) (l0 := nx) (T := T) (sz := sz) (xs := xs) (q := q) hR hb hR1 hS (.inl ⟨hq, hH1⟩) h.1 (.inl ⟨rfl, hl⟩) (fun j hj _ => hH j hj)
    refine ⟨v, .msl nx xs.length, _, nx + 1, _, rfl, ⟨rfl, rfl, rfl⟩, ?_, g1, g2, by omega, ?_, rfl⟩
    · simp only [VRep] at hv1 ⊢
      obtain ⟨A, c0, _, k1, k2, k3, k4, k5⟩ := hv1
      refine ⟨A, c0, .inr rfl, k1, k2, k3, fun b c e => ?_, fun e => ?_⟩
      · simp only [envLo, if_true, Option.some.injEq] at e
        exact k4 b c (by rw [hq, e])
      · simp only [envLo, if_true, Option.some.injEq] at e
        exact k5 (by rw [hq, e])
    · rintro j (hj | hj)
      · exact .inl hj
      · exact .inr (by omega)
def OkI (P : Program) (f : FuncId) (l : Nat) (args : List AV) (r : AV) (T sz : Nat) (xs ys : List AV) : Prop :=
  closeds ys = true ∧ ∀ (H : Nat → Option AO) (nx : Nat), l < nx → H l = some (.row T sz xs) → ACall P f args H nx fun r' H' nx' => r' = r ∧ H' l = some (.row T sz ys) ∧ ∀ j, j < nx → j ≠ l → H' j = H j
theorem OkI.acall {P : Program} {f : FuncId} {l : Nat} {args : List AV} {r : AV} {T sz : Nat} {xs ys : List AV} (h : OkI P f l args r T sz xs ys) (hr : ∀ K : Nat → Prop, K l → inK K r) (H : Nat → Option AO) (nx : Nat) (hl : l < nx) (hH : H l = some (.row T sz xs)) :
    ACall P f args H nx fun r' H' nx' => r' = r ∧ H' = upd H l (some (.row T sz ys)) ∧ nx' = nx := by
  refine ⟨(h.2 H nx hl hH).1, fun C E vals hR hb hv => ((h.2 H nx hl hH).2 C E vals hR hb hv).mono ?_⟩
  rintro e w' ⟨v, r', H1, nx1, E1, rfl, ⟨rfl, hH1, hH2⟩, hv1, hR1, hS, hn1, hn2, rfl⟩
  obtain ⟨q, hq, ho⟩ := hR1.live hH1
  obtain ⟨p, hp, _⟩ := hR.live hH
  have hk := hR.known l p hp
  obtain ⟨g1, g2, g3⟩ := xus (l := l) (l0 := l) (T := T) (sz := sz) (xs := ys) (q := q) hR hb hR1 hS (.inl ⟨hq, hH1⟩) h.1 (.inr ⟨rfl, hk, hq⟩) hH2
  refine ⟨v, r', _, nx, _, rfl, ⟨rfl, rfl, rfl⟩, VRep.lo g3 _ _ (hr _ hk) hv1, g1, g2, Nat.le_refl _, ?_, rfl⟩
  rintro j (hj | hj)
  · exact .inl hj
  · subst hj; exact .inl hk
section
variable {P : Program} {H : Nat → Option AO} {nx new : Nat} {ρ : Operand → AV} {k : AV → (Nat → Option AO) → Nat → Prop} {c : Call} {f : FuncId} {ag ag' : List AV} {r : AV} {T sz : Nat} {xs ys : List AV}
theorem OkO.sub (h : OkO P f ag' T sz xs) (hs : Subs ag ag') : OkO P f ag T sz xs := ⟨h.1, fun H nx => ⟨(h.2 H nx).1, fun C E vals hR hb hv => (h.2 H nx).2 C E vals hR hb (hs _ _ hv)⟩⟩
end
mutual
def fqA (H : Nat → Option AO) : AV → Option (AV × (Nat → Option AO))
  | .msl l m => (fkK m (H l)).map fun y => (y, upd H l none)
  | .agg cs => (fqL H cs).map fun p => (.agg p.1, p.2)
  | x => if closed x = true then some (x, H) else none
def fqL (H : Nat → Option AO) : List AV → Option (List AV × (Nat → Option AO))
  | [] => some ([], H)
  | x :: xs => (fqA H x).bind fun p => (fqL p.2 xs).map fun q => (p.1 :: q.1, q.2)
end
structure Fz (C : Ctx) (E E' : Env) (H' : Nat → Option AO) : Prop where
  hr : HR C E' H'
  st : Stab E E'
  k : ∀ l, E'.K l → E.K l
  w : E'.w = E.w
theorem fk1 {C : Ctx} {E : Env} {H : Nat → Option AO} {l m : Nat} {u : Value} {y : AV} (hR : HR C E H) (hu : VRep E (.msl l m) u) (h : fkK m (H l) = some y) : Fz C E (E.kill l) (upd H l none) ∧ VRep (E.kill l) y u ∧ closed y = true := by
  have h1 : fk H [.msl l m] = some ([y], upd H l none) := by
    simp only [fk, h, fkO]
  refine ⟨⟨hR.kill l, Env.kill_stab E l, fun _ h => h, rfl⟩, ?_⟩
  cases ho : H l with
  | none => rw [ho] at h; simp [fkK] at h
  | some ob =>
    cases ob with
    | map ks vs => rw [ho] at h; simp [fkK] at h
    | siter s q => rw [ho] at h; simp [fkK] at h
    | mapb bs ck ks vs => rw [ho] at h; simp [fkK] at h
    | row Ty sz zs =>
      rw [ho] at h
      simp only [fkK] at h
      split at h
      · rename_i hmc
        obtain ⟨hm, hc⟩ := hmc
        simp only [Option.some.injEq] at h
        subst h
        refine ⟨?_, by simpa [closed] using hc⟩
        have hs := Env.kill_stab E l
        simp only [VRep] at hu ⊢
        obtain ⟨A, c0, _, g0, q1, q2, q3, q4⟩ := hu
        obtain ⟨p, hp, ho'⟩ := hR.live ho
        subst hm
        cases p with
        | none =>
          simp only [ORep] at ho'
          subst ho'
          exact ⟨[], A, c0, VReps.nil, g0, Nat.zero_le _, .inl rfl⟩
        | some q =>
          obtain ⟨b, c⟩ := q
          obtain ⟨rfl, rfl⟩ := q3 b c hp
          simp only [ORep] at ho'
          obtain ⟨cur, vs, h1, h2, h3, h4, h5, h6, h7⟩ := ho'
          refine ⟨vs, _, c0, h2.stab hs, g0, q2, ?_⟩
          by_cases hz : vs = []
          · exact .inl hz
          refine .inr ⟨b, 0, rfl, .inr ⟨c0, hp⟩, fun i u hu => ⟨(h3 u (List.mem_of_getElem? hu)).1, (h3 u (List.mem_of_getElem? hu)).2, fun j v hj => ?_⟩⟩
          show E.w.cell? _ = _
          rw [cell_of_row E.w b _ cur Ty (0, 0) h1]
          have e := x7f (fun u hu => (h3 u hu).1) hu j v hj
          rw [← h7, List.getElem?_take] at e
          split at e
          · simpa using e
          · cases e
      · cases h
theorem Fz.trans {C : Ctx} {E E1 E2 : Env} {H1 H2 : Nat → Option AO} (h : Fz C E E1 H1) (k : Fz C E1 E2 H2) : Fz C E E2 H2 := ⟨k.hr, h.st.trans k.st, fun l hl => h.k l (k.k l hl), k.w.trans h.w⟩
mutual
theorem fqA_sound {C : Ctx} : ∀ (x : AV) (E : Env) (H : Nat → Option AO) (u : Value) (y : AV) (H' : Nat → Option AO), HR C E H → VRep E x u → fqA H x = some (y, H') → ∃ E', Fz C E E' H' ∧ VRep E' y u ∧ closed y = true
  | .msl l m, E, H, u, y, H', hR, hu, h => by
    simp only [fqA, Option.map_eq_some_iff, Prod.mk.injEq] at h
    obtain ⟨y', h1, rfl, rfl⟩ := h
    exact ⟨_, fk1 hR hu h1⟩
  | .agg cs, E, H, u, y, H', hR, hu, h => by
    simp only [fqA, Option.map_eq_some_iff, Prod.mk.injEq] at h
    obtain ⟨⟨ys, H2⟩, h1, rfl, rfl⟩ := h
    simp only [VRep] at hu
    obtain ⟨us, hus, rfl⟩ := hu
    obtain ⟨E', g1, g2, g3⟩ := fqL_sound cs E H us ys H2 hR hus h1
    refine ⟨E', g1, ?_, by simpa only [closed] using g3⟩
    simp only [VRep]
    exact ⟨us, g2, rfl⟩
  | .val v, E, H, u, y, H', hR, hu, h => by simp only [fqA, closed, if_true, Option.some.injEq, Prod.mk.injEq] at h; obtain ⟨rfl, rfl⟩ := h; exact ⟨E, ⟨hR, Stab.refl E, fun _ h => h, rfl⟩, hu, rfl⟩
  | .tup cs, E, H, u, y, H', hR, hu, h => by
    simp only [fqA] at h
    split at h
    · rename_i hc; simp only [Option.some.injEq, Prod.mk.injEq] at h; obtain ⟨rfl, rfl⟩ := h; exact ⟨E, ⟨hR, Stab.refl E, fun _ h => h, rfl⟩, hu, hc⟩
    · cases h
  | .sl sz xs, E, H, u, y, H', hR, hu, h => by
    simp only [fqA] at h
    split at h
    · rename_i hc; simp only [Option.some.injEq, Prod.mk.injEq] at h; obtain ⟨rfl, rfl⟩ := h; exact ⟨E, ⟨hR, Stab.refl E, fun _ h => h, rfl⟩, hu, hc⟩
    · cases h
  | .ptr x off, E, H, u, y, H', hR, hu, h => by
    simp only [fqA] at h
    split at h
    · rename_i hc; simp only [Option.some.injEq, Prod.mk.injEq] at h; obtain ⟨rfl, rfl⟩ := h; exact ⟨E, ⟨hR, Stab.refl E, fun _ h => h, rfl⟩, hu, hc⟩
    · cases h
  | .loc l sz i off, E, H, u, y, H', hR, hu, h => by simp [fqA, closed] at h
  | .mp l, E, H, u, y, H', hR, hu, h => by simp [fqA, closed] at h
  | .mtl l sz q n, E, H, u, y, H', hR, hu, h => by simp [fqA, closed] at h
  | .fn f fi ca, E, H, u, y, H', hR, hu, h => by
    simp only [fqA] at h
    split at h
    · rename_i hc; simp only [Option.some.injEq, Prod.mk.injEq] at h; obtain ⟨rfl, rfl⟩ := h; exact ⟨E, ⟨hR, Stab.refl E, fun _ h => h, rfl⟩, hu, hc⟩
    · cases h
  | .ifc t x, E, H, u, y, H', hR, hu, h => by
    simp only [fqA] at h
    split at h
    · rename_i hc; simp only [Option.some.injEq, Prod.mk.injEq] at h; obtain ⟨rfl, rfl⟩ := h; exact ⟨E, ⟨hR, Stab.refl E, fun _ h => h, rfl⟩, hu, hc⟩
    · cases h
  | .e0, E, H, u, y, H', hR, hu, h => by simp only [fqA, closed, if_true, Option.some.injEq, Prod.mk.injEq] at h; obtain ⟨rfl, rfl⟩ := h; exact ⟨E, ⟨hR, Stab.refl E, fun _ h => h, rfl⟩, hu, rfl⟩
  | .junk, E, H, u, y, H', hR, hu, h => by simp only [fqA, closed, if_true, Option.some.injEq, Prod.mk.injEq] at h; obtain ⟨rfl, rfl⟩ := h; exact ⟨E, ⟨hR, Stab.refl E, fun _ h => h, rfl⟩, hu, rfl⟩
theorem fqL_sound {C : Ctx} : ∀ (xs : List AV) (E : Env) (H : Nat → Option AO) (us : List Value) (ys : List AV) (H' : Nat → Option AO), HR C E H → VReps E xs us → fqL H xs = some (ys, H') → ∃ E', Fz C E E' H' ∧ VReps E' ys us ∧ closeds ys = true
  | [], E, H, us, ys, H', hR, hu, h => by
    simp only [fqL, Option.some.injEq, Prod.mk.injEq] at h
    obtain ⟨rfl, rfl⟩ := h
    exact ⟨E, ⟨hR, Stab.refl E, fun _ h => h, rfl⟩, hu, rfl⟩
  | x :: xs, E, H, us, ys, H', hR, hu, h => by
    simp only [VReps] at hu
    obtain ⟨u, us', h1, h2, rfl⟩ := hu
    unfold fqL at h
    obtain ⟨⟨y, H1⟩, k1, k2⟩ := Option.bind_eq_some_iff.1 h
    simp only [Option.map_eq_some_iff, Prod.mk.injEq] at k2
    obtain ⟨⟨zs, H2⟩, k2, rfl, rfl⟩ := k2
    obtain ⟨E1, g1, g2, g3⟩ := fqA_sound x E H u y H1 hR h1 k1
    obtain ⟨E2, e1, e2, e3⟩ := fqL_sound xs E1 H1 us' zs H2 g1.hr (VReps.stab g1.st _ _ h2) k2
    exact ⟨E2, g1.trans e1, .cons (VRep.stab e1.st _ _ g2) e2, by simp [closeds, g3, e3]⟩
end
section
variable (H : Nat → Option AO)
end
section
variable {P : Program} {H H' : Nat → Option AO} {nx new : Nat} {ρ : Operand → AV} {k : AV → (Nat → Option AO) → Nat → Prop} {c : Call} {f : FuncId} {ag ag' ag2 : List AV} {r : AV}
end
end Go.Proofs.YtefdlpandfhcgaaGreatDoor.AL

/- Maps whose keys are plain structs or arrays of whole numbers: words of models. An entry bears the number that it was made with. -/
set_option linter.all false
namespace Go.Proofs.YtefdlpandfhcgaaGreatDoor.AL
open Go Go.Proofs
section
variable {κ : Type} [DecidableEq κ]
structure KeyOf (P : Program) (kt : TypeId) (kv : κ → Value) : Prop where
  chk : ∀ k, chkB P kt (kv k) = true
  eq : ∀ a b, evalEq P 40 kt (keyAV (kv a)) (keyAV (kv b)) = some (decide (a = b))
  bits : ∀ a, Instr.sameBits 10000 (kv a) (kv a) = true
variable {P : Program} {kt : TypeId} {kv : κ → Value}
end
end Go.Proofs.YtefdlpandfhcgaaGreatDoor.AL

