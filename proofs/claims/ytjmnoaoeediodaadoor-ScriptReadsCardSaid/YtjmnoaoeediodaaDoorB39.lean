/- A law of the given program is proved: part 39 of 45. -/
import Derived.Test.YtjmnoaoeediodaaDoorB38
set_option linter.all false
/- report.Text by contract. -/
set_option linter.all false
namespace Go.Proofs.YtjmnoaoeediodaaDoor.AL
open Go Go.Proofs Go.RowKit
def f64 (f : Finding) : Prop := i64 f.clause ∧ i64 f.layer ∧ i64 f.ino ∧ i64 f.slot
instance (f : Finding) : Decidable (f64 f) := inferInstanceAs (Decidable (_ ∧ _))
def frq (r : Report) : Prop := (i64 r.code ∧ i64 r.passes ∧ i64 r.trans ∧ i64 r.writes) ∧ (r.found.length ≤ 60 ∧ ∀ f ∈ r.found, f64 f) ∧ (r.done.length ≤ 60 ∧ ∀ f ∈ r.done, f64 f) ∧ (r.left.length ≤ 60 ∧ ∀ f ∈ r.left, f64 f)
instance (r : Report) : Decidable (frq r) := inferInstanceAs (Decidable (_ ∧ _))
end Go.Proofs.YtjmnoaoeediodaaDoor.AL

/- Plain laws of chapter 37: a text that is read, by the program. -/
set_option linter.all false
namespace Go.Proofs.YtjmnoaoeediodaaDoor.AL
open Go Go.Proofs Go.Lib
theorem x0m : wordsL.length = 23 := rfl
theorem x2q (v1 : ByteArray × ByteArray × Bool) (w : List UInt8) (h : v1.1 = bB w) : iter (xmc v1 (wordsL.map bB)) big (0, (⟨0, 0, 0, 0⟩ : Finding)) = some ⟨numL w, 0, 0, 0⟩ := by
  have := xff (B := xmc v1 (wordsL.map bB)) (fun i (c : Int) => ((i : Int), (⟨c, 0, 0, 0⟩ : Finding))) (List.range 23) (fun (c : Int) (i : Nat) => if (wordsL[i]?).getD [] = w then ((i : Int) + 1) else c) (fun c => (⟨c, 0, 0, 0⟩ : Finding)) (fun _ _ => True) (by
    intro i c hi _
    simp only [List.length_range] at hi
    refine ⟨?_, trivial⟩
    simp only [List.getElem_range]
    simp only [xmc]
    have hl : i < wordsL.length := by rw [x0m]; exact hi
    have hm : i < (wordsL.map bB).length := by simpa using hl
    rw [if_pos (by omega), ix_at hm, List.getElem_map, h]
    simp only [Option.bind_some, bB_iff]
    rw [wr_suc (by omega), List.getElem?_eq_getElem hl]
    simp only [Option.getD_some]
    have hi1 : ((i + 1 : Nat) : Int) = (i : Int) + 1 := by omega
    rw [hi1]
    generalize wordsL[i] = u
    by_cases e : u = w
    · subst e; simp
    · simp [e]) (by
    intro c _
    simp only [xmc, List.length_range]
    rw [if_neg (by simp [x0m])]) (s0 := 0) trivial (fuel := big) (by rw [big_eq]; simp)
  have e0 : ((0 : Nat) : Int) = 0 := rfl
  rw [e0] at this
  rw [this.1]
  rfl
def atoiR (l : List UInt8) : Int × Bool := atoiM (atoiAll l) (atoiSat l)
theorem x1l {l : List UInt8} (h : l.length ≤ 100000) : xsd (bB l) = some (atoiR l) := by
  unfold xsd
  rw [ckY (by rw [xf]; omega)]
  rfl
theorem x0o {x y z : List UInt8} (hx : x.length ≤ 100000) (hy : y.length ≤ 100000) (hz : z.length ≤ 100000) (c : Int) : iter (x6 [bB x, bB y, bB z]) big (0, (⟨c, 0, 0, 0⟩ : Finding)) =
    some (if (atoiR x).2 = true then .inr (zeroF, false) else if (atoiR y).2 = true then .inr (zeroF, false) else if (atoiR z).2 = true then .inr (zeroF, false) else .inl ⟨c, (atoiR x).1, (atoiR y).1, (atoiR z).1⟩) := by
  obtain ⟨k, hk⟩ : ∃ k, big = k + 4 := ⟨big - 4, by rw [big_eq]⟩
  rw [hk]
  have i0 : ix [bB x, bB y, bB z] 0 = some (bB x) := rfl
  have i1 : ix [bB x, bB y, bB z] 1 = some (bB y) := rfl
  have i2 : ix [bB x, bB y, bB z] 2 = some (bB z) := rfl
  have w1 : wr (0 + 1) = 1 := by decide
  have w2 : wr (1 + 1) = 2 := by decide
  have w3 : wr (2 + 1) = 3 := by decide
  have b0 : ∀ f : Finding, x6 [bB x, bB y, bB z] (0, f) = if (atoiR x).2 = true then some (.out (.inr (zeroF, false))) else some (.nx (1, { f with layer := (atoiR x).1 })) := by
    intro f
    simp only [x6]
    rw [if_pos (by simp), i0]
    simp only [Option.bind_some]
    rw [x1l hx]
    simp only [Option.bind_some, if_true, w1]
    rfl
  have b1 : ∀ f : Finding, x6 [bB x, bB y, bB z] (1, f) = if (atoiR y).2 = true then some (.out (.inr (zeroF, false))) else some (.nx (2, { f with ino := (atoiR y).1 })) := by
    intro f
    simp only [x6]
    rw [if_pos (by simp), i1]
    simp only [Option.bind_some]
    rw [x1l hy]
    simp only [Option.bind_some, show ¬ ((1 : Int) = 0) by decide, if_false, if_true, w2]
    rfl
  have b2 : ∀ f : Finding, x6 [bB x, bB y, bB z] (2, f) = if (atoiR z).2 = true then some (.out (.inr (zeroF, false))) else some (.nx (3, { f with slot := (atoiR z).1 })) := by
    intro f
    simp only [x6]
    rw [if_pos (by simp), i2]
    simp only [Option.bind_some]
    rw [x1l hz]
    simp only [Option.bind_some, show ¬ ((2 : Int) = 0) by decide, show ¬ ((2 : Int) = 1) by decide, if_false, ckY (show (2 : Int) = 2 from rfl), w3]
    rfl
  have b3 : ∀ f : Finding, x6 [bB x, bB y, bB z] (3, f) = some (.out (.inl f)) := by
    intro f
    simp only [x6]
    rw [if_neg (by simp)]
  rw [xp, b0]
  by_cases h1 : (atoiR x).2 = true
  · rw [if_pos h1, if_pos h1]; rfl
  · rw [if_neg h1, if_neg h1]
    simp only [Option.bind_some]
    rw [xp, b1]
    by_cases h2 : (atoiR y).2 = true
    · rw [if_pos h2, if_pos h2]; rfl
    · rw [if_neg h2, if_neg h2]
      simp only [Option.bind_some]
      rw [xp, b2]
      by_cases h3 : (atoiR z).2 = true
      · rw [if_pos h3, if_pos h3]; rfl
      · rw [if_neg h3, if_neg h3]
        simp only [Option.bind_some]
        rw [xp, b3]
        rfl
theorem xyl {l : List UInt8} (h : ¬ (atoiR l).2 = true) : atoiAll l = .ok (atoiR l).1 ∧ i64 (atoiR l).1 := by
  unfold atoiR at h ⊢
  cases ha : atoiAll l with
  | ok v => exact ⟨rfl, atoiAll_bounds ha⟩
  | «syntax» => rw [ha] at h; exact absurd rfl h
  | range => rw [ha] at h; exact absurd rfl h
theorem xuk {l : List UInt8} (h : (atoiR l).2 = true) : ∀ v, atoiAll l ≠ .ok v := by
  intro v ha
  unfold atoiR at h
  rw [ha] at h
  cases h
theorem cut_le (s sep : List UInt8) : (cut s sep).1.length ≤ s.length ∧ (cut s sep).2.1.length ≤ s.length := by
  unfold cut
  split <;> simp <;> omega
theorem x6n (c : UInt8) : ∀ (s : List UInt8) (x : List UInt8), x ∈ splitC c s → x.length ≤ s.length
  | [], x, h => by simp [splitC] at h; simp [h]
  | b :: s, x, h => by
    have ih := x6n c s
    rw [xol] at h
    split at h
    · rcases List.mem_cons.1 h with rfl | h
      · simp
      · have := ih x h; simp; omega
    · split at h
      · simp at h; simp [h]
      · rename_i hd t e
        rcases List.mem_cons.1 h with rfl | h
        · have := ih hd (by rw [e]; simp); simp; omega
        · have := ih x (by rw [e]; simp [h]); simp; omega
theorem xxt {s : List UInt8} (h : s.length ≤ 100000) : x6d (bB s) = some (readP s) := by
  unfold x6d
  have hc : xmb (bB s) (ByteArray.mk #[32]) = some (bB (cut s [32]).1, bB (cut s [32]).2.1, (cut s [32]).2.2) := by
    unfold xmb
    rw [ckY (by rw [xf]; omega)]
    rfl
  have hl := cut_le s [32]
  have hw : xyb (ByteArray.mk #[112, 111, 105, 110, 116, 101, 114, 32, 97, 116, 116, 114, 105, 98, 117, 116, 101, 32, 115, 112, 101, 99, 105, 97, 108, 32, 105, 110, 111, 100, 101, 32, 101, 110, 116, 114, 121, 32, 116, 119, 105, 99, 101, 32, 111, 114, 112, 104, 97, 110, 32, 111, 112, 97, 113, 117, 101, 32, 102, 111, 114, 109, 32, 108, 111, 111, 112, 32, 103, 111, 110, 101, 32, 115, 97, 109, 101, 32, 111, 114, 105, 103, 105, 110, 32, 109, 101, 116, 97, 32, 119, 104, 105, 116, 101, 32, 105, 110, 100, 101, 120, 32, 119, 111, 114, 107, 32, 105, 109, 112, 117, 114, 101, 32, 108, 105, 110, 107, 115, 32, 115, 104, 111, 119, 110, 32, 98, 105, 116, 109, 97, 112, 32, 108, 111, 119, 101, 114, 32, 112, 101, 110, 100, 105, 110, 103]) = some (wordsL.map bB) := by kernel_rfl
  have hsp : xgd (bB (cut s [32]).2.1) (ByteArray.mk #[58]) = some ((splitC 58 (cut s [32]).2.1).map bB) := by
    unfold xgd
    rw [ckY ⟨by rw [xf]; omega, by decide⟩]
    simp only [Option.bind_some]
    rw [c58, xnw]
  rw [hc]
  simp only [Option.bind_some]
  rw [hw]
  simp only [Option.bind_some]
  rw [x2q _ (cut s [32]).1 rfl]
  simp only [Option.bind_some]
  rw [hsp]
  simp only [Option.bind_some]
  have hle := x6n 58 (cut s [32]).2.1
  have hpc := xfg s
  have hdef : readP s = readP s := rfl
  conv at hdef => rhs; unfold readP
  generalize hnum : numL (cut s [32]).1 = n at hdef ⊢
  by_cases hn : n = 0
  · rw [if_pos hn]
    subst hn
    refine congrArg some ?_
    show (zeroF, false) = readP s
    rw [hdef]
    split
    · split
      · rw [if_neg (fun c => c.1 rfl)]
      · rfl
    · rfl
  · rw [if_neg hn]
    match hs : splitC 58 (cut s [32]).2.1 with
    | [x, y, z] =>
      rw [hs] at hle hdef
      have hx := hle x (by simp)
      have hy := hle y (by simp)
      have hz := hle z (by simp)
      have e3 : (([x, y, z].map bB).length : Int) = 3 := rfl
      rw [if_pos e3]
      have em : [x, y, z].map bB = [bB x, bB y, bB z] := rfl
      rw [em, x0o (by omega) (by omega) (by omega)]
      simp only [Option.bind_some]
      simp only at hdef
      by_cases h1 : (atoiR x).2 = true
      · rw [if_pos h1]
        have hb := xuk h1
        refine congrArg some ?_
        show (zeroF, false) = readP s
        rw [hdef]
        split
        · exact absurd ‹_› (hb _)
        · rfl
      · rw [if_neg h1]
        obtain ⟨a1, b1⟩ := xyl h1
        by_cases h2 : (atoiR y).2 = true
        · rw [if_pos h2]
          have hb := xuk h2
          refine congrArg some ?_
          show (zeroF, false) = readP s
          rw [hdef]
          split
          · exact absurd ‹_› (hb _)
          · rfl
        · rw [if_neg h2]
          obtain ⟨a2, b2⟩ := xyl h2
          by_cases h3 : (atoiR z).2 = true
          · rw [if_pos h3]
            have hb := xuk h3
            refine congrArg some ?_
            show (zeroF, false) = readP s
            rw [hdef]
            split
            · exact absurd ‹_› (hb _)
            · rfl
          · rw [if_neg h3]
            obtain ⟨a3, b3⟩ := xyl h3
            rw [a1, a2, a3] at hdef
            simp only at hdef
            have hwn := x7i (w := (cut s [32]).1) (by rw [hnum]; exact hn)
            rw [hnum] at hwn
            simp only
            have hk : i64 n := ⟨by omega, by omega⟩
            rw [xjp ⟨hk, b1, b2, b3⟩]
            simp only [Option.bind_some, bB_iff]
            by_cases hf : findL ⟨n, (atoiR x).1, (atoiR y).1, (atoiR z).1⟩ = s
            · rw [if_pos hf]
              rw [if_pos ⟨hn, hf⟩] at hdef
              rw [hdef]
            · rw [if_neg hf]
              rw [if_neg (fun c => hf c.2)] at hdef
              rw [hdef]
              rfl
    | [] => exact absurd hs (x2t 58 _)
    | [x] =>
      rw [hs] at hdef
      rw [if_neg (by simp), hdef]; rfl
    | [x, y] =>
      rw [hs] at hdef
      rw [if_neg (by simp), hdef]; rfl
    | x :: y :: z :: t :: r =>
      rw [hs] at hdef
      rw [if_neg (by simp; omega), hdef]; rfl
end Go.Proofs.YtjmnoaoeediodaaDoor.AL

/- AL: own rows that are cut; pieces of strings; labels deeper in the code, and ways out ahead of them. -/
set_option linter.all false
namespace Go.Proofs.YtjmnoaoeediodaaDoor.AL
open Go Go.Proofs Go.RowKit
def strM (s : ByteArray) (lo hi : Option Int) : Option ByteArray :=
  if 0 ≤ lo.getD 0 ∧ lo.getD 0 ≤ hi.getD s.size ∧ hi.getD s.size ≤ s.size then some (s.extract (lo.getD 0).toNat (hi.getD s.size).toNat) else none
theorem xuu {s r : ByteArray} {lo hi : Option Int} (h : strM s lo hi = some r) : (0 ≤ lo.getD 0 ∧ lo.getD 0 ≤ hi.getD s.size ∧ hi.getD s.size ≤ s.size) ∧ r = s.extract (lo.getD 0).toNat (hi.getD s.size).toNat := by
  unfold strM at h
  split at h
  · injection h with h; exact ⟨‹_›, h.symm⟩
  · cases h
theorem xaq {P : Program} {T : Nat} (hT : kindOf P T = .str) {s r : ByteArray} {lo hi : Option Int} (h : strM s lo hi = some r) : xhd P T (str s) (lo.map int) (hi.map int) none = some (str r) := by
  obtain ⟨⟨h1, h2, h3⟩, rfl⟩ := xuu h
  have key : ∀ a c : Nat, bounds s.size (lo.map int) (hi.map int) = some (a, c) → (lo.getD 0).toNat = a → (hi.getD s.size).toNat = c → xhd P T (str s) (lo.map int) (hi.map int) none = some (str (s.extract (lo.getD 0).toNat (hi.getD s.size).toNat)) := by
    intro a c hb ha hc
    simp only [xhd, hT, hb, Option.map_some, ha, hc]
  refine key _ _ ?_ rfl rfl
  cases lo <;> cases hi <;> simp only [Option.getD_none, Option.getD_some, Option.map_none, Option.map_some] at h1 h2 h3 ⊢
  · simp [bounds, xwe]
  · rename_i a
    have e1 : 0 ≤ a ∧ a ≤ (s.size : Int) := ⟨h2, h3⟩
    simp [bounds, xwe, e1]
  · rename_i a
    have e1 : 0 ≤ a ∧ a ≤ (s.size : Int) := ⟨h1, h2⟩
    simp [bounds, xwe, e1]
  · rename_i a c
    have e1 : 0 ≤ c ∧ c ≤ (s.size : Int) := ⟨by omega, h3⟩
    have e2 : 0 ≤ a ∧ a ≤ ((c.toNat : Nat) : Int) := ⟨h1, by omega⟩
    unfold bounds xwe
    simp only
    rw [if_pos e1]
    simp only
    rw [if_pos e2]
section
variable {P : Program} {n : Nat} {Q : Exit → AS → Prop} {s : AS}
end
end Go.Proofs.YtjmnoaoeediodaaDoor.AL

