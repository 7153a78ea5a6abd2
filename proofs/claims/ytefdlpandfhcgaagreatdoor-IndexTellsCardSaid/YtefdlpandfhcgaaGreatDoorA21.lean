/- A law of the given program is proved: part 21 of 50. -/
import Derived.Test.YtefdlpandfhcgaaGreatDoorA20
set_option linter.all false
/- AL, part 18: the walk as an equation (cw), calls, and what is handed back. -/
set_option linter.unusedSimpArgs false
namespace Go.Proofs.YtefdlpandfhcgaaGreatDoor.AL
open Go.RowKit
theorem ne2 {l nx : Nat} (h : l < nx) (a : Nat) : (l = nx + a) = False := by simp; omega
theorem ne2' {l nx : Nat} (h : l < nx) (a : Nat) : (nx + a = l) = False := by simp; omega
theorem lt2 {l nx : Nat} (h : l < nx) (a : Nat) : (l < nx + a) = True := by simp; omega
def condV (v : AV) (y n : Prop) : Prop :=
  match v with
  | .val (.bool true) => y
  | .val (.bool false) => n
  | _ => False
theorem xq7 (b : Bool) (y n : Prop) : condV (bool b) y n = ((b = true → y) ∧ (b = false → n)) := by cases b <;> simp [condV]
def fineD (P : Program) (nx : Nat) (l : List O1) (B : List Nat) (s : AS) (K : AS → Prop) : Prop := ∃ VW : List (List Nat × List Nat), VW.length = l.length ∧ meetA nx 0 B [] VW ∧ wpsV1 P nx 0 l VW s K
theorem fineI {P : Program} {nx : Nat} {l : List O1} {B : List Nat} {s : AS} {K : AS → Prop} (VW : List (List Nat × List Nat)) (h1 : VW.length = l.length) (h2 : meetA nx 0 B [] VW) (h3 : wpsV1 P nx 0 l VW s K) : fineD P nx l B s K := ⟨VW, h1, h2, h3⟩
def cw (P : Program) (n : Nat) : AC → (Exit → AS → Prop) → AS → Prop
  | .skip, Q, s => Q .normal s
  | .ret, Q, s => Q .ret s
  | .exit id, Q, s => Q (.exit id) s
  | .label _, Q, s => Q .normal s
  | .goto l, Q, s => Q (.goto l) s
  | .region l, Q, s => wps1 P s.nx 0 l ⟨s.T, s.H, s.nx + l.length⟩ (Q .normal)
  | .draw l B [], Q, s => P.follows .mixedOrders = true ∧ fineD P s.nx l B ⟨s.T, s.H, s.nx + l.length⟩ (Q .normal)
  | .draw l B (r :: rd), Q, s => P.follows .mixedOrders = true ∧ wpsD1 P B (r :: rd) s.nx 0 l ⟨s.T, s.H, s.nx + l.length⟩ (Q .normal)
  | .seq a b, Q, s => cw P n a (seqQ (cw P n b Q) Q) s
  | .cond c a b, Q, s => condV (ev s.T c) (cw P n a Q s) (cw P n b Q s)
  | .block id c, Q, s => cw P n c (blockQ id Q) s
  | .loop c, Q, s => cwp P n (.loop c) Q s
  | .scope c, Q, s => cwp P n (.scope c) Q s
theorem cw_cwp {P : Program} {n : Nat} : ∀ (c : AC) {Q : Exit → AS → Prop} {s : AS}, cw P n c Q s → cwp P n c Q s
  | .skip, _, _, h => xjm h
  | .ret, _, _, h => x9s h
  | .exit _, _, _, h => xdr h
  | .label _, _, _, h => xgj h
  | .goto _, _, _, h => x7q h
  | .region _, _, _, h => x4r h
  | .draw _ _ [], _, _, h => by obtain ⟨h1, VW, h2, h3, h4⟩ := h; exact xe3 h1 VW h2 h3 h4
  | .draw _ _ (r :: rd), _, _, h => xrw h.1 (by simp) h.2
  | .seq a b, Q, s, h => x4i fun K hK => xcc (cw_cwp a h) fun e s' g => by
      cases e with
      | normal => exact hK s' (cw_cwp b g)
      | _ => exact g
  | .cond c a b, Q, s, h => by
      unfold cw condV at h
      split at h
      · rename_i e; exact x8q e (cw_cwp a h)
      · rename_i e; exact x1o e (cw_cwp b h)
      · exact h.elim
  | .block id c, _, _, h => xdj (cw_cwp c h)
  | .loop _, _, _, h => h
  | .scope _, _, _, h => h
section
variable (P : Program) (n : Nat) (Q : Exit → AS → Prop) (s : AS) (T : Nat → AV) (H : Nat → Option AO) (nx : Nat)
theorem C_skip : cw P n .skip Q s = Q .normal s := _root_.id rfl
theorem C_ret : cw P n .ret Q s = Q .ret s := _root_.id rfl
theorem C_exit (id : Nat) : cw P n (.exit id) Q s = Q (.exit id) s := _root_.id rfl
theorem C_goto (l : Nat) : cw P n (.goto l) Q s = Q (.goto l) s := _root_.id rfl
theorem xz6 (l : List O1) : cw P n (.region l) Q ⟨T, H, nx⟩ = wps1 P nx 0 l ⟨T, H, nx + l.length⟩ (Q .normal) := _root_.id rfl
theorem C_draw (l : List O1) (B : List Nat) (r : Bool) (rd : List Bool) : cw P n (.draw l B (r :: rd)) Q ⟨T, H, nx⟩ = (P.follows .mixedOrders = true ∧ wpsD1 P B (r :: rd) nx 0 l ⟨T, H, nx + l.length⟩ (Q .normal)) := _root_.id rfl
theorem xh8 (l : List O1) (B : List Nat) : cw P n (.draw l B []) Q ⟨T, H, nx⟩ = (P.follows .mixedOrders = true ∧ fineD P nx l B ⟨T, H, nx + l.length⟩ (Q .normal)) := _root_.id rfl
theorem C_seq (a b : AC) : cw P n (.seq a b) Q s = cw P n a (seqQ (cw P n b Q) Q) s := _root_.id rfl
def condR (a b : AC) (v : AV) : Prop := condV v (cw P n a Q s) (cw P n b Q s)
theorem C_cond (c : Operand) (a b : AC) : cw P n (.cond c a b) Q ⟨T, H, nx⟩ = condR P n Q ⟨T, H, nx⟩ a b (ev T c) := _root_.id rfl
theorem xm8 (a b : AC) (x : Bool) : condR P n Q s a b (bool x) = ((x = true → cw P n a Q s) ∧ (x = false → cw P n b Q s)) := xq7 x _ _
theorem xc8 (id : Nat) (c : AC) : cw P n (.block id c) Q s = cw P n c (blockQ id Q) s := _root_.id rfl
theorem C_loop (c : AC) : cw P n (.loop c) Q s = cwp P n (.loop c) Q s := _root_.id rfl
theorem xbab (c : AC) : cw P n (.scope c) Q s = cwp P n (.scope c) Q s := _root_.id rfl
end
theorem Q_seqN (K : AS → Prop) (Q : Exit → AS → Prop) (s : AS) : seqQ K Q .normal s = K s := _root_.id rfl
theorem Q_seqE (K : AS → Prop) (Q : Exit → AS → Prop) (s : AS) (i : Nat) : seqQ K Q (.exit i) s = Q (.exit i) s := _root_.id rfl
theorem Q_seqR (K : AS → Prop) (Q : Exit → AS → Prop) (s : AS) : seqQ K Q .ret s = Q .ret s := _root_.id rfl
theorem x75 (id : Nat) (Q : Exit → AS → Prop) (s : AS) : blockQ id Q .normal s = Q .normal s := _root_.id rfl
theorem xb7 (id : Nat) (Q : Exit → AS → Prop) (s : AS) : blockQ id Q .ret s = Q .ret s := _root_.id rfl
theorem xp4 (id i : Nat) (Q : Exit → AS → Prop) (s : AS) : blockQ id Q (.exit i) s = if i = id then Q .normal s else Q (.exit i) s := _root_.id rfl
def finQ (P : Program) (rs : List ResultVar) (R : AV → (Nat → Option AO) → Nat → Prop) : Exit → AS → Prop
  | .normal, s => retR P rs R s
  | .ret, s => retR P rs R s
  | _, _ => False
theorem Q_finN (P : Program) (rs : List ResultVar) (R : AV → (Nat → Option AO) → Nat → Prop) (s : AS) : finQ P rs R .normal s = retR P rs R s := _root_.id rfl
theorem Q_finR (P : Program) (rs : List ResultVar) (R : AV → (Nat → Option AO) → Nat → Prop) (s : AS) : finQ P rs R .ret s = retR P rs R s := _root_.id rfl
theorem xf5 (P : Program) (R : AV → (Nat → Option AO) → Nat → Prop) (T : Nat → AV) (H : Nat → Option AO) (nx : Nat) : retR P [] R ⟨T, H, nx⟩ = R (.tup []) H nx := by simp [retR, Got, resA, mkRes]
theorem xk6 (P : Program) (R : AV → (Nat → Option AO) → Nat → Prop) (t : Nat) (T : Nat → AV) (H : Nat → Option AO) (nx : Nat) : retR P [.tmp t] R ⟨T, H, nx⟩ = R (T t) H nx := by simp [retR, Got, resA, mkRes]
theorem xn4 (P : Program) (R : AV → (Nat → Option AO) → Nat → Prop) (t u : Nat) (T : Nat → AV) (H : Nat → Option AO) (nx : Nat) : retR P [.tmp t, .tmp u] R ⟨T, H, nx⟩ = R (.tup [T t, T u]) H nx := by simp [retR, Got, resA, mkRes]
def gotR (R : AV → (Nat → Option AO) → Nat → Prop) (H : Nat → Option AO) (nx : Nat) (x : Option AV) : Prop := Got x fun v => R v H nx
theorem xv3 (R : AV → (Nat → Option AO) → Nat → Prop) (H : Nat → Option AO) (nx : Nat) (v : AV) : gotR R H nx (some v) = R v H nx := by simp [gotR, Got]
def gotR2 (R : AV → (Nat → Option AO) → Nat → Prop) (H : Nat → Option AO) (nx : Nat) (y : AV) (x : Option AV) : Prop := Got x fun v => R (.tup [v, y]) H nx
theorem xqz (R : AV → (Nat → Option AO) → Nat → Prop) (H : Nat → Option AO) (nx : Nat) (y v : AV) : gotR2 R H nx y (some v) = R (.tup [v, y]) H nx := by simp [gotR2, Got]
theorem x53 (P : Program) (R : AV → (Nat → Option AO) → Nat → Prop) (p ty : Nat) (T : Nat → AV) (H : Nat → Option AO) (nx : Nat) : retR P [.cell p ty] R ⟨T, H, nx⟩ = gotR R H nx (xpd P ty H (T p)) := by
  unfold retR gotR resA
  cases h : xpd P ty H (T p) <;> simp [Got, resA, mkRes]
theorem x59 (P : Program) (R : AV → (Nat → Option AO) → Nat → Prop) (p ty t : Nat) (T : Nat → AV) (H : Nat → Option AO) (nx : Nat) : retR P [.cell p ty, .tmp t] R ⟨T, H, nx⟩ = gotR2 R H nx (T t) (xpd P ty H (T p)) := by
  unfold retR gotR2 resA
  cases h : xpd P ty H (T p) <;> simp [Got, resA, mkRes]
def Sub (x y : AV) : Prop := ∀ (E : Env) (u : Value), VRep E x u → VRep E y u
def Subs (xs ys : List AV) : Prop := ∀ (E : Env) (us : List Value), VReps E xs us → VReps E ys us
theorem Sub.refl (x : AV) : Sub x x := fun _ _ h => h
theorem Subs.refl (x : List AV) : Subs x x := fun _ _ h => h
theorem Sub.trans {x y z : AV} (h : Sub x y) (k : Sub y z) : Sub x z := fun E u a => k E u (h E u a)
theorem Subs.nil : Subs [] [] := fun _ _ h => h
theorem Subs.cons {x y : AV} {xs ys : List AV} (h : Sub x y) (k : Subs xs ys) : Subs (x :: xs) (y :: ys) := by
  intro E us hx
  simp only [VReps] at hx ⊢
  obtain ⟨u, us', h1, h2, h3⟩ := hx
  exact ⟨u, us', h E u h1, k E us' h2, h3⟩
theorem Subs.length {xs ys : List AV} (h : Subs xs ys) (E : Env) (us : List Value) (hx : VReps E xs us) : xs.length = ys.length := by
  rw [← hx.length, ← (h E us hx).length]
theorem Sub.agg {xs ys : List AV} (h : Subs xs ys) : Sub (.agg xs) (.agg ys) := by
  intro E u hx
  simp only [VRep] at hx ⊢
  obtain ⟨us, h1, h2⟩ := hx
  exact ⟨us, h E us h1, h2⟩
theorem Sub.tup {xs ys : List AV} (h : Subs xs ys) : Sub (.tup xs) (.tup ys) := by
  intro E u hx
  simp only [VRep] at hx ⊢
  obtain ⟨us, h1, h2⟩ := hx
  exact ⟨us, h E us h1, h2⟩
theorem Sub.sl {s : Nat} {xs ys : List AV} (h : Subs xs ys) : Sub (.sl s xs) (.sl s ys) := by
  intro E u hx
  simp only [VRep] at hx ⊢
  obtain ⟨us, A, cap, h1, h2, h3, h4⟩ := hx
  have hl := Subs.length h E us h1
  exact ⟨us, A, cap, h E us h1, by rw [← hl]; exact h2, by rw [← hl]; exact h3, h4⟩
theorem Sub.nilS (s : Nat) : Sub AL.nilS (.sl s []) := by
  intro E u hx
  simp only [VRep] at hx ⊢
  exact ⟨[], none, 0, .nil, hx, Nat.le_refl _, .inl rfl⟩
theorem Sub.e0 (s : Nat) : Sub .e0 (.sl s []) := by
  intro E u hx
  simp only [VRep] at hx ⊢
  obtain ⟨A, hx⟩ := hx
  exact ⟨[], A, 0, .nil, hx, Nat.le_refl _, .inl rfl⟩
theorem Subs.map {α : Type} (f g : α → AV) (h : ∀ x, Sub (f x) (g x)) : ∀ l : List α, Subs (l.map f) (l.map g)
  | [] => Subs.nil
  | x :: xs => Subs.cons (h x) (Subs.map f g h xs)
def frzR (r : AV) : AV → (Nat → Option AO) → Nat → Prop := fun r' H' _ => ∃ m y, frz H' m r' = some y ∧ Sub y r
theorem x8c {x : AV} (h : closed x = true) (H : Nat → Option AO) (m : Nat) : frz H m x = some x := by cases m <;> simp [frz, h]
theorem xc {r : AV} {H : Nat → Option AO} {nx : Nat} (h : closed r = true) : frzR r r H nx := ⟨0, r, x8c h H 0, Sub.refl _⟩
theorem xwd {xs : List AV} (h : closeds xs = true) (H : Nat → Option AO) (m : Nat) : frzs H m xs = some xs := by cases m <;> simp [frzs, h]
section
variable {H : Nat → Option AO} {k : Nat}
end
theorem xl8 {r x y : AV} {H : Nat → Option AO} {nx : Nat} (m : Nat) (h : frz H m x = some y) (hs : Sub y r) : frzR r x H nx := ⟨m, y, h, hs⟩
theorem xn {r x : AV} {H : Nat → Option AO} {nx : Nat} (h : closed x = true) (hs : Sub x r) : frzR r x H nx := ⟨0, x, x8c h H 0, hs⟩
theorem x0q (v w : Value) (H : Nat → Option AO) (nx : Nat) : frzR (.val v) (.val w) H nx = (w = v) := by
  apply propext
  constructor
  · rintro ⟨m, y, hm, hs⟩
    rw [x8c rfl] at hm
    injection hm with hm
    subst hm
    have := hs ⟨fun _ => False, default, fun _ => none, fun _ => False⟩ w (by simp only [VRep])
    simpa only [VRep] using this
  · rintro rfl
    exact xn rfl (Sub.refl _)
theorem x01 (b c : Bool) (H : Nat → Option AO) (nx : Nat) : frzR (bool b) (bool c) H nx = (c = b) := by rw [x0q]; simp
theorem xq5 (b c : Int) (H : Nat → Option AO) (nx : Nat) : frzR (int b) (int c) H nx = (c = b) := by rw [x0q]; simp
theorem xj4 (b c : ByteArray) (H : Nat → Option AO) (nx : Nat) : frzR (str b) (str c) H nx = (c = b) := by rw [x0q]; simp
theorem acallF {P : Program} {f : FuncId} {n : Nat} {rs : List ResultVar} {ac : AC} (hf : FnC P f n rs ac) {args : List AV} (hn : args.length ≤ n) {H : Nat → Option AO} {nx : Nat} {R : AV → (Nat → Option AO) → Nat → Prop}
    (h : cw P n ac (finQ P rs R) ⟨argT args, H, nx⟩) : ACall P f args H nx R :=
  acall hf hn fun Q h1 h2 => xcc (cw_cwp ac h) fun e s hs => by
    cases e with
    | normal => exact h2 s hs
    | ret => exact h1 s hs
    | _ => exact hs.elim
theorem ACall.mono {P : Program} {f : FuncId} {args : List AV} {H : Nat → Option AO} {nx : Nat} {R R' : AV → (Nat → Option AO) → Nat → Prop} (h : ACall P f args H nx R) (hr : ∀ r H' nx', R r H' nx' → ∃ r', Sub r r' ∧ R' r' H' nx') : ACall P f args H nx R' :=
  ⟨h.1, fun C E vals a b c => (h.2 C E vals a b c).mono fun e w' ⟨v, r, H', nx', E', g1, g2, g3, g4, g5, g6, g7, g8⟩ => by
    obtain ⟨r', k1, k2⟩ := hr r H' nx' g2
    exact ⟨v, r', H', nx', E', g1, k2, k1 _ _ g3, g4, g5, g6, g7, g8⟩⟩
theorem xrp {P : Program} {f : FuncId} {args : List AV} {r : AV} (h : ACall P f args (fun _ => none) 0 (frzR r)) : Ok P f args r := by
  refine ⟨h.1, fun Z w vals hZ hv => ?_⟩
  let C : Ctx := { base := w.heap.size, w0 := w, zone := Z, gw := hZ.gw, gb := hZ.gw.size }
  have hR : HR C (Ec Z w) (fun _ => none) :=
    ⟨Below.refl _ _, Nat.le_refl _, hZ.zlt, fun _ _ _ _ e => by simp [Ec] at e, fun b hz => .inl hz, fun _ => rfl, fun _ _ e => by simp [Ec] at e, fun _ _ _ _ _ e => by simp [Ec] at e, fun _ _ _ e => by simp at e, fun _ _ _ e => by simp [Ec] at e⟩
  refine (h.2 C (Ec Z w) vals hR (fun l k => k.elim) hv).mono ?_
  rintro e w' ⟨v, r', H', nx', E', rfl, ⟨m, y, hm, hsub⟩, hv', hR', hs, _, _, rfl⟩
  refine ⟨v, rfl, hR'.below, ?_⟩
  have h1 := (x8h hR' m).1 _ _ _ hm hv'
  refine hsub _ _ (VRep.stab (E := Ec (Zall E') E'.w) (E' := Ec (fun b => Z b ∨ (w.heap.size ≤ b ∧ b < E'.w.heap.size)) E'.w) ⟨fun _ h => h, fun _ (h : False) => h.elim, fun b hz => ⟨?_, rfl⟩⟩ _ _ h1)
  rcases hz with hz | ⟨l, c, hz⟩
  · rcases hR'.zsrc b hz with h | h
    · exact .inl h
    · exact .inr ⟨h, hR'.zlt b hz⟩
  · exact .inr (hR'.old l b c hz)
theorem Ok.sub {P : Program} {f : FuncId} {as as' : List AV} {r : AV} (h : Ok P f as' r) (hs : Subs as as') : Ok P f as r := ⟨h.1, fun Z w vals hZ hv => h.2 Z w vals hZ (hs _ _ hv)⟩
theorem okF {P : Program} {f : FuncId} {n : Nat} {rs : List ResultVar} {ac : AC} (hf : FnC P f n rs ac) {args : List AV} (hn : args.length ≤ n) {r : AV}
    (h : cw P n ac (finQ P rs (frzR r)) ⟨argT args, fun _ => none, 0⟩) : Ok P f args r := xrp (acallF hf hn h)
theorem S1_ok {P : Program} {H : Nat → Option AO} {nx new : Nat} {ρ : Operand → AV} {k : AV → (Nat → Option AO) → Nat → Prop} {c : Call} {f : FuncId} {as : List AV} {r : AV} (h : Ok P f as r) (hc : xvb ρ c = some (f, as)) (hcl : closeds as = true) (hk : k r H nx) :
    Sem1 P (.call c) H nx new ρ k := fun _ ho => SemOp.ok ho hc h hcl hk
theorem S1_okb {P : Program} {H : Nat → Option AO} {nx new : Nat} {ρ : Operand → AV} {k : AV → (Nat → Option AO) → Nat → Prop} {c : Call} {f : FuncId} {as as' : List AV} {r : AV} (m : Nat) (h : Ok P f as' r) (hc : xvb ρ c = some (f, as)) (hm : frzs H m as = some as') (hfl : flat r = true) (hk : k r H nx) :
    Sem1 P (.call c) H nx new ρ k := fun _ ho => SemOp.okb ho m hc hm h hfl hk
theorem xpg {P : Program} {H : Nat → Option AO} {nx new : Nat} {ρ : Operand → AV} {k : AV → (Nat → Option AO) → Nat → Prop} {c : Call} {f : FuncId} {as : List AV} (h : ACall P f as H nx k) (hc : xvb ρ c = some (f, as)) :
    Sem1 P (.call c) H nx new ρ k := fun _ ho => SemOp.acall ho hc h
theorem x6y {P : Program} {V : Nat → Option AO} {new : Nat} {ρ : Operand → AV} {c : Call} {f : FuncId} {as : List AV} {r : AV} (h : Ok P f as r) (hc : xvb ρ c = some (f, as)) (hcl : closeds as = true) : OpS1 P (.call c) V ρ new r := fun _ ho => SemOp.okArgs ho hc h (.inl ⟨hcl, rfl⟩)
theorem x8v {P : Program} {V : Nat → Option AO} {new : Nat} {ρ : Operand → AV} {c : Call} {f : FuncId} {as as' : List AV} {r : AV} (m : Nat) (h : Ok P f as' r) (hc : xvb ρ c = some (f, as)) (hm : frzs V m as = some as') (hfl : flat r = true) : OpS1 P (.call c) V ρ new r := fun _ ho => SemOp.okArgs ho hc h (.inr ⟨⟨m, hm⟩, hfl⟩)
end Go.Proofs.YtefdlpandfhcgaaGreatDoor.AL

