/- EJ EK VR VS EM EB EL EN EP EQ EF ER XT VT GU. -/
import Derived.Test.YtomkgfdigldhcaaGreatDoorLII
set_option maxRecDepth 100000
namespace Go.KX
section
variable {α : Type} {c : α → α → Int}
theorem MV {out : List α} {x : α} {k : Nat} : (out.take k ++ x :: out.drop k).Perm (x :: out) := by
 have := List.perm_middle (a := x) (l₁ := out.take k) (l₂ := out.drop k)
 rwa [List.take_append_drop] at this
theorem MW (hs : ∀ x y, c x y < 0 ↔ 0 < c y x) (ht : ∀ x y z, c x y < 0 → c y z < 0 → c x z < 0) {out : List α} {x : α} {k : Nat} (h : out.Pairwise fun x y => c x y < 0) (h1 : ∀ y ∈ out.take k, c y x < 0) (h2 : ∀ (hk : k < out.length), 0 < c out[k] x) : (out.take k ++ x :: out.drop k).Pairwise fun x y => c x y < 0 := by
 have hxd : ∀ y ∈ out.drop k, c x y < 0 := fun y hy => by
  obtain ⟨i, hi, hki, e⟩ := gU hy
  have hk : k < out.length := by omega
  have h3 : c x out[k] < 0 := (hs _ _).2 (h2 hk)
  rcases Nat.eq_or_lt_of_le hki with e2 | e2
  ·subst e2; rw [← e]; exact h3
  ·rw [← e]
   exact ht _ _ _ h3 (List.pairwise_iff_getElem.1 h k i hk hi e2)
 refine List.pairwise_append.2 ⟨h.sublist (List.take_sublist _ _), List.pairwise_cons.2 ⟨hxd, h.sublist (List.drop_sublist _ _)⟩, fun a ha b hb => ?_⟩
 rcases List.mem_cons.1 hb with rfl | hb
 ·exact h1 a ha
 ·exact ht _ _ _ (h1 a ha) (hxd b hb)
structure tA (c : α → α → Int) (l out : List α) (i : Nat) : Prop where
 up : out.Pairwise fun x y => c x y < 0
 perm : out.Perm (l.take i)
 le : i ≤ l.length
theorem tA.nil (c : α → α → Int) (l : List α) : tA c l [] 0 := ⟨List.Pairwise.nil, List.Perm.refl _, Nat.zero_le _⟩
theorem tA.go (hs : ∀ x y, c x y < 0 ↔ 0 < c y x) (ht : ∀ x y z, c x y < 0 → c y z < 0 → c x z < 0) {l out : List α} {i k : Nat} (h : tA c l out i) (hi : i < l.length) (h1 : ∀ y ∈ out.take k, c y l[i] < 0) (h2 : ∀ (hk : k < out.length), 0 < c out[k] l[i]) : tA c l (out.take k ++ l[i] :: out.drop k) (i + 1) where
 up := MW hs ht h.up h1 h2
 perm := by
  rw [List.take_succ_eq_append_getElem hi]
  exact MV.trans ((h.perm.cons _).trans (List.perm_append_singleton _ _).symm)
 le := hi
theorem tA.len {l out : List α} {i : Nat} (h : tA c l out i) : out.length = i := by
 rw [h.perm.length_eq, List.length_take]
 have := h.le
 omega
theorem tA.dup (hs : ∀ x y, c x y < 0 ↔ 0 < c y x) (ht : ∀ x y z, c x y < 0 → c y z < 0 → c x z < 0) {l out r : List α} {i : Nat} (h : tA c l out i) (hi : i < l.length) {y : α} (hy : y ∈ out) (he : c y l[i] = 0) (hr : Up (cH c) r) (hp : r.Perm l) : fX c r = true := by
 cases hb : fX c r with
 | true => rfl
 | false =>
   exfalso
   have h1 : r.Pairwise fun x y => c x y ≠ 0 := (nX hs ht hr hb).imp (fun {x y} hxy => by omega)
   have h2 : l.Pairwise fun x y => c x y ≠ 0 := (hp.pairwise_iff (fun {x y} hxy e => hxy (by have := hs x y; have := hs y x; omega))).1 h1
   have hy2 : y ∈ l.take i := h.perm.mem_iff.1 hy
   obtain ⟨j, hj, hji, e⟩ := gR hy2
   exact List.pairwise_iff_getElem.1 h2 j i hj hi hji (by rw [e]; exact he)
theorem tA.all (hs : ∀ x y, c x y < 0 ↔ 0 < c y x) (ht : ∀ x y z, c x y < 0 → c y z < 0 → c x z < 0) {l out r : List α} (h : tA c l out l.length) (hr : Up (cH c) r) (hp : r.Perm l) : fX c r = false ∧ out = r := by
 have hp2 : out.Perm l := by have := h.perm; rwa [List.take_of_length_le (Nat.le_refl _)] at this
 have hb : fX c r = false := by
  cases hb : fX c r with
  | false => rfl
  | true => exact absurd (h.up.imp (fun {x y} hxy => by omega)) (tV hs hb (hp.trans hp2.symm))
 exact ⟨hb, lZ hs h.up (nX hs ht hr hb) (hp2.trans hp.symm)⟩
end
theorem zS {a b : List Lb} (ha : dQ a) (hb : dQ b) (h : (a6 a b || a6 b a) = true) : (joinL a b).1 = if a.length < b.length then b else a := by
 rw [Bool.or_eq_true] at h
 by_cases hlt : a.length < b.length
 ·rw [if_pos hlt]
  rcases h with h | h
  ·rw [KF ha hb h]
  ·have := H5 hb h; omega
 ·rw [if_neg hlt]
  rcases h with h | h
  ·rw [KF ha hb h, MS ha hb h (by omega)]
  ·rw [U7 ha hb h]
theorem xG {a b : List Lb} (ha : dQ a) (hb : dQ b) : (a.all fun x => decide (bN b x.n = x.v)) = a6 a b := by
 unfold a6
 have key : ∀ l : List Lb, (∀ x ∈ l, lG x = true) → (l.all fun x => decide (bN b x.n = x.v)) = l.all fun x => decide (x ∈ b) := by
  intro l
  induction l with
  | nil => intro _; rfl
  | cons x l ih =>
    intro h
    rw [List.all_cons, List.all_cons, ih (fun y hy => h y (.tail _ hy))]
    simp only [U6 hb (h x (.head _))]
 exact key a ha.ok
def zT (s : List Se) : Nat := 1 + s.length + ((s.take 41).map fun x => x.l.length).sum
def sumF (env : List (Bytes × List Se)) : Nat := (env.map fun f => zT f.2).sum
def xH (env : List (Bytes × List Se)) : Bool := decide (env.length ≤ 40) && decide (sumF (env.take 41) ≤ 160)
structure Pts where
 l : List Lb
 p : List Pt
 deriving DecidableEq
structure An where
 ref : Bytes
 failed : Bool
 pts : List Pts
 deriving DecidableEq
abbrev jZ : Nat := 140737488351232
def fO (l : List Lb) : Prop := (∀ x ∈ l, x.n.length ≤ jZ) ∧ l.length * 32 ≤ jZ
abbrev MX (x : Bytes × List Se) : List SV := [.str x.1, cI x.2]
abbrev qD (l : List (Bytes × List Se)) : SV := .s 2 (l.map MX)
section
variable {ref : Bytes} {l : List Nd} (hc : Chk ref l)
include hc
end
section
variable {X : Kx} {k : List It} {L : SL} {M : SM} {fs : List MF} {own : List aH}
theorem pY {σ : Type} (I : σ → Prop) (Ls : σ → SL) (Ms : σ → SM) {c : Code}
 (h1 : ∀ (J : Act → World → Prop), (∀ s {L' M'}, I s → (_ : A1 L' (Ls s) := by (repeat (first | exact trivial | refine ⟨rfl, ?_⟩ | refine ⟨vO (by omega), ?_⟩ | refine ⟨vO (by simp; done), ?_⟩ | refine ⟨vO (by simp <;> omega), ?_⟩))) → (_ : b9 (vN (Ms s)) M' = Ms s := by rfl) → E X (.lp J :: k) L' M' fs own) → E X (.code c :: .lp J :: k) L M fs own)
 (h2 : ∀ s, I s → E X k (Ls s) (Ms s) fs own) : E X (.code c :: k) L M fs own := by
 intro g a hs
 have h3 := h1 (fun a' w' => ∃ s, I s ∧ ∃ g', cV X (Ls s) (Ms s) fs own g' a' ∧ g'.w = w') (fun s L' M' hI hL hM g2 a2 h => ⟨s, hI, g2, h.weak hL _ hM, rfl⟩) g a hs
 refine wpIn_mono h3 (fun e a2 w h => ?_)
 cases e with
 | normal =>
   obtain ⟨s, hI, g', hst, rfl⟩ := h
   exact h2 s hI g' a2 hst
 | _ => exact h
end
theorem QO {g : GW} {ρ : Nat → Lc} {z : Nat} (hz : 0 < z) {ad : Option Addr} {c : Nat} {x : Value} (h : bC g ρ (.v (.slice ad 0 c)) x) : bC g ρ (.s z []) x := by
 cases h
 exact bC.s (rows := []) [] (Nat.zero_le _) (Nat.zero_le _) (by simp) (fun r hr => by cases hr) ⟨(fun u hu => by cases hu), (fun h0 => by omega)⟩ (fun hne => absurd rfl hne) (fun ρ' i j r sv x hi => by simp at hi)
theorem aR.wk {g : GW} {ρ : Nat → Lc} {i : Nat} {mb mb' : MB} (e : ∀ r, bQ g ρ i mb r → bQ g ρ i mb' r) {β : Type} : ∀ {M : SM} {ms : List aH} {K : SM → Option β} {res : β}, aR g ρ M ms → fZ M i = some mb → fU M i mb' K = some res → ∃ M', K M' = some res ∧ aR g ρ M' ms
 | [], _, _, _, _, h, _ => by cases h
 | (j, m) :: M, _, K, res, .cons hb t, h, hu => by
  unfold fZ at h
  unfold fU at hu
  cases hj : Nat.beq i j with
  | true =>
    rw [hj] at h hu
    simp only [Option.some.injEq] at h
    have := Nat.eq_of_beq_eq_true hj
    subst this
    subst h
    exact ⟨_, hu, .cons (e _ hb) t⟩
  | false =>
    rw [hj] at h hu
    obtain ⟨M', h1, h2⟩ := aR.wk e (M := M) t h hu
    exact ⟨_, h1, .cons hb h2⟩
theorem u2 {g : GW} {ρ : Nat → Lc} {i T z z' : Nat} (hz : 0 < z') {r : aH} (h : bQ g ρ i (.c T [.s z []]) r) : bQ g ρ i (.c T [.s z' []]) r := by
 cases h with
 | c xs h h1 =>
   obtain ⟨x, r, rfl, h2, h3⟩ := h.uncons
   exact .c _ (.cons (cS hz h2) h3) h1
section
variable {X : Kx} {k : List It} {L : SL} {M : SM} {fs : List MF} {own : List aH} {arr : Array Oper} {l : List Oper} {o : Oper}
theorem snl (i : Nat) {z : Nat} (hi : aF L i = some (.s z [])) (h : ∀ ad c, ES X arr l k ((i, .v (.slice ad 0 c)) :: L) M fs own) : ES X arr l k L M fs own := by
 intro g a s
 obtain ⟨ρ, ms, h1, h2, h3⟩ := s
 obtain ⟨x, hx, dx⟩ := h3.val i _ hi
 cases dx with
 | @s _ _ _ ad c xs q1 q2 q3 q4 q5 q6 q7 =>
   refine h ad c g a ⟨ρ, ms, h1, h2, h3.pin, fun t sv ht => ?_⟩
   by_cases hti : t = i
   ·subst hti
    rw [bF] at ht
    cases ht
    exact ⟨_, hx, .v⟩
   ·rw [bX _ _ hti] at ht
    exact h3.val t sv ht
theorem knn {tb : TT} (hT : tb.Ok X.P) (m : Nat) (H : List (List SV)) {d T yT z : Nat} {r : List SV} {rows : List (List SV)} {op : BinOp} {x y : Operand} (b : Bool) {l' L' M' φ} (hr : ∀ a n c w, (binOp op T (.slice (some a) n c) (.slice none 0 0)).run X.P w = .ok (.bool b) w) (hk : ES X arr l' k L' M' fs own) (ho : o.op = .binOp op T x y yT := by rfl)
 (hx : cO (aF L) x = some (.s z (r :: rows)) := by rfl) (hy : cO (aF L) y = some (.s 0 []) := by rfl) (he : ∀ a n c w, (eqGuard op T x y (.slice (some a) n c) (.slice none 0 0)).run X.P w = .ok () w := by intro a n c w; rfl)
 (hg : o.guard = none := by rfl) (hd : o.dst = some d := by rfl) (hn : Nat.blt d X.n = true := by rfl) (hrn : iY tb X.n arr m H l ((d, .v (.bool b)) :: L) M [] = some (l', L', M', φ) := by rfl)
 (hφ : aE φ := by first | trivial | omega | (simp +contextual [aE]; done) | (simp +contextual [aE, *]; done) | (simp +contextual [aE, *] <;> omega)) : ES X arr (o :: l) k L M fs own := by
 have hG : gS arr (aF L) o = some none := by unfold gS; rw [hg]
 refine cP (bT (sv := .v (.bool b)) hG hd hn (fun L' hL hon g a ρ ms st => ⟨.bool b, ?_, .v⟩)) ?_
 ·have hSl : Sl X ρ L' a g := st.all _ (.tail _ (.head _))
  have hev : evs (aF L') [x, y] = some [.s z (r :: rows), .s 0 []] := by
   have := aW hL
   rw [show o.op.operands.toList = [x, y] by rw [ho]; rfl] at this
   rw [this]
   simp only [evs, hx, hy]
  obtain ⟨_, _, e1, dx, hr1⟩ := (aT hSl.val hev).uncons
  obtain ⟨_, _, e2, dy, _⟩ := hr1.uncons
  simp only [List.map_cons, List.cons.injEq] at e1
  obtain ⟨rfl, rfl⟩ := e1
  simp only [List.cons.injEq] at e2
  obtain ⟨rfl, _⟩ := e2
  generalize hxv : a.eval x = xv at dx
  cases dx with
  | s xs q1 q2 q3 q4 q5 q6 q7 =>
    obtain ⟨b0, o0, rfl, _⟩ := q6 (by simp)
    simp only [execOp, ho, hxv, eH (den_nil dy)]
    simp [hr _ _ _ g.w, he _ _ _ g.w]
 ·rw [hd]
  exact go hT m H hk hrn hφ
theorem knv {tb : TT} (hT : tb.Ok X.P) (m : Nat) (H : List (List SV)) {d T yT : Nat} {op : BinOp} {x y : Operand} {xv : Value} (v : Value) {l' L' M' φ} (hr : ∀ w, (binOp op T xv (.slice none 0 0)).run X.P w = .ok v w) (hk : ES X arr l' k L' M' fs own) (ho : o.op = .binOp op T x y yT := by rfl)
 (hx : cO (aF L) x = some (.v xv) := by rfl) (hy : cO (aF L) y = some (.s 0 []) := by rfl) (he : ∀ w, (eqGuard op T x y xv (.slice none 0 0)).run X.P w = .ok () w := by intro w; rfl)
 (hg : o.guard = none := by rfl) (hd : o.dst = some d := by rfl) (hn : Nat.blt d X.n = true := by rfl) (hrn : iY tb X.n arr m H l ((d, .v v) :: L) M [] = some (l', L', M', φ) := by rfl)
 (hφ : aE φ := by first | trivial | omega | (simp +contextual [aE]; done) | (simp +contextual [aE, *]; done) | (simp +contextual [aE, *] <;> omega)) : ES X arr (o :: l) k L M fs own := by
 have hG : gS arr (aF L) o = some none := by unfold gS; rw [hg]
 refine cP (bT (sv := .v v) hG hd hn (fun L' hL hon g a ρ ms st => ⟨v, ?_, .v⟩)) ?_
 ·have hSl : Sl X ρ L' a g := st.all _ (.tail _ (.head _))
  have hev : evs (aF L') [x, y] = some [.v xv, .s 0 []] := by
   have := aW hL
   rw [show o.op.operands.toList = [x, y] by rw [ho]; rfl] at this
   rw [this]
   simp only [evs, hx, hy]
  obtain ⟨_, _, e1, dx, hr1⟩ := (aT hSl.val hev).uncons
  obtain ⟨_, _, e2, dy, _⟩ := hr1.uncons
  simp only [List.map_cons, List.cons.injEq] at e1
  obtain ⟨rfl, rfl⟩ := e1
  simp only [List.cons.injEq] at e2
  obtain ⟨rfl, _⟩ := e2
  simp only [execOp, ho, eH dx, eH (den_nil dy)]
  simp [hr g.w, he g.w]
 ·rw [hd]
  exact go hT m H hk hrn hφ
theorem U8 (L' : SL) (h : ES X arr l k L' M fs own) (hL : A1 L L' := by repeat (first | exact trivial | refine ⟨rfl, ?_⟩)) : ES X arr l k L M fs own := fun g a s => h g a (s.sub (A2 hL))
theorem sbn (i : Nat) {mb mb' : MB} {M' : SM} (e : ∀ g ρ r, bQ g ρ i mb r → bQ g ρ i mb' r) (h : ES X arr l k L M' fs own) (hm : fZ M i = some mb := by rfl) (hu : fU M i mb' some = some M' := by rfl) : ES X arr l k L M fs own := fun g a s => by
 obtain ⟨ρ, ms, h1, h2, h3⟩ := s
 obtain ⟨M2, h4, h5⟩ := aR.wk (e g ρ) h2 hm hu
 cases h4
 exact h g a ⟨ρ, ms, h1, h5, h3⟩
end
theorem kH {s : Bytes} : ∀ {f : Bool} {j : Nat} (hj : j < s.length), l3 f (s.take j) = true → mX (f && decide (j = 0)) s[j] = true → l3 f (s.take (j + 1)) = true := by
 induction s with
 | nil => intro f j hj; cases hj
 | cons c s ih =>
   intro f j hj h1 h2
   cases j with
   | zero => simpa [l3] using h2
   | succ j =>
     simp only [List.take_succ_cons, l3, Bool.and_eq_true] at h1 ⊢
     refine ⟨h1.1, ih (by simpa using hj) h1.2 ?_⟩
     simpa using h2
theorem zU {s : Bytes} : ∀ {f : Bool} {j : Nat} (hj : j < s.length), mX (f && decide (j = 0)) s[j] = false → l3 f s = false := by
 induction s with
 | nil => intro f j hj; cases hj
 | cons c s ih =>
   intro f j hj h2
   cases j with
   | zero =>
     have : mX f c = false := by simpa using h2
     simp [l3, this]
   | succ j =>
     have : l3 false s = false := ih (j := j) (by simpa using hj) (by simpa using h2)
     simp [l3, this]
theorem o4 {α : Type} {c : α → α → Int} {l m : List α} {i : Nat} (h : i < l.length) (h2 : i < m.length) : dS c (l.drop i) (m.drop i) = if c l[i] m[i] = 0 then dS c (l.drop (i + 1)) (m.drop (i + 1)) else c l[i] m[i] := by
 rw [List.drop_eq_getElem_cons h, List.drop_eq_getElem_cons h2]
 rfl
theorem QP {α : Type} {c : α → α → Int} {l m : List α} {i : Nat} (h : i < l.length) (h2 : m.length ≤ i) : dS c (l.drop i) (m.drop i) = 1 := by
 rw [List.drop_eq_getElem_cons h, List.drop_of_length_le h2]
 rfl
theorem H6 {α : Type} {c : α → α → Int} {l m : List α} {i : Nat} (h : l.length ≤ i) : dS c (l.drop i) (m.drop i) = if i < m.length then -1 else 0 := by
 rw [List.drop_of_length_le h]
 split
 ·rename_i h2
  rw [List.drop_eq_getElem_cons h2]
  rfl
 ·rw [List.drop_of_length_le (by omega)]
  first | done | rfl
theorem BW {α : Type} {c : α → α → Int} : ∀ {l : List α} {j : Nat} (h0 : 0 < j) (h : j < l.length), c (l[j - 1]'(by omega)) l[j] = 0 → fX c l = true
 | [], j, _, h, _ => by simp at h
 | [x], j, h0, h, _ => by simp at h; omega
 | x :: y :: r, 1, _, _, e => by
   simp only [fX, Bool.or_eq_true, decide_eq_true_eq]
   exact .inl e
 | x :: y :: r, j + 2, _, h, e => by
   simp only [fX, Bool.or_eq_true, decide_eq_true_eq]
   exact .inr (BW (j := j + 1) (by omega) (by simpa using h) e)
theorem BX {α : Type} {c : α → α → Int} : ∀ {l : List α}, (∀ (j : Nat) (h : j + 1 < l.length), c (l[j]'(by omega)) (l[j + 1]) ≠ 0) → fX c l = false
 | [], _ => rfl
 | [x], _ => rfl
 | x :: y :: r, h => by
   simp only [fX, Bool.or_eq_false_iff, decide_eq_false_iff_not]
   exact ⟨h 0 (by simp), BX (fun j hj => h (j + 1) (by simpa using hj))⟩
theorem QQ {l : List Lb} {n : Bytes} {i : Int} (h : jS (fun x : Lb => decide (x.n = n)) l = i) : (i < 0 → bN l n = []) ∧ (∀ j : Nat, i = j → ∃ hj : j < l.length, bN l n = (l[j]).v) := by
 induction l generalizing i with
 | nil =>
   subst h
   exact ⟨fun _ => rfl, fun j hj => by simp [jS] at hj⟩
 | cons x l ih =>
   unfold jS at h
   by_cases hx : x.n = n
   ·have e : bN (x :: l) n = x.v := by simp [bN, hx]
    simp only [hx, decide_true, if_true] at h
    subst h
    refine ⟨fun h => by omega, fun j hj => ?_⟩
    have : j = 0 := by omega
    subst this
    exact ⟨by simp, e⟩
   ·have e : bN (x :: l) n = bN l n := by simp [bN, hx]
    simp only [hx, decide_false, Bool.false_eq_true, if_false] at h
    obtain ⟨i1, i2⟩ := ih rfl
    have hg := uO (fun x : Lb => decide (x.n = n)) l
    by_cases h0 : jS (fun x : Lb => decide (x.n = n)) l < 0
    ·rw [if_pos h0] at h
     rw [e]
     exact ⟨fun _ => i1 h0, fun j hj => by omega⟩
    ·rw [if_neg h0] at h
     rw [e]
     refine ⟨fun hi => by omega, fun j hj => ?_⟩
     cases j with
     | zero => omega
     | succ j =>
       obtain ⟨hj2, e2⟩ := i2 j (by omega)
       exact ⟨by simpa using hj2, by simpa using e2⟩
def vsG {α : Type} (f : α → List SV) (l : List α) : List (List SV) := l.map fun s => [.a (f s)]
theorem BZ {α : Type} (f : α → List SV) (l : List α) : (vsG f l).length = l.length := by simp [vsG]
theorem KH {α : Type} {f : α → List SV} {l : List α} {j : Nat} (h : j < l.length) : (vsG f l)[j]? = some [.a (f l[j])] := by simp [vsG, h]
theorem U9 {T Te sz : Nat} {g : GW} {ρ : Nat → Lc} {n : Nat} {rows : List (List SV)} {ms : List aH} (h : aR g ρ [(2, .c T [.o 903 n]), (903, .r Te sz rows)] ms) : aR g (fun i => if i = 901 then ρ 903 else ρ (i - 1000)) [(1002, .c T [.o 901 n]), (901, .r Te sz rows)] ms := by
 cases h with
 | cons h1 t =>
   cases t with
   | cons h2 t2 =>
     cases t2
     refine .cons ?_ (.cons ?_ .nil)
     ·cases h1 with
      | c xs hd h3 =>
        refine .c (ρ := fun i => if i = 901 then ρ 903 else ρ (i - 1000)) (i := 1002) xs ⟨hd.1, fun p s v hp hv => ?_⟩ h3
        cases p with
        | zero =>
          simp only [List.getElem?_cons_zero, Option.some.injEq] at hp
          subst hp
          have h0 := hd.2 0 _ v rfl hv
          cases h0 with
          | o => exact .o (ρ := fun i => if i = 901 then ρ 903 else ρ (i - 1000)) (i := 901)
        | succ p => simp at hp
     ·cases h2 with
      | r hz xs hl h3 => exact .r (ρ := fun i => if i = 901 then ρ 903 else ρ (i - 1000)) (i := 901) hz xs hl h3
theorem QR {T Te sz : Nat} {g : GW} {ρ : Nat → Lc} {n : Nat} {rows : List (List SV)} {ms : List aH} (h : aR g ρ [(1002, .c T [.o 901 n]), (901, .r Te sz rows)] ms) : aR g (fun i => if i = 903 then ρ 901 else ρ (i + 1000)) [(2, .c T [.o 903 n]), (903, .r Te sz rows)] ms := by
 cases h with
 | cons h1 t =>
   cases t with
   | cons h2 t2 =>
     cases t2
     refine .cons ?_ (.cons ?_ .nil)
     ·cases h1 with
      | c xs hd h3 =>
        refine .c (ρ := fun i => if i = 903 then ρ 901 else ρ (i + 1000)) (i := 2) xs ⟨hd.1, fun p s v hp hv => ?_⟩ h3
        cases p with
        | zero =>
          simp only [List.getElem?_cons_zero, Option.some.injEq] at hp
          subst hp
          have h0 := hd.2 0 _ v rfl hv
          cases h0 with
          | o => exact .o (ρ := fun i => if i = 903 then ρ 901 else ρ (i + 1000)) (i := 903)
        | succ p => simp at hp
     ·cases h2 with
      | r hz xs hl h3 => exact .r (ρ := fun i => if i = 903 then ρ 901 else ρ (i + 1000)) (i := 903) hz xs hl h3
theorem H7 (x : Ex) : (bA x).length ≤ (nT x).length := by
 unfold nT
 split
 ·simp; omega
 ·omega
theorem pN (o : Bytes) (x : Ex) : (bA x).length ≤ (bA (eU o [x])).length := by
 have := H7 x
 rw [zI]
 split
 ·simp; omega
 ·simp; omega
theorem yP (o : Bytes) (x y : Ex) : (bA x).length ≤ (bA (eU o [x, y])).length ∧ (bA y).length ≤ (bA (eU o [x, y])).length := by
 have h1 := H7 x
 have h2 := H7 y
 rw [jY]
 constructor <;> simp <;> omega
abbrev rA : Bytes := [65]
theorem H8 {v : Val} (h : cE v = true) : rE [⟨[], v⟩] where
 set s hs := by
  simp only [List.mem_singleton] at hs
  subst hs
  exact ⟨(fun _ h => by cases h), List.Pairwise.nil, Nat.zero_le _⟩
 val s hs := by
  simp only [List.mem_singleton] at hs
  subst hs
  exact h
 up := List.pairwise_singleton _ _
 few := by simp
section
variable {ans : List An} {how op t : Bytes} {low : Int} (h0 : 0 ≤ low) (h1 : low ≤ 1000000) (hw : how = hGt ∧ op = yF ∨ how = hLt ∧ op = yE) (ht : t = bA (eU op [sK rA, mG ⟨1, low⟩]))
include h0 h1 hw ht
end
theorem YD {l : List Lb} {v : Lb} : (l.any fun x => decide (v = x)) = decide (v ∈ l) := by
 rw [Bool.eq_iff_iff]
 simp
theorem H9 {a b : List Lb} : (!a.any fun x => !decide (x ∈ b)) = a6 a b := by
 unfold a6
 simp [List.not_any_eq_all_not]
theorem YE {x : Lb} (h : lG x = true) : x.n.length ≤ jZ := by
 unfold lG nameB at h
 simp only [Bool.and_eq_true, decide_eq_true_eq] at h
 have := h.1.1.2
 unfold jZ
 omega
theorem dQ.big {l : List Lb} (h : dQ l) : fO l := ⟨fun x hx => YE (h.ok x hx), by have := h.few; unfold jZ; omega⟩
theorem rE.big {l : List Se} (h : rE l) : ∀ s ∈ l, fO s.l := fun s hs => (h.set s hs).big
theorem VA {a b : List Lb} {p : Lb → Bool} (ha : dQ a) (hb : dQ b) : fO (a ++ b.filter p) := by
 refine ⟨fun x hx => ?_, ?_⟩
 ·rcases List.mem_append.1 hx with hx | hx
  ·exact ha.big.1 x hx
  ·exact hb.big.1 x (List.mem_filter.1 hx).1
 ·have := ha.few
  have := hb.few
  have := List.length_filter_le p b
  rw [List.length_append]
  unfold jZ
  omega
theorem k0 {α : Type} {p : α → Bool} {l : List α} {j : Nat} (hj : j < l.length) : (l.take (j + 1)).filter p = (l.take j).filter p ++ (if p l[j] = true then [l[j]] else []) := by
 rw [List.take_succ_eq_append_getElem hj, List.filter_append]
 congr 1
 by_cases h : p l[j] = true
 ·simp [h]
 ·simp [h]
def pF {α : Type} (f : α → α) (l : List α) (j : Nat) : List α := (l.take j).map f ++ l.drop j
theorem YF {α : Type} (f : α → α) (l : List α) : pF f l 0 = l := by simp [pF]
theorem QS {α : Type} (f : α → α) (l : List α) : pF f l l.length = l.map f := by simp [pF]
theorem rF {α : Type} (f : α → α) (l : List α) (j : Nat) : (pF f l j).length = l.length := by
 simp only [pF, List.length_append, List.length_map, List.length_take, List.length_drop]
 omega
theorem KI {α β : Type} {f : α → α} {e : α → β} {l : List α} {j : Nat} (hj : j < l.length) : ((pF f l j).map e)[j]? = some (e l[j]) := by
 unfold pF
 rw [List.map_append, List.getElem?_append_right (by simp; omega)]
 simp [Nat.min_eq_left (Nat.le_of_lt hj), hj]
theorem QT {α β : Type} {f : α → α} {e : α → β} {l : List α} {j : Nat} (hj : j < l.length) {r : β} (hr : r = e (f l[j])) : ((pF f l j).map e).set j r = (pF f l (j + 1)).map e := by
 subst hr
 unfold pF
 rw [List.take_succ_eq_append_getElem hj, List.drop_eq_getElem_cons hj]
 simp only [List.map_append, List.map_cons, List.map_nil, List.append_assoc, List.singleton_append]
 have e0 : j - (((l.take j).map f).map e).length = 0 := by simp; omega
 rw [List.set_append_right _ _ (by simp; omega), e0]
 rfl
def rowP (op : Bytes) (x : Se) (b : List Se) : List Se := (b.filter fun y => a6 x.l y.l || a6 y.l x.l).map fun y => ⟨(joinL x.l y.l).1, (mA op [x.v, y.v]).1⟩
theorem xI {op : Bytes} {a b : List Se} {i : Nat} (hi : i < a.length) : aQ op (a.take (i + 1)) b = aQ op (a.take i) b ++ rowP op a[i] b := by
 unfold aQ rowP
 rw [List.take_succ_eq_append_getElem hi, List.flatMap_append]
 simp
theorem KJ {op : Bytes} {x : Se} {b : List Se} {k : Nat} (hk : k < b.length) (h : (a6 x.l b[k].l || a6 b[k].l x.l) = true) : rowP op x (b.take (k + 1)) = rowP op x (b.take k) ++ [⟨(joinL x.l b[k].l).1, (mA op [x.v, b[k].v]).1⟩] := by
 unfold rowP
 rw [k0 hk, if_pos h, List.map_append]
 rfl
theorem QU {op : Bytes} {x : Se} {b : List Se} {k : Nat} (hk : k < b.length) (h : (a6 x.l b[k].l || a6 b[k].l x.l) = false) : rowP op x (b.take (k + 1)) = rowP op x (b.take k) := by
 unfold rowP
 rw [k0 hk, if_neg (by rw [h]; decide), List.append_nil]
theorem KL (op : Bytes) (x : Se) (b : List Se) : (rowP op x b).length ≤ b.length := by
 unfold rowP
 rw [List.length_map]
 exact List.length_filter_le _ _
theorem zV {op : Bytes} {a b : List Se} (ha : rE a) (hb : rE b) : (∀ s ∈ aQ op a b, fO s.l) ∧ (aQ op a b).length ≤ 40000 := by
 refine ⟨fun s hs => ?_, ?_⟩
 ·obtain ⟨x, hx, hs⟩ := List.mem_flatMap.1 hs
  obtain ⟨y, hy, rfl⟩ := List.mem_map.1 hs
  obtain ⟨hy, hw⟩ := List.mem_filter.1 hy
  rw [zS (ha.set x hx) (hb.set y hy) hw]
  split
  ·exact (hb.set y hy).big
  ·exact (ha.set x hx).big
 ·have h1 := oZ (op := op) (a := a) (b := b)
  have h2 : a.length * b.length ≤ 200 * 200 := Nat.mul_le_mul ha.few hb.few
  omega
section
variable {α : Type} {f : α → List SV}
def Y9 (f : α → List SV) (l : List α) : List (List SV) := (List.range l.length).map fun (j : Nat) => [nI ((l.length : Int) - 1 - j), .a ((l[l.length - 1 - j]?.map f).getD [])]
theorem rG (l : List α) : (Y9 f l).length = l.length := by simp [Y9]
theorem B2 {l : List α} {j : Nat} (h : j < l.length) : (Y9 f l)[j]? = some [nI ((l.length : Int) - 1 - j), .a (f (l[l.length - 1 - j]'(by omega)))] := by
 have h2 : l.length - 1 - j < l.length := by omega
 simp [Y9, h, h2]
theorem KO {l : List α} {j : Nat} (hj : j < l.length) : l.reverse[j]? = some (l[l.length - 1 - j]'(by omega)) := by
 rw [List.getElem?_reverse hj, List.getElem?_eq_getElem (by omega)]
theorem B5 {l : List α} {j : Nat} {z : Int} {hz : l.length - 1 - j < l.length} (h : z.toNat = l.length - 1 - j) : (l.map f)[z.toNat]? = some (f (l[l.length - 1 - j])) := by
 rw [h, List.getElem?_map, List.getElem?_eq_getElem hz]
 rfl
end
theorem u3 {l : List (Bytes × List Se)} : ∀ a ∈ Y9 MX l, nC a = true ∧ a.length = 2 := fun a ha => by
 obtain ⟨j, hj, rfl⟩ := List.mem_map.1 ha
 have h2 : l.length - 1 - j < l.length := by have := List.mem_range.1 hj; omega
 rw [List.getElem?_eq_getElem h2]
 exact ⟨rfl, rfl⟩
def f7 (l : List (Bytes × List Se)) (n : Bytes) (j : Nat) : Bool := (l.reverse.take j).all fun p => !decide (p.1 = n)
def TO (l : List (Bytes × List Se)) (n : Bytes) (j : Nat) : SM := match f7 l n j with
 | true => [(5, .c 33 [nI 0]), (4, .c 32 [.s 0 []])]
 | false => [(5, .c 33 [nI 0]), (4, .c 32 [.s 0 [[]]])]
theorem FM {l : List (Bytes × List Se)} {n : Bytes} {j : Nat} (h : f7 l n j = true) : TO l n j = [(5, .c 33 [nI 0]), (4, .c 32 [.s 0 []])] := by unfold TO; rw [h]
theorem QV {l : List (Bytes × List Se)} {n : Bytes} {j : Nat} (h : f7 l n j = false) : TO l n j = [(5, .c 33 [nI 0]), (4, .c 32 [.s 0 [[]]])] := by unfold TO; rw [h]
theorem pZ {l : List (Bytes × List Se)} {n : Bytes} {j : Nat} (hj : j < l.length) (h : f7 l n j = true) (hx : ¬ (l[l.length - 1 - j]'(by omega)).1 = n) : f7 l n (j + 1) = true := by
 unfold f7 at h ⊢
 rw [List.take_add_one, KO hj, List.all_append, h]
 simp [hx]
theorem zW : ∀ {r : List (Bytes × List Se)} {n : Bytes} {j : Nat} {x : Bytes × List Se}, (r.take j).all (fun p => !decide (p.1 = n)) = true → r[j]? = some x → x.1 = n → mN r n = some x.2
 | [], _, _, _, _, h, _ => by simp at h
 | p :: r, n, 0, x, _, h, hx => by
   simp only [List.getElem?_cons_zero, Option.some.injEq] at h
   subst h
   unfold mN
   rw [if_pos hx]
 | p :: r, n, j + 1, x, h0, h, hx => by
   simp only [List.take_succ_cons, List.all_cons, Bool.and_eq_true] at h0
   unfold mN
   rw [if_neg (by simpa using h0.1)]
   exact zW h0.2 (by simpa using h) hx
theorem tB : ∀ {r : List (Bytes × List Se)} {n : Bytes}, r.all (fun p => !decide (p.1 = n)) = true → mN r n = none
 | [], _, _ => rfl
 | p :: r, n, h => by
   simp only [List.all_cons, Bool.and_eq_true] at h
   unfold mN
   rw [if_neg (by simpa using h.1)]
   exact tB h.2
theorem FN {l : List (Bytes × List Se)} {n : Bytes} {j : Nat} (hj : j < l.length) (h : f7 l n j = true) (hx : (l[l.length - 1 - j]'(by omega)).1 = n) : aM l n = some (l[l.length - 1 - j]'(by omega)).2 := zW h (KO hj) hx
theorem MY {l : List (Bytes × List Se)} {n : Bytes} {v : List Se} (h : aM l n = some v) : f7 l n l.length = false := by
 cases hb : f7 l n l.length with
 | false => rfl
 | true =>
   unfold f7 at hb
   rw [List.take_of_length_le (by simp)] at hb
   unfold aM at h
   rw [tB hb] at h
   cases h
theorem zX {l : List (Bytes × List Se)} {n : Bytes} (h : aM l n = none) : ∀ x ∈ l, ¬ x.1 = n := fun x hx e => by
 have key : ∀ {r : List (Bytes × List Se)}, mN r n = none → ∀ x ∈ r, ¬ x.1 = n := by
  intro r
  induction r with
  | nil => intro _ x hx; cases hx
  | cons p r ih =>
    intro h x hx
    unfold mN at h
    split at h
    ·cases h
    ·rename_i h0
     rcases List.mem_cons.1 hx with rfl | hx
     ·exact h0
     ·exact ih h x hx
 exact key (r := l.reverse) h x (List.mem_reverse.2 hx) e
structure yQ (l : List (Bytes × List Se)) : Prop where
 se : ∀ f ∈ l, (∀ s ∈ f.2, fO s.l) ∧ f.2.length * 40 ≤ jZ
 len : l.length ≤ 1000000
theorem rH (look : Bytes → Option (List Se)) (o : Bytes) (a : Ex) : cN look (eU o [a]) = if ¬ (cN look a).2 = 0 then ([], (cN look a).2) else jT o (cN look a).1 := by
 by_cases h : (cN look a).2 = 0
 ·have : pE look [a] = ([(cN look a).1], 0) := by simp [pE, h]
  simp [cN, this, h]
 ·have : pE look [a] = ([], (cN look a).2) := by simp [pE, h]
  simp [cN, this, h]
theorem B6 (look : Bytes → Option (List Se)) (o : Bytes) (a b : Ex) : cN look (eU o [a, b]) = if ¬ (cN look a).2 = 0 then ([], (cN look a).2) else if ¬ (cN look b).2 = 0 then ([], (cN look b).2) else dO o (cN look a).1 (cN look b).1 := by
 by_cases h : (cN look a).2 = 0
 ·by_cases h2 : (cN look b).2 = 0
  ·have : pE look [a, b] = ([(cN look a).1, (cN look b).1], 0) := by simp [pE, h, h2]
   simp [cN, this, h, h2]
  ·have : pE look [a, b] = ([], (cN look b).2) := by simp [pE, h, h2]
   simp [cN, this, h, h2]
 ·have : pE look [a, b] = ([], (cN look a).2) := by simp [pE, h]
  simp [cN, this, h]
theorem QW {l : List Se} (h : rE l) : (∀ s ∈ l, fO s.l) ∧ l.length * 40 ≤ jZ := ⟨h.big, by have := h.few; unfold jZ; omega⟩
theorem FO {o : Bytes} {l : List Se} : (∀ s ∈ (jT o l).1, fO s.l) ∧ (jT o l).1.length * 40 ≤ jZ := by
 unfold jT
 split
 ·exact ⟨(fun s h => by cases h), Nat.zero_le _⟩
 ·rename_i h
  split
  ·exact ⟨(fun s h => by cases h), Nat.zero_le _⟩
  ·have hf := (jE (l := l) (by simpa using h)).1
   refine ⟨fun s hs => ?_, by rw [List.length_map]; exact (QW hf).2⟩
   obtain ⟨x, hx, rfl⟩ := List.mem_map.1 hs
   exact hf.big x hx
theorem zY {l : List Se} : (∀ s ∈ (aV l).1, fO s.l) ∧ (aV l).1.length * 40 ≤ jZ := by
 by_cases h : (aV l).2 = 0
 ·exact QW (jE h).1
 ·rw [MU h]
  exact ⟨(fun s h => by cases h), Nat.zero_le _⟩
theorem MZ {o : Bytes} {a b : List Se} : (∀ s ∈ (dO o a b).1, fO s.l) ∧ (dO o a b).1.length * 40 ≤ jZ := by
 unfold dO
 split
 ·exact ⟨(fun s h => by cases h), Nat.zero_le _⟩
 ·split
  ·exact ⟨(fun s h => by cases h), Nat.zero_le _⟩
  ·split
   ·exact ⟨(fun s h => by cases h), Nat.zero_le _⟩
   ·exact zY
theorem k5 {env : List (Bytes × List Se)} {x : Ex} (h : Wf x) : (∀ s ∈ (cN (aM env) x).1, fO s.l) ∧ (cN (aM env) x).1.length * 40 ≤ jZ := by
 have nil : (∀ s ∈ ([] : List Se), fO s.l) ∧ ([] : List Se).length * 40 ≤ jZ := ⟨(fun s h => by cases h), Nat.zero_le _⟩
 cases h with
 | @num v hv =>
   have : cN (aM env) (mG v) = ([⟨[], v⟩], 0) := by simp [cN]
   rw [this]
   exact ⟨fun s hs => by simp only [List.mem_singleton] at hs; subst hs; exact ⟨fun x hx => by (cases hx), Nat.zero_le _⟩, by show 1 * 40 ≤ _; unfold jZ; omega⟩
 | @ref n hn =>
   cases hl : aM env n with
   | none =>
     have : cN (aM env) (sK n) = ([], 7) := by simp [cN, hl]
     rw [this]
     exact nil
   | some l =>
     have : cN (aM env) (sK n) = aV l := by simp [cN, hl]
     rw [this]
     exact zY
 | sign _ _ => rw [rH]; split; exact nil; exact FO
 | fn _ _ => rw [rH]; split; exact nil; exact FO
 | bin _ _ _ _ _ => rw [B6]; split; exact nil; split; exact nil; exact MZ
theorem IA {g : GW} {ρ : Nat → Lc} {v : Val} {x : Value} (h : bC g ρ (.s 3 [[.s 0 [], nI v.k, nI v.n]]) x) : bC g ρ (cI [⟨[], v⟩]) x := by
 cases h with
 | s xs h1 h2 hl hr ho hne hd =>
   refine .s xs h1 h2 hl (fun r hr => by simp only [List.map_cons, List.map_nil, List.mem_singleton] at hr; subst hr; rfl) ho (fun _ => hne (by simp)) (fun ρ' i j r sv x hi hj hx => ?_)
   cases i with
   | succ i => simp at hi
   | zero =>
     simp only [List.map_cons, List.map_nil, List.getElem?_cons_zero, Option.some.injEq] at hi
     subst hi
     cases j with
     | zero =>
       simp only [List.getElem?_cons_zero, Option.some.injEq] at hj
       subst hj
       exact cS (by decide) (hd ρ' 0 0 _ _ x rfl rfl hx)
     | succ j => exact hd ρ' 0 (j + 1) _ sv x rfl hj hx
theorem VB {g : GW} {ρ : Nat → Lc} {i T : Nat} {v : Val} {r : aH} (h : bQ g ρ i (.c T [.s 3 [[.s 0 [], nI v.k, nI v.n]]]) r) : bQ g ρ i (.c T [cI [⟨[], v⟩]]) r := by
 cases h with
 | c xs h h1 =>
   obtain ⟨x, r, rfl, h2, h3⟩ := h.uncons
   exact .c _ (.cons (IA h2) h3) h1
theorem xJ : ∀ a b : Bytes, gZ a b = if blt a b = true then -1 else if blt b a = true then 1 else 0
 | a, b => by
   have hr : ∀ a b : Bytes, gZ a b = -1 ∨ gZ a b = 0 ∨ gZ a b = 1 := by
    intro a
    induction a with
    | nil => intro b; cases b <;> simp [Lib.compareBytes]
    | cons x a ih =>
      intro b
      cases b with
      | nil => simp [Lib.compareBytes]
      | cons y b =>
        unfold gZ Lib.compareBytes
        split
        ·exact .inl rfl
        ·split
         ·exact .inr (.inr rfl)
         ·exact ih b
   have h1 := rD a b
   have h2 := U5 a b
   rcases hr a b with h | h | h
   ·rw [if_pos (h1.1 (by omega)), h]
   ·rw [if_neg (fun hh => by have := h1.2 hh; omega), if_neg (fun hh => by have := h2.2 hh; omega), h]
   ·rw [if_neg (fun hh => by have := h1.2 hh; omega), if_pos (h2.1 (by omega)), h]
theorem FP : ∀ {l : List Lb}, (∀ (k : Nat) (h : k + 1 < l.length), eZ (l[k]'(by omega)) (l[k + 1]) < 0) → xB l
 | [], _ => List.Pairwise.nil
 | [x], _ => List.pairwise_singleton _ _
 | x :: y :: r, h => by
   have ih := FP (l := y :: r) (fun k hk => h (k + 1) (by simpa using hk))
   have hxy : eZ x y < 0 := h 0 (by simp)
   refine List.pairwise_cons.2 ⟨fun z hz => ?_, ih⟩
   rcases List.mem_cons.1 hz with rfl | hz
   ·exact hxy
   ·exact uZ x y z hxy ((List.pairwise_cons.1 ih).1 z hz)
theorem getD_at {α : Type} {l : List α} {j : Nat} {d : α} (h : j < l.length) : l.getD j d = l[j] := by
 rw [List.getD_eq_getElem?_getD, List.getElem?_eq_getElem h]
 rfl
theorem l5 {α : Type} (f : α → List SV) {l : List α} {j : Nat} {d : α} {z : Int} (h : j < l.length) (hz : z.toNat = j) : (l.map f)[z.toNat]? = some (f (l.getD j d)) := by
 rw [hz, List.getElem?_map, List.getElem?_eq_getElem h, getD_at h]
 rfl
theorem VC {l : List Lb} {j : Nat} (hj : j < l.length) (h : lG l[j] = false ∨ ∃ h0 : 0 < j, ¬ eZ (l[j - 1]'(by omega)) l[j] < 0) : eG l = false := by
 cases hb : eG l with
 | false => rfl
 | true =>
   exfalso
   have hs := l4.1 hb
   rcases h with h | ⟨h0, h⟩
   ·rw [hs.ok _ (List.getElem_mem hj)] at h
    cases h
   ·exact h (List.pairwise_iff_getElem.1 hs.up (j - 1) j (by omega) hj (by omega))
def zLb : Lb := ⟨[], []⟩
def zSe : Se := ⟨[], zeroV⟩
theorem FQ {x y : Lb} : eZ x y < 0 ↔ blt x.n y.n = true := rD _ _
theorem IB {l : List Lb} {n : Bytes} {j : Nat} (hj : j < l.length) (h : ∀ x ∈ l.take j, decide (x.n = n) = false) (h2 : l[j].n = n) : bN l n = l[j].v := by
 unfold bN
 rw [uT hj h (by simpa using h2)]
theorem VD {l : List Lb} {n : Bytes} (h : ∀ x ∈ l, decide (x.n = n) = false) : bN l n = [] := xE fun x hx => by simpa using h x hx
abbrev sA : Bytes := [36, 65, 32, 43, 32, 50, 32, 42, 32, 36, 66, 32, 62, 32, 51]
abbrev sB : Bytes := [49, 32, 43, 32, 36, 97]
abbrev sC : Bytes := [97, 98, 115, 40, 36, 65, 41]
abbrev xM : Ex := eU [42] [mG ⟨1, 2000⟩, sK [66]]
abbrev xP : Ex := eU [43] [sK [65], xM]
abbrev xA : Ex := eU [62] [xP, mG ⟨1, 3000⟩]
abbrev xC : Ex := eU mW [sK [65]]
theorem YG : bK aB sA = (xA, 0, 0) := by rfl
theorem YH : (bK aB sB).2 = (110, 4) := by rfl
theorem YI : bK aB sC = (xC, 0, 0) := by rfl
theorem aAP {n : Int} {d : Nat} (h0 : 0 ≤ n) (h1 : n ≤ 1000000000000000) (hd : n.natAbs / 1000 = d) (hr : n.natAbs % 1000 = 0) (h : d < 10) : bA (mG ⟨1, n⟩) = ((([48, 49, 50, 51, 52, 53, 54, 55, 56, 57] : Bytes).drop d).take 1) := by
 rw [wV, if_neg (by simp), if_neg (by simp), y4 h0 h1]
 unfold dP pJ
 rw [hd, hr, if_pos rfl, List.append_nil, A9 h]
theorem QX : bA xA = [40, 36, 65, 32, 43, 32, 40, 50, 32, 42, 32, 36, 66, 41, 41, 32, 62, 32, 51] := by
 have h2 : bA (mG ⟨1, 2000⟩) = [50] := aAP (d := 2) (by decide) (by decide) (by decide) (by decide) (by decide)
 have h3 : bA (mG ⟨1, 3000⟩) = [51] := aAP (d := 3) (by decide) (by decide) (by decide) (by decide) (by decide)
 have hA : bA (sK [65]) = [36, 65] := sW [65] zeroV []
 have hB : bA (sK [66]) = [36, 66] := sW [66] zeroV []
 rw [jY, JZ, nW (x := mG ⟨1, 3000⟩) (by decide), h3, jY, nW (x := sK [65]) (by decide), hA, JZ, jY, nW (x := mG ⟨1, 2000⟩) (by decide), h2, nW (x := sK [66]) (by decide), hB]
 rfl
theorem YJ : Wf xA := by
 refine .bin 2 (by decide) (by decide) (.bin 1 (by decide) (by decide) (.ref (by decide)) (.bin 0 (by decide) (by decide) (.num (.inr (.inr (.inr ⟨by decide, rfl, by decide⟩)))) (.ref (by decide)))) (.num (.inr (.inr (.inr ⟨by decide, rfl, by decide⟩))))
theorem YK : dX xA = [[65], [66]] := by
 have h0 : ∀ v, dX (mG v) = [] := fun v => by
  rw [lX, if_neg (by simp [Ex.kind])]
  show mJ (f4 []) = []
  simp [f4, mJ]
 have hR : ∀ n, dX (sK n) = [n] := fun n => by rw [lX, if_pos (by simp [Ex.kind])]; rfl
 have h1 : dX xM = [[66]] := by
  rw [lX, if_neg (by simp [Ex.kind])]
  show mJ (f4 (dX (mG ⟨1, 2000⟩) ++ (dX (sK [66]) ++ []))) = _
  rw [h0, hR]
  simp [f4, mJ, BI]
 have hs : f4 [[65], [66]] = [[65], [66]] := by
  simp [f4, List.mergeSort, List.MergeSort.Internal.splitInTwo, List.merge]
  decide
 have h2 : dX xP = [[65], [66]] := by
  rw [lX, if_neg (by simp [Ex.kind])]
  show mJ (f4 (dX (sK [65]) ++ (dX xM ++ []))) = _
  rw [h1, hR]
  show mJ (f4 [[65], [66]]) = _
  rw [hs]
  decide
 rw [lX, if_neg (by simp [Ex.kind])]
 show mJ (f4 (dX xP ++ (dX (mG ⟨1, 3000⟩) ++ []))) = _
 rw [h2, h0]
 show mJ (f4 [[65], [66]]) = _
 rw [hs]
 decide
theorem YL : (mA mW [aK (-1000)]).1 = aK 1000 := by decide
theorem VE : cN (aM [([65], [⟨[], aK (-1000)⟩])]) xC = ([⟨[], aK 1000⟩], 0) := by
 have h1 : cN (aM [([65], [⟨[], aK (-1000)⟩])]) (sK [65]) = ([⟨[], aK (-1000)⟩], 0) := by
  have : aM [([65], [⟨[], aK (-1000)⟩])] [65] = some [⟨[], aK (-1000)⟩] := rfl
  have e : cN (aM [([65], [⟨[], aK (-1000)⟩])]) (sK [65]) = aV [⟨[], aK (-1000)⟩] := by simp [cN, this]
  rw [e]
  exact KG (H8 (by decide))
 rw [rH, h1, if_neg (by simp)]
 unfold jT
 rw [KG (H8 (by decide)), if_neg (by simp), if_neg (by decide)]
 simp only [List.map_cons, List.map_nil, YL]
def QY (env : List (Bytes × List Se)) : Prop := (∀ f ∈ env, (∀ s ∈ f.2, fO s.l) ∧ f.2.length * 40 ≤ jZ) ∧ env.length * 40 ≤ jZ
def k6 (s : List Se) (k : Nat) : Nat := 1 + s.length + ((s.take k).map fun x => x.l.length).sum
theorem VF (s : List Se) : k6 s 0 = 1 + s.length := by simp [k6]
theorem IC {s : List Se} {k : Nat} (hk : k < s.length) : k6 s (k + 1) = k6 s k + (s[k]).l.length := by
 unfold k6
 rw [List.take_succ_eq_append_getElem hk, List.map_append, List.sum_append]
 simp
 omega
theorem zZ {s : List Se} {k : Nat} (h : s.length ≤ k ∨ k = 41) (h41 : k ≤ 41) : k6 s k = zT s := by
 unfold k6 zT
 rcases h with h | h
 ·rw [List.take_of_length_le h, List.take_of_length_le (by omega)]
 ·rw [h]
theorem M4 {e : List (Bytes × List Se)} {i : Nat} (hi : i < e.length) : sumF (e.take (i + 1)) = sumF (e.take i) + zT (e[i]).2 := by
 unfold sumF
 rw [List.take_succ_eq_append_getElem hi, List.map_append, List.sum_append]
 simp
theorem KP {s : List Se} (h : (∀ x ∈ s, fO x.l) ∧ s.length * 40 ≤ jZ) (k : Nat) : k6 s k ≤ 4000000000000 + k * 4400000000000 := by
 have key : ∀ (l : List Se), (∀ x ∈ l, fO x.l) → (l.map fun x => x.l.length).sum ≤ l.length * 4400000000000 := by
  intro l
  induction l with
  | nil => intro _; simp
  | cons x l ih =>
    intro hx
    have h1 := (hx x (.head _)).2
    have h2 := ih (fun y hy => hx y (.tail _ hy))
    simp only [List.map_cons, List.sum_cons, List.length_cons, Nat.succ_mul]
    unfold jZ at h1
    omega
 have h1 := key (s.take k) (fun x hx => h.1 x (List.mem_of_mem_take hx))
 have h2 : (s.take k).length ≤ k := by rw [List.length_take]; omega
 have h3 := Nat.mul_le_mul_right 4400000000000 h2
 have h4 := h.2
 unfold k6
 unfold jZ at h4
 omega
theorem YM {e : List (Bytes × List Se)} (h : QY e) (i : Nat) : sumF (e.take i) ≤ i * 190000000000000 := by
 have key : ∀ (l : List (Bytes × List Se)), (∀ f ∈ l, (∀ s ∈ f.2, fO s.l) ∧ f.2.length * 40 ≤ jZ) → (l.map fun f => zT f.2).sum ≤ l.length * 190000000000000 := by
  intro l
  induction l with
  | nil => intro _; simp
  | cons x l ih =>
    intro hx
    have h1 := KP (hx x (.head _)) 41
    have h2 := ih (fun y hy => hx y (.tail _ hy))
    have h3 : zT x.2 = k6 x.2 41 := (zZ (.inr rfl) (Nat.le_refl _)).symm
    simp only [List.map_cons, List.sum_cons, List.length_cons, Nat.succ_mul]
    omega
 have h1 := key (e.take i) (fun f hf => h.1 f (List.mem_of_mem_take hf))
 have h2 : (e.take i).length ≤ i := by rw [List.length_take]; omega
 exact Nat.le_trans h1 (Nat.mul_le_mul_right 190000000000000 h2)
theorem VG {e : List (Bytes × List Se)} (h : QY e) {i : Nat} (hi : i ≤ 41) : sumF (e.take i) ≤ 7790000000000000 := Nat.le_trans (YM h i) (Nat.mul_le_mul_right 190000000000000 hi)
theorem QZ {s : List Se} (h : (∀ x ∈ s, fO x.l) ∧ s.length * 40 ≤ jZ) {k : Nat} (hk : k ≤ 41) : k6 s k ≤ 184400000000000 := Nat.le_trans (KP h k) (Nat.add_le_add_left (Nat.mul_le_mul_right 4400000000000 hk) 4000000000000)
theorem M5 {e : List (Bytes × List Se)} (h : QY e) (hs : xH e = true) : yQ e where
 se := h.1
 len := by
  unfold xH at hs
  simp only [Bool.and_eq_true, decide_eq_true_eq] at hs
  omega
end Go.KX
namespace Go.Proofs.YtomkgfdigldhcaaGreatDoor
open Go.KX
theorem tk2 : bI Tryz.prog 2 ⟨1, 8, .int .i64 0, .int .i64⟩ := ⟨aU (by kernel_rfl), Tryz.underlying2⟩
theorem tk3 : bI Tryz.prog 3 ⟨1, 8, .int .i64 0, .int .i64⟩ := ⟨aU (by kernel_rfl), Tryz.underlying3⟩
theorem tk4 : bI Tryz.prog 4 ⟨1, 1, .bool false, .bool⟩ := ⟨aU (by kernel_rfl), Tryz.underlying4⟩
theorem tk5 : bI Tryz.prog 5 ⟨1, 1, .int .u8 0, .int .u8⟩ := ⟨aU (by kernel_rfl), Tryz.underlying5⟩
theorem tk9 : bI Tryz.prog 9 ⟨1, 16, str [], .str⟩ := ⟨aU (by kernel_rfl), Tryz.underlying9⟩
theorem aD7 : bI Tryz.prog 21 ⟨1, 4, .int .i32 0, .int .i32⟩ := ⟨aU (by kernel_rfl), Tryz.underlying21⟩
theorem aD8 : bI Tryz.prog 22 ⟨1, 24, .slice none 0 0, .sl 52⟩ := ⟨aU (by kernel_rfl), Tryz.underlying22⟩
theorem aD9 : bI Tryz.prog 26 ⟨2, 16, .agg #[.int .i64 0, .int .i64 0], .st [(0, 1, false), (1, 1, false)]⟩ := nD (aU (by kernel_rfl)) Tryz.underlying26 (by kernel_rfl)
theorem aDA : bI Tryz.prog 27 ⟨1, 24, .slice none 0 0, .sl 29⟩ := ⟨aU (by kernel_rfl), Tryz.underlying27⟩
theorem aDB : bI Tryz.prog 29 ⟨5, 64, .agg #[.int .i64 0, str [], .int .i64 0, .int .i64 0, .slice none 0 0], .st [(0, 1, false), (1, 1, false), (2, 2, true), (4, 1, false)]⟩ := nD (aU (by kernel_rfl)) Tryz.underlying29 (by kernel_rfl)
theorem aDC : bI Tryz.prog 32 ⟨1, 24, .slice none 0 0, .sl 98⟩ := ⟨aU (by kernel_rfl), Tryz.underlying32⟩
theorem aDD : bI Tryz.prog 33 ⟨1, 8, .int .i64 0, .int .i64⟩ := ⟨aU (by kernel_rfl), Tryz.underlying33⟩
theorem aDE : bI Tryz.prog 46 ⟨1, 24, .slice none 0 0, .sl 26⟩ := ⟨aU (by kernel_rfl), Tryz.underlying46⟩
theorem aDF : bI Tryz.prog 48 ⟨1, 24, .slice none 0 0, .sl 9⟩ := ⟨aU (by kernel_rfl), Tryz.underlying48⟩
theorem aDG : bI Tryz.prog 52 ⟨2, 40, .agg #[str [], .slice none 0 0], .st [(0, 1, false), (1, 1, false)]⟩ := nD (aU (by kernel_rfl)) Tryz.underlying52 (by kernel_rfl)
theorem aDH : bI Tryz.prog 56 ⟨1, 24, .slice none 0 0, .sl 65⟩ := ⟨aU (by kernel_rfl), Tryz.underlying56⟩
theorem aDI : bI Tryz.prog 65 ⟨11, 128, .agg #[str [], .int .i64 0, str [], str [], str [], .bool false, .int .i64 0, .int .i64 0, .int .i64 0, .int .i64 0, str []], .st [(0, 1, false), (1, 1, false), (2, 1, false), (3, 1, false), (4, 1, false), (5, 1, false), (6, 2, true), (8, 2, true), (10, 1, false)]⟩ := nD (aU (by kernel_rfl)) Tryz.underlying65 (by kernel_rfl)
theorem aDJ : bI Tryz.prog 74 ⟨1, 24, .slice none 0 0, .sl 77⟩ := ⟨aU (by kernel_rfl), Tryz.underlying74⟩
theorem aDK : bI Tryz.prog 75 ⟨1, 24, .slice none 0 0, .sl 93⟩ := ⟨aU (by kernel_rfl), Tryz.underlying75⟩
theorem aDL : bI Tryz.prog 77 ⟨3, 48, .agg #[str [], .bool false, .slice none 0 0], .st [(0, 1, false), (1, 1, false), (2, 1, false)]⟩ := nD (aU (by kernel_rfl)) Tryz.underlying77 (by kernel_rfl)
theorem aDM : bI Tryz.prog 79 ⟨1, 24, .slice none 0 0, .sl 95⟩ := ⟨aU (by kernel_rfl), Tryz.underlying79⟩
theorem aDN : bI Tryz.prog 87 ⟨1, 24, .slice none 0 0, .sl 90⟩ := ⟨aU (by kernel_rfl), Tryz.underlying87⟩
theorem aDO : bI Tryz.prog 90 ⟨3, 24, .agg #[.int .i64 0, .int .i64 0, .int .i64 0], .st [(0, 1, false), (1, 2, true)]⟩ := nD (aU (by kernel_rfl)) Tryz.underlying90 (by kernel_rfl)
theorem aDP : bI Tryz.prog 91 ⟨1, 24, .slice none 0 0, .sl 138⟩ := ⟨aU (by kernel_rfl), Tryz.underlying91⟩
theorem aDQ : bI Tryz.prog 93 ⟨2, 48, .agg #[.slice none 0 0, .slice none 0 0], .st [(0, 1, false), (1, 1, false)]⟩ := nD (aU (by kernel_rfl)) Tryz.underlying93 (by kernel_rfl)
theorem aDR : bI Tryz.prog 95 ⟨4, 48, .agg #[.slice none 0 0, .int .i64 0, .int .i64 0, .int .i64 0], .st [(0, 1, false), (1, 1, false), (2, 2, true)]⟩ := nD (aU (by kernel_rfl)) Tryz.underlying95 (by kernel_rfl)
theorem aDS : bI Tryz.prog 98 ⟨3, 40, .agg #[.slice none 0 0, .int .i64 0, .int .i64 0], .st [(0, 1, false), (1, 2, true)]⟩ := nD (aU (by kernel_rfl)) Tryz.underlying98 (by kernel_rfl)
theorem aAQ : bI Tryz.prog 101 ⟨4, 40, .agg #[str [], .int .i64 0, .int .i64 0, .int .i64 0], .st [(0, 1, false), (1, 1, false), (2, 1, false), (3, 1, false)]⟩ := nD (aU (by kernel_rfl)) Tryz.underlying101 (by kernel_rfl)
theorem aAR : bI Tryz.prog 108 ⟨1, 24, .slice none 0 0, .sl 32⟩ := ⟨aU (by kernel_rfl), Tryz.underlying108⟩
theorem aAS : bI Tryz.prog 117 ⟨5, 48, .agg #[str [], .int .i64 0, .int .i64 0, .int .i64 0, .bool false], .st [(0, 1, false), (1, 1, false), (2, 1, false), (3, 1, false), (4, 1, false)]⟩ := nD (aU (by kernel_rfl)) Tryz.underlying117 (by kernel_rfl)
theorem aAT : bI Tryz.prog 124 ⟨1, 8, .map none, .mp 9 65⟩ := ⟨aU (by kernel_rfl), Tryz.underlying124⟩
theorem aAU : bI Tryz.prog 127 ⟨1, 8, .map none, .mp 9 4⟩ := ⟨aU (by kernel_rfl), Tryz.underlying127⟩
theorem aAV : bI Tryz.prog 138 ⟨2, 32, .agg #[str [], str []], .st [(0, 1, false), (1, 1, false)]⟩ := nD (aU (by kernel_rfl)) Tryz.underlying138 (by kernel_rfl)
theorem aAW : bI Tryz.prog 163 ⟨1, 8, .nilFunc, .oth⟩ := ⟨aU (by kernel_rfl), ⟨_, Tryz.underlying163, rfl⟩⟩
theorem aAX : bI Tryz.prog 167 ⟨6, 96, .agg #[str [], str [], str [], str [], str [], str []], .arr 6 9⟩ := ⟨aU (by kernel_rfl), Tryz.underlying167⟩
theorem aAY : bI Tryz.prog 172 ⟨1, 8, .int .u64 0, .int .u64⟩ := ⟨aU (by kernel_rfl), Tryz.underlying172⟩
theorem aAZ : bI Tryz.prog 182 ⟨3, 56, .agg #[.map none, .slice none 0 0, .slice none 0 0], .st [(0, 1, false), (1, 1, false), (2, 1, false)]⟩ := nD (aU (by kernel_rfl)) Tryz.underlying182 (by kernel_rfl)
theorem aB0 : bI Tryz.prog 183 ⟨1, 8, .nilFunc, .oth⟩ := ⟨aU (by kernel_rfl), ⟨_, Tryz.underlying183, rfl⟩⟩
theorem aB1 : bI Tryz.prog 185 ⟨1, 8, .map none, .mp 3 183⟩ := ⟨aU (by kernel_rfl), Tryz.underlying185⟩
theorem aB2 : bI Tryz.prog 197 ⟨1, 8, .nilFunc, .oth⟩ := ⟨aU (by kernel_rfl), ⟨_, Tryz.underlying197, rfl⟩⟩
theorem aB3 : bI Tryz.prog 199 ⟨1, 8, .map none, .mp 9 197⟩ := ⟨aU (by kernel_rfl), Tryz.underlying199⟩
theorem aB4 : bI Tryz.prog 201 ⟨1, 8, .nilFunc, .oth⟩ := ⟨aU (by kernel_rfl), ⟨_, Tryz.underlying201, rfl⟩⟩
theorem aB5 : bI Tryz.prog 203 ⟨1, 8, .map none, .mp 9 201⟩ := ⟨aU (by kernel_rfl), Tryz.underlying203⟩
theorem aB6 : bI Tryz.prog 212 ⟨5, 120, .agg #[.slice none 0 0, .slice none 0 0, .slice none 0 0, .slice none 0 0, .slice none 0 0], .arr 5 48⟩ := ⟨aU (by kernel_rfl), Tryz.underlying212⟩
theorem aB7 : bI Tryz.prog 217 ⟨256, 256, .agg #[.bool false, .bool false, .bool false, .bool false, .bool false, .bool false, .bool false, .bool false, .bool false, .bool false, .bool false, .bool false, .bool false, .bool false, .bool false, .bool false, .bool false, .bool false, .bool false, .bool false, .bool false, .bool false, .bool false, .bool false, .bool false, .bool false, .bool false, .bool false, .bool false, .bool false, .bool false, .bool false, .bool false, .bool false, .bool false, .bool false, .bool false, .bool false, .bool false, .bool false, .bool false, .bool false, .bool false, .bool false, .bool false, .bool false, .bool false, .bool false, .bool false, .bool false, .bool false, .bool false, .bool false, .bool false, .bool false, .bool false, .bool false, .bool false, .bool false, .bool false, .bool false, .bool false, .bool false, .bool false, .bool false, .bool false, .bool false, .bool false, .bool false, .bool false, .bool false, .bool false, .bool false, .bool false, .bool false, .bool false, .bool false, .bool false, .bool false, .bool false, .bool false, .bool false, .bool false, .bool false, .bool false, .bool false, .bool false, .bool false, .bool false, .bool false, .bool false, .bool false, .bool false, .bool false, .bool false, .bool false, .bool false, .bool false, .bool false, .bool false, .bool false, .bool false, .bool false, .bool false, .bool false, .bool false, .bool false, .bool false, .bool false, .bool false, .bool false, .bool false, .bool false, .bool false, .bool false, .bool false, .bool false, .bool false, .bool false, .bool false, .bool false, .bool false, .bool false, .bool false, .bool false, .bool false, .bool false, .bool false, .bool false, .bool false, .bool false, .bool false, .bool false, .bool false, .bool false, .bool false, .bool false, .bool false, .bool false, .bool false, .bool false, .bool false, .bool false, .bool false, .bool false, .bool false, .bool false, .bool false, .bool false, .bool false, .bool false, .bool false, .bool false, .bool false, .bool false, .bool false, .bool false, .bool false, .bool false, .bool false, .bool false, .bool false, .bool false, .bool false, .bool false, .bool false, .bool false, .bool false, .bool false, .bool false, .bool false, .bool false, .bool false, .bool false, .bool false, .bool false, .bool false, .bool false, .bool false, .bool false, .bool false, .bool false, .bool false, .bool false, .bool false, .bool false, .bool false, .bool false, .bool false, .bool false, .bool false, .bool false, .bool false, .bool false, .bool false, .bool false, .bool false, .bool false, .bool false, .bool false, .bool false, .bool false, .bool false, .bool false, .bool false, .bool false, .bool false, .bool false, .bool false, .bool false, .bool false, .bool false, .bool false, .bool false, .bool false, .bool false, .bool false, .bool false, .bool false, .bool false, .bool false, .bool false, .bool false, .bool false, .bool false, .bool false, .bool false, .bool false, .bool false, .bool false, .bool false, .bool false, .bool false, .bool false, .bool false, .bool false, .bool false, .bool false, .bool false, .bool false, .bool false, .bool false, .bool false, .bool false, .bool false, .bool false, .bool false, .bool false, .bool false, .bool false, .bool false, .bool false, .bool false, .bool false, .bool false, .bool false], .arr 256 4⟩ := ⟨aU (by kernel_rfl), Tryz.underlying217⟩
theorem aB8 : bI Tryz.prog 223 ⟨1, 8, .int .i64 0, .int .i64⟩ := ⟨aU (by kernel_rfl), Tryz.underlying223⟩
theorem aB9 : bI Tryz.prog 232 ⟨1, 4, .int .u32 0, .int .u32⟩ := ⟨aU (by kernel_rfl), Tryz.underlying232⟩
theorem aBA : bI Tryz.prog 234 ⟨1, 8, .int .u64 0, .int .u64⟩ := ⟨aU (by kernel_rfl), Tryz.underlying234⟩
theorem aBB : bI Tryz.prog 254 ⟨1, 8, .nilFunc, .oth⟩ := ⟨aU (by kernel_rfl), ⟨_, Tryz.underlying254, rfl⟩⟩
theorem aBC : bI Tryz.prog 259 ⟨1, 8, .nilFunc, .oth⟩ := ⟨aU (by kernel_rfl), ⟨_, Tryz.underlying259, rfl⟩⟩
theorem aBD : bI Tryz.prog 262 ⟨15, 240, .agg #[str [], str [], str [], str [], str [], str [], str [], str [], str [], str [], str [], str [], str [], str [], str []], .arr 15 9⟩ := ⟨aU (by kernel_rfl), Tryz.underlying262⟩
theorem aBE : bI Tryz.prog 264 ⟨24, 24, .agg #[.int .u8 0, .int .u8 0, .int .u8 0, .int .u8 0, .int .u8 0, .int .u8 0, .int .u8 0, .int .u8 0, .int .u8 0, .int .u8 0, .int .u8 0, .int .u8 0, .int .u8 0, .int .u8 0, .int .u8 0, .int .u8 0, .int .u8 0, .int .u8 0, .int .u8 0, .int .u8 0, .int .u8 0, .int .u8 0, .int .u8 0, .int .u8 0], .arr 24 5⟩ := ⟨aU (by kernel_rfl), Tryz.underlying264⟩
theorem aBF : bI Tryz.prog 266 ⟨1, 24, .slice none 0 0, .sl 5⟩ := ⟨aU (by kernel_rfl), Tryz.underlying266⟩
theorem aBG : bI Tryz.prog 272 ⟨1, 8, .int .u64 0, .int .u64⟩ := ⟨aU (by kernel_rfl), Tryz.underlying272⟩
theorem aBH : bI Tryz.prog 296 ⟨1, 24, .slice none 0 0, .sl 3⟩ := ⟨aU (by kernel_rfl), Tryz.underlying296⟩
theorem aBI : bI Tryz.prog 304 ⟨20, 160, .agg #[.int .u64 0, .int .u64 0, .int .u64 0, .int .u64 0, .int .u64 0, .int .u64 0, .int .u64 0, .int .u64 0, .int .u64 0, .int .u64 0, .int .u64 0, .int .u64 0, .int .u64 0, .int .u64 0, .int .u64 0, .int .u64 0, .int .u64 0, .int .u64 0, .int .u64 0, .int .u64 0], .arr 20 234⟩ := ⟨aU (by kernel_rfl), Tryz.underlying304⟩
theorem aBJ : bI Tryz.prog 305 ⟨65, 65, .agg #[.int .u8 0, .int .u8 0, .int .u8 0, .int .u8 0, .int .u8 0, .int .u8 0, .int .u8 0, .int .u8 0, .int .u8 0, .int .u8 0, .int .u8 0, .int .u8 0, .int .u8 0, .int .u8 0, .int .u8 0, .int .u8 0, .int .u8 0, .int .u8 0, .int .u8 0, .int .u8 0, .int .u8 0, .int .u8 0, .int .u8 0, .int .u8 0, .int .u8 0, .int .u8 0, .int .u8 0, .int .u8 0, .int .u8 0, .int .u8 0, .int .u8 0, .int .u8 0, .int .u8 0, .int .u8 0, .int .u8 0, .int .u8 0, .int .u8 0, .int .u8 0, .int .u8 0, .int .u8 0, .int .u8 0, .int .u8 0, .int .u8 0, .int .u8 0, .int .u8 0, .int .u8 0, .int .u8 0, .int .u8 0, .int .u8 0, .int .u8 0, .int .u8 0, .int .u8 0, .int .u8 0, .int .u8 0, .int .u8 0, .int .u8 0, .int .u8 0, .int .u8 0, .int .u8 0, .int .u8 0, .int .u8 0, .int .u8 0, .int .u8 0, .int .u8 0, .int .u8 0], .arr 65 5⟩ := ⟨aU (by kernel_rfl), Tryz.underlying305⟩
theorem aBK : bI Tryz.prog 318 ⟨1, 16, .nilIface, .oth⟩ := ⟨aU (by kernel_rfl), ⟨_, Tryz.underlying318, rfl⟩⟩
theorem aBL : bI Tryz.prog 329 ⟨32, 32, .agg #[.int .u8 0, .int .u8 0, .int .u8 0, .int .u8 0, .int .u8 0, .int .u8 0, .int .u8 0, .int .u8 0, .int .u8 0, .int .u8 0, .int .u8 0, .int .u8 0, .int .u8 0, .int .u8 0, .int .u8 0, .int .u8 0, .int .u8 0, .int .u8 0, .int .u8 0, .int .u8 0, .int .u8 0, .int .u8 0, .int .u8 0, .int .u8 0, .int .u8 0, .int .u8 0, .int .u8 0, .int .u8 0, .int .u8 0, .int .u8 0, .int .u8 0, .int .u8 0], .arr 32 5⟩ := ⟨aU (by kernel_rfl), Tryz.underlying329⟩
theorem aBM : bI Tryz.prog 330 ⟨64, 64, .agg #[.int .u8 0, .int .u8 0, .int .u8 0, .int .u8 0, .int .u8 0, .int .u8 0, .int .u8 0, .int .u8 0, .int .u8 0, .int .u8 0, .int .u8 0, .int .u8 0, .int .u8 0, .int .u8 0, .int .u8 0, .int .u8 0, .int .u8 0, .int .u8 0, .int .u8 0, .int .u8 0, .int .u8 0, .int .u8 0, .int .u8 0, .int .u8 0, .int .u8 0, .int .u8 0, .int .u8 0, .int .u8 0, .int .u8 0, .int .u8 0, .int .u8 0, .int .u8 0, .int .u8 0, .int .u8 0, .int .u8 0, .int .u8 0, .int .u8 0, .int .u8 0, .int .u8 0, .int .u8 0, .int .u8 0, .int .u8 0, .int .u8 0, .int .u8 0, .int .u8 0, .int .u8 0, .int .u8 0, .int .u8 0, .int .u8 0, .int .u8 0, .int .u8 0, .int .u8 0, .int .u8 0, .int .u8 0, .int .u8 0, .int .u8 0, .int .u8 0, .int .u8 0, .int .u8 0, .int .u8 0, .int .u8 0, .int .u8 0, .int .u8 0, .int .u8 0], .arr 64 5⟩ := ⟨aU (by kernel_rfl), Tryz.underlying330⟩
theorem aBN : bI Tryz.prog 331 ⟨256, 256, .agg #[.int .u8 0, .int .u8 0, .int .u8 0, .int .u8 0, .int .u8 0, .int .u8 0, .int .u8 0, .int .u8 0, .int .u8 0, .int .u8 0, .int .u8 0, .int .u8 0, .int .u8 0, .int .u8 0, .int .u8 0, .int .u8 0, .int .u8 0, .int .u8 0, .int .u8 0, .int .u8 0, .int .u8 0, .int .u8 0, .int .u8 0, .int .u8 0, .int .u8 0, .int .u8 0, .int .u8 0, .int .u8 0, .int .u8 0, .int .u8 0, .int .u8 0, .int .u8 0, .int .u8 0, .int .u8 0, .int .u8 0, .int .u8 0, .int .u8 0, .int .u8 0, .int .u8 0, .int .u8 0, .int .u8 0, .int .u8 0, .int .u8 0, .int .u8 0, .int .u8 0, .int .u8 0, .int .u8 0, .int .u8 0, .int .u8 0, .int .u8 0, .int .u8 0, .int .u8 0, .int .u8 0, .int .u8 0, .int .u8 0, .int .u8 0, .int .u8 0, .int .u8 0, .int .u8 0, .int .u8 0, .int .u8 0, .int .u8 0, .int .u8 0, .int .u8 0, .int .u8 0, .int .u8 0, .int .u8 0, .int .u8 0, .int .u8 0, .int .u8 0, .int .u8 0, .int .u8 0, .int .u8 0, .int .u8 0, .int .u8 0, .int .u8 0, .int .u8 0, .int .u8 0, .int .u8 0, .int .u8 0, .int .u8 0, .int .u8 0, .int .u8 0, .int .u8 0, .int .u8 0, .int .u8 0, .int .u8 0, .int .u8 0, .int .u8 0, .int .u8 0, .int .u8 0, .int .u8 0, .int .u8 0, .int .u8 0, .int .u8 0, .int .u8 0, .int .u8 0, .int .u8 0, .int .u8 0, .int .u8 0, .int .u8 0, .int .u8 0, .int .u8 0, .int .u8 0, .int .u8 0, .int .u8 0, .int .u8 0, .int .u8 0, .int .u8 0, .int .u8 0, .int .u8 0, .int .u8 0, .int .u8 0, .int .u8 0, .int .u8 0, .int .u8 0, .int .u8 0, .int .u8 0, .int .u8 0, .int .u8 0, .int .u8 0, .int .u8 0, .int .u8 0, .int .u8 0, .int .u8 0, .int .u8 0, .int .u8 0, .int .u8 0, .int .u8 0, .int .u8 0, .int .u8 0, .int .u8 0, .int .u8 0, .int .u8 0, .int .u8 0, .int .u8 0, .int .u8 0, .int .u8 0, .int .u8 0, .int .u8 0, .int .u8 0, .int .u8 0, .int .u8 0, .int .u8 0, .int .u8 0, .int .u8 0, .int .u8 0, .int .u8 0, .int .u8 0, .int .u8 0, .int .u8 0, .int .u8 0, .int .u8 0, .int .u8 0, .int .u8 0, .int .u8 0, .int .u8 0, .int .u8 0, .int .u8 0, .int .u8 0, .int .u8 0, .int .u8 0, .int .u8 0, .int .u8 0, .int .u8 0, .int .u8 0, .int .u8 0, .int .u8 0, .int .u8 0, .int .u8 0, .int .u8 0, .int .u8 0, .int .u8 0, .int .u8 0, .int .u8 0, .int .u8 0, .int .u8 0, .int .u8 0, .int .u8 0, .int .u8 0, .int .u8 0, .int .u8 0, .int .u8 0, .int .u8 0, .int .u8 0, .int .u8 0, .int .u8 0, .int .u8 0, .int .u8 0, .int .u8 0, .int .u8 0, .int .u8 0, .int .u8 0, .int .u8 0, .int .u8 0, .int .u8 0, .int .u8 0, .int .u8 0, .int .u8 0, .int .u8 0, .int .u8 0, .int .u8 0, .int .u8 0, .int .u8 0, .int .u8 0, .int .u8 0, .int .u8 0, .int .u8 0, .int .u8 0, .int .u8 0, .int .u8 0, .int .u8 0, .int .u8 0, .int .u8 0, .int .u8 0, .int .u8 0, .int .u8 0, .int .u8 0, .int .u8 0, .int .u8 0, .int .u8 0, .int .u8 0, .int .u8 0, .int .u8 0, .int .u8 0, .int .u8 0, .int .u8 0, .int .u8 0, .int .u8 0, .int .u8 0, .int .u8 0, .int .u8 0, .int .u8 0, .int .u8 0, .int .u8 0, .int .u8 0, .int .u8 0, .int .u8 0, .int .u8 0, .int .u8 0, .int .u8 0, .int .u8 0, .int .u8 0, .int .u8 0, .int .u8 0, .int .u8 0, .int .u8 0, .int .u8 0, .int .u8 0, .int .u8 0, .int .u8 0, .int .u8 0, .int .u8 0, .int .u8 0, .int .u8 0, .int .u8 0], .arr 256 5⟩ := ⟨aU (by kernel_rfl), Tryz.underlying331⟩
theorem aBO : bI Tryz.prog 333 ⟨2, 2, .agg #[.int .u8 0, .int .u8 0], .st [(0, 1, false), (1, 1, false)]⟩ := nD (aU (by kernel_rfl)) Tryz.underlying333 (by kernel_rfl)
theorem aBP : bI Tryz.prog 334 ⟨32, 32, .agg #[.int .u8 0, .int .u8 0, .int .u8 0, .int .u8 0, .int .u8 0, .int .u8 0, .int .u8 0, .int .u8 0, .int .u8 0, .int .u8 0, .int .u8 0, .int .u8 0, .int .u8 0, .int .u8 0, .int .u8 0, .int .u8 0, .int .u8 0, .int .u8 0, .int .u8 0, .int .u8 0, .int .u8 0, .int .u8 0, .int .u8 0, .int .u8 0, .int .u8 0, .int .u8 0, .int .u8 0, .int .u8 0, .int .u8 0, .int .u8 0, .int .u8 0, .int .u8 0], .arr 16 333⟩ := ⟨aU (by kernel_rfl), Tryz.underlying334⟩
theorem aBQ : bI Tryz.prog 339 ⟨1, 8, .pointer none, .ptr 341⟩ := ⟨aU (by kernel_rfl), Tryz.underlying339⟩
theorem aBR : bI Tryz.prog 341 ⟨2, 32, .agg #[.pointer none, .slice none 0 0], .st [(0, 1, false), (1, 1, false)]⟩ := nD (aU (by kernel_rfl)) Tryz.underlying341 (by kernel_rfl)
theorem aBS : bI Tryz.prog 345 ⟨1, 8, .int .i64 0, .int .i64⟩ := ⟨aU (by kernel_rfl), Tryz.underlying345⟩
theorem aBT : bI Tryz.prog 347 ⟨1, 8, .pointer none, .ptr 353⟩ := ⟨aU (by kernel_rfl), Tryz.underlying347⟩
theorem aBU : bI Tryz.prog 350 ⟨1, 8, .pointer none, .ptr 5⟩ := ⟨aU (by kernel_rfl), Tryz.underlying350⟩
theorem aBV : bI Tryz.prog 353 ⟨3, 48, .agg #[str [], str [], .nilIface], .st [(0, 1, false), (1, 1, false), (2, 1, false)]⟩ := nD (aU (by kernel_rfl)) Tryz.underlying353 (by kernel_rfl)
theorem aBW : bI Tryz.prog 359 ⟨1, 8, .pointer none, .ptr 361⟩ := ⟨aU (by kernel_rfl), Tryz.underlying359⟩
theorem aBX : bI Tryz.prog 361 ⟨1, 16, .agg #[str []], .st [(0, 1, false)]⟩ := nD (aU (by kernel_rfl)) Tryz.underlying361 (by kernel_rfl)
def tb : TT := .node (.node (.node (.node (.node (.node (.node (.nil) 2 ⟨1, 8, .int .i64 0, .int .i64⟩ (.nil)) 3 ⟨1, 8, .int .i64 0, .int .i64⟩ (.nil)) 4 ⟨1, 1, .bool false, .bool⟩ (.node (.nil) 5 ⟨1, 1, .int .u8 0, .int .u8⟩ (.nil))) 9 ⟨1, 16, str [], .str⟩ (.node (.node (.nil) 21 ⟨1, 4, .int .i32 0, .int .i32⟩ (.nil)) 22 ⟨1, 24, .slice none 0 0, .sl 52⟩ (.node (.nil) 26 ⟨2, 16, .agg #[.int .i64 0, .int .i64 0], .st [(0, 1, false), (1, 1, false)]⟩ (.nil)))) 27 ⟨1, 24, .slice none 0 0, .sl 29⟩ (.node (.node (.node (.node (.nil) 29 ⟨5, 64, .agg #[.int .i64 0, str [], .int .i64 0, .int .i64 0, .slice none 0 0], .st [(0, 1, false), (1, 1, false), (2, 2, true), (4, 1, false)]⟩ (.nil)) 32 ⟨1, 24, .slice none 0 0, .sl 98⟩ (.nil)) 33 ⟨1, 8, .int .i64 0, .int .i64⟩ (.node (.nil) 46 ⟨1, 24, .slice none 0 0, .sl 26⟩ (.nil))) 48 ⟨1, 24, .slice none 0 0, .sl 9⟩ (.node (.node (.nil) 52 ⟨2, 40, .agg #[str [], .slice none 0 0], .st [(0, 1, false), (1, 1, false)]⟩ (.nil)) 56 ⟨1, 24, .slice none 0 0, .sl 65⟩ (.node (.nil) 65 ⟨11, 128, .agg #[str [], .int .i64 0, str [], str [], str [], .bool false, .int .i64 0, .int .i64 0, .int .i64 0, .int .i64 0, str []], .st [(0, 1, false), (1, 1, false), (2, 1, false), (3, 1, false), (4, 1, false), (5, 1, false), (6, 2, true), (8, 2, true), (10, 1, false)]⟩ (.nil))))) 74 ⟨1, 24, .slice none 0 0, .sl 77⟩ (.node (.node (.node (.node (.node (.nil) 75 ⟨1, 24, .slice none 0 0, .sl 93⟩ (.nil)) 77 ⟨3, 48, .agg #[str [], .bool false, .slice none 0 0], .st [(0, 1, false), (1, 1, false), (2, 1, false)]⟩ (.nil)) 79 ⟨1, 24, .slice none 0 0, .sl 95⟩ (.node (.nil) 87 ⟨1, 24, .slice none 0 0, .sl 90⟩ (.nil))) 90 ⟨3, 24, .agg #[.int .i64 0, .int .i64 0, .int .i64 0], .st [(0, 1, false), (1, 2, true)]⟩ (.node (.node (.nil) 91 ⟨1, 24, .slice none 0 0, .sl 138⟩ (.nil)) 93 ⟨2, 48, .agg #[.slice none 0 0, .slice none 0 0], .st [(0, 1, false), (1, 1, false)]⟩ (.node (.nil) 95 ⟨4, 48, .agg #[.slice none 0 0, .int .i64 0, .int .i64 0, .int .i64 0], .st [(0, 1, false), (1, 1, false), (2, 2, true)]⟩ (.nil)))) 98 ⟨3, 40, .agg #[.slice none 0 0, .int .i64 0, .int .i64 0], .st [(0, 1, false), (1, 2, true)]⟩ (.node (.node (.node (.node (.nil) 101 ⟨4, 40, .agg #[str [], .int .i64 0, .int .i64 0, .int .i64 0], .st [(0, 1, false), (1, 1, false), (2, 1, false), (3, 1, false)]⟩ (.nil)) 108 ⟨1, 24, .slice none 0 0, .sl 32⟩ (.nil)) 117 ⟨5, 48, .agg #[str [], .int .i64 0, .int .i64 0, .int .i64 0, .bool false], .st [(0, 1, false), (1, 1, false), (2, 1, false), (3, 1, false), (4, 1, false)]⟩ (.node (.nil) 124 ⟨1, 8, .map none, .mp 9 65⟩ (.nil))) 127 ⟨1, 8, .map none, .mp 9 4⟩ (.node (.node (.nil) 138 ⟨2, 32, .agg #[str [], str []], .st [(0, 1, false), (1, 1, false)]⟩ (.nil)) 163 ⟨1, 8, .nilFunc, .oth⟩ (.node (.nil) 167 ⟨6, 96, .agg #[str [], str [], str [], str [], str [], str []], .arr 6 9⟩ (.nil)))))) 172 ⟨1, 8, .int .u64 0, .int .u64⟩ (.node (.node (.node (.node (.node (.node (.nil) 182 ⟨3, 56, .agg #[.map none, .slice none 0 0, .slice none 0 0], .st [(0, 1, false), (1, 1, false), (2, 1, false)]⟩ (.nil)) 183 ⟨1, 8, .nilFunc, .oth⟩ (.nil)) 185 ⟨1, 8, .map none, .mp 3 183⟩ (.node (.nil) 197 ⟨1, 8, .nilFunc, .oth⟩ (.nil))) 199 ⟨1, 8, .map none, .mp 9 197⟩ (.node (.node (.nil) 201 ⟨1, 8, .nilFunc, .oth⟩ (.nil)) 203 ⟨1, 8, .map none, .mp 9 201⟩ (.node (.nil) 212 ⟨5, 120, .agg #[.slice none 0 0, .slice none 0 0, .slice none 0 0, .slice none 0 0, .slice none 0 0], .arr 5 48⟩ (.nil)))) 217 ⟨256, 256, .agg #[.bool false, .bool false, .bool false, .bool false, .bool false, .bool false, .bool false, .bool false, .bool false, .bool false, .bool false, .bool false, .bool false, .bool false, .bool false, .bool false, .bool false, .bool false, .bool false, .bool false, .bool false, .bool false, .bool false, .bool false, .bool false, .bool false, .bool false, .bool false, .bool false, .bool false, .bool false, .bool false, .bool false, .bool false, .bool false, .bool false, .bool false, .bool false, .bool false, .bool false, .bool false, .bool false, .bool false, .bool false, .bool false, .bool false, .bool false, .bool false, .bool false, .bool false, .bool false, .bool false, .bool false, .bool false, .bool false, .bool false, .bool false, .bool false, .bool false, .bool false, .bool false, .bool false, .bool false, .bool false, .bool false, .bool false, .bool false, .bool false, .bool false, .bool false, .bool false, .bool false, .bool false, .bool false, .bool false, .bool false, .bool false, .bool false, .bool false, .bool false, .bool false, .bool false, .bool false, .bool false, .bool false, .bool false, .bool false, .bool false, .bool false, .bool false, .bool false, .bool false, .bool false, .bool false, .bool false, .bool false, .bool false, .bool false, .bool false, .bool false, .bool false, .bool false, .bool false, .bool false, .bool false, .bool false, .bool false, .bool false, .bool false, .bool false, .bool false, .bool false, .bool false, .bool false, .bool false, .bool false, .bool false, .bool false, .bool false, .bool false, .bool false, .bool false, .bool false, .bool false, .bool false, .bool false, .bool false, .bool false, .bool false, .bool false, .bool false, .bool false, .bool false, .bool false, .bool false, .bool false, .bool false, .bool false, .bool false, .bool false, .bool false, .bool false, .bool false, .bool false, .bool false, .bool false, .bool false, .bool false, .bool false, .bool false, .bool false, .bool false, .bool false, .bool false, .bool false, .bool false, .bool false, .bool false, .bool false, .bool false, .bool false, .bool false, .bool false, .bool false, .bool false, .bool false, .bool false, .bool false, .bool false, .bool false, .bool false, .bool false, .bool false, .bool false, .bool false, .bool false, .bool false, .bool false, .bool false, .bool false, .bool false, .bool false, .bool false, .bool false, .bool false, .bool false, .bool false, .bool false, .bool false, .bool false, .bool false, .bool false, .bool false, .bool false, .bool false, .bool false, .bool false, .bool false, .bool false, .bool false, .bool false, .bool false, .bool false, .bool false, .bool false, .bool false, .bool false, .bool false, .bool false, .bool false, .bool false, .bool false, .bool false, .bool false, .bool false, .bool false, .bool false, .bool false, .bool false, .bool false, .bool false, .bool false, .bool false, .bool false, .bool false, .bool false, .bool false, .bool false, .bool false, .bool false, .bool false, .bool false, .bool false, .bool false, .bool false, .bool false, .bool false, .bool false, .bool false, .bool false, .bool false, .bool false, .bool false, .bool false, .bool false, .bool false, .bool false, .bool false, .bool false, .bool false, .bool false, .bool false, .bool false, .bool false, .bool false, .bool false], .arr 256 4⟩ (.node (.node (.node (.node (.nil) 223 ⟨1, 8, .int .i64 0, .int .i64⟩ (.nil)) 232 ⟨1, 4, .int .u32 0, .int .u32⟩ (.nil)) 234 ⟨1, 8, .int .u64 0, .int .u64⟩ (.node (.nil) 254 ⟨1, 8, .nilFunc, .oth⟩ (.nil))) 259 ⟨1, 8, .nilFunc, .oth⟩ (.node (.node (.nil) 262 ⟨15, 240, .agg #[str [], str [], str [], str [], str [], str [], str [], str [], str [], str [], str [], str [], str [], str [], str []], .arr 15 9⟩ (.nil)) 264 ⟨24, 24, .agg #[.int .u8 0, .int .u8 0, .int .u8 0, .int .u8 0, .int .u8 0, .int .u8 0, .int .u8 0, .int .u8 0, .int .u8 0, .int .u8 0, .int .u8 0, .int .u8 0, .int .u8 0, .int .u8 0, .int .u8 0, .int .u8 0, .int .u8 0, .int .u8 0, .int .u8 0, .int .u8 0, .int .u8 0, .int .u8 0, .int .u8 0, .int .u8 0], .arr 24 5⟩ (.node (.nil) 266 ⟨1, 24, .slice none 0 0, .sl 5⟩ (.nil))))) 272 ⟨1, 8, .int .u64 0, .int .u64⟩ (.node (.node (.node (.node (.node (.nil) 296 ⟨1, 24, .slice none 0 0, .sl 3⟩ (.nil)) 304 ⟨20, 160, .agg #[.int .u64 0, .int .u64 0, .int .u64 0, .int .u64 0, .int .u64 0, .int .u64 0, .int .u64 0, .int .u64 0, .int .u64 0, .int .u64 0, .int .u64 0, .int .u64 0, .int .u64 0, .int .u64 0, .int .u64 0, .int .u64 0, .int .u64 0, .int .u64 0, .int .u64 0, .int .u64 0], .arr 20 234⟩ (.nil)) 305 ⟨65, 65, .agg #[.int .u8 0, .int .u8 0, .int .u8 0, .int .u8 0, .int .u8 0, .int .u8 0, .int .u8 0, .int .u8 0, .int .u8 0, .int .u8 0, .int .u8 0, .int .u8 0, .int .u8 0, .int .u8 0, .int .u8 0, .int .u8 0, .int .u8 0, .int .u8 0, .int .u8 0, .int .u8 0, .int .u8 0, .int .u8 0, .int .u8 0, .int .u8 0, .int .u8 0, .int .u8 0, .int .u8 0, .int .u8 0, .int .u8 0, .int .u8 0, .int .u8 0, .int .u8 0, .int .u8 0, .int .u8 0, .int .u8 0, .int .u8 0, .int .u8 0, .int .u8 0, .int .u8 0, .int .u8 0, .int .u8 0, .int .u8 0, .int .u8 0, .int .u8 0, .int .u8 0, .int .u8 0, .int .u8 0, .int .u8 0, .int .u8 0, .int .u8 0, .int .u8 0, .int .u8 0, .int .u8 0, .int .u8 0, .int .u8 0, .int .u8 0, .int .u8 0, .int .u8 0, .int .u8 0, .int .u8 0, .int .u8 0, .int .u8 0, .int .u8 0, .int .u8 0, .int .u8 0], .arr 65 5⟩ (.node (.nil) 318 ⟨1, 16, .nilIface, .oth⟩ (.nil))) 329 ⟨32, 32, .agg #[.int .u8 0, .int .u8 0, .int .u8 0, .int .u8 0, .int .u8 0, .int .u8 0, .int .u8 0, .int .u8 0, .int .u8 0, .int .u8 0, .int .u8 0, .int .u8 0, .int .u8 0, .int .u8 0, .int .u8 0, .int .u8 0, .int .u8 0, .int .u8 0, .int .u8 0, .int .u8 0, .int .u8 0, .int .u8 0, .int .u8 0, .int .u8 0, .int .u8 0, .int .u8 0, .int .u8 0, .int .u8 0, .int .u8 0, .int .u8 0, .int .u8 0, .int .u8 0], .arr 32 5⟩ (.node (.node (.nil) 330 ⟨64, 64, .agg #[.int .u8 0, .int .u8 0, .int .u8 0, .int .u8 0, .int .u8 0, .int .u8 0, .int .u8 0, .int .u8 0, .int .u8 0, .int .u8 0, .int .u8 0, .int .u8 0, .int .u8 0, .int .u8 0, .int .u8 0, .int .u8 0, .int .u8 0, .int .u8 0, .int .u8 0, .int .u8 0, .int .u8 0, .int .u8 0, .int .u8 0, .int .u8 0, .int .u8 0, .int .u8 0, .int .u8 0, .int .u8 0, .int .u8 0, .int .u8 0, .int .u8 0, .int .u8 0, .int .u8 0, .int .u8 0, .int .u8 0, .int .u8 0, .int .u8 0, .int .u8 0, .int .u8 0, .int .u8 0, .int .u8 0, .int .u8 0, .int .u8 0, .int .u8 0, .int .u8 0, .int .u8 0, .int .u8 0, .int .u8 0, .int .u8 0, .int .u8 0, .int .u8 0, .int .u8 0, .int .u8 0, .int .u8 0, .int .u8 0, .int .u8 0, .int .u8 0, .int .u8 0, .int .u8 0, .int .u8 0, .int .u8 0, .int .u8 0, .int .u8 0, .int .u8 0], .arr 64 5⟩ (.nil)) 331 ⟨256, 256, .agg #[.int .u8 0, .int .u8 0, .int .u8 0, .int .u8 0, .int .u8 0, .int .u8 0, .int .u8 0, .int .u8 0, .int .u8 0, .int .u8 0, .int .u8 0, .int .u8 0, .int .u8 0, .int .u8 0, .int .u8 0, .int .u8 0, .int .u8 0, .int .u8 0, .int .u8 0, .int .u8 0, .int .u8 0, .int .u8 0, .int .u8 0, .int .u8 0, .int .u8 0, .int .u8 0, .int .u8 0, .int .u8 0, .int .u8 0, .int .u8 0, .int .u8 0, .int .u8 0, .int .u8 0, .int .u8 0, .int .u8 0, .int .u8 0, .int .u8 0, .int .u8 0, .int .u8 0, .int .u8 0, .int .u8 0, .int .u8 0, .int .u8 0, .int .u8 0, .int .u8 0, .int .u8 0, .int .u8 0, .int .u8 0, .int .u8 0, .int .u8 0, .int .u8 0, .int .u8 0, .int .u8 0, .int .u8 0, .int .u8 0, .int .u8 0, .int .u8 0, .int .u8 0, .int .u8 0, .int .u8 0, .int .u8 0, .int .u8 0, .int .u8 0, .int .u8 0, .int .u8 0, .int .u8 0, .int .u8 0, .int .u8 0, .int .u8 0, .int .u8 0, .int .u8 0, .int .u8 0, .int .u8 0, .int .u8 0, .int .u8 0, .int .u8 0, .int .u8 0, .int .u8 0, .int .u8 0, .int .u8 0, .int .u8 0, .int .u8 0, .int .u8 0, .int .u8 0, .int .u8 0, .int .u8 0, .int .u8 0, .int .u8 0, .int .u8 0, .int .u8 0, .int .u8 0, .int .u8 0, .int .u8 0, .int .u8 0, .int .u8 0, .int .u8 0, .int .u8 0, .int .u8 0, .int .u8 0, .int .u8 0, .int .u8 0, .int .u8 0, .int .u8 0, .int .u8 0, .int .u8 0, .int .u8 0, .int .u8 0, .int .u8 0, .int .u8 0, .int .u8 0, .int .u8 0, .int .u8 0, .int .u8 0, .int .u8 0, .int .u8 0, .int .u8 0, .int .u8 0, .int .u8 0, .int .u8 0, .int .u8 0, .int .u8 0, .int .u8 0, .int .u8 0, .int .u8 0, .int .u8 0, .int .u8 0, .int .u8 0, .int .u8 0, .int .u8 0, .int .u8 0, .int .u8 0, .int .u8 0, .int .u8 0, .int .u8 0, .int .u8 0, .int .u8 0, .int .u8 0, .int .u8 0, .int .u8 0, .int .u8 0, .int .u8 0, .int .u8 0, .int .u8 0, .int .u8 0, .int .u8 0, .int .u8 0, .int .u8 0, .int .u8 0, .int .u8 0, .int .u8 0, .int .u8 0, .int .u8 0, .int .u8 0, .int .u8 0, .int .u8 0, .int .u8 0, .int .u8 0, .int .u8 0, .int .u8 0, .int .u8 0, .int .u8 0, .int .u8 0, .int .u8 0, .int .u8 0, .int .u8 0, .int .u8 0, .int .u8 0, .int .u8 0, .int .u8 0, .int .u8 0, .int .u8 0, .int .u8 0, .int .u8 0, .int .u8 0, .int .u8 0, .int .u8 0, .int .u8 0, .int .u8 0, .int .u8 0, .int .u8 0, .int .u8 0, .int .u8 0, .int .u8 0, .int .u8 0, .int .u8 0, .int .u8 0, .int .u8 0, .int .u8 0, .int .u8 0, .int .u8 0, .int .u8 0, .int .u8 0, .int .u8 0, .int .u8 0, .int .u8 0, .int .u8 0, .int .u8 0, .int .u8 0, .int .u8 0, .int .u8 0, .int .u8 0, .int .u8 0, .int .u8 0, .int .u8 0, .int .u8 0, .int .u8 0, .int .u8 0, .int .u8 0, .int .u8 0, .int .u8 0, .int .u8 0, .int .u8 0, .int .u8 0, .int .u8 0, .int .u8 0, .int .u8 0, .int .u8 0, .int .u8 0, .int .u8 0, .int .u8 0, .int .u8 0, .int .u8 0, .int .u8 0, .int .u8 0, .int .u8 0, .int .u8 0, .int .u8 0, .int .u8 0, .int .u8 0, .int .u8 0, .int .u8 0, .int .u8 0, .int .u8 0, .int .u8 0, .int .u8 0, .int .u8 0, .int .u8 0, .int .u8 0, .int .u8 0, .int .u8 0, .int .u8 0, .int .u8 0, .int .u8 0, .int .u8 0, .int .u8 0, .int .u8 0, .int .u8 0, .int .u8 0, .int .u8 0, .int .u8 0, .int .u8 0, .int .u8 0, .int .u8 0, .int .u8 0, .int .u8 0, .int .u8 0], .arr 256 5⟩ (.node (.nil) 333 ⟨2, 2, .agg #[.int .u8 0, .int .u8 0], .st [(0, 1, false), (1, 1, false)]⟩ (.nil)))) 334 ⟨32, 32, .agg #[.int .u8 0, .int .u8 0, .int .u8 0, .int .u8 0, .int .u8 0, .int .u8 0, .int .u8 0, .int .u8 0, .int .u8 0, .int .u8 0, .int .u8 0, .int .u8 0, .int .u8 0, .int .u8 0, .int .u8 0, .int .u8 0, .int .u8 0, .int .u8 0, .int .u8 0, .int .u8 0, .int .u8 0, .int .u8 0, .int .u8 0, .int .u8 0, .int .u8 0, .int .u8 0, .int .u8 0, .int .u8 0, .int .u8 0, .int .u8 0, .int .u8 0, .int .u8 0], .arr 16 333⟩ (.node (.node (.node (.node (.nil) 339 ⟨1, 8, .pointer none, .ptr 341⟩ (.nil)) 341 ⟨2, 32, .agg #[.pointer none, .slice none 0 0], .st [(0, 1, false), (1, 1, false)]⟩ (.nil)) 345 ⟨1, 8, .int .i64 0, .int .i64⟩ (.node (.nil) 347 ⟨1, 8, .pointer none, .ptr 353⟩ (.nil))) 350 ⟨1, 8, .pointer none, .ptr 5⟩ (.node (.node (.nil) 353 ⟨3, 48, .agg #[str [], str [], .nilIface], .st [(0, 1, false), (1, 1, false), (2, 1, false)]⟩ (.nil)) 359 ⟨1, 8, .pointer none, .ptr 361⟩ (.node (.nil) 361 ⟨1, 16, .agg #[str []], .st [(0, 1, false)]⟩ (.nil))))))
theorem aA : tb.Ok Tryz.prog := ⟨⟨⟨⟨⟨⟨⟨trivial, tk2, trivial⟩, tk3, trivial⟩, tk4, ⟨trivial, tk5, trivial⟩⟩, tk9, ⟨⟨trivial, aD7, trivial⟩, aD8, ⟨trivial, aD9, trivial⟩⟩⟩, aDA, ⟨⟨⟨⟨trivial, aDB, trivial⟩, aDC, trivial⟩, aDD, ⟨trivial, aDE, trivial⟩⟩, aDF, ⟨⟨trivial, aDG, trivial⟩, aDH, ⟨trivial, aDI, trivial⟩⟩⟩⟩, aDJ, ⟨⟨⟨⟨⟨trivial, aDK, trivial⟩, aDL, trivial⟩, aDM, ⟨trivial, aDN, trivial⟩⟩, aDO, ⟨⟨trivial, aDP, trivial⟩, aDQ, ⟨trivial, aDR, trivial⟩⟩⟩, aDS, ⟨⟨⟨⟨trivial, aAQ, trivial⟩, aAR, trivial⟩, aAS, ⟨trivial, aAT, trivial⟩⟩, aAU, ⟨⟨trivial, aAV, trivial⟩, aAW, ⟨trivial, aAX, trivial⟩⟩⟩⟩⟩, aAY, ⟨⟨⟨⟨⟨⟨trivial, aAZ, trivial⟩, aB0, trivial⟩, aB1, ⟨trivial, aB2, trivial⟩⟩, aB3, ⟨⟨trivial, aB4, trivial⟩, aB5, ⟨trivial, aB6, trivial⟩⟩⟩, aB7, ⟨⟨⟨⟨trivial, aB8, trivial⟩, aB9, trivial⟩, aBA, ⟨trivial, aBB, trivial⟩⟩, aBC, ⟨⟨trivial, aBD, trivial⟩, aBE, ⟨trivial, aBF, trivial⟩⟩⟩⟩, aBG, ⟨⟨⟨⟨⟨trivial, aBH, trivial⟩, aBI, trivial⟩, aBJ, ⟨trivial, aBK, trivial⟩⟩, aBL, ⟨⟨trivial, aBM, trivial⟩, aBN, ⟨trivial, aBO, trivial⟩⟩⟩, aBP, ⟨⟨⟨⟨trivial, aBQ, trivial⟩, aBR, trivial⟩, aBS, ⟨trivial, aBT, trivial⟩⟩, aBU, ⟨⟨trivial, aBV, trivial⟩, aBW, ⟨trivial, aBX, trivial⟩⟩⟩⟩⟩⟩
end Go.Proofs.YtomkgfdigldhcaaGreatDoor
namespace Go.KX
section
variable {X : Kx} {arr : Array Oper} {k : List It} {fs : List MF} {own : List aH} {un : Nat} {DA DB : List Nat} {L0 : SL}
def YN (X : Kx) (arr : Array Oper) (fs : List MF) (own : List aH) (un : Nat) (L0 : SL) (l : List (Nat × SV)) : Prop :=
 ∀ pre i sv suf, l = pre ++ (i, sv) :: suf → un.testBit i = false ∧ ∃ o, arr[i]? = some o ∧ ∀ M', Stp X arr o (LS arr L0 suf) M' fs own sv M'
def VH (X : Kx) (arr : Array Oper) (k : List It) (fs : List MF) (own : List aH) (un : Nat) (DA DB rA rB : List Nat) : List Nat → SL → SM → Prop
 | [], L, M => ED X arr k fs own un DA rA L M [] ∧ ED X arr k fs own un DB rB L M []
 | i :: r, L, M => un.testBit i = false ∧ ∃ o sv, arr[i]? = some o ∧ (∀ M', Stp X arr o L M' fs own sv M') ∧ VH X arr k fs own un DA DB rA rB r (jQ o.dst sv L) M
theorem FR {rA rB : List Nat} : ∀ (todo : List Nat) (done : List (Nat × SV)) (M : SM), YN X arr fs own un L0 done → VH X arr k fs own un DA DB rA rB todo (LS arr L0 done) M →
 ∃ new, (new.map (·.1)).reverse = todo ∧ YN X arr fs own un L0 (new ++ done) ∧ ED X arr k fs own un DA rA (LS arr L0 (new ++ done)) M [] ∧ ED X arr k fs own un DB rB (LS arr L0 (new ++ done)) M []
 | [], done, M, hd, h => ⟨[], rfl, hd, h.1, h.2⟩
 | i :: r, done, M, hd, ⟨hu, o, sv, ho, hs, h⟩ => by
   have eL : jQ o.dst sv (LS arr L0 done) = LS arr L0 ((i, sv) :: done) := by simp only [LS, fD, ho]
   rw [eL] at h
   have hd2 : YN X arr fs own un L0 ((i, sv) :: done) := fun pre j sv' suf e => by
    cases pre with
    | nil =>
      simp only [List.nil_append, List.cons.injEq, Prod.mk.injEq] at e
      obtain ⟨⟨rfl, rfl⟩, rfl⟩ := e
      exact ⟨hu, o, ho, hs⟩
    | cons x pre =>
      simp only [List.cons_append, List.cons.injEq] at e
      exact hd pre j sv' suf e.2
   obtain ⟨new, h1, h2, h3, h4⟩ := FR r ((i, sv) :: done) M hd2 h
   exact ⟨new ++ [(i, sv)], by simp [h1], by simpa using h2, by simpa using h3, by simpa using h4⟩
def Q0 (n : Nat) (D pr : List Nat) (p q : Nat) : Bool :=
 (Nat.blt p n && Nat.blt q n && !Nat.beq p q && !pr.contains p && !pr.contains q) && (List.range n).all fun i => pr.contains i || Nat.beq i p || Nat.beq i q || (vP D i).testBit p
theorem AA {α : Type} {new P pre suf : List α} {x : α} (h : new ++ P = pre ++ x :: suf) : (∃ suf', suf = suf' ++ P ∧ new = pre ++ x :: suf') ∨ (∃ pre', P = pre' ++ x :: suf) := by
 rcases List.append_eq_append_iff.1 h with ⟨a', h1, h2⟩ | ⟨c', h1, h2⟩
 ·exact .inr ⟨a', h2⟩
 ·cases c' with
  | nil => exact .inr ⟨[], by simpa using h2.symm⟩
  | cons y c' =>
    simp only [List.cons_append, List.cons.injEq] at h2
    obtain ⟨rfl, rfl⟩ := h2
    exact .inl ⟨c', rfl, h1⟩
theorem VI {id : Nat} {l : List Oper} {M0 : SM} {p q : Nat} {pr rA rB : List Nat} (hm : X.P.follows .mixedOrders = true) (hA : vR l.toArray un DA (pr ++ rA) p q = true) (hB : vR l.toArray un DB (pr ++ rB) q p = true) (hP : Q0 l.toArray.size DA pr p q = true)
 (h : VH X l.toArray k fs own un DA DB rA rB pr L0 M0) : E X (.code (.region id l.toArray true) :: k) L0 M0 fs own := by
 have hOA := vT hA
 have hOB := vT hB
 generalize harr : l.toArray = arr at *
 obtain ⟨P, p1, p2, p3, p4⟩ := FR pr [] M0 (fun pre i sv suf e => by simp at e) h
 simp only [List.append_nil] at p2 p3 p4
 simp only [Q0, Bool.and_eq_true, Bool.not_eq_true', List.all_eq_true, Bool.or_eq_true] at hP
 obtain ⟨⟨⟨⟨⟨hp, hq⟩, hpq⟩, hpp⟩, hqp⟩, hcov⟩ := hP
 have hp : p < arr.size := by simpa [Nat.blt_eq] using hp
 have hq : q < arr.size := by simpa [Nat.blt_eq] using hq
 have hpq : p ≠ q := fun e => by rw [e, Nat.beq_refl] at hpq; cases hpq
 have hcP : ∀ f : Nat × SV → Bool, fF un (P.filter f) = 0 := fun f => by
  unfold fF
  rw [List.length_eq_zero_iff, List.filter_eq_nil_iff]
  intro x hx hb
  obtain ⟨pre, suf, e⟩ := List.append_of_mem (List.mem_filter.1 hx).1
  rw [(p2 pre x.1 x.2 suf e).1] at hb
  cases hb
 have hcP0 : fF un P = 0 := by have := hcP (fun _ => true); rwa [List.filter_eq_self.2 (fun _ _ => rfl)] at this
 obtain ⟨nA, eA, fA, a1, a2, a3, a4, a5⟩ := qI rA P M0 [] p3 (by rw [hcP0]; rfl)
 obtain ⟨nB, eB, fB, b1, b2, b3, b4, b5⟩ := qI rB P M0 [] p4 (by rw [hcP0]; rfl)
 have stA : ∀ pre i sv suf, nA ++ P = pre ++ (i, sv) :: suf → O3 X arr fs own un DA ([M0] ++ eA) i sv (LS arr L0 suf) (fF un suf) := fun pre i sv suf e => by
  rcases AA e with ⟨suf', rfl, e2⟩ | ⟨pre', e2⟩
  ·exact a5 pre i sv suf' e2
  ·obtain ⟨hu, o, ho, hs⟩ := p2 pre' i sv suf e2
   exact ⟨o, ho, fun _ q M' _ _ _ => hs M', fun h => by rw [hu] at h; cases h⟩
 have stB : ∀ pre i sv suf, nB ++ P = pre ++ (i, sv) :: suf → O3 X arr fs own un DB ([M0] ++ eB) i sv (LS arr L0 suf) (fF un suf) := fun pre i sv suf e => by
  rcases AA e with ⟨suf', rfl, e2⟩ | ⟨pre', e2⟩
  ·exact b5 pre i sv suf' e2
  ·obtain ⟨hu, o, ho, hs⟩ := p2 pre' i sv suf e2
   exact ⟨o, ho, fun _ q M' _ _ _ => hs M', fun h => by rw [hu] at h; cases h⟩
 have allA : ((nA ++ P).map (·.1)).reverse = pr ++ rA := by rw [List.map_append, List.reverse_append, p1, a1]
 have allB : ((nB ++ P).map (·.1)).reverse = pr ++ rB := by rw [List.map_append, List.reverse_append, p1, b1]
 have lenA : ([M0] ++ eA).length = fF un (nA ++ P) + 1 := by simp at a2 ⊢; omega
 have lenB : ([M0] ++ eB).length = fF un (nB ++ P) + 1 := by simp at b2 ⊢; omega
 have lsA : ([M0] ++ eA).getLast? = some fA := by simpa using a3
 have lsB : ([M0] ++ eB).getLast? = some fB := by simpa using b3
 have filA : ∀ listed : Array Bool, (∀ i, listed.getD i false = true → i ∈ pr) → (nA ++ P).filter (fK listed) = P.filter (fK listed) := fun listed hl => by
  rw [List.filter_append, List.filter_eq_nil_iff.2, List.nil_append]
  intro x hx hb
  have h1 : x.1 ∈ rA := by rw [← a1]; exact List.mem_reverse.2 (List.mem_map.2 ⟨x, hx, rfl⟩)
  exact (List.nodup_append.1 hOA.nd).2.2 x.1 (hl x.1 hb) x.1 h1 rfl
 have filB : ∀ listed : Array Bool, (∀ i, listed.getD i false = true → i ∈ pr) → (nB ++ P).filter (fK listed) = P.filter (fK listed) := fun listed hl => by
  rw [List.filter_append, List.filter_eq_nil_iff.2, List.nil_append]
  intro x hx hb
  have h1 : x.1 ∈ rB := by rw [← b1]; exact List.mem_reverse.2 (List.mem_map.2 ⟨x, hx, rfl⟩)
  exact (List.nodup_append.1 hOB.nd).2.2 x.1 (hl x.1 hb) x.1 h1 rfl
 have hpA : ∃ sv, (p, sv) ∈ nA ++ P := by
  have := hOA.all p hp
  rw [← allA] at this
  obtain ⟨x, hx, e⟩ := List.mem_map.1 (List.mem_reverse.1 this)
  exact ⟨x.2, by rw [← e]; exact hx⟩
 have key : ∀ (f : Nat) (listed : Array Bool) (a : Act) (g : GW), Closed arr listed → listed.getD p false = false → listed.getD q false = false → (∀ i, listed.getD i false = true → i ∈ pr) → ((nA ++ P).filter fun x => !fK listed x).length ≤ f → ((nB ++ P).filter fun x => !fK listed x).length ≤ f →
  cV X (LS arr L0 (P.filter (fK listed))) M0 fs own g a → N5 X.P arr (jP X.P X.rd X.Q k .normal) f listed a g.w := by
  intro f
  induction f with
  | zero =>
    intro listed a g hc hlp hlq hl fa fb hs
    obtain ⟨sv, hsv⟩ := hpA
    have : (p, sv) ∈ (nA ++ P).filter fun x => !fK listed x := List.mem_filter.2 ⟨hsv, by simp [fK, hlp]⟩
    rw [List.eq_nil_of_length_eq_zero (Nat.le_zero.1 fa)] at this
    cases this
  | succ f ih =>
    intro listed a g hc hlp hlq hl fa fb hs
    have hMA : ([M0] ++ eA)[fF un ((nA ++ P).filter (fK listed))]? = some M0 := by rw [filA listed hl, hcP]; rfl
    have hMB : ([M0] ++ eB)[fF un ((nB ++ P).filter (fK listed))]? = some M0 := by rw [filB listed hl, hcP]; rfl
    have hsA : cV X (LS arr L0 ((nA ++ P).filter (fK listed))) M0 fs own g a := by rw [filA listed hl]; exact hs
    have hsB : cV X (LS arr L0 ((nB ++ P).filter (fK listed))) M0 fs own g a := by rw [filB listed hl]; exact hs
    refine ⟨fun hr => ?_, fun i hi => ?_⟩
    ·exfalso
     have hall : ∀ i, i < arr.size → listed.getD i false = true := by
      intro i
      induction i using Nat.strongRecOn with
      | _ i ih2 =>
        intro hi
        refine Decidable.byContradiction fun hne => ?_
        have hne : listed.getD i false = false := by simpa using hne
        have hoi : arr[i]? = some arr[i] := by simp [hi]
        have hsz := hc.1
        have : i ∈ Region.ready .any arr listed := mem_ready.2 ⟨by
         have h1 : i < listed.size := by omega
         simp only [Array.getD_eq_getD_getElem?, h1, getElem?_pos, Option.getD_some] at hne ⊢
         exact hne, _, hoi, fun e he hb => ih2 e.on (hOA.back i _ hoi e.on (j7.2 ⟨e, he, hb, rfl⟩)) (by have := hOA.back i _ hoi e.on (j7.2 ⟨e, he, hb, rfl⟩); omega)⟩
        rw [hr] at this
        cases this
     rw [hall p hp] at hlp
     cases hlp
    ·have hself : ∀ {j : Nat}, j ∈ Region.ready .any arr listed → (listed.setIfInBounds j true).getD j false = true := fun {j} hj => by
      obtain ⟨_, o, ho, _⟩ := mem_ready.1 hj
      have hjs : j < listed.size := by rw [hc.1]; exact (Array.getElem?_eq_some_iff.1 ho).1
      simp [hjs]
     by_cases hip : i = p
     ·subst hip
      have hg : listed.getD i false = true ∨ (i ≠ q ∧ listed.getD q false = false) := .inr ⟨hpq, hlq⟩
      have hlt := (gI hOA allA a4.2 stA hc hMA hsA hi hg (K := fun _ _ => True) (fun _ _ => trivial)).1
      exact (gI hOA allA a4.2 stA hc hMA hsA hi hg (fun hM' hs' => A4 hOA allA lenA lsA a4 stA f _ _ _ _ (hc.set hi) (.inl (hself hi)) (by omega) hM' hs')).2
     ·by_cases hiq : i = q
      ·subst hiq
       have hg : listed.getD i false = true ∨ (i ≠ p ∧ listed.getD p false = false) := .inr ⟨hip, hlp⟩
       have hlt := (gI hOB allB b4.2 stB hc hMB hsB hi hg (K := fun _ _ => True) (fun _ _ => trivial)).1
       exact (gI hOB allB b4.2 stB hc hMB hsB hi hg (fun hM' hs' => A4 hOB allB lenB lsB b4 stB f _ _ _ _ (hc.set hi) (.inl (hself hi)) (by omega) hM' hs')).2
      ·have hgA : listed.getD p false = true ∨ (i ≠ q ∧ listed.getD q false = false) := .inr ⟨hiq, hlq⟩
       have hgB : listed.getD q false = true ∨ (i ≠ p ∧ listed.getD p false = false) := .inr ⟨hip, hlp⟩
       obtain ⟨_, o, ho, hdeps⟩ := mem_ready.1 hi
       have hin : i < arr.size := (Array.getElem?_eq_some_iff.1 ho).1
       have hipr : i ∈ pr := by
        rcases hcov i (List.mem_range.2 hin) with ((h1 | h1) | h1) | h1
        ·simpa using h1
        ·exact absurd (Nat.eq_of_beq_eq_true h1) hip
        ·exact absurd (Nat.eq_of_beq_eq_true h1) hiq
        ·have := pR hOA hc i o ho hdeps hgA p hp h1
         rw [hlp] at this
         cases this
       have hl' : ∀ j, (listed.setIfInBounds i true).getD j false = true → j ∈ pr := fun j hj => by
        by_cases hji : j = i
        ·rw [hji]; exact hipr
        ·rw [getD_set_ne false (Ne.symm hji)] at hj
         exact hl j hj
       have h1 := (gI hOA allA a4.2 stA hc hMA hsA hi hgA (K := fun _ _ => True) (fun _ _ => trivial)).1
       have h2 := (gI hOB allB b4.2 stB hc hMB hsB hi hgB (K := fun _ _ => True) (fun _ _ => trivial)).1
       refine (gI hOA allA a4.2 stA hc hMA hsA hi hgA (fun {g' a' M'} hM' hs' => ?_)).2
       rw [filA _ hl', hcP] at hM'
       cases hM'
       rw [filA _ hl'] at hs'
       exact ih _ _ _ (hc.set hi) (by rw [getD_set_ne false hip]; exact hlp) (by rw [getD_set_ne false hiq]; exact hlq) hl' (by omega) (by omega) hs'
 intro g a s
 rw [← harr]
 refine wpIn_region_any hm ?_
 rw [harr]
 obtain ⟨ρ, ms, s1, s2, s3⟩ := s
 have e : FExt g ⟨{ g.w with drawn := g.w.drawn + 1 }, g.fz, g.lt⟩ := ⟨rfl, rfl, rfl, Nat.le_refl _, fun _ h => h, fun _ _ => rfl⟩
 have s' : cV X L0 M0 fs own ⟨{ g.w with drawn := g.w.drawn + 1 }, g.fz, g.lt⟩ a :=
  ⟨ρ, ms, ⟨s1.kn, s1.all.mono e, ⟨fun r hr => r.loc (w := g.w) (fun _ _ => rfl) (s1.own.p r hr), s1.own.nodup, s1.own.lt, s1.own.nfz⟩, ⟨s1.ext.toFExt.trans e, s1.ext.keep, s1.ext.nofz⟩, s1.new⟩, s2.mono e, s3.pin, fun t sv ht => by
   obtain ⟨x, hx, dx⟩ := s3.val t sv ht
   exact ⟨x, hx, dx.mono e⟩⟩
 have hno : ∀ i, (Array.replicate arr.size false).getD i false = false := fun i => by
  simp only [Array.getD_eq_getD_getElem?, Array.getElem?_replicate]
  split <;> rfl
 have hnone : (P.filter (fK (Array.replicate arr.size false))) = [] := List.filter_eq_nil_iff.2 (fun x _ h => by
  unfold fK at h
  rw [hno] at h
  cases h)
 have hfuel : ∀ {n : List (Nat × SV)} {r : List Nat} {D : List Nat} {u v : Nat}, vQ arr un D (pr ++ r) u v → ((n ++ P).map (·.1)).reverse = pr ++ r → ((n ++ P).filter fun x => !fK (Array.replicate arr.size false) x).length ≤ arr.size := fun {n r D u v} hO hall => by
  refine Nat.le_trans (List.length_filter_le _ _) ?_
  have h1 := List.Nodup.length_le_of_subset hO.nd (l₂ := List.range arr.size) (fun i hi => List.mem_range.2 (hO.lt i hi))
  have h2 : (n ++ P).length = (pr ++ r).length := by rw [← hall]; simp; omega
  rw [List.length_range] at h1
  omega
 have := key arr.size (Array.replicate arr.size false) a _ ⟨by simp, fun j oj _ hl => by rw [hno] at hl; cases hl⟩ (hno p) (hno q) (fun i hi => by rw [hno] at hi; cases hi) (hfuel hOA allA) (hfuel hOB allB) (by rw [hnone]; exact s')
 simpa using vB _ _ _ _ this
def M6 (tb : TT) (n : Nat) (arr : Array Oper) (un : Nat) : Nat → List (List SV) → List Nat → SL → List Prop → Option (List Nat × SL × List Prop)
 | 0, _, π, L, acc => some (π, L, acc)
 | _ + 1, _, [], _, _ => none
 | m + 1, H, i :: r, L, acc => match arr[i]? with
   | none => none
   | some o => match gS arr (aF L) o with
     | some none => match un.testBit i with
       | true => none
       | false => match j8 (aF L) o.op with
         | false => none
         | true => match I3 tb (aF L) [] H o.op with
           | some (sv, φ) => match o.dst with
             | some d => match Nat.blt d n with
               | true => pI φ acc (fun acc => M6 tb n arr un m (match LH o.op with | true => H.tail | false => H) r ((d, sv) :: L) acc)
               | false => none
             | none => none
           | none => none
     | _ => none
theorem KQ {tb : TT} (hT : tb.Ok X.P) {rA rB : List Nat} {M : SM} : ∀ (m : Nat) {H : List (List SV)} {π : List Nat} {L : SL} {acc : List Prop} {π' L' φ}, M6 tb X.n arr un m H π L acc = some (π', L', φ) → (∀ p ∈ φ, p) → (∀ p ∈ acc, p) ∧ (VH X arr k fs own un DA DB rA rB π' L' M → VH X arr k fs own un DA DB rA rB π L M)
 | 0, H, π, L, acc, π', L', φ, h, hφ => by
   simp only [M6, Option.some.injEq, Prod.mk.injEq] at h
   obtain ⟨rfl, rfl, rfl⟩ := h
   exact ⟨hφ, id⟩
 | m + 1, H, [], L, acc, π', L', φ, h, _ => by simp [M6] at h
 | m + 1, H, i :: r, L, acc, π', L', φ, h, hφ => by
   unfold M6 at h
   split at h
   ·cases h
   ·rename_i o ho
    split at h
    ·rename_i hG
     split at h
     ·cases h
     ·rename_i hu
      split at h
      ·cases h
      ·rename_i hf
       split at h
       ·rename_i sv ψ hx
        split at h
        ·rename_i d hd
         split at h
         ·rename_i hn
          obtain ⟨acc', hr, hm⟩ := gG h
          obtain ⟨ha, hk⟩ := KQ hT m hr hφ
          refine ⟨fun p hp => ha p (hm p (.inr hp)), fun he => ⟨hu, o, sv, ho, fun M' => ?_, ?_⟩⟩
          ·exact j6 hT hG hd hn ((qJ hf).trans hx) (fun p hp => ha p (hm p (.inl hp)))
          ·rw [hd]
           exact hk he
         ·cases h
        ·cases h
       ·cases h
    ·cases h
theorem xpp {tb : TT} (hT : tb.Ok X.P) (m : Nat) (H : List (List SV)) {rA rB π π' : List Nat} {L L' : SL} {M : SM} {φ} (hk : VH X arr k fs own un DA DB rA rB π' L' M) (hr : M6 tb X.n arr un m H π L [] = some (π', L', φ) := by rfl)
 (hφ : aE φ := by first | trivial | omega | (simp +contextual [aE]; done) | (simp +contextual [aE, *]; done) | (simp +contextual [aE, *] <;> omega)) : VH X arr k fs own un DA DB rA rB π L M := (KQ hT m hr (gC hφ)).2 hk
theorem xpe {rA rB : List Nat} {L : SL} {M : SM} (h1 : ED X arr k fs own un DA rA L M []) (h2 : ED X arr k fs own un DB rB L M []) : VH X arr k fs own un DA DB rA rB [] L M := ⟨h1, h2⟩
theorem aDT (n un : Nat) (DA DB pr rA rB : List Nat) (p q : Nat) {id : Nat} {k' : List It} {l : List Oper} {L : SL} {M : SM} (h : VH X l.toArray k' fs own un DA DB rA rB pr L M) (hk : cQ (aF L) 64 n k = .code (.region id l.toArray true) :: k' := by rfl) (hA : vR l.toArray un DA (pr ++ rA) p q = true := by kernel_rfl) (hB : vR l.toArray un DB (pr ++ rB) q p = true := by kernel_rfl) (hP : Q0 l.toArray.size DA pr p q = true := by kernel_rfl) (hm : X.P.follows .mixedOrders = true := by rfl) : E X k L M fs own :=
 dK 64 n (hk ▸ VI hm hA hB hP h)
theorem aDU {L : SL} {x y : Nat × MB} {M : SM} (h : E X k L (y :: x :: M) fs own) : E X k L (x :: y :: M) fs own := fun g a s => by
 obtain ⟨ρ, ms, h1, h2, h3⟩ := s
 obtain ⟨i, bx⟩ := x
 obtain ⟨j, by_⟩ := y
 cases h2 with
 | @cons _ _ _ r1 ms1 c1 t1 =>
   cases t1 with
   | @cons _ _ _ r2 ms2 c2 t2 =>
     exact h g a ⟨ρ, r2 :: r1 :: ms2, h1.perm (List.Perm.swap r2 r1 (ms2 ++ own)), .cons c2 (.cons c1 t2), h3⟩
end
end Go.KX
namespace Go.Proofs.YtomkgfdigldhcaaGreatDoor
open Go.KX
theorem KR {a b : Bytes} : Fc Tryz.prog gT 154 [.str a, .str b] (nI (gZ a b)) :=
 jJ ⟨_, Tryz.func154, rfl, by kernel_rfl⟩ fun ρ w vs hf ha => by
  rw [jK (xs := [str a, str b]) rfl ha]
  refine (Tryz.strings_Compare ⟨a.toArray⟩ ⟨b.toArray⟩ w.w).mono ?_
  rintro e w' ⟨rfl, rfl⟩
  exact ⟨_, rfl, Go.RowKit.Below.refl _ _, fun _ _ => .v⟩
end Go.Proofs.YtomkgfdigldhcaaGreatDoor
