/- PD PQ PT XQ XR XS XU YC PU. -/
import Derived.Test.YtomkgfdigldhcaaGreatDoorLID
import Derived.Lib.ParseIntB
import Derived.Lib.IndexMore
import Derived.Lib.Repeat
import Derived.Lib.IndexBytes
import Derived.WideLaws
import Derived.Shelf.Pu.Lays
import Derived.Shelf.Pu.Lower
import Derived.Shelf.Pu.ToError
import Derived.Lib.AtoiErrMem
import Derived.Lib.Walk
import Derived.Lib.ParseIntBMem
import Derived.Lib.Hide
import Derived.Laws.Strings3
import Derived.Laws.Closers25
import Derived.Laws.Closers25b
import Derived.BigCall
import Derived.BigGuard
set_option maxRecDepth 100000
namespace Go.KX
structure Pd where
 i : Nat
 e : Int
 at_ : Int
namespace Pd
def fail (p : Pd) (e a : Int) : Pd := if p.e = 0 then ⟨p.i, e, a⟩ else p
def blanks (s : Bytes) (p : Pd) : Pd := { p with i := p.i + a7 [32] (s.drop p.i) }
end Pd
def iC (s : Bytes) (p : Pd) : Option Bytes := if p.e = 0 then dY (s.drop (p.blanks s).i) else none
def aS (s : Bytes) (l : List Bytes) (p : Pd) : Option Bytes := match iC s p with
 | some x => if x ∈ l then some x else none
 | none => none
def aJ (s : Bytes) (l : List Bytes) (p : Pd) : Pd := match aS s l p with
 | some x => { p.blanks s with i := (p.blanks s).i + x.length }
 | none => p.blanks s
def i7 (s : Bytes) (x : Bytes) (p : Pd) : Pd := match aS s [x] p with
 | some _ => aJ s [x] p
 | none => (aJ s [x] p).fail 110 (aJ s [x] p).i
def cM (s : Bytes) (deep : Nat) (p : Pd) : Pd := if 32 < deep then (p.blanks s).fail 111 (p.blanks s).i else p.blanks s
abbrev qC (s : Bytes) (l : List Bytes) (p : Pd) : Option Bytes × Pd := (aS s l p, aJ s l p)
abbrev eW (s : Bytes) (u : Pd → Ex × Pd) : Nat → Pd → Ex × Pd := PH (qC s) (s.length + 1) u
def kV (s : Bytes) (u : Pd → Ex × Pd) (deep : Nat) (p : Pd) : Ex × Pd := eW s u 5 (cM s deep p)
section
variable (pv : Bytes → Val × Int) (s : Bytes)
def qO (r : Bytes) (p : Pd) : Ex × Pd :=
 (mG (pv (r.take (bE r))).1, { (if (pv (r.take (bE r))).2 = 0 then p else p.fail 110 p.i) with i := p.i + bE r })
def EJ (ex : Pd → Ex × Pd) (p : Pd) : Ex × Pd := ((ex p).1, i7 s GO (ex p).2)
def lO (ex : Pd → Ex × Pd) (r : Bytes) (p : Pd) : Ex × Pd :=
 let w := r.take (a7 kB r)
 let p1 : Pd := { p with i := p.i + w.length }
 if w = W4 then (mG eI, p1) else if w = UH then (mG fG, p1) else if w = UI then (mG fE, p1) else
 if cY w then (eU w [(EJ s ex (i7 s iZ p1)).1], (EJ s ex (i7 s iZ p1)).2) else (mY, p1.fail 110 p.i)
def PI (r : Bytes) (p : Pd) : Ex × Pd :=
 let w := (r.drop 1).take (a7 kB (r.drop 1))
 (sK w, { (if lN w then p else p.fail 110 p.i) with i := p.i + (1 + w.length) })
def c7 (ex : Pd → Ex × Pd) (p0 : Pd) : Ex × Pd :=
 let p := p0.blanks s
 if p0.e = 0 then
  match aS s [iZ] p with
  | some _ => EJ s ex (aJ s [iZ] p)
  | none => match s.drop p.i with
    | [] => (mY, (aJ s [iZ] p).fail 110 p.i)
    | c :: r => if c ∈ b8 then qO pv (c :: r) p else if c = 36 then PI (c :: r) p else if c ∈ pD then lO s ex (c :: r) p else (mY, p.fail 110 p.i)
 else (mY, p)
def r5 : Nat → Pd → Ex × Pd
 | 0, p => c7 pv s (fun q => (mY, q)) (aJ s [a8, bZ] (cM s 33 p))
 | d + 1, p => match aS s [a8, bZ] (cM s (32 - d) p) with
   | some o => (eU o [(r5 d (aJ s [a8, bZ] (cM s (32 - d) p))).1], (r5 d (aJ s [a8, bZ] (cM s (32 - d) p))).2)
   | none => c7 pv s (kV s (r5 d) (33 - d)) (aJ s [a8, bZ] (cM s (32 - d) p))
def vZ : Ex × Int × Int :=
 if 1024 < s.length then (mY, 1, 0) else
 let r := kV s (r5 pv s 33) 0 ⟨0, 0, 0⟩
 let q := r.2.blanks s
 let q2 := if q.i < s.length then q.fail 110 q.i else q
 if q2.e = 0 then (r.1, 0, 0) else (mY, q2.e, q2.at_)
end
def kO (p : Ps) (q : Pd) : Prop := (p.dead = false ∧ q.e = 0 ∧ p.i = q.i) ∨ (p.dead = true ∧ q.e = p.err ∧ q.e ≠ 0 ∧ q.at_ = p.at_)
def pU (a : Ex × Ps) (b : Ex × Pd) : Prop := kO a.2 b.2 ∧ (a.2.dead = false → a.1 = b.1)
theorem kO.fails {p : Ps} {q : Pd} (h : kO p q) {e : Int} (he : e ≠ 0) {a b : Int} (hab : p.dead = false → a = b) : kO (p.fails e a) (q.fail e b) := by
 unfold Ps.fails Pd.fail
 rcases h with ⟨h1, h2, h3⟩ | ⟨h1, h2, h3, h4⟩
 ·rw [if_neg (by simp [h1]), if_pos h2]; exact .inr ⟨rfl, rfl, he, (hab h1).symm⟩
 ·rw [if_pos h1, if_neg h3]; exact .inr ⟨h1, h2, h3, h4⟩
theorem kO.rest {s : Bytes} {p : Ps} {q : Pd} (h : kO p q) : kO (p.restP s) (q.blanks s) := by
 unfold Ps.restP Pd.blanks
 rcases h with ⟨h1, h2, h3⟩ | ⟨h1, h2, h3, h4⟩
 ·rw [if_neg (by simp [h1])]; exact .inl ⟨h1, h2, by simp [h3]⟩
 ·rw [if_pos h1]; exact .inr ⟨h1, h2, h3, h4⟩
theorem kO.live {p : Ps} {q : Pd} (h : kO p q) (hd : p.dead = false) : q.e = 0 ∧ p.i = q.i := by
 rcases h with ⟨_, h2, h3⟩ | ⟨h1, _⟩
 ·exact ⟨h2, h3⟩
 ·rw [hd] at h1; cases h1
theorem kO.gone {p : Ps} {q : Pd} (h : kO p q) (hd : p.dead = true) : q.e ≠ 0 := by
 rcases h with ⟨h1, _⟩ | ⟨_, _, h3, _⟩
 ·rw [hd] at h1; cases h1
 ·exact h3
theorem dG (s : Bytes) (p : Ps) : (p.restP s).dead = p.dead := by unfold Ps.restP; split <;> rfl
theorem lP : dY [] = none := by decide
theorem kO.takeT {s : Bytes} {l : List Bytes} {p : Ps} {q : Pd} (h : kO p q) : takeT s l p = aS s l q := by
 have key : dY (p.restT s) = iC s q := by
  unfold Ps.restT iC
  cases hd : p.dead with
  | true => rw [if_pos rfl, if_neg (h.gone hd), lP]
  | false =>
    have h2 := (h.rest (s := s)).live ((dG s p).trans hd)
    rw [if_neg (by simp), if_pos (h.live hd).1, h2.2]
 unfold Go.KX.takeT aS
 rw [key]
 first | done | (cases iC s q <;> rfl)
theorem kO.takeP {s : Bytes} {l : List Bytes} {p : Ps} {q : Pd} (h : kO p q) : kO (takeP s l p) (aJ s l q) := by
 unfold Go.KX.takeP aJ
 rw [← h.takeT]
 have h2 := h.rest (s := s)
 cases Go.KX.takeT s l p with
 | some x =>
   rcases h2 with ⟨g1, g2, g3⟩ | ⟨g1, g2, g3, g4⟩
   ·exact .inl ⟨g1, g2, by simp [g3]⟩
   ·exact .inr ⟨g1, g2, g3, g4⟩
 | none => exact h2
theorem kO.must {s x : Bytes} {p : Ps} {q : Pd} (h : kO p q) : kO (dC s x p) (i7 s x q) := by
 unfold dC i7
 rw [← h.takeT]
 cases Go.KX.takeT s [x] p with
 | some _ => exact h.takeP
 | none => exact h.takeP.fails (by decide) (fun hd => by rw [(h.takeP.live hd).2])
theorem kO.enter {s : Bytes} {d : Nat} {p : Ps} {q : Pd} (h : kO p q) : kO (bU s d p) (cM s d q) := by
 unfold bU cM
 split
 ·exact h.rest.fails (by decide) (fun hd => by rw [(h.rest.live hd).2])
 ·exact h.rest
theorem EK {s : Bytes} {f : Ps → Ex × Ps} {g : Pd → Ex × Pd} (hfg : ∀ p q, kO p q → pU (f p) (g q)) {ops : List Bytes} {alone : Bool} : ∀ (n : Nat) {x y : Ex} {p : Ps} {q : Pd}, kO p q → (p.dead = false → x = y) → pU (bD (EI s) f ops alone n x p) (bD (qC s) g ops alone n y q)
 | 0, x, y, p, q, h, hx => ⟨h, hx⟩
 | n + 1, x, y, p, q, h, hx => by
   have hT := h.takeT (s := s) (l := ops)
   have hP := h.takeP (s := s) (l := ops)
   have hdead : (takeP s ops p).dead = p.dead := by
    unfold Go.KX.takeP
    split <;> simp [dG]
   unfold bD
   simp only [hT]
   split
   ·exact ⟨hP, fun hd => hx (by rw [← hdead]; exact hd)⟩
   ·rename_i o ho
    have hlive : p.dead = false := by
     cases hd : p.dead with
     | false => rfl
     | true =>
       rw [← hT] at ho
       unfold Go.KX.takeT Ps.restT at ho
       rw [if_pos hd, lP] at ho
       cases ho
    have hs := hfg _ _ hP
    have hxy := hx hlive
    subst hxy
    split
    ·exact ⟨hs.1, fun hd => by rw [hs.2 hd]⟩
    ·exact EK hfg n hs.1 (fun hd => by rw [hs.2 hd])
theorem uQ {s : Bytes} {f : Ps → Ex × Ps} {g : Pd → Ex × Pd} (hfg : ∀ p q, kO p q → pU (f p) (g q)) : ∀ (n : Nat) (p : Ps) (q : Pd), kO p q → pU (BB s f n p) (eW s g n q)
 | 0, p, q, h => hfg p q h
 | n + 1, p, q, h => EK (uQ hfg n) _ (uQ hfg n p q h).1 (uQ hfg n p q h).2
theorem v6 {s : Bytes} {f : Ps → Ex × Ps} {g : Pd → Ex × Pd} (hfg : ∀ p q, kO p q → pU (f p) (g q)) {d : Nat} {p : Ps} {q : Pd} (h : kO p q) : pU (i6 s f d p) (kV s g d q) := uQ hfg 5 _ _ h.enter
theorem JC {s : Bytes} {f : Ps → Ex × Ps} {g : Pd → Ex × Pd} (hfg : ∀ p q, kO p q → pU (f p) (g q)) {p : Ps} {q : Pd} (h : kO p q) : pU (sM s f p) (EJ s g q) := by
 obtain ⟨h1, h2⟩ := hfg p q h
 refine ⟨h1.must, fun hd => h2 ?_⟩
 cases hx : (f p).2.dead with
 | false => rfl
 | true =>
   exfalso
   have : (dC s GO (f p).2).dead = true := by
    have ht : takeT s [GO] (f p).2 = none := by unfold takeT Ps.restT; rw [if_pos hx, lP]
    have hp : (takeP s [GO] (f p).2).dead = true := by unfold takeP; rw [ht]; simp [dG, hx]
    unfold dC
    rw [ht]
    unfold Ps.fails
    simp only [hp, if_true]
   rw [show (sM s f p).2 = dC s GO (f p).2 from rfl, this] at hd
   cases hd
theorem dZ {p : Ps} {q : Pd} (h : kO p q) {i j : Nat} (hij : p.dead = false → i = j) : kO { p with i := i } { q with i := j } := by
 rcases h with ⟨h1, h2, h3⟩ | ⟨h1, h2, h3, h4⟩
 ·exact .inl ⟨h1, h2, hij h1⟩
 ·exact .inr ⟨h1, h2, h3, h4⟩
section
variable {pv : Bytes → Val × Int} {s : Bytes}
theorem HG {r : Bytes} {p : Ps} {q : Pd} (h : kO p q) (hd : p.dead = false) : pU (cG pv r p) (qO pv r q) := by
 have hl := h.live hd
 refine ⟨?_, fun _ => rfl⟩
 unfold cG qO
 simp only
 split
 ·exact dZ h (fun _ => by rw [hl.2])
 ·exact dZ (h.fails (by decide) (fun _ => by rw [hl.2])) (fun _ => by rw [hl.2])
theorem UJ {r : Bytes} {p : Ps} {q : Pd} (h : kO p q) (hd : p.dead = false) : pU (LX r p) (PI r q) := by
 have hl := h.live hd
 refine ⟨?_, fun _ => rfl⟩
 unfold LX PI
 simp only
 split
 ·exact dZ h (fun _ => by rw [hl.2])
 ·exact dZ (h.fails (by decide) (fun _ => by rw [hl.2])) (fun _ => by rw [hl.2])
def Gone (p q : Ps) : Prop := p.dead = true → q.dead = true ∧ q.err = p.err ∧ q.at_ = p.at_
theorem Gone.trans {a b c : Ps} (h : Gone a b) (k : Gone b c) : Gone a c := fun hd => by
 obtain ⟨h1, h2, h3⟩ := h hd
 obtain ⟨k1, k2, k3⟩ := k h1
 exact ⟨k1, k2.trans h2, k3.trans h3⟩
theorem lQ (p : Ps) : Gone p (p.restP s) := fun hd => by unfold Ps.restP; rw [if_pos hd]; exact ⟨hd, rfl, rfl⟩
theorem v7 (p : Ps) (e a : Int) : Gone p (p.fails e a) := fun hd => by unfold Ps.fails; rw [if_pos hd]; exact ⟨hd, rfl, rfl⟩
theorem kC {l : List Bytes} {p : Ps} (hd : p.dead = true) : takeT s l p = none := by unfold takeT Ps.restT; rw [if_pos hd, lP]
theorem eX (l : List Bytes) (p : Ps) : Gone p (takeP s l p) := fun hd => by unfold takeP; rw [kC hd]; exact lQ p hd
theorem lR (x : Bytes) (p : Ps) : Gone p (dC s x p) := fun hd => by unfold dC; rw [kC hd]; exact (eX _ p).trans (v7 _ _ _) hd
theorem mH (d : Nat) (p : Ps) : Gone p (bU s d p) := fun hd => by
 unfold bU; split
 ·exact (lQ p).trans (v7 _ _ _) hd
 ·exact lQ p hd
theorem LZ {f : Ps → Ex × Ps} {ops : List Bytes} {alone : Bool} : ∀ (n : Nat) (x : Ex) (p : Ps), Gone p (bD (EI s) f ops alone n x p).2
 | 0, x, p => fun hd => ⟨hd, rfl, rfl⟩
 | n + 1, x, p => fun hd => by
   unfold bD
   simp only [kC hd]
   exact eX _ p hd
theorem v8 {f : Ps → Ex × Ps} (hf : ∀ p, Gone p (f p).2) : ∀ (n : Nat) (p : Ps), Gone p (BB s f n p).2
 | 0, p => hf p
 | n + 1, p => (v8 hf n p).trans (LZ _ _ _)
theorem y5 {f : Ps → Ex × Ps} (hf : ∀ p, Gone p (f p).2) (d : Nat) (p : Ps) : Gone p (i6 s f d p).2 := (mH d p).trans (v8 hf 5 _)
theorem oR (ex : Ps → Ex × Ps) (p : Ps) : Gone p (dW pv s ex p).2 := fun hd => by
 unfold dW
 simp only [hd]
 exact lQ p hd
theorem uR : ∀ (d : Nat) (p : Ps), Gone p (mZ pv s d p).2
 | 0, p => ((mH 33 p).trans (eX _ _)).trans (oR _ _)
 | d + 1, p => fun hd => by
   have h1 := mH (s := s) (32 - d) p hd
   unfold mZ
   rw [kC h1.1]
   exact (((mH (32 - d) p).trans (eX _ _)).trans (oR _ _)) hd
theorem kO.of_gone {p p' : Ps} {q : Pd} (h : kO p q) (hd : p.dead = true) (g : Gone p p') : kO p' q := by
 obtain ⟨g1, g2, g3⟩ := g hd
 rcases h with ⟨h1, _⟩ | ⟨_, h2, h3, h4⟩
 ·rw [hd] at h1; cases h1
 ·exact .inr ⟨g1, by rw [g2]; exact h2, h3, by rw [g3]; exact h4⟩
theorem PK {f : Ps → Ex × Ps} {g : Pd → Ex × Pd} (hfg : ∀ p q, kO p q → pU (f p) (g q)) (hf : ∀ p, Gone p (f p).2) {r : Bytes} {p : Ps} {q : Pd} (h : kO p q) (hd : p.dead = false) : pU (gJ s f r p) (lO s g r q) := by
 have hl := h.live hd
 have h1 : kO { p with i := p.i + (r.take (a7 kB r)).length } { q with i := q.i + (r.take (a7 kB r)).length } := dZ h (fun _ => by rw [hl.2])
 unfold gJ lO
 simp only
 split
 ·exact ⟨h1, fun _ => rfl⟩
 split
 ·exact ⟨h1, fun _ => rfl⟩
 split
 ·exact ⟨h1, fun _ => rfl⟩
 split
 ·have h2 := JC (s := s) hfg (h1.must (s := s) (x := iZ))
  exact ⟨h2.1, fun hd => by rw [h2.2 hd]⟩
 ·have h2 := h1.fails (e := 110) (by decide) (a := p.i) (b := q.i) (fun _ => by rw [hl.2])
  have hdead : (({ p with i := p.i + (r.take (a7 kB r)).length } : Ps).fails 110 p.i).dead = true := by
   unfold Ps.fails; simp only [hd]; rfl
  have hg := ((lR (s := s) iZ (({ p with i := p.i + (r.take (a7 kB r)).length } : Ps).fails 110 p.i)).trans (hf _)).trans (lR (s := s) GO _)
  refine ⟨h2.of_gone hdead hg, fun hx => ?_⟩
  have := (hg hdead).1
  rw [show (sM s f (dC s iZ (({ p with i := p.i + (r.take (a7 kB r)).length } : Ps).fails 110 p.i))).2 = dC s GO (f (dC s iZ (({ p with i := p.i + (r.take (a7 kB r)).length } : Ps).fails 110 p.i))).2 from rfl] at hx
  rw [this] at hx; cases hx
theorem L6 (r : Bytes) : dY (40 :: r) = some iZ := by
 simp [dY, bJ, Lib.hasPrefix, List.find?, List.isPrefixOf]
theorem BC {c : UInt8} {r : Bytes} (h : c ≠ 40) : dY (c :: r) ≠ some iZ := by
 intro hf
 have := List.find?_some hf
 simp [Lib.hasPrefix, List.isPrefixOf] at this
 exact h this.symm
theorem sN (g : Bytes) : ∀ l : Bytes, a7 g (l.drop (a7 g l)) = 0
 | [] => rfl
 | c :: r => by
   by_cases h : c ∈ g
   ·have e : a7 g (c :: r) = a7 g r + 1 := by conv => lhs; unfold a7
                                              rw [if_pos h]
    rw [e, List.drop_succ_cons]
    exact sN g r
   ·have e : a7 g (c :: r) = 0 := by conv => lhs; unfold a7
                                     rw [if_neg h]
    rw [e, List.drop_zero, e]
theorem EL {f : Ps → Ex × Ps} {g : Pd → Ex × Pd} (hfg : ∀ p q, kO p q → pU (f p) (g q)) (hf : ∀ p, Gone p (f p).2) {p : Ps} {q : Pd} (h : kO p q) : pU (dW pv s f p) (c7 pv s g q) := by
 have hr := h.rest (s := s)
 unfold dW c7
 simp only
 cases hd : p.dead with
 | true =>
   rw [if_neg (h.gone hd)]
   exact ⟨hr, fun _ => rfl⟩
 | false =>
   rw [if_pos (h.live hd).1]
   have hrd : (p.restP s).dead = false := (dG s p).trans hd
   have hl := hr.live hrd
   have hT : p.restT s = s.drop (q.blanks s).i := by unfold Ps.restT; rw [if_neg (by simp [hd]), hl.2]
   have hb2 : (q.blanks s).blanks s = q.blanks s := by
    unfold Pd.blanks
    have := sN [32] (s.drop q.i)
    rw [List.drop_drop] at this
    simp only
    rw [this, Nat.add_zero]
   have hsign : iC s (q.blanks s) = dY (s.drop (q.blanks s).i) := by unfold iC; rw [if_pos hl.1, hb2]
   cases hc : s.drop (q.blanks s).i with
   | nil =>
     rw [hT, hc]
     have ht : aS s [iZ] (q.blanks s) = none := by unfold aS; rw [hsign, hc, lP]
     rw [ht]
     simp only
     have hp : aJ s [iZ] (q.blanks s) = q.blanks s := by unfold aJ; rw [ht, hb2]
     rw [hp]
     exact ⟨hr.fails (by decide) (fun _ => by rw [hl.2]), fun _ => rfl⟩
   | cons c r =>
     rw [hT, hc]
     simp only
     by_cases h40 : c = 40
     ·subst h40
      have ht : aS s [iZ] (q.blanks s) = some iZ := by unfold aS; rw [hsign, hc, L6]; simp
      rw [if_pos rfl, ht]
      simp only
      have hp : aJ s [iZ] (q.blanks s) = { q.blanks s with i := (q.blanks s).i + 1 } := by unfold aJ; rw [ht, hb2]; rfl
      rw [hp]
      exact JC hfg (dZ hr (fun _ => by rw [hl.2]))
     ·have ht : aS s [iZ] (q.blanks s) = none := by
       unfold aS
       rw [hsign, hc]
       split
       ·rename_i x hx
        rw [if_neg]
        intro hm
        simp only [List.mem_singleton] at hm
        subst hm
        exact BC h40 hx
       ·rfl
      rw [if_neg h40, ht]
      simp only
      by_cases h36 : c = 36
      ·subst h36
       rw [if_pos rfl, if_neg (by decide), if_pos rfl]
       exact UJ hr hrd
      ·rw [if_neg h36]
       by_cases hg : c ∈ b8
       ·rw [if_pos hg, if_pos hg]
        exact HG hr hrd
       ·rw [if_neg hg, if_neg hg, if_neg h36]
        by_cases hle : c ∈ pD
        ·rw [if_pos hle, if_pos hle]
         exact PK hfg hf hr hrd
        ·rw [if_neg hle, if_neg hle]
         exact ⟨hr.fails (by decide) (fun _ => by rw [hl.2]), fun _ => rfl⟩
theorem BD : ∀ (d : Nat) (p : Ps) (q : Pd), kO p q → pU (mZ pv s d p) (r5 pv s d q)
 | 0, p, q, h => by
   unfold mZ r5
   have h1 := (h.enter (s := s) (d := 33)).takeP (s := s) (l := [a8, bZ])
   exact EL (fun p q h => ⟨h, fun _ => rfl⟩) (fun p hd => ⟨hd, rfl, rfl⟩) h1
 | d + 1, p, q, h => by
   have h0 := h.enter (s := s) (d := 32 - d)
   have h1 := h0.takeP (s := s) (l := [a8, bZ])
   unfold mZ r5
   rw [← h0.takeT]
   cases takeT s [a8, bZ] (bU s (32 - d) p) with
   | some o =>
     have h2 := BD d _ _ h1
     exact ⟨h2.1, fun hd => by rw [h2.2 hd]⟩
   | none => exact EL (fun p q h => v6 (BD d) h) (fun p => y5 (fun p => uR d p) _ p) h1
theorem nO : bK pv s = vZ pv s := by
 unfold bK vZ
 by_cases hL : 1024 < s.length
 ·rw [if_pos hL, if_pos hL]
 rw [if_neg hL, if_neg hL]
 have h0 : kO ⟨0, 0, 0, false⟩ ⟨0, 0, 0⟩ := .inl ⟨rfl, rfl, rfl⟩
 obtain ⟨h1, h2⟩ := v6 (s := s) (BD (pv := pv) (s := s) 33) (d := 0) h0
 simp only
 generalize i6 s (mZ pv s 33) 0 ⟨0, 0, 0, false⟩ = A at h1 h2 ⊢
 generalize kV s (r5 pv s 33) 0 ⟨0, 0, 0⟩ = B at h1 h2 ⊢
 have hr := h1.rest (s := s)
 have key : kO (if A.2.restT s = [] then A.2.restP s else (A.2.restP s).fails 110 (A.2.restP s).i) (if (B.2.blanks s).i < s.length then (B.2.blanks s).fail 110 (B.2.blanks s).i else B.2.blanks s) := by
  cases hd : A.2.dead with
  | true =>
    have hdr : (A.2.restP s).dead = true := (dG s _).trans hd
    have hT : A.2.restT s = [] := by unfold Ps.restT; rw [if_pos hd]
    rw [if_pos hT]
    split
    ·have := hr.fails (e := 110) (by decide) (a := (A.2.restP s).i) (b := (B.2.blanks s).i) (fun h => by rw [hdr] at h; cases h)
     unfold Ps.fails at this
     rw [if_pos hdr] at this
     exact this
    ·exact hr
  | false =>
    have hdr : (A.2.restP s).dead = false := (dG s _).trans hd
    have hl := hr.live hdr
    have hT : A.2.restT s = s.drop (B.2.blanks s).i := by unfold Ps.restT; rw [if_neg (by simp [hd]), hl.2]
    rw [hT]
    by_cases hlt : (B.2.blanks s).i < s.length
    ·rw [if_pos hlt, if_neg (by simp; omega)]
     exact hr.fails (by decide) (fun _ => by rw [hl.2])
    ·rw [if_neg hlt, if_pos (by simp; omega)]
     exact hr
 have hdead : (if A.2.restT s = [] then A.2.restP s else (A.2.restP s).fails 110 (A.2.restP s).i).dead = false → A.1 = B.1 := by
  intro h
  refine h2 ?_
  cases hd : A.2.dead with
  | false => rfl
  | true =>
    exfalso
    have hdr : (A.2.restP s).dead = true := (dG s _).trans hd
    have hT : A.2.restT s = [] := by unfold Ps.restT; rw [if_pos hd]
    rw [if_pos hT, hdr] at h
    cases h
 generalize (if A.2.restT s = [] then A.2.restP s else (A.2.restP s).fails 110 (A.2.restP s).i) = a at key hdead ⊢
 generalize (if (B.2.blanks s).i < s.length then (B.2.blanks s).fail 110 (B.2.blanks s).i else B.2.blanks s) = b at key ⊢
 rcases key with ⟨k1, k2, k3⟩ | ⟨k1, k2, k3, k4⟩
 ·rw [if_neg (by simp [k1]), if_pos k2, hdead k1]
 ·rw [if_pos k1, if_neg k3, k2, k4]
end
end Go.KX
namespace Go.KX
abbrev TJ (c : UInt8) : Prop := 48 ≤ c.toNat ∧ c.toNat ≤ 57
def dM (a : Nat) (l : Bytes) : Nat := l.foldl (fun a c => a * 10 + (c.toNat - 48)) a
def L8 : Nat → Nat → Bytes
 | 0, n => [UInt8.ofNat (48 + n)]
 | k + 1, n => if n < 10 then [UInt8.ofNat (48 + n)] else L8 k (n / 10) ++ [UInt8.ofNat (48 + n % 10)]
def BE (n : Int) : Bytes :=
 let m := L8 16 (n.natAbs / 1000) ++ (if n.natAbs % 1000 = 0 then [] else 46 :: Lib.trimRightB ((L8 16 (1000 + n.natAbs % 1000)).drop 1) 48)
 if n < 0 then 45 :: m else m
def y6 (b : Bytes) : Nat :=
 let f := (b.dropWhile (fun c => c != 46)).drop 1
 dM 0 (b.takeWhile (fun c => c != 46) ++ (f ++ List.replicate (3 - f.length) 48))
def pK (s : Bytes) : Val := match s with
 | 45 :: r => aK (-(y6 r : Int))
 | s => aK (y6 s)
def aB (s : Bytes) : Val × Int :=
 if s = [110, 117, 108, 108] then (eI, 0) else if s = [78, 97, 78] then (fG, 0) else if s = [43, 73, 110, 102] then (fE, 0) else if s = [45, 73, 110, 102] then (eF, 0) else
 if (pK s).k = 1 ∧ BE (pK s).n = s then (pK s, 0) else (zeroV, 80)
theorem BF : ∀ (k n : Nat), n < 10 ^ (k + 1) → L8 k n = Lib.decDigits n
 | 0, n, h => by unfold L8; rw [Lib.decDigits_one (by simpa using h)]
 | k + 1, n, h => by
   unfold L8
   split
   ·rename_i h'; rw [Lib.decDigits_one h']
   ·rename_i h'
    rw [BF k (n / 10) (by rw [Nat.pow_succ] at h; omega)]
    conv => rhs; rw [Lib.decDigits]
    rw [dif_neg h']
theorem jW {w : Val} (hw : cE w = true) (hk : w.k = 1) : aG w = if w.n < 0 then 45 :: dP w.n.natAbs else dP w.n.natAbs := by
 unfold aG
 rw [if_neg (by simp [hw]), if_neg (by omega), if_neg (by omega), if_neg (by omega), if_neg (by omega)]
theorem L9 {n : Int} (h0 : -1000000000000000 ≤ n) (h1 : n ≤ 1000000000000000) : BE n = aG ⟨1, n⟩ := by
 rw [jW (by unfold cE; simp; omega) rfl]
 unfold BE
 rw [BF _ _ (by omega), BF _ _ (by omega)]
 rfl
theorem eC {d : Nat} (h : d < 10) : (UInt8.ofNat (48 + d)).toNat = 48 + d := by
 simp; omega
theorem nP (a : Nat) (x y : Bytes) : dM a (x ++ y) = dM (dM a x) y := by unfold dM; rw [List.foldl_append]
theorem wA (n : Nat) : dM 0 (Lib.decDigits n) = n := by
 induction n using Nat.strongRecOn with
 | _ n ih =>
   by_cases h : n < 10
   ·rw [Lib.decDigits_one h]; simp only [dM, List.foldl_cons, List.foldl_nil, eC h]; omega
   ·rw [Lib.decDigits, dif_neg h, nP, ih (n / 10) (by omega)]
    simp only [dM, List.foldl_cons, List.foldl_nil, eC (show n % 10 < 10 by omega)]
    omega
theorem qP (n : Nat) : ∀ c ∈ Lib.decDigits n, TJ c := by
 induction n using Nat.strongRecOn with
 | _ n ih =>
   by_cases h : n < 10
   ·rw [Lib.decDigits_one h]
    intro c hc
    simp only [List.mem_singleton] at hc
    subst hc
    have := eC h
    exact ⟨by omega, by omega⟩
   ·rw [Lib.decDigits, dif_neg h]
    intro c hc
    rcases List.mem_append.1 hc with hc | hc
    ·exact ih (n / 10) (by omega) c hc
    ·simp only [List.mem_singleton] at hc
     subst hc
     have := eC (show n % 10 < 10 by omega)
     exact ⟨by omega, by omega⟩
theorem pV : ∀ (k n : Nat), n < 10 ^ (k + 1) → (Lib.decDigits n).length ≤ k + 1
 | 0, n, h => by rw [Lib.decDigits_one (by simpa using h)]; simp
 | k + 1, n, h => by
   by_cases h10 : n < 10
   ·rw [Lib.decDigits_one h10]; simp
   ·rw [Lib.decDigits, dif_neg h10, List.length_append]
    have := pV k (n / 10) (by rw [Nat.pow_succ] at h; omega)
    simp; omega
theorem PL (n : Nat) : Lib.decDigits n ≠ [] := by
 by_cases h : n < 10
 ·rw [Lib.decDigits_one h]; simp
 ·rw [Lib.decDigits, dif_neg h]; simp
abbrev d3 (r : Nat) : Bytes := [UInt8.ofNat (48 + r / 100), UInt8.ofNat (48 + r / 10 % 10), UInt8.ofNat (48 + r % 10)]
theorem BG {r : Nat} (h : r < 1000) (a : Nat) : dM a (d3 r) = a * 1000 + r := by
 simp only [dM, List.foldl_cons, List.foldl_nil]
 rw [eC (show r / 100 < 10 by omega), eC (show r / 10 % 10 < 10 by omega), eC (show r % 10 < 10 by omega)]
 omega
theorem PM {r : Nat} (h : r < 1000) : ∀ c ∈ d3 r, TJ c := by
 intro c hc
 simp only [List.mem_cons, List.not_mem_nil, or_false] at hc
 have a1 := eC (show r / 100 < 10 by omega)
 have a2 := eC (show r / 10 % 10 < 10 by omega)
 have a3 := eC (show r % 10 < 10 by omega)
 rcases hc with rfl | rfl | rfl <;> exact ⟨by omega, by omega⟩
theorem y7 (c : UInt8) : ∀ l : Bytes, l = List.replicate (l.length - (l.dropWhile (· == c)).length) c ++ l.dropWhile (· == c)
 | [] => rfl
 | x :: r => by
   have ih := y7 c r
   unfold List.dropWhile
   by_cases h : (x == c) = true
   ·rw [h]
    have hx : x = c := by simpa using h
    have hle : (r.dropWhile (· == c)).length ≤ r.length := (List.dropWhile_sublist _).length_le
    simp only [List.length_cons]
    rw [show r.length + 1 - (r.dropWhile (· == c)).length = (r.length - (r.dropWhile (· == c)).length) + 1 by omega, List.replicate_succ, List.cons_append, ← ih, hx]
   ·rw [Bool.eq_false_iff.2 h]; simp
theorem PN (l : Bytes) : Lib.trimRightB l 48 ++ List.replicate (l.length - (Lib.trimRightB l 48).length) 48 = l := by
 have h := congrArg List.reverse (y7 48 l.reverse)
 simp only [List.reverse_append, List.reverse_replicate, List.reverse_reverse, List.length_reverse] at h
 unfold Lib.trimRightB
 rw [List.length_reverse]
 exact h.symm
theorem lS {n : Nat} : ∃ t : Bytes, t.length ≤ 3 ∧ dP n = Lib.decDigits (n / 1000) ++ (if t = [] then [] else 46 :: t) ∧ t ++ List.replicate (3 - t.length) 48 = d3 (n % 1000) ∧ ∀ c ∈ t, TJ c := by
 have hr : n % 1000 < 1000 := Nat.mod_lt _ (by decide)
 unfold dP pJ
 by_cases h0 : n % 1000 = 0
 ·refine ⟨[], by simp, by simp [h0], ?_, fun c hc => (by cases hc)⟩
  rw [h0]; rfl
 ·have e := PN (d3 (n % 1000))
  have hl : (d3 (n % 1000)).length = 3 := rfl
  rw [hl] at e
  have hne := BA h0 hr
  rw [HE hr] at hne
  refine ⟨Lib.trimRightB (d3 (n % 1000)) 48, ?_, ?_, e, fun c hc => ?_⟩
  ·have := vY (d3 (n % 1000)); rw [hl] at this; exact this
  ·rw [if_neg h0, if_neg hne, HE hr]
  ·refine PM hr c ?_
   rw [← e]
   exact List.mem_append_left _ hc
theorem PO {p : UInt8 → Bool} : ∀ {x : Bytes} (y : Bytes), (∀ c ∈ x, p c = true) → (x ++ y).takeWhile p = x ++ y.takeWhile p ∧ (x ++ y).dropWhile p = y.dropWhile p
 | [], y, _ => ⟨rfl, rfl⟩
 | c :: x, y, h => by
   obtain ⟨h1, h2⟩ := PO (x := x) y (fun d hd => h d (.tail _ hd))
   simp only [List.cons_append, List.takeWhile, List.dropWhile, h c (.head _), h1, h2, and_self]
theorem mI {c : UInt8} (h : TJ c) : (c != 46) = true ∧ c ≠ 45 ∧ c ≠ 46 := by
 refine ⟨?_, ?_, ?_⟩
 ·simp only [bne_iff_ne]; rintro rfl; exact absurd h.1 (by decide)
 ·rintro rfl; exact absurd h.1 (by decide)
 ·rintro rfl; exact absurd h.1 (by decide)
theorem y8 (n : Nat) : y6 (dP n) = n := by
 obtain ⟨t, h1, h2, h3, h4⟩ := lS (n := n)
 have hw := PO (p := fun c => c != 46) (x := Lib.decDigits (n / 1000)) (if t = [] then [] else 46 :: t) (fun c hc => (mI (qP _ c hc)).1)
 unfold y6
 rw [h2, hw.1, hw.2]
 have e : (((if t = [] then [] else 46 :: t : Bytes)).dropWhile (fun c => c != 46)).drop 1 = t ∧ ((if t = [] then [] else 46 :: t : Bytes)).takeWhile (fun c => c != 46) = [] := by
  split
  ·rename_i h; rw [h]; exact ⟨rfl, rfl⟩
  ·simp [List.dropWhile, List.takeWhile]
 simp only [e.1, e.2, List.append_nil, h3]
 rw [nP, wA, BG (Nat.mod_lt _ (by decide))]
 omega
theorem wB (n : Nat) : ∃ c r, dP n = c :: r ∧ TJ c := by
 obtain ⟨t, h1, h2, h3, h4⟩ := lS (n := n)
 cases hd : Lib.decDigits (n / 1000) with
 | nil => exact absurd hd (PL _)
 | cons c r => exact ⟨c, _, by rw [h2, hd]; rfl, qP (n / 1000) c (by rw [hd]; exact .head _)⟩
theorem qQ {n : Int} (h0 : -1000000000000000 ≤ n) (h1 : n ≤ 1000000000000000) : aK n = ⟨1, n⟩ := by
 unfold aK; rw [if_neg (by omega), if_neg (by omega)]
theorem PP {s : Bytes} {c : UInt8} {r : Bytes} (h : s = c :: r) (hc : c ≠ 45) : pK s = aK (y6 s) := by
 subst h
 unfold pK
 split
 ·rename_i he; injection he with e1 _; exact absurd e1 hc
 ·rfl
theorem HH {w : Val} (hw : cE w = true) (hk : w.k = 1) : pK (aG w) = w := by
 obtain ⟨k, n⟩ := w
 simp only at hk
 subst hk
 have hn := dL hw
 have hn : -1000000000000000 ≤ n ∧ n ≤ 1000000000000000 := by
  rcases hn with ⟨_, h1, h2⟩ | h | h | h | h
  ·exact ⟨h1, h2⟩
  all_goals cases h
 rw [jW hw rfl]
 by_cases h0 : n < 0
 ·rw [if_pos h0]
  show aK (-(y6 (dP n.natAbs) : Int)) = _
  rw [y8, qQ (by omega) (by omega)]
  congr 1; omega
 ·rw [if_neg h0]
  obtain ⟨c, r, hm, hc⟩ := wB n.natAbs
  simp only
  rw [PP hm (mI hc).2.1, y8, qQ (by omega) (by omega)]
  congr 1; omega
theorem qR (s : Bytes) : cE (pK s) = true := by unfold pK; split <;> exact uN _
theorem nQ {v : Val} (h : cE v = true) (hk : v.k = 1) : -1000000000000000 ≤ v.n ∧ v.n ≤ 1000000000000000 := by
 rcases dL h with ⟨_, h1, h2⟩ | rfl | rfl | rfl | rfl
 ·exact ⟨h1, h2⟩
 all_goals cases hk
theorem pW {v : Val} (h : cE v = true) (hk : v.k = 1) : BE v.n = aG v := by
 obtain ⟨h1, h2⟩ := nQ h hk
 rw [L9 h1 h2]
 obtain ⟨k, n⟩ := v
 simp only at hk
 subst hk; rfl
def MA (s : Bytes) (v : Val) : Prop := cE v = true ∧ v.k = 1 ∧ aG v = s
theorem y9 {s : Bytes} {r : Val × Int} (h4 : s ≠ [110, 117, 108, 108] ∧ s ≠ [78, 97, 78] ∧ s ≠ [43, 73, 110, 102] ∧ s ≠ [45, 73, 110, 102]) (hr : (∃ v, MA s v ∧ r = (v, 0)) ∨ ((∀ v, ¬ MA s v) ∧ r = (zeroV, 80))) : aB s = r := by
 unfold aB
 rw [if_neg h4.1, if_neg h4.2.1, if_neg h4.2.2.1, if_neg h4.2.2.2]
 rcases hr with ⟨v, ⟨h1, h2, h3⟩, rfl⟩ | ⟨h, rfl⟩
 ·have e : pK s = v := by rw [← h3]; exact HH h1 h2
  rw [e, if_pos ⟨h2, by rw [pW h1 h2]; exact h3⟩]
 ·rw [if_neg]
  rintro ⟨h1, h2⟩
  exact h (pK s) ⟨qR s, h1, by rw [← pW (qR s) h1]; exact h2⟩
theorem MC {s : Bytes} (h : (aB s).2 = 0) : cE (aB s).1 = true ∧ aG (aB s).1 = s := by
 unfold aB at h ⊢
 repeat' split at h
 all_goals first
  | (rename_i h1; subst h1; exact ⟨by decide, by decide⟩)
  | (rename_i h1; rw [if_neg ‹_›, if_neg ‹_›, if_neg ‹_›, if_neg ‹_›, if_pos h1]; exact ⟨qR s, by rw [← pW (qR s) h1.1]; exact h1.2⟩)
  | cases h
abbrev HI : Nat := 4611686018427387903
theorem index_hit : ∀ {x : Bytes} (t : Bytes), (∀ c ∈ x, c ≠ 46) → Lib.index (x ++ 46 :: t) [46] = x.length
 | [], t, _ => by rw [List.nil_append, Lib.index_one]; simp [Lib.indexByte]
 | c :: x, t, h => by
   have ih := index_hit (x := x) t (fun d hd => h d (.tail _ hd))
   have hc := h c (.head _)
   rw [Lib.index_one] at ih ⊢
   rw [List.cons_append]
   unfold Lib.indexByte
   simp [hc, ih]
   try omega
theorem wC : ∀ {x : Bytes}, (∀ c ∈ x, c ≠ 46) → Lib.index x [46] = -1
 | [], _ => by rw [Lib.index_one]; rfl
 | c :: x, h => by
   have ih := wC (x := x) (fun d hd => h d (.tail _ hd))
   have hc := h c (.head _)
   rw [Lib.index_one] at ih ⊢
   unfold Lib.indexByte
   simp [hc, ih]
theorem JD {x t : Bytes} (hx : ∀ c ∈ x, c ≠ 46) : Lib.cut (x ++ (if t = [] then [] else 46 :: t)) [46] = (x, t, !decide (t = [])) := by
 unfold Lib.cut
 by_cases h : t = []
 ·subst h
  simp only [if_true, List.append_nil]
  rw [wC hx, if_neg (by decide)]
  rfl
 ·rw [if_neg h, index_hit t hx, if_pos (by omega)]
  simp [h]
theorem zA : ∀ (l : Bytes) (a : Nat), (∀ c ∈ l, TJ c) → dM a l ≤ 99999999999999999 → Lib.parseUintM HI a l = .ok (dM a l)
 | [], a, _, _ => rfl
 | c :: l, a, h, hb => by
   have hc := h c (.head _)
   have mono : ∀ (l : Bytes) (a : Nat), a ≤ dM a l := by
    intro l
    induction l with
    | nil => intro a; exact Nat.le_refl _
    | cons c l ih => intro a; exact Nat.le_trans (by omega) (ih (a * 10 + (c.toNat - 48)))
   have hb' : dM (a * 10 + (c.toNat - 48)) l ≤ 99999999999999999 := hb
   have h2 := mono l (a * 10 + (c.toNat - 48))
   unfold Lib.parseUintM
   rw [if_pos hc, if_neg (by omega), if_neg (by show ¬ 4611686018427387903 < _; omega)]
   exact zA l _ (fun d hd => h d (.tail _ hd)) hb'
def wE (s : Bytes) : Val × Int :=
 if s = [110, 117, 108, 108] then (eI, 0) else if s = [78, 97, 78] then (fG, 0) else if s = [43, 73, 110, 102] then (fE, 0) else if s = [45, 73, 110, 102] then (eF, 0) else
 let c := Lib.cut (Lib.trimPrefix s [45]) [46]
 if c.2.1.length ≤ 3 ∧ c.1.length ≤ 13 then
  match Lib.parseUintM HI 0 (c.1 ++ c.2.1 ++ Lib.repeatL [48] (3 - c.2.1.length)) with
  | .ok n => if (aK (if Lib.hasPrefix s [45] then -(n : Int) else n)).k = 1 ∧ aG (aK (if Lib.hasPrefix s [45] then -(n : Int) else n)) = s then (aK (if Lib.hasPrefix s [45] then -(n : Int) else n), 0) else (zeroV, 80)
  | _ => (zeroV, 80)
 else (zeroV, 80)
theorem UK (k : Nat) : Lib.repeatL [48] k = List.replicate k 48 := by
 have := Lib.repeatL_replicate 48 1 k
 simpa using this
theorem HJ {s : Bytes} {w : Val} (hp : MA s w) : Lib.hasPrefix s [45] = decide (w.n < 0) ∧ ∃ x t : Bytes, x.length ≤ 13 ∧ t.length ≤ 3 ∧ Lib.cut (Lib.trimPrefix s [45]) [46] = (x, t, !decide (t = [])) ∧ Lib.parseUintM HI 0 (x ++ t ++ Lib.repeatL [48] (3 - t.length)) = .ok w.n.natAbs := by
 obtain ⟨hw, hk, rfl⟩ := hp
 obtain ⟨b0, b1⟩ := nQ hw hk
 obtain ⟨t, h1, h2, h3, h4⟩ := lS (n := w.n.natAbs)
 have hnot : ∀ c ∈ Lib.decDigits (w.n.natAbs / 1000), c ≠ 46 := fun c hc => (mI (qP _ c hc)).2.2
 have hu : Lib.parseUintM HI 0 (Lib.decDigits (w.n.natAbs / 1000) ++ t ++ Lib.repeatL [48] (3 - t.length)) = .ok w.n.natAbs := by
  rw [UK, List.append_assoc, h3]
  have hval : dM 0 (Lib.decDigits (w.n.natAbs / 1000) ++ d3 (w.n.natAbs % 1000)) = w.n.natAbs := by
   rw [nP, wA, BG (Nat.mod_lt _ (by decide))]; omega
  rw [zA _ _ (fun c hc => ?_) (by rw [hval]; omega), hval]
  rcases List.mem_append.1 hc with hc | hc
  ·exact qP _ c hc
  ·exact PM (Nat.mod_lt _ (by decide)) c hc
 have hlen : (Lib.decDigits (w.n.natAbs / 1000)).length ≤ 13 := pV 12 _ (by omega)
 rw [jW hw hk]
 by_cases h0 : w.n < 0
 ·rw [if_pos h0]
  refine ⟨by simp [Lib.hasPrefix, h0], Lib.decDigits (w.n.natAbs / 1000), t, hlen, h1, ?_, hu⟩
  have : Lib.trimPrefix (45 :: dP w.n.natAbs) [45] = dP w.n.natAbs := by simp [Lib.trimPrefix, Lib.hasPrefix]
  rw [this, h2, JD hnot]
 ·rw [if_neg h0]
  obtain ⟨c, r, hm, hc⟩ := wB w.n.natAbs
  have hpre : Lib.hasPrefix (dP w.n.natAbs) [45] = false := by
   rw [hm]
   have := (mI hc).2.1
   simp only [Lib.hasPrefix, List.isPrefixOf, Bool.and_eq_false_iff, beq_eq_false_iff_ne]
   exact .inl (Ne.symm this)
  refine ⟨by rw [hpre]; simp [h0], Lib.decDigits (w.n.natAbs / 1000), t, hlen, h1, ?_, hu⟩
  have : Lib.trimPrefix (dP w.n.natAbs) [45] = dP w.n.natAbs := by unfold Lib.trimPrefix; rw [hpre]; rfl
  rw [this, h2, JD hnot]
theorem HK (n : Int) : (if decide (n < 0) = true then -(n.natAbs : Int) else (n.natAbs : Int)) = n := by
 split
 ·rename_i h; have := of_decide_eq_true h; omega
 ·rename_i h; have : ¬ n < 0 := by simpa using h
  omega
theorem PQ (s : Bytes) : wE s = aB s := by
 by_cases h1 : s = [110, 117, 108, 108]
 ·unfold wE aB; rw [if_pos h1, if_pos h1]
 by_cases h2 : s = [78, 97, 78]
 ·unfold wE aB; rw [if_neg h1, if_neg h1, if_pos h2, if_pos h2]
 by_cases h3 : s = [43, 73, 110, 102]
 ·unfold wE aB; rw [if_neg h1, if_neg h1, if_neg h2, if_neg h2, if_pos h3, if_pos h3]
 by_cases h4 : s = [45, 73, 110, 102]
 ·unfold wE aB; rw [if_neg h1, if_neg h1, if_neg h2, if_neg h2, if_neg h3, if_neg h3, if_pos h4, if_pos h4]
 refine (y9 ⟨h1, h2, h3, h4⟩ ?_).symm
 unfold wE
 rw [if_neg h1, if_neg h2, if_neg h3, if_neg h4]
 by_cases hw : ∃ w, MA s w
 ·obtain ⟨w, hw⟩ := hw
  obtain ⟨e1, x, t, l1, l2, e2, e3⟩ := HJ hw
  refine .inl ⟨w, hw, ?_⟩
  simp only [e2, if_pos (show t.length ≤ 3 ∧ x.length ≤ 13 from ⟨l2, l1⟩), e3, e1, HK]
  have hb := nQ hw.1 hw.2.1
  have e4 : aK w.n = w := by
   rw [qQ hb.1 hb.2]
   obtain ⟨k, n⟩ := w
   have := hw.2.1
   simp only at this
   subst this; rfl
  rw [e4, if_pos ⟨hw.2.1, hw.2.2⟩]
 ·refine .inr ⟨fun v hv => hw ⟨v, hv⟩, ?_⟩
  simp only
  split
  ·split
   ·rw [if_neg]
    rintro ⟨g1, g2⟩
    exact hw ⟨_, uN _, g1, g2⟩
   ·rfl
  ·rfl
def dN : Bool → Int → Int → Bytes → Option (Int × Int)
 | _, n, left, [] => some (n, left)
 | first, n, left, c :: r => if c = 45 ∧ first = true then dN false n left r else if c = 46 ∧ left < 0 then dN false n 3 r else
   if 48 ≤ c.toNat ∧ c.toNat ≤ 57 ∧ left ≠ 0 ∧ n ≤ 1000000000000000 then dN false (10 * n + ((c.toNat : Int) - 48)) (if 0 < left then left - 1 else left) r else none
theorem lT (first : Bool) (n left : Int) (c : UInt8) (r : Bytes) : dN first n left (c :: r) = if c = 45 ∧ first = true then dN false n left r else if c = 46 ∧ left < 0 then dN false n 3 r else
 if 48 ≤ c.toNat ∧ c.toNat ≤ 57 ∧ left ≠ 0 ∧ n ≤ 1000000000000000 then dN false (10 * n + ((c.toNat : Int) - 48)) (if 0 < left then left - 1 else left) r else none := by
 conv => lhs; unfold dN
def i8 : Nat → Int → Int → Int × Int
 | 0, n, left => (n, left)
 | k + 1, n, left => if 0 < left ∧ n ≤ 1000000000000000 then i8 k (10 * n) (left - 1) else (n, left)
def HL (s : Bytes) : Val × Int :=
 if s = [110, 117, 108, 108] then (eI, 0) else if s = [78, 97, 78] then (fG, 0) else if s = [43, 73, 110, 102] then (fE, 0) else if s = [45, 73, 110, 102] then (eF, 0) else
 if 20 < s.length then (zeroV, 80) else
 match dN true 0 (-1) s with
 | none => (zeroV, 80)
 | some (n, left) =>
   let p := i8 3 n (if left < 0 then 3 else left)
   let v := aK (if s.head? = some 45 then -p.1 else p.1)
   if 0 < p.2 ∨ v.k ≠ 1 ∨ aG v ≠ s then (zeroV, 80) else (v, 0)
theorem PR (l : Bytes) : ∀ (n : Nat) (f : Bool) (r : Bytes), (∀ c ∈ l, TJ c) → dM n l ≤ 1000000000000000 → dN f n (-1) (l ++ r) = dN (f && l.isEmpty) (dM n l : Int) (-1) r := by
 induction l with
 | nil => intro n f r _ _; simp [dM]
 | cons c l ih =>
   intro n f r h hb
   have hc := h c (.head _)
   have hn := mI hc
   have mono : ∀ (l : Bytes) (a : Nat), a ≤ dM a l := by
    intro l
    induction l with
    | nil => intro a; exact Nat.le_refl _
    | cons c l ih => intro a; exact Nat.le_trans (by omega) (ih (a * 10 + (c.toNat - 48)))
   have hb' : dM (n * 10 + (c.toNat - 48)) l ≤ 1000000000000000 := hb
   have h2 := mono l (n * 10 + (c.toNat - 48))
   rw [List.cons_append, lT, if_neg (fun h => hn.2.1 h.1), if_neg (fun h => hn.2.2 h.1), if_pos ⟨hc.1, hc.2, by decide, by omega⟩, if_neg (by decide)]
   have e : (10 * (n : Int) + ((c.toNat : Int) - 48)) = ((n * 10 + (c.toNat - 48) : Nat) : Int) := by omega
   rw [e, ih _ false r (fun d hd => h d (.tail _ hd)) hb']
   simp [dM]
theorem MD (l : Bytes) : ∀ (n : Nat) (k : Nat), l.length ≤ k → (∀ c ∈ l, TJ c) → dM n l ≤ 1000000000000000 → dN false n k l = some ((dM n l : Int), ((k - l.length : Nat) : Int)) := by
 induction l with
 | nil => intro n k _ _ _; simp [dN, dM]
 | cons c l ih =>
   intro n k hk h hb
   have hc := h c (.head _)
   have hn := mI hc
   have mono : ∀ (l : Bytes) (a : Nat), a ≤ dM a l := by
    intro l
    induction l with
    | nil => intro a; exact Nat.le_refl _
    | cons c l ih => intro a; exact Nat.le_trans (by omega) (ih (a * 10 + (c.toNat - 48)))
   have hb' : dM (n * 10 + (c.toNat - 48)) l ≤ 1000000000000000 := hb
   have h2 := mono l (n * 10 + (c.toNat - 48))
   have hk' : l.length + 1 ≤ k := by simpa using hk
   rw [lT, if_neg (fun h => hn.2.1 h.1), if_neg (fun h => hn.2.2 h.1), if_pos ⟨hc.1, hc.2, by omega, by omega⟩, if_pos (by omega)]
   have e : (10 * (n : Int) + ((c.toNat : Int) - 48)) = ((n * 10 + (c.toNat - 48) : Nat) : Int) := by omega
   have e2 : ((k : Int) - 1) = ((k - 1 : Nat) : Int) := by omega
   rw [e, e2, ih _ (k - 1) (by omega) (fun d hd => h d (.tail _ hd)) hb']
   simp only [List.length_cons]
   rw [show k - 1 - l.length = k - (l.length + 1) by omega]
   rfl
theorem wF : ∀ (k n : Nat), dM n (List.replicate k 48) ≤ 1000000000000000 → ∀ j, k ≤ j → i8 j n k = (((dM n (List.replicate k 48) : Nat) : Int), 0)
 | 0, n, _, j, _ => by
   cases j with
   | zero => rfl
   | succ j => unfold i8; rw [if_neg (by omega)]; rfl
 | k + 1, n, hb, j, hj => by
   have mono : ∀ (l : Bytes) (a : Nat), a ≤ dM a l := by
    intro l
    induction l with
    | nil => intro a; exact Nat.le_refl _
    | cons c l ih => intro a; exact Nat.le_trans (by omega) (ih (a * 10 + (c.toNat - 48)))
   have e0 : dM n (List.replicate (k + 1) 48) = dM (n * 10) (List.replicate k 48) := by
    rw [List.replicate_succ]; simp [dM]
   rw [e0] at hb ⊢
   have h2 := mono (List.replicate k 48) (n * 10)
   obtain ⟨j, rfl⟩ : ∃ i, j = i + 1 := ⟨j - 1, by omega⟩
   unfold i8
   rw [if_pos ⟨by omega, by omega⟩]
   have e : 10 * (n : Int) = ((n * 10 : Nat) : Int) := by omega
   have e2 : ((k + 1 : Nat) : Int) - 1 = (k : Int) := by omega
   rw [e, e2, wF k (n * 10) hb j (by omega)]
theorem JE {m : Nat} (hm : m ≤ 1000000000000000) (f : Bool) : ∃ n left, dN f 0 (-1) (dP m) = some (n, left) ∧ i8 3 n (if left < 0 then 3 else left) = ((m : Int), 0) := by
 obtain ⟨t, h1, h2, h3, h4⟩ := lS (n := m)
 have mono : ∀ (l : Bytes) (a : Nat), a ≤ dM a l := by
  intro l
  induction l with
  | nil => intro a; exact Nat.le_refl _
  | cons c l ih => intro a; exact Nat.le_trans (by omega) (ih (a * 10 + (c.toNat - 48)))
 have hfull : dM (m / 1000) (d3 (m % 1000)) = m := by rw [BG (Nat.mod_lt _ (by decide))]; omega
 have hq : dM 0 (Lib.decDigits (m / 1000)) = m / 1000 := wA _
 have hfirst := PR (Lib.decDigits (m / 1000)) 0 f (if t = [] then [] else 46 :: t) (qP _) (by rw [hq]; omega)
 rw [h2]
 rw [hq] at hfirst
 have hne : (Lib.decDigits (m / 1000)).isEmpty = false := by cases h : Lib.decDigits (m / 1000) with
  | nil => exact absurd h (PL _)
  | cons _ _ => rfl
 rw [hne, Bool.and_false] at hfirst
 have hfirst : dN f 0 (-1) (Lib.decDigits (m / 1000) ++ (if t = [] then [] else 46 :: t)) = dN false ((m / 1000 : Nat) : Int) (-1) (if t = [] then [] else 46 :: t) := hfirst
 by_cases ht : t = []
 ·subst ht
  refine ⟨((m / 1000 : Nat) : Int), -1, ?_, ?_⟩
  ·simpa [dN] using hfirst
  ·rw [if_pos (by decide)]
   have h5 : List.replicate 3 48 = d3 (m % 1000) := by simpa using h3
   have := wF 3 (m / 1000) (by rw [h5, hfull]; exact hm) 3 (Nat.le_refl _)
   rw [h5, hfull] at this
   exact this
 ·rw [if_neg ht] at hfirst
  have hmid : dN false ((m / 1000 : Nat) : Int) (-1) (46 :: t) = dN false ((m / 1000 : Nat) : Int) 3 t := by
   rw [lT, if_neg (by decide), if_pos ⟨rfl, by decide⟩]
  have hbt : dM (m / 1000) t ≤ 1000000000000000 := by
   have := mono (List.replicate (3 - t.length) 48) (dM (m / 1000) t)
   rw [← nP, h3, hfull] at this
   omega
  have hfr := MD t (m / 1000) 3 h1 h4 hbt
  refine ⟨((dM (m / 1000) t : Nat) : Int), ((3 - t.length : Nat) : Int), ?_, ?_⟩
  ·rw [if_neg ht, hfirst, hmid]; exact hfr
  ·rw [if_neg (by omega)]
   have e5 : dM (dM (m / 1000) t) (List.replicate (3 - t.length) 48) = m := by rw [← nP, h3, hfull]
   have := wF (3 - t.length) (dM (m / 1000) t) (by rw [e5]; exact hm) 3 (by omega)
   rw [e5] at this
   exact this
theorem EM {s : Bytes} {w : Val} (hp : MA s w) : s.length ≤ 20 := by
 obtain ⟨hw, hk, rfl⟩ := hp
 obtain ⟨b0, b1⟩ := nQ hw hk
 obtain ⟨t, h1, h2, h3, h4⟩ := lS (n := w.n.natAbs)
 have hlen : (Lib.decDigits (w.n.natAbs / 1000)).length ≤ 13 := pV 12 _ (by omega)
 have hm : (dP w.n.natAbs).length ≤ 17 := by
  rw [h2, List.length_append]
  split <;> simp <;> omega
 rw [jW hw hk]
 split
 ·simp; omega
 ·omega
theorem UL (s : Bytes) : HL s = aB s := by
 by_cases h1 : s = [110, 117, 108, 108]
 ·unfold HL aB; rw [if_pos h1, if_pos h1]
 by_cases h2 : s = [78, 97, 78]
 ·unfold HL aB; rw [if_neg h1, if_neg h1, if_pos h2, if_pos h2]
 by_cases h3 : s = [43, 73, 110, 102]
 ·unfold HL aB; rw [if_neg h1, if_neg h1, if_neg h2, if_neg h2, if_pos h3, if_pos h3]
 by_cases h4 : s = [45, 73, 110, 102]
 ·unfold HL aB; rw [if_neg h1, if_neg h1, if_neg h2, if_neg h2, if_neg h3, if_neg h3, if_pos h4, if_pos h4]
 refine (y9 ⟨h1, h2, h3, h4⟩ ?_).symm
 unfold HL
 rw [if_neg h1, if_neg h2, if_neg h3, if_neg h4]
 by_cases hw : ∃ w, MA s w
 ·obtain ⟨w, hw⟩ := hw
  refine .inl ⟨w, hw, ?_⟩
  rw [if_neg (by have := EM hw; omega)]
  have hb := nQ hw.1 hw.2.1
  have hs := jW hw.1 hw.2.1
  rw [hw.2.2] at hs
  have hwv : (⟨1, w.n⟩ : Val) = w := by
   obtain ⟨k, n⟩ := w
   have := hw.2.1
   simp only at this
   subst this; rfl
  have fin : ∀ n left, dN true 0 (-1) s = some (n, left) → i8 3 n (if left < 0 then 3 else left) = ((w.n.natAbs : Int), 0) → s.head? = (if w.n < 0 then some 45 else s.head?) → (¬ w.n < 0 → s.head? ≠ some 45) →
   (match dN true 0 (-1) s with
   | none => (zeroV, 80)
   | some (n, left) =>
     let p := i8 3 n (if left < 0 then 3 else left)
     let v := aK (if s.head? = some 45 then -p.1 else p.1)
     if 0 < p.2 ∨ v.k ≠ 1 ∨ aG v ≠ s then (zeroV, 80) else (v, 0)) = (w, (0 : Int)) := by
   intro n left g1 g2 g3 g4
   rw [g1]
   simp only [g2]
   have e : (if s.head? = some 45 then -((w.n.natAbs : Nat) : Int) else ((w.n.natAbs : Nat) : Int)) = w.n := by
    by_cases h0 : w.n < 0
    ·rw [if_pos h0] at g3; rw [if_pos g3]; omega
    ·rw [if_neg (g4 h0)]; omega
   rw [e, qQ hb.1 hb.2, hwv, if_neg]
   rintro (h | h | h)
   ·omega
   ·exact h hw.2.1
   ·exact h hw.2.2
  by_cases h0 : w.n < 0
  ·rw [if_pos h0] at hs
   obtain ⟨n, left, g1, g2⟩ := JE (m := w.n.natAbs) (by omega) false
   refine fin n left ?_ g2 (by rw [if_pos h0, hs]; rfl) (fun h => absurd h0 h)
   rw [hs]
   rw [lT, if_pos ⟨rfl, rfl⟩]
   exact g1
  ·rw [if_neg h0] at hs
   obtain ⟨n, left, g1, g2⟩ := JE (m := w.n.natAbs) (by omega) true
   refine fin n left (by rw [hs]; exact g1) g2 (by rw [if_neg h0]) (fun _ => ?_)
   obtain ⟨c, r, hm, hc⟩ := wB w.n.natAbs
   rw [hs, hm]
   intro h
   simp at h
   exact (mI hc).2.1 h
 ·refine .inr ⟨fun v hv => hw ⟨v, hv⟩, ?_⟩
  split
  ·rfl
  ·split
   ·rfl
   ·rename_i n left _
    simp only
    by_cases hx : 0 < (i8 3 n (if left < 0 then 3 else left)).2 ∨ (aK (if s.head? = some 45 then -(i8 3 n (if left < 0 then 3 else left)).1 else (i8 3 n (if left < 0 then 3 else left)).1)).k ≠ 1 ∨ aG (aK (if s.head? = some 45 then -(i8 3 n (if left < 0 then 3 else left)).1 else (i8 3 n (if left < 0 then 3 else left)).1)) ≠ s
    ·rw [if_pos hx]
    ·exfalso
     have hx2 := not_or.1 (not_or.1 hx).2
     exact hw ⟨_, uN _, Decidable.of_not_not hx2.1, Decidable.of_not_not hx2.2⟩
section
variable {X : Kx} {k : List It} {L : SL} {M : SM} {fs : List MF} {own : List aH} {arr : Array Oper} {l : List Oper} {o : Oper}
theorem bld {tb : TT} (hT : tb.Ok X.P) (m : Nat) (H : List (List SV)) {d T : Nat} {parts : Array (Nat × Operand)} (cp : Array (Nat × Value)) (v : Value) {l' L' M' φ} (hr : ∀ w, (Instr.build T cp).run X.P w = .ok v w) (hk : ES X arr l' k L' M' fs own) (ho : o.op = .build T parts := by rfl) (hc : ∀ a : Act, parts.map (fun p => (p.1, a.eval p.2)) = cp := by intro a; first | rfl | (simp; rfl) | (simp; done) | (simp; repeat' (first | exact rfl | constructor)))
 (hg : o.guard = none := by rfl) (hd : o.dst = some d := by rfl) (hn : Nat.blt d X.n = true := by rfl) (hrn : iY tb X.n arr m H l ((d, .v v) :: L) M [] = some (l', L', M', φ) := by rfl) (hφ : aE φ := by first | trivial | omega | (simp +contextual [aE]; done) | (simp +contextual [aE, *]; done) | (simp +contextual [aE, *] <;> omega)) : ES X arr (o :: l) k L M fs own := by
 have hG : gS arr (aF L) o = some none := by unfold gS; rw [hg]
 refine cP (bT (sv := .v v) hG hd hn (fun L' hL hon g a ρ ms st => ⟨v, ?_, .v⟩)) ?_
 ·have := hr g.w
  rw [← hc a] at this
  simp only [execOp, ho]
  simp [this]
 ·rw [hd]
  exact go hT m H hk hrn hφ
theorem ixa {tb : TT} (hT : tb.Ok X.P) (m : Nat) (H : List (List SV)) {d T : Nat} {x ix : Operand} {vx vz r : Value} (sv : SV) {l' L' M' φ} (hr : ∀ w, (Instr.index T vx vz).run X.P w = .ok r w) (hs : ∀ g ρ, bC g ρ sv r) (hk : ES X arr l' k L' M' fs own) (ho : o.op = .index T x ix := by rfl)
 (hx : cO (aF L) x = some (.v vx) := by rfl) (hz : cO (aF L) ix = some (.v vz) := by rfl) (hg : o.guard = none := by rfl) (hd : o.dst = some d := by rfl) (hn : Nat.blt d X.n = true := by rfl) (hrn : iY tb X.n arr m H l ((d, sv) :: L) M [] = some (l', L', M', φ) := by rfl)
 (hφ : aE φ := by first | trivial | omega | (simp +contextual [aE]; done) | (simp +contextual [aE, *]; done) | (simp +contextual [aE, *] <;> omega)) : ES X arr (o :: l) k L M fs own := by
 have hG : gS arr (aF L) o = some none := by unfold gS; rw [hg]
 refine cP (bT (sv := sv) hG hd hn (fun L' hL hon g a ρ ms st => ⟨r, ?_, hs g ρ⟩)) ?_
 ·have hSl : Sl X ρ L' a g := st.all _ (.tail _ (.head _))
  have hev : evs (aF L') [x, ix] = some [.v vx, .v vz] := by
   have := aW hL
   rw [show o.op.operands.toList = [x, ix] by rw [ho]; rfl] at this
   rw [this]
   simp only [evs, hx, hz]
  obtain ⟨_, _, e1, dx, hr1⟩ := (aT hSl.val hev).uncons
  obtain ⟨_, _, e2, dy, _⟩ := hr1.uncons
  simp only [List.map_cons, List.cons.injEq] at e1
  obtain ⟨rfl, rfl⟩ := e1
  simp only [List.cons.injEq] at e2
  obtain ⟨rfl, _⟩ := e2
  simp only [execOp, ho, eH dx, eH dy]
  simp [hr g.w]
 ·rw [hd]
  exact go hT m H hk hrn hφ
end
section
variable {X : Kx} {k : List It} {L : SL} {M : SM} {fs : List MF} {own : List aH} {arr : Array Oper} {l : List Oper} {o : Oper}
theorem kn2 {tb : TT} (hT : tb.Ok X.P) (m : Nat) (H : List (List SV)) {d T yT : Nat} {op : BinOp} {x y : Operand} {vx vy : Value} (v : Value) {l' L' M' φ} (hr : ∀ w, (binOp op T vx vy).run X.P w = .ok v w) (hk : ES X arr l' k L' M' fs own) (ho : o.op = .binOp op T x y yT := by rfl)
 (hx : cO (aF L) x = some (.v vx) := by rfl) (hy : cO (aF L) y = some (.v vy) := by rfl) (he : ∀ w, (eqGuard op T x y vx vy).run X.P w = .ok () w := by intro w; rfl)
 (hg : o.guard = none := by rfl) (hd : o.dst = some d := by rfl) (hn : Nat.blt d X.n = true := by rfl) (hrn : iY tb X.n arr m H l ((d, .v v) :: L) M [] = some (l', L', M', φ) := by rfl)
 (hφ : aE φ := by first | trivial | omega | (simp +contextual [aE]; done) | (simp +contextual [aE, *]; done) | (simp +contextual [aE, *] <;> omega)) : ES X arr (o :: l) k L M fs own := by
 have hG : gS arr (aF L) o = some none := by unfold gS; rw [hg]
 refine cP (bT (sv := .v v) hG hd hn (fun L' hL hon g a ρ ms st => ⟨v, ?_, .v⟩)) ?_
 ·have hSl : Sl X ρ L' a g := st.all _ (.tail _ (.head _))
  have hev : evs (aF L') [x, y] = some [.v vx, .v vy] := by
   have := aW hL
   rw [show o.op.operands.toList = [x, y] by rw [ho]; rfl] at this
   rw [this]
   simp only [evs, hx, hy]
  obtain ⟨_, _, e1, dx, hr1⟩ := (aT hSl.val hev).uncons
  obtain ⟨_, _, e2, dy, _⟩ := hr1.uncons
  simp only [List.map_cons, List.cons.injEq] at e1
  obtain ⟨rfl, rfl⟩ := e1
  simp only [List.cons.injEq] at e2
  obtain ⟨rfl, _⟩ := e2
  simp only [execOp, ho, eH dx, eH dy]
  simp [hr g.w, he g.w]
 ·rw [hd]
  exact go hT m H hk hrn hφ
theorem Z6 {tb : TT} (hT : tb.Ok X.P) (m : Nat) (H : List (List SV)) (ne : Bool) {d T yT : Nat} {x : Operand} {l' L' M' φ} (hu : X.P.underlying T = some (.interface (X.P.methodsAt T))) (hk : ES X arr l' k L' M' fs own) (ho : o.op = .binOp (O7 ne) T x (.const .nilIface) yT := by rfl)
 (hx : cO (aF L) x = some .ni := by rfl) (hg : o.guard = none := by rfl) (hd : o.dst = some d := by rfl) (hn : Nat.blt d X.n = true := by rfl) (hrn : iY tb X.n arr m H l ((d, .v (.bool ne)) :: L) M [] = some (l', L', M', φ) := by rfl)
 (hφ : aE φ := by first | trivial | omega | (simp +contextual [aE]; done) | (simp +contextual [aE, *]; done) | (simp +contextual [aE, *] <;> omega)) : ES X arr (o :: l) k L M fs own := by
 have hG : gS arr (aF L) o = some none := by unfold gS; rw [hg]
 refine cP (bT (sv := .v (.bool ne)) hG hd hn (fun L' hL hon g a ρ ms st => ⟨.bool ne, ?_, .v⟩)) ?_
 ·have hSl : Sl X ρ L' a g := st.all _ (.tail _ (.head _))
  have hev : evs (aF L') [x, .const .nilIface] = some [.ni, .v .nilIface] := by
   have := aW hL
   rw [show o.op.operands.toList = [x, .const .nilIface] by rw [ho]; cases ne <;> rfl] at this
   rw [this]
   simp only [evs, hx]
   rfl
  obtain ⟨_, _, e1, dx, hr1⟩ := (aT hSl.val hev).uncons
  simp only [List.map_cons, List.cons.injEq] at e1
  obtain ⟨rfl, _⟩ := e1
  have e2 : a.eval (.const .nilIface) = .nilIface := rfl
  generalize hax : a.eval x = vx at dx
  cases dx with
  | ni =>
    cases ne with
    | true =>
      simp only [O7] at ho
      simp only [execOp, ho, hax, e2]
      simp [eqGuard, run_neq_held_nil, hu]
    | false =>
      simp only [O7] at ho
      simp only [execOp, ho, hax, e2]
      simp [eqGuard, run_eql_held_nil, hu]
 ·rw [hd]
  exact go hT m H hk hrn hφ
end
def rn1 (i : Nat) : SV → Option SV
 | .l k off => match Nat.beq i k with
   | true => some (.l 1000 off)
   | false => none
 | .o k n => match Nat.beq i k with
   | true => some (.o 1000 n)
   | false => none
 | sv => match TF sv with
   | true => some sv
   | false => none
def bk (i : Nat) : SV → Option SV
 | .l k off => match Nat.beq k 1000 with
   | true => some (.l i off)
   | false => none
 | .o k n => match Nat.beq k 1000 with
   | true => some (.o i n)
   | false => none
 | sv => match TF sv with
   | true => some sv
   | false => none
theorem Z7 {g : GW} {ρ : Nat → Lc} {i : Nat} {sv sv' : SV} {x : Value} (h : bk i sv = some sv') (hd : bC g (fun j => if j = 1000 then ρ i else ρ j) sv x) : bC g ρ sv' x := by
 unfold bk at h
 split at h
 ·rename_i k off
  split at h
  ·rename_i hb
   have := Nat.eq_of_beq_eq_true hb
   subst this
   cases h
   rw [OU hd]
   have : bC g ρ (.l i off) (.pointer (some ⟨(ρ i).b, off, none⟩)) := .l
   simpa using this
  ·cases h
 ·rename_i k n
  split at h
  ·rename_i hb
   have := Nat.eq_of_beq_eq_true hb
   subst this
   cases h
   cases hd
   have : bC g ρ (.o i n) (.slice (ρ i).ad n (ρ i).c) := .o
   simpa using this
  ·cases h
 ·split at h
  ·cases h; exact hd.swap ‹_› _
  ·cases h
def Y7 (i : Nat) : List SV → Option (List SV)
 | [] => some []
 | x :: r => match rn1 i x with
   | some y => match Y7 i r with
     | some ys => some (y :: ys)
     | none => none
   | none => none
theorem XX {g : GW} {ρ : Nat → Lc} {i : Nat} {sv sv' : SV} {x : Value} (h : rn1 i sv = some sv') (hd : bC g ρ sv x) : bC g (fun j => if j = 1000 then ρ i else ρ j) sv' x := by
 unfold rn1 at h
 split at h
 ·rename_i k off
  split at h
  ·rename_i hb
   have := Nat.eq_of_beq_eq_true hb
   subst this
   cases h
   rw [OU hd]
   have : bC g (fun j => if j = 1000 then ρ i else ρ j) (.l 1000 off) (.pointer (some ⟨((fun j => if j = 1000 then ρ i else ρ j) 1000).b, off, none⟩)) := .l
   simpa using this
  ·cases h
 ·rename_i k n
  split at h
  ·rename_i hb
   have := Nat.eq_of_beq_eq_true hb
   subst this
   cases h
   cases hd
   have : bC g (fun j => if j = 1000 then ρ i else ρ j) (.o 1000 n) (.slice ((fun j => if j = 1000 then ρ i else ρ j) 1000).ad n ((fun j => if j = 1000 then ρ i else ρ j) 1000).c) := .o
   simpa using this
  ·cases h
 ·split at h
  ·cases h; exact hd.swap ‹_› _
  ·cases h
theorem PS {g : GW} {ρ : Nat → Lc} {i : Nat} : ∀ {svs svs' : List SV} {xs : List Value}, Y7 i svs = some svs' → aI g ρ svs xs → aI g (fun j => if j = 1000 then ρ i else ρ j) svs' xs
 | [], svs', xs, h, hd => by cases h; rw [hd.unnil]; exact aI.nil
 | sv :: r, svs', xs, h, hd => by
   obtain ⟨x, ys, rfl, hx, hr⟩ := hd.uncons
   unfold Y7 at h
   split at h
   ·split at h
    ·cases h; exact aI.cons (XX ‹_› hx) (PS ‹_› hr)
    ·cases h
   ·cases h
def Fp (P : Program) (fs : List MF) (f : FuncId) (args : List SV) (mb : MB) (res : SV) (mb' : MB) : Prop := FnM P fs f args [(1000, mb)] (fun sv M' => sv = res ∧ M' = [(1000, mb')])
section
variable {X : Kx} {k : List It} {L : SL} {M : SM} {fs : List MF} {own : List aH} {arr : Array Oper} {l : List Oper} {o : Oper}
theorem PT {f : FuncId} {fo : Operand} {az : Array Operand} {ts : Array TypeId} {svs args : List SV} {res : SV} {i : Nat} {mb mb' : MB} {M' : SM} (hg : o.guard = none) (hn : ∀ d, o.dst = some d → Nat.blt d X.n = true) (ho : o.op = .call ⟨.value fo, az, ts⟩) (hfo : cO (aF L) fo = some (.f f [] [])) (ha : evs (aF L) az.toList = some svs)
 (hc : svs.flatMap pB = []) (hargs : Y7 i (svs.map st1) = some args) (hm : fZ M i = some mb) (hcb : vM mb = true) (hcb' : vM mb' = true) {res' : SV} (hcr : bk i res = some res') (hu : fU M i mb' some = some M') (hs : Fp X.P fs f args mb res mb') : Stp X arr o L M fs own res' M' := by
 intro L' hL g a hE
 obtain ⟨ρ, ms, st⟩ := hE.open
 have h2 : ∀ t sv, aF L' t = some sv → ∃ x, a.tmps[t]? = some x ∧ bC g ρ sv x := (st.all (F2 X ρ L' a) (.tail _ (.head _))).val
 have hw : Region.wanted o (yielded arr a.tmps) = true := aX (L := []) st.kn (cA hg)
 have hsl : ∀ t ∈ (fo :: az.toList).filterMap mS, aF L' t = aF L t := fun t ht => hL t (by
  have : t ∈ o.op.operands.toList.filterMap mS := by rw [ho]; simpa [Op.operands, Call.operands] using ht
  exact List.mem_append_left _ this)
 have hall : evs (aF L) (fo :: az.toList) = some (.f f [] [] :: svs) := by simp only [evs, hfo, ha]
 have hall' : evs (aF L') (fo :: az.toList) = some (.f f [] [] :: svs) := (oO hsl).trans hall
 have hM : aR g ρ M ms := st.all _ (.head _)
 obtain ⟨r, m1, m2, rfl, hB, hup⟩ := hM.split hm
 obtain ⟨M2, hK, hM2⟩ := hup hu
 cases hK
 have hden := mD (aT h2 hall') (by simp only [List.flatMap_cons, hc, pB, List.append_nil]; intro p hp; cases hp)
 obtain ⟨x, rr, e1, dx, dr⟩ := hden.uncons
 simp only [List.map_cons, List.cons.injEq] at e1
 obtain ⟨rfl, rfl⟩ := e1
 obtain ⟨xs, ys, hfe, d1, d2⟩ := vK dx
 obtain rfl := d1.unnil
 obtain rfl := d2.unnil
 obtain ⟨hcl, hcall⟩ := hs
 have hB' : bQ g (fun j => if j = 1000 then ρ i else ρ j) 1000 mb r := hB.move hcb (by simp)
 have hp : (m1 ++ r :: m2 ++ own).Perm (r :: (m1 ++ m2 ++ own)) := by
  simp only [List.append_assoc, List.cons_append]
  exact List.perm_middle
 have stp := st.perm hp
 have hown : Own [r] g := Own.left (b := m1 ++ m2 ++ own) (by simpa using stp.own)
 have hrun := sG hcl (ρe := a.eval) ho hfe g.w
 simp only [List.nil_append, List.append_nil] at hrun
 unfold rY
 rw [hw, if_pos rfl]
 simp only [wn, hrun]
 refine (hcall _ g _ [r] (fun f hf => st.all f (.tail _ (.tail _ hf))) (PS hargs dr) (.cons hB' .nil) hown).mono ?_
 rintro e w' ⟨v, g', sv, M3, ms', rfl, rfl, hE', ⟨rfl, rfl⟩, dv, hM3, ho', hn'⟩
 cases hM3 with
 | cons hb3 ht =>
   cases ht
   rename_i r'
   have s' := stp.frame (r := m1 ++ m2 ++ own) (fsc := []) (ownc := [r]) (fs' := []) (own' := [r']) (.cons .head .nil) hE' (fun f hf => (by cases hf)) ho' hn' .nil
   simp only [List.nil_append, List.cons_append] at s'
   have hp2 : (r' :: (m1 ++ m2 ++ own)).Perm (m1 ++ r' :: m2 ++ own) := by
    simp only [List.append_assoc, List.cons_append]
    exact List.perm_middle.symm
   have s2 := s'.perm hp2
   have hMn := hM2 g' r' (s2.all _ (.head _)) (hb3.move hcb' (by simp))
   have hS : Sl X ρ L' a g' := s2.all _ (.tail _ (.head _))
   have s3 : St X.toCx [] (F1 ρ _ (m1 ++ r' :: m2) :: F2 X ρ L' a :: fs) (m1 ++ r' :: m2 ++ own) g' a := ⟨s2.kn, dF.cons hMn (dF.cons hS (fun f hf => s2.all f (.tail _ (.tail _ hf)))), s2.own, s2.ext, s2.new⟩
   refine ⟨v, rfl, g', rfl, ?_⟩
   cases hd : o.dst with
   | none => exact cV.close s3
   | some d => exact cV.put s3 (hn d hd) (Z7 hcr dv)
theorem fp {tb : TT} (hT : tb.Ok X.P) (i m : Nat) (H : List (List SV)) {d : Nat} {f : FuncId} {fo : Operand} {az : Array Operand} {ts : Array TypeId} {svs args : List SV} {res res' : SV} {mb mb' : MB} {M2 l' L' M' φ} (hs : Fp X.P fs f args mb res mb') (hk : ES X arr l' k L' M' fs own) (hg : o.guard = none := by rfl) (hd : o.dst = some d := by rfl) (ho : o.op = .call ⟨.value fo, az, ts⟩ := by rfl) (hfo : cO (aF L) fo = some (.f f [] []) := by rfl)
 (ha : evs (aF L) az.toList = some svs := by rfl) (hc : svs.flatMap pB = [] := by rfl) (hb : Y7 i (svs.map st1) = some args := by rfl) (hm : fZ M i = some mb := by rfl) (hcb : vM mb = true := by rfl) (hcb' : vM mb' = true := by rfl) (hcr : bk i res = some res' := by rfl) (hu : fU M i mb' some = some M2 := by rfl) (hn : Nat.blt d X.n = true := by rfl)
 (hr : iY tb X.n arr m H l ((d, res') :: L) M2 [] = some (l', L', M', φ) := by rfl) (hφ : aE φ := by first | trivial | omega | (simp +contextual [aE]; done) | (simp +contextual [aE, *]; done) | (simp +contextual [aE, *] <;> omega)) : ES X arr (o :: l) k L M fs own := by
 have := PT (arr := arr) (fs := fs) (own := own) hg (fun d' h => by rw [hd] at h; cases h; exact hn) ho hfo ha hc hb hm hcb hcb' hcr hu hs
 refine cP this ?_
 rw [hd]
 exact go hT m H hk hr hφ
theorem XY {tb : TT} (hT : tb.Ok X.P) (i0 m : Nat) (H : List (List SV)) {un i d : Nat} {D r π' : List Nat} {Ms Ms' : List SM} {f : FuncId} {fo : Operand} {az : Array Operand} {ts : Array TypeId} {svs args : List SV} {res res' : SV} {mb mb' : MB} {M2 L' M' φ} (hs : Fp X.P fs f args mb res mb') (hk : ED X arr k fs own un D π' L' M' Ms') (hi : arr[i]? = some o := by rfl) (hun : un.testBit i = true := by rfl) (hg : o.guard = none := by rfl) (hd : o.dst = some d := by rfl) (ho : o.op = .call ⟨.value fo, az, ts⟩ := by rfl) (hfo : cO (aF L) fo = some (.f f [] []) := by rfl)
 (ha : evs (aF L) az.toList = some svs := by rfl) (hc : svs.flatMap pB = [] := by rfl) (hb : Y7 i0 (svs.map st1) = some args := by rfl) (hm : fZ M i0 = some mb := by rfl) (hcb : vM mb = true := by rfl) (hcb' : vM mb' = true := by rfl) (hcr : bk i0 res = some res' := by rfl) (hu : fU M i0 mb' some = some M2 := by rfl) (hn : Nat.blt d X.n = true := by rfl)
 (hr : f9 tb X.n arr un D m H r ((d, res') :: L) M2 (M :: Ms) [] = some (π', L', M', Ms', φ) := by rfl) (hφ : aE φ := by first | trivial | omega | (simp +contextual [aE]; done) | (simp +contextual [aE, *]; done) | (simp +contextual [aE, *] <;> omega)) : ED X arr k fs own un D (i :: r) L M Ms := by
 have := PT (arr := arr) (fs := fs) (own := own) hg (fun d' h => by rw [hd] at h; cases h; exact hn) ho hfo ha hc hb hm hcb hcb' hcr hu hs
 refine ⟨o, res', hi, ?_⟩
 rw [hun]
 refine ⟨M2, this.u, ?_⟩
 rw [hd]
 exact xd hT m H hk hr hφ
theorem lU {P : Program} {fs : List MF} {tb : TT} (hT : tb.Ok P) {f : FuncId} {fn : Func} {c : Code} {args : List SV} {res : SV} {mb mb' : MB} (n : Nat) (rs : List ResultVar)
 (hf : P.funcs[f]? = some fn) (hrs : fn.results = rs.toArray) (h : ∀ g0 B0 Q ρ0, Rt ⟨⟨P, n, g0, B0, Q, none, []⟩, ρ0⟩ fs tb rs (fun sv M' => sv = res ∧ M' = [(1000, mb')]) → E ⟨⟨P, n, g0, B0, Q, none, []⟩, ρ0⟩ [.code c] (mT args 0) [(1000, mb)] fs []) (hb : fn.body = some c := by rfl)
 (hname : (fn.name == "runtime.NumGoroutine") = false := by kernel_rfl) (hn : fn.ntmps = n := by rfl) (hle : args.length ≤ n := by exact Nat.le_of_ble_eq_true rfl) : Fp P fs f args mb res mb' := D8 hT n rs hf hb hname hn hle hrs h
end
section
variable {X : Kx} {k : List It} {L : SL} {M : SM} {fs : List MF} {arr : Array Oper} {l : List Oper} {o : Oper} {tb : TT} {rs : List ResultVar}
theorem Z8 {res : SV} {mb mb' : MB} {svs : List SV} {k' : List It} (n : Nat) (R : Rt X fs tb rs (fun sv M' => sv = res ∧ M' = [(1000, mb')])) (he : bB svs = res ∧ mb = mb') (hk : cQ (aF L) 64 n k = .code .ret :: k' := by rfl) (hr : fV tb L M rs = some svs := by rfl) (hh : t8 (bB svs) = true := by rfl) (hm : b9 (Nat.ble 1000) M = [(1000, mb)] := by rfl) (hb : Y6 mb = true := by rfl) : E X k L M fs [] :=
 dK 64 n (hk ▸ R.ret hr hh (by rw [hm]; simp only [WY, hb]; rfl) ⟨he.1, by rw [hm, he.2]⟩)
theorem HM {res : SV} {mb mb' : MB} {svs : List SV} (n : Nat) (R : Rt X fs tb rs (fun sv M' => sv = res ∧ M' = [(1000, mb')])) (he : bB svs = res ∧ mb = mb') (hk : cQ (aF L) 64 n k = [] := by rfl) (hr : fV tb L M rs = some svs := by rfl) (hh : t8 (bB svs) = true := by rfl) (hm : b9 (Nat.ble 1000) M = [(1000, mb)] := by rfl) (hb : Y6 mb = true := by rfl) : E X k L M fs [] :=
 dK 64 n (hk ▸ R.fall hr hh (by rw [hm]; simp only [WY, hb]; rfl) ⟨he.1, by rw [hm, he.2]⟩)
theorem fW {res : SV} {mb mb' : MB} {svs : List SV} {k' : List It} (n : Nat) (R : Rt X fs tb rs (fun sv M' => sv = res ∧ M' = [(1000, mb')])) (he : bB svs = res ∧ mb = mb') (hk : cQ (aF L) 64 n k = .code .ret :: k' := by rfl) (hr : fV tb L M rs = some svs := by rfl) (hh : t8 (bB svs) = true := by rfl) (hm : b9 (Nat.ble 1000) M = [(1000, mb)] := by rfl) (hb : Y6 mb = true := by rfl) : ES X arr [] k L M fs [] := Z8 n R he hk hr hh hm hb
theorem PU {res : SV} {mb mb' : MB} {svs : List SV} (n : Nat) (R : Rt X fs tb rs (fun sv M' => sv = res ∧ M' = [(1000, mb')])) (he : bB svs = res ∧ mb = mb') (hk : cQ (aF L) 64 n k = [] := by rfl) (hr : fV tb L M rs = some svs := by rfl) (hh : t8 (bB svs) = true := by rfl) (hm : b9 (Nat.ble 1000) M = [(1000, mb)] := by rfl) (hb : Y6 mb = true := by rfl) : ES X arr [] k L M fs [] := HM n R he hk hr hh hm hb
theorem uB {own : List aH} (i : Nat) {v v' : SV} (hi : aF L i = some v) (e : ∀ g ρ x, bC g ρ v x → bC g ρ v' x) (h : ES X arr l k ((i, v') :: L) M fs own) : ES X arr l k L M fs own := by
 intro g a s
 obtain ⟨ρ, ms, h1, h2, h3⟩ := s
 refine h g a ⟨ρ, ms, h1, h2, h3.pin, fun t sv ht => ?_⟩
 by_cases hti : t = i
 ·subst hti
  rw [bF] at ht
  cases ht
  obtain ⟨x, hx, dx⟩ := h3.val t v hi
  exact ⟨x, hx, e g ρ x dx⟩
 ·rw [bX _ _ hti] at ht; exact h3.val t sv ht
theorem edn {own : List aH} (i : Nat) {v v' : SV} (hi : aF L i = some v) (e : ∀ g ρ x, bC g ρ v x → bC g ρ v' x) (h : E X k ((i, v') :: L) M fs own) : E X k L M fs own :=
 uB (arr := #[]) i hi e (jI h) |> fun h => h
theorem cS {g ρ z z' x} (hz : 0 < z') (h : bC g ρ (.s z []) x) : bC g ρ (.s z' []) x := by
 cases h with
 | s xs h1 h2 hl hr ho hne hd =>
   have : xs = [] := List.eq_nil_of_length_eq_zero (by simpa using hl)
   subst this
   exact .s [] h1 h2 (by simp) (fun r hr => by cases hr) ⟨fun u hu => (by cases hu), fun h => absurd h (by omega)⟩ hne (fun ρ' i j r sv x h => by simp at h)
end
def JF (tb : TT) (T : Nat) : Option (Nat × Nat × Nat) := match tb.get T with
 | some d => match d.kd with
   | .arr n el => match tb.get el with
     | some de => some (n, el, de.sz)
     | none => none
   | _ => none
 | none => none
theorem EN {P : Program} {tb : TT} (hT : tb.Ok P) {T n el sz : Nat} (h : JF tb T = some (n, el, sz)) : P.underlying T = some (.array n el) ∧ ∃ by_ z, TI P el sz by_ z := by
 unfold JF at h
 split at h
 ·rename_i d hd
  have u := (TT.get_ok hT hd).kd
  split at h
  ·rename_i hk
   rw [hk] at u
   split at h
   ·rename_i de hde
    cases h
    exact ⟨u, _, _, (TT.get_ok hT hde).ti⟩
   ·cases h
  ·cases h
 ·cases h
section
variable {X : Kx} {k : List It} {L : SL} {M : SM} {fs : List MF} {own : List aH} {arr : Array Oper} {l : List Oper} {o : Oper}
theorem glo {tb : TT} (hT : tb.Ok X.P) (m : Nat) (H : List (List SV)) {d T b : Nat} {cs : List SV} {r : SV} {l' L' M' φ} (hD : ∀ g ρ, dF fs g → bC g ρ (.p cs) (.pointer (some ⟨b, 0, none⟩))) (hk : ES X arr l' k L' M' fs own) (ho : o.op = .load T (.global b) := by rfl) (hx : qH tb M T [.p cs] = some (r, []) := by rfl)
 (hg : o.guard = none := by rfl) (hd : o.dst = some d := by rfl) (hn : Nat.blt d X.n = true := by rfl) (hr : iY tb X.n arr m H l ((d, r) :: L) M [] = some (l', L', M', φ) := by rfl) (hφ : aE φ := by first | trivial | omega | (simp +contextual [aE]; done) | (simp +contextual [aE, *]; done) | (simp +contextual [aE, *] <;> omega)) : ES X arr (o :: l) k L M fs own := by
 have hG : gS arr (aF L) o = some none := by unfold gS; rw [hg]
 refine cP (bT (sv := r) hG hd hn (fun L' hL hon g a ρ ms st => ?_)) ?_
 ·have hA : dF fs g := fun f hf => st.all f (.tail _ (.tail _ hf))
  exact vE hT st (st.all _ (.head _)) ho rfl (aI.cons (hD g ρ hA) aI.nil) hx
 ·rw [hd]
  exact go hT m H hk hr hφ
theorem gix {tb : TT} (hT : tb.Ok X.P) (m : Nat) (H : List (List SV)) {d T b n el sz : Nat} {ix : Operand} {ki : IntKind} {z : Int} {cs : List SV} (row : List SV) {l' L' M' φ} (hD : ∀ g ρ, dF fs g → bC g ρ (.p cs) (.pointer (some ⟨b, 0, none⟩))) (hz : 0 ≤ z ∧ z < n) (hrow : cs.drop (z.toNat * sz) = row) (hk : ES X arr l' k L' M' fs own) (ho : o.op = .indexAddr T (.global b) ix := by rfl) (ha : JF tb T = some (n, el, sz) := by rfl) (hi : cO (aF L) ix = some (.v (.int ki z)) := by rfl)
 (hg : o.guard = none := by rfl) (hd : o.dst = some d := by rfl) (hn : Nat.blt d X.n = true := by rfl) (hr : iY tb X.n arr m H l ((d, .p row) :: L) M [] = some (l', L', M', φ) := by rfl) (hφ : aE φ := by first | trivial | omega | (simp +contextual [aE]; done) | (simp +contextual [aE, *]; done) | (simp +contextual [aE, *] <;> omega)) : ES X arr (o :: l) k L M fs own := by
 have hG : gS arr (aF L) o = some none := by unfold gS; rw [hg]
 obtain ⟨u, by_, z0, hti⟩ := EN hT ha
 refine cP (bT (sv := .p row) hG hd hn (fun L' hL hon g a ρ ms st => ?_)) ?_
 ·have hA : dF fs g := fun f hf => st.all f (.tail _ (.tail _ hf))
  have hSl : Sl X ρ L' a g := st.all _ (.tail _ (.head _))
  have hev : evs (aF L') [.global b, ix] = some [.v (.pointer (some ⟨b, 0, none⟩)), .v (.int ki z)] := by
   have := aW hL
   rw [show o.op.operands.toList = [.global b, ix] by rw [ho]; rfl] at this
   rw [this]
   simp only [evs, hi]
   rfl
  obtain ⟨_, _, e1, _, hr1⟩ := (aT hSl.val hev).uncons
  obtain ⟨_, _, e2, dy, _⟩ := hr1.uncons
  simp only [List.map_cons, List.cons.injEq] at e1
  obtain ⟨rfl, rfl⟩ := e1
  simp only [List.cons.injEq] at e2
  obtain ⟨rfl, _⟩ := e2
  have hv := cF dy
  have hp := hD g ρ hA
  cases hp with
  | p xs hl hf hc hdd =>
    refine ⟨.pointer (some ⟨b, 0 + z.toNat * sz, none⟩), ?_, .p (xs.drop (z.toNat * sz)) (by rw [← hrow]; simp [hl]) hf (fun j x hx => ?_) (fun ρ' j sv x h1 h2 => ?_)⟩
    ·simp only [execOp, ho, hv]
     simp only [Act.eval, Instr.indexAt, asIntOf, Instr.sureAddr, Sem.run_bind, Sem.run_pure, Result.andThen_ok, run_underlying u]
     rw [if_pos hz]
     simp only [Sem.run_bind, run_sizeOf hti, Result.andThen_ok, Sem.run_pure, addr_add]
    ·rw [List.getElem?_drop] at hx
     have := hc _ x hx
     simpa [Nat.add_assoc] using this
    ·rw [← hrow, List.getElem?_drop] at h1
     rw [List.getElem?_drop] at h2
     exact hdd ρ' _ sv x h1 h2
 ·rw [hd]
  exact go hT m H hk hr hφ
theorem ixg {tb : TT} (hT : tb.Ok X.P) (m : Nat) (H : List (List SV)) {d T n el : Nat} {x ix : Operand} {ki : IntKind} {z : Int} {cs : List SV} {de : TD} (sv : SV) {l' L' M' φ} (hz : 0 ≤ z ∧ z < n) (hrow : cs[z.toNat]? = some sv) (hk : ES X arr l' k L' M' fs own) (ho : o.op = .index T x ix := by rfl) (ha : JF tb T = some (n, el, 1) := by rfl) (he : tb.get el = some de := by rfl) (hna : de.kd.ag = false := by rfl) (hx : cO (aF L) x = some (.a cs) := by rfl) (hi : cO (aF L) ix = some (.v (.int ki z)) := by rfl)
 (hg : o.guard = none := by rfl) (hd : o.dst = some d := by rfl) (hn : Nat.blt d X.n = true := by rfl) (hr : iY tb X.n arr m H l ((d, sv) :: L) M [] = some (l', L', M', φ) := by rfl) (hφ : aE φ := by first | trivial | omega | (simp +contextual [aE]; done) | (simp +contextual [aE, *]; done) | (simp +contextual [aE, *] <;> omega)) : ES X arr (o :: l) k L M fs own := by
 have hG : gS arr (aF L) o = some none := by unfold gS; rw [hg]
 obtain ⟨u, by_, z0, hti⟩ := EN hT ha
 obtain ⟨td, ue, hag⟩ := (TT.get_ok hT he).kd.und
 rw [hna] at hag
 refine cP (bT (sv := sv) hG hd hn (fun L' hL hon g a ρ ms st => ?_)) ?_
 ·have hSl : Sl X ρ L' a g := st.all _ (.tail _ (.head _))
  have hev : evs (aF L') [x, ix] = some [.a cs, .v (.int ki z)] := by
   have := aW hL
   rw [show o.op.operands.toList = [x, ix] by rw [ho]; rfl] at this
   rw [this]
   simp only [evs, hx, hi]
  obtain ⟨_, _, e1, dx, hr1⟩ := (aT hSl.val hev).uncons
  obtain ⟨_, _, e2, dy, _⟩ := hr1.uncons
  simp only [List.map_cons, List.cons.injEq] at e1
  obtain ⟨rfl, rfl⟩ := e1
  simp only [List.cons.injEq] at e2
  obtain ⟨rfl, _⟩ := e2
  have hv := cF dy
  generalize hvx : a.eval x = vx at dx
  cases dx with
  | a xs hl hdd =>
    have hD : aI g ρ cs xs := ⟨hl, hdd⟩
    obtain ⟨y, hy, dv⟩ := hD.get hrow
    refine ⟨y, ?_, dv⟩
    have hagr := jV (w := g.w) ue
    rw [hag] at hagr
    have hy2 : xs.toArray[z.toNat * 1]? = some y := by simpa using hy
    simp only [execOp, ho, hv, hvx]
    simp only [Instr.index, asIntOf, Sem.run_bind, Sem.run_pure, Result.andThen_ok, run_underlying u]
    rw [if_pos hz]
    simp only [Sem.run_bind, run_sizeOf hti, Result.andThen_ok, part, hagr, hy2]
    rfl
 ·rw [hd]
  exact go hT m H hk hr hφ
theorem sO {β : Type} {i : Nat} {mb : MB} : ∀ {M : SM} {K : SM → Option β}, fZ M i = some mb → fU M i mb K = K M
 | [], K, h => by cases h
 | (j, m) :: r, K, h => by
  unfold fZ at h
  unfold fU
  cases hb : Nat.beq i j with
  | true =>
    rw [hb] at h
    simp only [Option.some.injEq] at h
    subst h; rfl
  | false =>
    rw [hb] at h
    exact sO (M := r) (K := fun r' => K ((j, m) :: r')) h
theorem uC (i : Nat) {mb mb' : MB} {M' : SM} (e : mb = mb') (h : ES X arr l k L M' fs own) (hm : fZ M i = some mb := by rfl) (hu : fU M i mb' some = some M' := by rfl) : ES X arr l k L M fs own := by
 subst e
 rw [sO hm] at hu
 cases hu
 exact h
theorem c6 (i : Nat) {mb mb' : MB} {M' : SM} (e : mb = mb') (h : E X k L M' fs own) (hm : fZ M i = some mb := by rfl) (hu : fU M i mb' some = some M' := by rfl) : E X k L M fs own := by
 subst e
 rw [sO hm] at hu
 cases hu
 exact h
def XZ (tb : TT) (e : Nat → Option SV) (H : List (List SV)) (op : Op) (r : SV × List Prop) : List SM → Prop
 | [] => True
 | M :: Ms => I3 tb e M H op = some r ∧ XZ tb e H op r Ms
theorem EO {tb : TT} {e : Nat → Option SV} {H : List (List SV)} {op : Op} {r : SV × List Prop} : ∀ {Ms : List SM} {q : Nat} {M' : SM}, XZ tb e H op r Ms → Ms[q]? = some M' → I3 tb e M' H op = some r
 | [], q, M', _, h => by simp at h
 | M :: Ms, 0, M', ⟨h1, _⟩, h => by simp at h; exact h ▸ h1
 | M :: Ms, q + 1, M', ⟨_, h2⟩, h => EO h2 (by simpa using h)
theorem dl {tb : TT} (hT : tb.Ok X.P) (m : Nat) (H : List (List SV)) {un i d : Nat} {D r π' : List Nat} {Ms Ms' : List SM} {sv : SV} {L' M' φ} (hk : ED X arr k fs own un D π' L' M' Ms') (hi : arr[i]? = some o := by rfl) (hu : un.testBit i = false := by rfl) (hg : o.guard = none := by rfl) (hd : o.dst = some d := by rfl) (hn : Nat.blt d X.n = true := by rfl) (hx : I3 tb (aF L) M [] o.op = some (sv, []) := by rfl) (hall : XZ tb (aF L) [] o.op (sv, []) Ms := by repeat (first | exact trivial | refine ⟨rfl, ?_⟩)) (hb : Nat.ble (DY arr.size un D i) Ms.length = true := by rfl)
 (hr : f9 tb X.n arr un D m H r ((d, sv) :: L) M Ms [] = some (π', L', M', Ms', φ) := by rfl) (hφ : aE φ := by first | trivial | omega | (simp +contextual [aE]; done) | (simp +contextual [aE, *]; done) | (simp +contextual [aE, *] <;> omega)) : ED X arr k fs own un D (i :: r) L M Ms := by
 have hG : gS arr (aF L) o = some none := by unfold gS; rw [hg]
 refine ⟨o, sv, hi, ?_⟩
 rw [hu]
 refine ⟨.inl ⟨Nat.le_of_ble_eq_true hb, j6 hT hG hd hn hx (fun p hp => nomatch hp), fun q M2 hq _ => j6 hT hG hd hn (EO hall hq) (fun p hp => nomatch hp)⟩, ?_⟩
 rw [hd]
 exact xd hT m H hk hr hφ
end
abbrev rB (l : List Bytes) : SV := .s 1 (l.map fun s => [.str s])
def kz {α : Type} (l : List α) (z : Nat) : Nat := match l with
 | [] => 0
 | _ => z
mutual
def PV : Ex → List SV
 | .mk k n v l => [nI k, .str n, nI v.k, nI v.n, .s (kz l 5) (qS l)]
def qS : List Ex → List (List SV)
 | [] => []
 | x :: r => PV x :: qS r
end
abbrev kP (x : Ex) : List SV := [nI x.kind, .str x.name, nI x.val.k, nI x.val.n, .s (kz x.kids 5) (qS x.kids)]
abbrev eD (x : Ex) : SV := .a (kP x)
theorem uS (x : Ex) : PV x = kP x := by cases x; rfl
theorem oS : ∀ l : List Ex, (qS l).length = l.length
 | [] => rfl
 | x :: r => by simp [qS, oS r]
theorem zB : ∀ {l : List Ex} {j : Nat} (h : j < l.length), (qS l)[j]? = some (kP l[j])
 | x :: r, 0, _ => by simp [qS, uS]
 | x :: r, j + 1, h => by simp only [qS, List.getElem?_cons_succ, List.getElem_cons_succ]; exact zB (by simpa using h)
theorem qT (o : Bytes) (x y : Ex) : eD (eU o [x, y]) = .a [nI 3, .str o, nI 0, nI 0, .s 5 [kP x, kP y]] := by
 show SV.a [nI 3, .str o, nI 0, nI 0, .s 5 [PV x, PV y]] = _
 rw [uS, uS]
theorem nR (o : Bytes) (x : Ex) : eD (eU o [x]) = .a [nI 3, .str o, nI 0, nI 0, .s 5 [kP x]] := by
 show SV.a [nI 3, .str o, nI 0, nI 0, .s 5 [PV x]] = _
 rw [uS]
theorem nS : ∀ (g : Bytes) (c : UInt8), Lib.indexByte g c < 0 ↔ c ∉ g
 | [], c => by simp [Lib.indexByte]
 | b :: g, c => by
   have ih := nS g c
   unfold Lib.indexByte
   by_cases h : b = c
   ·subst h; simp
   ·have hb : (b == c) = false := by simpa using h
    simp only [hb]
    have h2 : ¬ c = b := fun e => h e.symm
    simp only [List.mem_cons, h2, false_or]
    rw [← ih]
    by_cases h0 : Lib.indexByte g c = -1
    ·simp [h0]
    ·have hge : ∀ (g : Bytes), -1 ≤ Lib.indexByte g c := by
      intro g
      induction g with
      | nil => simp [Lib.indexByte]
      | cons b g ih => unfold Lib.indexByte; split <;> (try split) <;> (try simp) <;> omega
     have := hge g
     have h1 : (Lib.indexByte g c == -1) = false := by simpa using h0
     simp [h1]
     omega
theorem Z9 (g : Bytes) (c : UInt8) : decide (0 ≤ Lib.indexByte g c) = decide (c ∈ g) := by
 have h := nS g c
 by_cases hc : c ∈ g
 ·have h2 : ¬ Lib.indexByte g c < 0 := fun hx => h.1 hx hc
  simp [hc]; omega
 ·have h2 := h.2 hc
  simp [hc]; omega
theorem eY (g : Bytes) : ∀ l : Bytes, a7 g l ≤ l.length
 | [] => Nat.le_refl _
 | c :: r => by
   have := eY g r
   unfold a7
   split <;> simp <;> omega
theorem wG {g s : Bytes} : ∀ {j : Nat}, j ≤ s.length → (∀ x ∈ s.take j, x ∈ g) → a7 g s = j + a7 g (s.drop j) := by
 induction s with
 | nil => intro j hj _; have : j = 0 := by simpa using hj
          subst this; simp
 | cons c r ih =>
   intro j hj h
   cases j with
   | zero => simp
   | succ j =>
     have hc : c ∈ g := h c (by simp)
     have e : a7 g (c :: r) = a7 g r + 1 := by conv => lhs; unfold a7
                                               rw [if_pos hc]
     rw [e, List.drop_succ_cons, ih (j := j) (by simpa using hj) (fun x hx => h x (by simp [hx]))]
     omega
abbrev gK (s : Bytes) (p : Ps) : MB := .c 117 [.str s, nI p.i, nI p.err, nI p.at_, bS p.dead]
theorem uT {α : Type} {p : α → Bool} : ∀ {l : List α} {j : Nat} (hj : j < l.length), (∀ x ∈ l.take j, p x = false) → p l[j] = true → l.find? p = some l[j]
 | [], j, hj, _, _ => by simp at hj
 | x :: r, 0, _, _, h => by simp at h; simp [h]
 | x :: r, j + 1, hj, h0, h => by
   have e := uT (l := r) (j := j) (by simpa using hj) (fun y hy => h0 y (by simp [hy])) (by simpa using h)
   have hx := h0 x (by simp)
   simp [hx, e]
theorem qU {s : Bytes} {p : Ps} (h : p.i ≤ s.length) : (p.restP s).i ≤ s.length := by
 unfold Ps.restP
 split
 ·exact h
 ·have := eY [32] (s.drop p.i)
  simp at this ⊢
  omega
end Go.KX
namespace Go.Proofs
open Go.Shelf Go.RowKit
abbrev UM : Lib.NumEnd Nat := Lib.parseUintM 0 0 [0]
variable {P : Program} {ρ : Ren}
set_option maxHeartbeats 32000000 in
theorem JG (L : LaysPu.n16 P ρ) (t : ByteArray) (hne : t.size ≠ 0) (h16 : t.size ≤ 16) (w : World) :
 Calls P (ρ.f 16) #[.string t, .int .i64 10, .int .i64 62] w fun e w' => e = .returned (Lib.uintTupleM (ρ.t 34) 4611686018427387903 (Lib.parseUintM 4611686018427387903 0 t.data.toList)) ∧ w' = Lib.bytesWorld w (ρ.t 5) t := by
 have hmax : t.size ≤ 9223372036854775806 := by omega
 have hp : ∀ k, k < t.size → 10 ^ k ≤ 1000000000000000 := fun k hk => Nat.le_trans (Nat.pow_le_pow_right (by decide) (show k ≤ 15 by omega)) (by decide)
 have mixed := L.mixed
 have t9 := L.t9; have a9 := L.a9; have z9 := L.z9; have v9 := L.v9
 have t3 := L.t3; have a3 := L.a3; have z3 := L.z3; have v3 := L.v3
 have t22 := L.t22; have a22 := L.a22; have z22 := L.z22; have v22 := L.v22
 have t24 := L.t24; have a24 := L.a24; have z24 := L.z24; have v24 := L.v24
 have t4 := L.t4; have a4 := L.a4; have z4 := L.z4; have v4 := L.v4
 have t34 := L.t34; have a34 := L.a34; have z34 := L.z34; have v34 := L.v34
 have t5 := L.t5; have a5 := L.a5; have z5 := L.z5; have v5 := L.v5
 have t36 := L.t36; have a36 := L.a36; have z36 := L.z36; have v36 := L.v36
 have t37 := L.t37; have a37 := L.a37; have z37 := L.z37; have v37 := L.v37
 have t0 := L.t0; have a0 := L.a0; have z0 := L.z0; have v0 := L.v0
 have e19 : ∀ args w, (callFunc (ρ.f 19) args).run P w = .ok (.enter (ρ.f 19) args) w := enters_of L.f19 (by kernel_rfl) rfl
 have hemp : t.toList.isEmpty = false := by
  rw [← decide_eq_emptyBytes]
  exact decide_eq_false (fun h => hne (by rw [h]; rfl))
 have hcv := Lib.run_convert_string_bytes (P := P) w (ρ.t 9) (ρ.t 37) (ρ.t 5) t (u := .string) L.t9 L.t37 L.t5
 have hB : ∀ j, j < t.size → (Lib.bytesWorld w (ρ.t 5) t).cell? ⟨w.heap.size, j, none⟩ = some (.int .u8 (t.data.toList.getD j 0).toNat) := fun j hj => Lib.bytesWorld_cell w (ρ.t 5) t j hj
 obtain ⟨W1, hW1⟩ : ∃ W1, W1 = Lib.bytesWorld w (ρ.t 5) t := ⟨_, rfl⟩
 rw [← hW1] at hcv hB ⊢
 clear hW1
 obtain ⟨bs, hL⟩ : ∃ bs, bs = t.data.toList := ⟨_, rfl⟩
 have hLn : bs.length = t.size := by rw [hL, Lib.size_eq]
 rw [← hL] at hB ⊢
 clear hL
 have hmv : IntKind.u64.wrap (IntKind.u64.wrap 4611686018427387904 - 1) = 4611686018427387903 := by
  rw [IntKind.wrap_u64, IntKind.wrap_u64]
  decide
 go_enter L.f16, BodyPu.n16_ntmps ρ
 go_wp2
 go_loop [12, 13, 101] (fun vu vn vi => ∃ (k acc : Nat) (a : Int), vu = .bool false ∧ vn = .int .u64 a ∧ vi = .int .i64 k ∧ k ≤ t.size ∧ Hid (a = (acc : Int) ∧ acc < 10 ^ k ∧ Lib.parseUintM 4611686018427387903 0 bs = Lib.parseUintM 4611686018427387903 acc (bs.drop k)))
  (fun _ _ vi => t.size - (intOf vi).toNat)
 case atStart => exact ⟨0, 0, 0, rfl, rfl, rfl, by omega, rfl, by decide, rfl⟩
 case round =>
  obtain ⟨k, acc, a, rfl, rfl, rfl, hk, hh⟩ := hrel
  obtain ⟨ha, hacc, hdec⟩ := hh.out
  clear hh
  have a0 : 0 ≤ a := by omega
  by_cases hkn : k < t.size
  ·have hpk := hp k hkn
   have a1 : a ≤ 1000000000000000 := by omega
   have hc := hB k hkn
   have hdrop : bs.drop k = bs[k]'(by omega) :: bs.drop (k + 1) := List.drop_eq_getElem_cons (by omega)
   have hget : bs.getD k 0 = bs[k]'(by omega) := by simp [List.getD, List.getElem?_eq_getElem (show k < bs.length by omega)]
   rw [hdrop] at hdec
   rw [hget] at hc
   generalize bs[k]'(by omega) = c at hc hdec
   have hc256 : c.toNat < 256 := c.toNat_lt
   clear hB hdrop hget
   by_cases hdig : 48 ≤ c.toNat ∧ c.toNat ≤ 57
   ·obtain ⟨hd0, hd1⟩ := hdig
    have hcut : ¬ 1844674407370955162 ≤ acc := by omega
    have hov : ¬ 4611686018427387903 < acc * 10 + (c.toNat - 48) := by omega
    have hF : Lib.parseUintM 4611686018427387903 acc (c :: bs.drop (k + 1)) = Lib.parseUintM 4611686018427387903 (acc * 10 + (c.toNat - 48)) (bs.drop (k + 1)) := by simp [Lib.parseUintM, hd0, hd1, hcut, hov]
    have HN : Hid (a * 10 + ((c.toNat : Int) - 48) = ((acc * 10 + (c.toNat - 48) : Nat) : Int) ∧ acc * 10 + (c.toNat - 48) < 10 ^ (k + 1) ∧ Lib.parseUintM 4611686018427387903 0 bs = Lib.parseUintM 4611686018427387903 (acc * 10 + (c.toNat - 48)) (bs.drop (k + 1))) := Lib.hid ⟨by omega, by rw [Nat.pow_succ]; omega, hdec.trans hF⟩
    have iov : a * 10 + ((c.toNat : Int) - 48) ≤ 4611686018427387903 := by omega
    clear hcut hacc hF hov hdec ha
    clear hp hpk
    go_wp2
    refine ⟨⟨k + 1, acc * 10 + (c.toNat - 48), a * 10 + ((c.toNat : Int) - 48), rfl, (by first | rfl | (congr 1; omega)), (by first | rfl | (congr 1; omega)), by omega, HN⟩, by simp [intOf]; omega⟩
   ·clear hp hpk
    have hF : Lib.parseUintM 4611686018427387903 acc (c :: bs.drop (k + 1)) = UM := by simp [UM, Lib.parseUintM, hdig]
    rw [hF] at hdec
    clear hacc hF ha
    have hv0 := bits_lo_u8 .or (c.toNat : Int) 32
    have hv1 := bits_hi_u8 .or (c.toNat : Int) 32
    have hu0 := bits_lo_u8 .or 95 32
    have hu1 := bits_hi_u8 .or 95 32
    go_wp2_with (go_at_fn (ρ.f 19); refine (AnyPu.internal_strconv_lower { L with } _ _).mono ?_; rintro e w' ⟨rfl, rfl⟩)
    all_goals go_ret2
    all_goals first | exact ⟨rfl, rfl⟩ | exact ⟨by rw [hdec]; rfl, rfl⟩
  ·clear hp
   have hkk : k = t.size := by omega
   subst hkk
   have hF : Lib.parseUintM 4611686018427387903 acc (bs.drop t.size) = .ok acc := by rw [List.drop_eq_nil_of_le (by omega)]; rfl
   rw [hF] at hdec
   subst ha
   clear hacc hF a0
   go_wp2
   go_ret2
   exact ⟨rfl, rfl⟩
set_option maxHeartbeats 4000000 in
theorem UN (L : LaysPu.n14 P ρ) (s : ByteArray) (hne : s.size ≠ 0) (h16 : s.size ≤ 16) (u : Nat) (h : Lib.parseUintM 4611686018427387903 0 s.data.toList = .ok u) (w : World) :
 Calls P (ρ.f 14) #[.string s, .int .i64 10, .int .i64 62] w fun e w' => e = .returned (.tuple #[.int .u64 u, .nilIface]) ∧ w' = Lib.bytesWorld w (ρ.t 5) s := by
 have mixed := L.mixed
 have t9 := L.t9; have a9 := L.a9; have z9 := L.z9; have v9 := L.v9
 have t3 := L.t3; have a3 := L.a3; have z3 := L.z3; have v3 := L.v3
 have t22 := L.t22; have a22 := L.a22; have z22 := L.z22; have v22 := L.v22
 have t24 := L.t24; have a24 := L.a24; have z24 := L.z24; have v24 := L.v24
 have t25 := L.t25; have a25 := L.a25; have z25 := L.z25; have v25 := L.v25
 have t4 := L.t4; have a4 := L.a4; have z4 := L.z4; have v4 := L.v4
 have e16 : ∀ args w, (callFunc (ρ.f 16) args).run P w = .ok (.enter (ρ.f 16) args) w := enters_of L.f16 (by kernel_rfl) rfl
 have hI := JG { L with } s hne h16 w
 rw [h] at hI
 have hI : Calls P (ρ.f 16) #[.string s, .int .i64 10, .int .i64 62] w fun e w' => e = .returned (.tuple #[.int .u64 u, .nilIface]) ∧ w' = Lib.bytesWorld w (ρ.t 5) s := hI
 clear h
 go_enter L.f14, BodyPu.n14_ntmps ρ
 go_wp2_with (go_at_fn (ρ.f 16); refine hI.mono ?_; rintro e W1 ⟨rfl, hW⟩)
 go_wp2
 go_ret2
 exact ⟨rfl, rfl⟩
set_option maxHeartbeats 4000000 in
theorem PW (L : LaysPu.n14 P ρ) (s : ByteArray) (hne : s.size ≠ 0) (h16 : s.size ≤ 16) (h : Lib.parseUintM 4611686018427387903 0 s.data.toList = UM) (ev : Value) (w : World) (hv : w.cell? ⟨(ρ.g 0), 0, none⟩ = some ev) (hev : ev = .nilIface ∨ ∃ te pe, ev = .iface te pe) :
 Calls P (ρ.f 14) #[.string s, .int .i64 10, .int .i64 62] w fun e w' => ∃ v, e = .returned (.tuple #[.int .u64 0, .iface (ρ.t 39) v]) ∧ Below w.heap.size w w' := by
 have hlim : s.size ≤ 281474976710656 := by omega
 have mixed := L.mixed
 have t9 := L.t9; have a9 := L.a9; have z9 := L.z9; have v9 := L.v9
 have t3 := L.t3; have a3 := L.a3; have z3 := L.z3; have v3 := L.v3
 have t22 := L.t22; have a22 := L.a22; have z22 := L.z22; have v22 := L.v22
 have t24 := L.t24; have a24 := L.a24; have z24 := L.z24; have v24 := L.v24
 have t25 := L.t25; have a25 := L.a25; have z25 := L.z25; have v25 := L.v25
 have t4 := L.t4; have a4 := L.a4; have z4 := L.z4; have v4 := L.v4
 have e16 : ∀ args w, (callFunc (ρ.f 16) args).run P w = .ok (.enter (ρ.f 16) args) w := enters_of L.f16 (by kernel_rfl) rfl
 have e17 : ∀ args w, (callFunc (ρ.f 17) args).run P w = .ok (.enter (ρ.f 17) args) w := enters_of L.f17 (by kernel_rfl) rfl
 have hG : (ρ.g 0) < w.heap.size := Lib.lt_of_cell hv
 have hI := JG { L with } s hne h16 w
 rw [h] at hI
 have hI : Calls P (ρ.f 16) #[.string s, .int .i64 10, .int .i64 62] w fun e w' => e = .returned (.tuple #[.int .u64 0, .iface (ρ.t 34) (.int .i64 2)]) ∧ w' = Lib.bytesWorld w (ρ.t 5) s := hI
 clear h
 go_enter L.f14, BodyPu.n14_ntmps ρ
 go_wp2_with (go_at_fn (ρ.f 16); refine hI.mono ?_)
 rintro e W1 ⟨rfl, hW⟩
 have hb1 : Below w.heap.size w W1 := by
  subst hW
  exact Lib.bytesWorld_below _ _ _
 have hv1 : W1.cell? ⟨(ρ.g 0), 0, none⟩ = some ev := (hb1.cell (show (⟨(ρ.g 0), 0, none⟩ : Addr).block < w.heap.size from hG)).trans hv
 clear hW
 go_wp2_with (go_at_fn (ρ.f 17); refine (AnyPu.strconv_toError_syntax { L with } ⟨#[80, 97, 114, 115, 101, 85, 105, 110, 116]⟩ s 10 62 ev _ hlim ?_ hev).mono ?_)
 ·exact hv1
 rintro e W2 ⟨N, rfl, h1, h2, h3⟩
 go_wp2
 go_ret2
 exact ⟨_, rfl, hb1.trans (h3.mono hb1.size)⟩
end Go.Proofs
