/- PD PQ PT XQ XR XS XU YC PU. -/
import Derived.Test.YtomkgfdigldhcaaGreatDoorLGD
import Derived.Lib.ParseIntB
import Derived.Lib.IndexMore
import Derived.Lib.Strings
import Derived.Lib.Repeat
import Derived.Lib.IndexBytes
import Derived.WideLaws
import Derived.Shelf.Pu.Lays
import Derived.Shelf.Pu.Lower
import Derived.Shelf.Pu.ToError
import Derived.Lib.AtoiErrMem
import Derived.Lib.Walk
import Derived.Lib.ConvBytes
import Derived.Lib.ParseIntBMem
import Derived.Lib.Hide
import Derived.Laws.Strings3
import Derived.Laws.Closers25
import Derived.Laws.Closers25b
import Derived.WalkKit
import Derived.BigCall
import Derived.BigGuard
namespace Go.KX
structure Pd where
  i : Nat
  e : Int
  at_ : Int
namespace Pd
def fail (p : Pd) (e a : Int) : Pd := if p.e = 0 then ⟨p.i, e, a⟩ else p
def blanks (s : Bytes) (p : Pd) : Pd := { p with i := p.i + runB [32] (s.drop p.i) }
end Pd
def signD (s : Bytes) (p : Pd) : Option Bytes := if p.e = 0 then firstSign (s.drop (p.blanks s).i) else none
def takeTD (s : Bytes) (l : List Bytes) (p : Pd) : Option Bytes := match signD s p with
  | some x => if x ∈ l then some x else none
  | none => none
def takePD (s : Bytes) (l : List Bytes) (p : Pd) : Pd := match takeTD s l p with
  | some x => { p.blanks s with i := (p.blanks s).i + x.length }
  | none => p.blanks s
def mustD (s : Bytes) (x : Bytes) (p : Pd) : Pd := match takeTD s [x] p with
  | some _ => takePD s [x] p
  | none => (takePD s [x] p).fail 110 (takePD s [x] p).i
def enterD (s : Bytes) (deep : Nat) (p : Pd) : Pd := if 32 < deep then (p.blanks s).fail 111 (p.blanks s).i else p.blanks s
abbrev tkD (s : Bytes) (l : List Bytes) (p : Pd) : Option Bytes × Pd := (takeTD s l p, takePD s l p)
abbrev levD (s : Bytes) (u : Pd → Ex × Pd) : Nat → Pd → Ex × Pd := levG (tkD s) (s.length + 1) u
def exprD (s : Bytes) (u : Pd → Ex × Pd) (deep : Nat) (p : Pd) : Ex × Pd := levD s u 5 (enterD s deep p)
section
variable (pv : Bytes → Val × Int) (s : Bytes)
def numberD (r : Bytes) (p : Pd) : Ex × Pd :=
  (exN (pv (r.take (numLen r))).1, { (if (pv (r.take (numLen r))).2 = 0 then p else p.fail 110 p.i) with i := p.i + numLen r })
def parD (ex : Pd → Ex × Pd) (p : Pd) : Ex × Pd := ((ex p).1, mustD s oPR (ex p).2)
def wordD (ex : Pd → Ex × Pd) (r : Bytes) (p : Pd) : Ex × Pd :=
  let w := r.take (runB gLD r)
  let p1 : Pd := { p with i := p.i + w.length }
  if w = wNull then (exN nullV, p1) else if w = wNan then (exN nanV, p1) else if w = wInf then (exN plusV, p1) else
  if functionB w then (exC w [(parD s ex (mustD s oPL p1)).1], (parD s ex (mustD s oPL p1)).2) else (ex0, p1.fail 110 p.i)
def refD (r : Bytes) (p : Pd) : Ex × Pd :=
  let w := (r.drop 1).take (runB gLD (r.drop 1))
  (exR w, { (if refB w then p else p.fail 110 p.i) with i := p.i + (1 + w.length) })
def primD (ex : Pd → Ex × Pd) (p0 : Pd) : Ex × Pd :=
  let p := p0.blanks s
  if p0.e = 0 then
    match takeTD s [oPL] p with
    | some _ => parD s ex (takePD s [oPL] p)
    | none => match s.drop p.i with
      | [] => (ex0, (takePD s [oPL] p).fail 110 p.i)
      | c :: r => if c ∈ gDig then numberD pv (c :: r) p else if c = 36 then refD (c :: r) p else if c ∈ gLet then wordD s ex (c :: r) p else (ex0, p.fail 110 p.i)
  else (ex0, p)
def unD : Nat → Pd → Ex × Pd
  | 0, p => primD pv s (fun q => (ex0, q)) (takePD s [oSub, oNot] (enterD s 33 p))
  | d + 1, p => match takeTD s [oSub, oNot] (enterD s (32 - d) p) with
    | some o => (exC o [(unD d (takePD s [oSub, oNot] (enterD s (32 - d) p))).1], (unD d (takePD s [oSub, oNot] (enterD s (32 - d) p))).2)
    | none => primD pv s (exprD s (unD d) (33 - d)) (takePD s [oSub, oNot] (enterD s (32 - d) p))
end
/-- The two parsers stand alike. -/
def Sim (p : Ps) (q : Pd) : Prop := (p.dead = false ∧ q.e = 0 ∧ p.i = q.i) ∨ (p.dead = true ∧ q.e = p.err ∧ q.e ≠ 0 ∧ q.at_ = p.at_)
/-- And what they have taken is alike. -/
def SimR (a : Ex × Ps) (b : Ex × Pd) : Prop := Sim a.2 b.2 ∧ (a.2.dead = false → a.1 = b.1)
theorem Sim.fails {p : Ps} {q : Pd} (h : Sim p q) {e : Int} (he : e ≠ 0) {a b : Int} (hab : p.dead = false → a = b) : Sim (p.fails e a) (q.fail e b) := by
  unfold Ps.fails Pd.fail
  rcases h with ⟨h1, h2, h3⟩ | ⟨h1, h2, h3, h4⟩
  · rw [if_neg (by simp [h1]), if_pos h2]; exact .inr ⟨rfl, rfl, he, (hab h1).symm⟩
  · rw [if_pos h1, if_neg h3]; exact .inr ⟨h1, h2, h3, h4⟩
theorem Sim.rest {s : Bytes} {p : Ps} {q : Pd} (h : Sim p q) : Sim (p.restP s) (q.blanks s) := by
  unfold Ps.restP Pd.blanks
  rcases h with ⟨h1, h2, h3⟩ | ⟨h1, h2, h3, h4⟩
  · rw [if_neg (by simp [h1])]; exact .inl ⟨h1, h2, by simp [h3]⟩
  · rw [if_pos h1]; exact .inr ⟨h1, h2, h3, h4⟩
theorem Sim.live {p : Ps} {q : Pd} (h : Sim p q) (hd : p.dead = false) : q.e = 0 ∧ p.i = q.i := by
  rcases h with ⟨_, h2, h3⟩ | ⟨h1, _⟩
  · exact ⟨h2, h3⟩
  · rw [hd] at h1; cases h1
theorem Sim.gone {p : Ps} {q : Pd} (h : Sim p q) (hd : p.dead = true) : q.e ≠ 0 := by
  rcases h with ⟨h1, _⟩ | ⟨_, _, h3, _⟩
  · rw [hd] at h1; cases h1
  · exact h3
theorem restP_dead (s : Bytes) (p : Ps) : (p.restP s).dead = p.dead := by unfold Ps.restP; split <;> rfl
theorem first_nil : firstSign [] = none := by decide
theorem Sim.takeT {s : Bytes} {l : List Bytes} {p : Ps} {q : Pd} (h : Sim p q) : takeT s l p = takeTD s l q := by
  have key : firstSign (p.restT s) = signD s q := by
    unfold Ps.restT signD
    cases hd : p.dead with
    | true => rw [if_pos rfl, if_neg (h.gone hd), first_nil]
    | false =>
      have h2 := (h.rest (s := s)).live ((restP_dead s p).trans hd)
      rw [if_neg (by simp), if_pos (h.live hd).1, h2.2]
  unfold Go.KX.takeT takeTD
  rw [key]
  first | done | (cases signD s q <;> rfl)
theorem Sim.takeP {s : Bytes} {l : List Bytes} {p : Ps} {q : Pd} (h : Sim p q) : Sim (takeP s l p) (takePD s l q) := by
  unfold Go.KX.takeP takePD
  rw [← h.takeT]
  have h2 := h.rest (s := s)
  cases Go.KX.takeT s l p with
  | some x =>
    rcases h2 with ⟨g1, g2, g3⟩ | ⟨g1, g2, g3, g4⟩
    · exact .inl ⟨g1, g2, by simp [g3]⟩
    · exact .inr ⟨g1, g2, g3, g4⟩
  | none => exact h2
theorem Sim.must {s x : Bytes} {p : Ps} {q : Pd} (h : Sim p q) : Sim (mustP s x p) (mustD s x q) := by
  unfold mustP mustD
  rw [← h.takeT]
  cases Go.KX.takeT s [x] p with
  | some _ => exact h.takeP
  | none => exact h.takeP.fails (by decide) (fun hd => by rw [(h.takeP.live hd).2])
theorem Sim.enter {s : Bytes} {d : Nat} {p : Ps} {q : Pd} (h : Sim p q) : Sim (enterP s d p) (enterD s d q) := by
  unfold enterP enterD
  split
  · exact h.rest.fails (by decide) (fun hd => by rw [(h.rest.live hd).2])
  · exact h.rest
theorem sim_loop {s : Bytes} {f : Ps → Ex × Ps} {g : Pd → Ex × Pd} (hfg : ∀ p q, Sim p q → SimR (f p) (g q)) {ops : List Bytes} {alone : Bool} : ∀ (n : Nat) {x y : Ex} {p : Ps} {q : Pd}, Sim p q → (p.dead = false → x = y) → SimR (loopG (tkX s) f ops alone n x p) (loopG (tkD s) g ops alone n y q)
  | 0, x, y, p, q, h, hx => ⟨h, hx⟩
  | n + 1, x, y, p, q, h, hx => by
    have hT := h.takeT (s := s) (l := ops)
    have hP := h.takeP (s := s) (l := ops)
    have hdead : (takeP s ops p).dead = p.dead := by
      unfold Go.KX.takeP
      split <;> simp [restP_dead]
    unfold loopG
    simp only [hT]
    split
    · exact ⟨hP, fun hd => hx (by rw [← hdead]; exact hd)⟩
    · rename_i o ho
      have hlive : p.dead = false := by
        cases hd : p.dead with
        | false => rfl
        | true =>
          rw [← hT] at ho
          unfold Go.KX.takeT Ps.restT at ho
          rw [if_pos hd, first_nil] at ho
          cases ho
      have hs := hfg _ _ hP
      have hxy := hx hlive
      subst hxy
      split
      · exact ⟨hs.1, fun hd => by rw [hs.2 hd]⟩
      · exact sim_loop hfg n hs.1 (fun hd => by rw [hs.2 hd])
theorem sim_lev {s : Bytes} {f : Ps → Ex × Ps} {g : Pd → Ex × Pd} (hfg : ∀ p q, Sim p q → SimR (f p) (g q)) : ∀ (n : Nat) (p : Ps) (q : Pd), Sim p q → SimR (levX s f n p) (levD s g n q)
  | 0, p, q, h => hfg p q h
  | n + 1, p, q, h => sim_loop (sim_lev hfg n) _ (sim_lev hfg n p q h).1 (sim_lev hfg n p q h).2
theorem sim_expr {s : Bytes} {f : Ps → Ex × Ps} {g : Pd → Ex × Pd} (hfg : ∀ p q, Sim p q → SimR (f p) (g q)) {d : Nat} {p : Ps} {q : Pd} (h : Sim p q) : SimR (exprX s f d p) (exprD s g d q) := sim_lev hfg 5 _ _ h.enter
theorem sim_par {s : Bytes} {f : Ps → Ex × Ps} {g : Pd → Ex × Pd} (hfg : ∀ p q, Sim p q → SimR (f p) (g q)) {p : Ps} {q : Pd} (h : Sim p q) : SimR (parX s f p) (parD s g q) := by
  obtain ⟨h1, h2⟩ := hfg p q h
  refine ⟨h1.must, fun hd => h2 ?_⟩
  cases hx : (f p).2.dead with
  | false => rfl
  | true =>
    exfalso
    have : (mustP s oPR (f p).2).dead = true := by
      have ht : takeT s [oPR] (f p).2 = none := by unfold takeT Ps.restT; rw [if_pos hx, first_nil]
      have hp : (takeP s [oPR] (f p).2).dead = true := by unfold takeP; rw [ht]; simp [restP_dead, hx]
      unfold mustP
      rw [ht]
      unfold Ps.fails
      simp only [hp, if_true]
    rw [show (parX s f p).2 = mustP s oPR (f p).2 from rfl, this] at hd
    cases hd
theorem sim_dead_unit {p : Ps} {q : Pd} (h : Sim p q) {i j : Nat} (hij : p.dead = false → i = j) : Sim { p with i := i } { q with i := j } := by
  rcases h with ⟨h1, h2, h3⟩ | ⟨h1, h2, h3, h4⟩
  · exact .inl ⟨h1, h2, hij h1⟩
  · exact .inr ⟨h1, h2, h3, h4⟩
section
variable {pv : Bytes → Val × Int} {s : Bytes}
theorem sim_number {r : Bytes} {p : Ps} {q : Pd} (h : Sim p q) (hd : p.dead = false) : SimR (numberX pv r p) (numberD pv r q) := by
  have hl := h.live hd
  refine ⟨?_, fun _ => rfl⟩
  unfold numberX numberD
  simp only
  split
  · exact sim_dead_unit h (fun _ => by rw [hl.2])
  · exact sim_dead_unit (h.fails (by decide) (fun _ => by rw [hl.2])) (fun _ => by rw [hl.2])
theorem sim_ref {r : Bytes} {p : Ps} {q : Pd} (h : Sim p q) (hd : p.dead = false) : SimR (refX r p) (refD r q) := by
  have hl := h.live hd
  refine ⟨?_, fun _ => rfl⟩
  unfold refX refD
  simp only
  split
  · exact sim_dead_unit h (fun _ => by rw [hl.2])
  · exact sim_dead_unit (h.fails (by decide) (fun _ => by rw [hl.2])) (fun _ => by rw [hl.2])
/-- What is dead stays dead, with the same error. -/
def Gone (p q : Ps) : Prop := p.dead = true → q.dead = true ∧ q.err = p.err ∧ q.at_ = p.at_
theorem Gone.trans {a b c : Ps} (h : Gone a b) (k : Gone b c) : Gone a c := fun hd => by
  obtain ⟨h1, h2, h3⟩ := h hd
  obtain ⟨k1, k2, k3⟩ := k h1
  exact ⟨k1, k2.trans h2, k3.trans h3⟩
theorem gone_rest (p : Ps) : Gone p (p.restP s) := fun hd => by unfold Ps.restP; rw [if_pos hd]; exact ⟨hd, rfl, rfl⟩
theorem gone_fails (p : Ps) (e a : Int) : Gone p (p.fails e a) := fun hd => by unfold Ps.fails; rw [if_pos hd]; exact ⟨hd, rfl, rfl⟩
theorem takeT_dead {l : List Bytes} {p : Ps} (hd : p.dead = true) : takeT s l p = none := by unfold takeT Ps.restT; rw [if_pos hd, first_nil]
theorem gone_take (l : List Bytes) (p : Ps) : Gone p (takeP s l p) := fun hd => by unfold takeP; rw [takeT_dead hd]; exact gone_rest p hd
theorem gone_must (x : Bytes) (p : Ps) : Gone p (mustP s x p) := fun hd => by unfold mustP; rw [takeT_dead hd]; exact (gone_take _ p).trans (gone_fails _ _ _) hd
theorem gone_enter (d : Nat) (p : Ps) : Gone p (enterP s d p) := fun hd => by
  unfold enterP; split
  · exact (gone_rest p).trans (gone_fails _ _ _) hd
  · exact gone_rest p hd
theorem gone_loop {f : Ps → Ex × Ps} {ops : List Bytes} {alone : Bool} : ∀ (n : Nat) (x : Ex) (p : Ps), Gone p (loopG (tkX s) f ops alone n x p).2
  | 0, x, p => fun hd => ⟨hd, rfl, rfl⟩
  | n + 1, x, p => fun hd => by
    unfold loopG
    simp only [takeT_dead hd]
    exact gone_take _ p hd
theorem gone_lev {f : Ps → Ex × Ps} (hf : ∀ p, Gone p (f p).2) : ∀ (n : Nat) (p : Ps), Gone p (levX s f n p).2
  | 0, p => hf p
  | n + 1, p => (gone_lev hf n p).trans (gone_loop _ _ _)
theorem gone_expr {f : Ps → Ex × Ps} (hf : ∀ p, Gone p (f p).2) (d : Nat) (p : Ps) : Gone p (exprX s f d p).2 := (gone_enter d p).trans (gone_lev hf 5 _)
theorem gone_prim (ex : Ps → Ex × Ps) (p : Ps) : Gone p (primX pv s ex p).2 := fun hd => by
  unfold primX
  simp only [hd]
  exact gone_rest p hd
theorem gone_un : ∀ (d : Nat) (p : Ps), Gone p (unX pv s d p).2
  | 0, p => ((gone_enter 33 p).trans (gone_take _ _)).trans (gone_prim _ _)
  | d + 1, p => fun hd => by
    have h1 := gone_enter (s := s) (32 - d) p hd
    unfold unX
    rw [takeT_dead h1.1]
    exact (((gone_enter (32 - d) p).trans (gone_take _ _)).trans (gone_prim _ _)) hd
theorem Sim.of_gone {p p' : Ps} {q : Pd} (h : Sim p q) (hd : p.dead = true) (g : Gone p p') : Sim p' q := by
  obtain ⟨g1, g2, g3⟩ := g hd
  rcases h with ⟨h1, _⟩ | ⟨_, h2, h3, h4⟩
  · rw [hd] at h1; cases h1
  · exact .inr ⟨g1, by rw [g2]; exact h2, h3, by rw [g3]; exact h4⟩
theorem sim_word {f : Ps → Ex × Ps} {g : Pd → Ex × Pd} (hfg : ∀ p q, Sim p q → SimR (f p) (g q)) (hf : ∀ p, Gone p (f p).2) {r : Bytes} {p : Ps} {q : Pd} (h : Sim p q) (hd : p.dead = false) : SimR (wordX s f r p) (wordD s g r q) := by
  have hl := h.live hd
  have h1 : Sim { p with i := p.i + (r.take (runB gLD r)).length } { q with i := q.i + (r.take (runB gLD r)).length } := sim_dead_unit h (fun _ => by rw [hl.2])
  unfold wordX wordD
  simp only
  split
  · exact ⟨h1, fun _ => rfl⟩
  split
  · exact ⟨h1, fun _ => rfl⟩
  split
  · exact ⟨h1, fun _ => rfl⟩
  split
  · have h2 := sim_par (s := s) hfg (h1.must (s := s) (x := oPL))
    exact ⟨h2.1, fun hd => by rw [h2.2 hd]⟩
  · have h2 := h1.fails (e := 110) (by decide) (a := p.i) (b := q.i) (fun _ => by rw [hl.2])
    have hdead : (({ p with i := p.i + (r.take (runB gLD r)).length } : Ps).fails 110 p.i).dead = true := by
      unfold Ps.fails; simp only [hd]; rfl
    have hg := ((gone_must (s := s) oPL (({ p with i := p.i + (r.take (runB gLD r)).length } : Ps).fails 110 p.i)).trans (hf _)).trans (gone_must (s := s) oPR _)
    refine ⟨h2.of_gone hdead hg, fun hx => ?_⟩
    have := (hg hdead).1
    rw [show (parX s f (mustP s oPL (({ p with i := p.i + (r.take (runB gLD r)).length } : Ps).fails 110 p.i))).2 = mustP s oPR (f (mustP s oPL (({ p with i := p.i + (r.take (runB gLD r)).length } : Ps).fails 110 p.i))).2 from rfl] at hx
    rw [this] at hx; cases hx
theorem first_par (r : Bytes) : firstSign (40 :: r) = some oPL := by
  simp [firstSign, signsT, Lib.hasPrefix, List.find?, List.isPrefixOf]
theorem first_no_par {c : UInt8} {r : Bytes} (h : c ≠ 40) : firstSign (c :: r) ≠ some oPL := by
  intro hf
  have := List.find?_some hf
  simp [Lib.hasPrefix, List.isPrefixOf] at this
  exact h this.symm
theorem runB_drop (g : Bytes) : ∀ l : Bytes, runB g (l.drop (runB g l)) = 0
  | [] => rfl
  | c :: r => by
    by_cases h : c ∈ g
    · have e : runB g (c :: r) = runB g r + 1 := by conv => lhs; unfold runB
                                                    rw [if_pos h]
      rw [e, List.drop_succ_cons]
      exact runB_drop g r
    · have e : runB g (c :: r) = 0 := by conv => lhs; unfold runB
                                         rw [if_neg h]
      rw [e, List.drop_zero, e]
theorem sim_prim {f : Ps → Ex × Ps} {g : Pd → Ex × Pd} (hfg : ∀ p q, Sim p q → SimR (f p) (g q)) (hf : ∀ p, Gone p (f p).2) {p : Ps} {q : Pd} (h : Sim p q) : SimR (primX pv s f p) (primD pv s g q) := by
  have hr := h.rest (s := s)
  unfold primX primD
  simp only
  cases hd : p.dead with
  | true =>
    rw [if_neg (h.gone hd)]
    exact ⟨hr, fun _ => rfl⟩
  | false =>
    rw [if_pos (h.live hd).1]
    have hrd : (p.restP s).dead = false := (restP_dead s p).trans hd
    have hl := hr.live hrd
    have hT : p.restT s = s.drop (q.blanks s).i := by unfold Ps.restT; rw [if_neg (by simp [hd]), hl.2]
    have hb2 : (q.blanks s).blanks s = q.blanks s := by
      unfold Pd.blanks
      have := runB_drop [32] (s.drop q.i)
      rw [List.drop_drop] at this
      simp only
      rw [this, Nat.add_zero]
    have hsign : signD s (q.blanks s) = firstSign (s.drop (q.blanks s).i) := by unfold signD; rw [if_pos hl.1, hb2]
    cases hc : s.drop (q.blanks s).i with
    | nil =>
      rw [hT, hc]
      have ht : takeTD s [oPL] (q.blanks s) = none := by unfold takeTD; rw [hsign, hc, first_nil]
      rw [ht]
      simp only
      have hp : takePD s [oPL] (q.blanks s) = q.blanks s := by unfold takePD; rw [ht, hb2]
      rw [hp]
      exact ⟨hr.fails (by decide) (fun _ => by rw [hl.2]), fun _ => rfl⟩
    | cons c r =>
      rw [hT, hc]
      simp only
      by_cases h40 : c = 40
      · subst h40
        have ht : takeTD s [oPL] (q.blanks s) = some oPL := by unfold takeTD; rw [hsign, hc, first_par]; simp
        rw [if_pos rfl, ht]
        simp only
        have hp : takePD s [oPL] (q.blanks s) = { q.blanks s with i := (q.blanks s).i + 1 } := by unfold takePD; rw [ht, hb2]; rfl
        rw [hp]
        exact sim_par hfg (sim_dead_unit hr (fun _ => by rw [hl.2]))
      · have ht : takeTD s [oPL] (q.blanks s) = none := by
          unfold takeTD
          rw [hsign, hc]
          split
          · rename_i x hx
            rw [if_neg]
            intro hm
            simp only [List.mem_singleton] at hm
            subst hm
            exact first_no_par h40 hx
          · rfl
        rw [if_neg h40, ht]
        simp only
        by_cases h36 : c = 36
        · subst h36
          rw [if_pos rfl, if_neg (by decide), if_pos rfl]
          exact sim_ref hr hrd
        · rw [if_neg h36]
          by_cases hg : c ∈ gDig
          · rw [if_pos hg, if_pos hg]
            exact sim_number hr hrd
          · rw [if_neg hg, if_neg hg, if_neg h36]
            by_cases hle : c ∈ gLet
            · rw [if_pos hle, if_pos hle]
              exact sim_word hfg hf hr hrd
            · rw [if_neg hle, if_neg hle]
              exact ⟨hr.fails (by decide) (fun _ => by rw [hl.2]), fun _ => rfl⟩
theorem sim_un : ∀ (d : Nat) (p : Ps) (q : Pd), Sim p q → SimR (unX pv s d p) (unD pv s d q)
  | 0, p, q, h => by
    unfold unX unD
    have h1 := (h.enter (s := s) (d := 33)).takeP (s := s) (l := [oSub, oNot])
    exact sim_prim (fun p q h => ⟨h, fun _ => rfl⟩) (fun p hd => ⟨hd, rfl, rfl⟩) h1
  | d + 1, p, q, h => by
    have h0 := h.enter (s := s) (d := 32 - d)
    have h1 := h0.takeP (s := s) (l := [oSub, oNot])
    unfold unX unD
    rw [← h0.takeT]
    cases takeT s [oSub, oNot] (enterP s (32 - d) p) with
    | some o =>
      have h2 := sim_un d _ _ h1
      exact ⟨h2.1, fun hd => by rw [h2.2 hd]⟩
    | none => exact sim_prim (fun p q h => sim_expr (sim_un d) h) (fun p => gone_expr (fun p => gone_un d p) _ p) h1
end
end Go.KX
namespace Go.KX
abbrev dgt (c : UInt8) : Prop := 48 ≤ c.toNat ∧ c.toNat ≤ 57
def numD (a : Nat) (l : Bytes) : Nat := l.foldl (fun a c => a * 10 + (c.toNat - 48)) a
/-- Likewise, for the kernel to reckon. -/
def decF : Nat → Nat → Bytes
  | 0, n => [UInt8.ofNat (48 + n)]
  | k + 1, n => if n < 10 then [UInt8.ofNat (48 + n)] else decF k (n / 10) ++ [UInt8.ofNat (48 + n % 10)]
def printF (n : Int) : Bytes :=
  let m := decF 16 (n.natAbs / 1000) ++ (if n.natAbs % 1000 = 0 then [] else 46 :: Lib.trimRightB ((decF 16 (1000 + n.natAbs % 1000)).drop 1) 48)
  if n < 0 then 45 :: m else m
def candM (b : Bytes) : Nat :=
  let f := (b.dropWhile (fun c => c != 46)).drop 1
  numD 0 (b.takeWhile (fun c => c != 46) ++ (f ++ List.replicate (3 - f.length) 48))
def candV (s : Bytes) : Val := match s with
  | 45 :: r => numV (-(candM r : Int))
  | s => numV (candM s)
def parseV (s : Bytes) : Val × Int :=
  if s = [110, 117, 108, 108] then (nullV, 0) else if s = [78, 97, 78] then (nanV, 0) else if s = [43, 73, 110, 102] then (plusV, 0) else if s = [45, 73, 110, 102] then (minusV, 0) else
  if (candV s).k = 1 ∧ printF (candV s).n = s then (candV s, 0) else (zeroV, 80)
theorem decF_eq : ∀ (k n : Nat), n < 10 ^ (k + 1) → decF k n = Lib.decDigits n
  | 0, n, h => by unfold decF; rw [Lib.decDigits_one (by simpa using h)]
  | k + 1, n, h => by
    unfold decF
    split
    · rename_i h'; rw [Lib.decDigits_one h']
    · rename_i h'
      rw [decF_eq k (n / 10) (by rw [Nat.pow_succ] at h; omega)]
      conv => rhs; rw [Lib.decDigits]
      rw [dif_neg h']
theorem print_num {w : Val} (hw : isV w = true) (hk : w.k = 1) : printV w = if w.n < 0 then 45 :: magV w.n.natAbs else magV w.n.natAbs := by
  unfold printV
  rw [if_neg (by simp [hw]), if_neg (by omega), if_neg (by omega), if_neg (by omega), if_neg (by omega)]
theorem printF_eq {n : Int} (h0 : -1000000000000000 ≤ n) (h1 : n ≤ 1000000000000000) : printF n = printV ⟨1, n⟩ := by
  rw [print_num (by unfold isV; simp; omega) rfl]
  unfold printF
  rw [decF_eq _ _ (by omega), decF_eq _ _ (by omega)]
  rfl
theorem ofNat_dig {d : Nat} (h : d < 10) : (UInt8.ofNat (48 + d)).toNat = 48 + d := by
  simp; omega
theorem numD_app (a : Nat) (x y : Bytes) : numD a (x ++ y) = numD (numD a x) y := by unfold numD; rw [List.foldl_append]
theorem numD_dec (n : Nat) : numD 0 (Lib.decDigits n) = n := by
  induction n using Nat.strongRecOn with
  | _ n ih =>
    by_cases h : n < 10
    · rw [Lib.decDigits_one h]; simp only [numD, List.foldl_cons, List.foldl_nil, ofNat_dig h]; omega
    · rw [Lib.decDigits, dif_neg h, numD_app, ih (n / 10) (by omega)]
      simp only [numD, List.foldl_cons, List.foldl_nil, ofNat_dig (show n % 10 < 10 by omega)]
      omega
theorem dgt_dec (n : Nat) : ∀ c ∈ Lib.decDigits n, dgt c := by
  induction n using Nat.strongRecOn with
  | _ n ih =>
    by_cases h : n < 10
    · rw [Lib.decDigits_one h]
      intro c hc
      simp only [List.mem_singleton] at hc
      subst hc
      have := ofNat_dig h
      exact ⟨by omega, by omega⟩
    · rw [Lib.decDigits, dif_neg h]
      intro c hc
      rcases List.mem_append.1 hc with hc | hc
      · exact ih (n / 10) (by omega) c hc
      · simp only [List.mem_singleton] at hc
        subst hc
        have := ofNat_dig (show n % 10 < 10 by omega)
        exact ⟨by omega, by omega⟩
theorem dec_len_lt : ∀ (k n : Nat), n < 10 ^ (k + 1) → (Lib.decDigits n).length ≤ k + 1
  | 0, n, h => by rw [Lib.decDigits_one (by simpa using h)]; simp
  | k + 1, n, h => by
    by_cases h10 : n < 10
    · rw [Lib.decDigits_one h10]; simp
    · rw [Lib.decDigits, dif_neg h10, List.length_append]
      have := dec_len_lt k (n / 10) (by rw [Nat.pow_succ] at h; omega)
      simp; omega
theorem dec_ne (n : Nat) : Lib.decDigits n ≠ [] := by
  by_cases h : n < 10
  · rw [Lib.decDigits_one h]; simp
  · rw [Lib.decDigits, dif_neg h]; simp
abbrev d3 (r : Nat) : Bytes := [UInt8.ofNat (48 + r / 100), UInt8.ofNat (48 + r / 10 % 10), UInt8.ofNat (48 + r % 10)]
theorem numD_d3 {r : Nat} (h : r < 1000) (a : Nat) : numD a (d3 r) = a * 1000 + r := by
  simp only [numD, List.foldl_cons, List.foldl_nil]
  rw [ofNat_dig (show r / 100 < 10 by omega), ofNat_dig (show r / 10 % 10 < 10 by omega), ofNat_dig (show r % 10 < 10 by omega)]
  omega
theorem dgt_d3 {r : Nat} (h : r < 1000) : ∀ c ∈ d3 r, dgt c := by
  intro c hc
  simp only [List.mem_cons, List.not_mem_nil, or_false] at hc
  have a1 := ofNat_dig (show r / 100 < 10 by omega)
  have a2 := ofNat_dig (show r / 10 % 10 < 10 by omega)
  have a3 := ofNat_dig (show r % 10 < 10 by omega)
  rcases hc with rfl | rfl | rfl <;> exact ⟨by omega, by omega⟩
theorem dropW_rep (c : UInt8) : ∀ l : Bytes, l = List.replicate (l.length - (l.dropWhile (· == c)).length) c ++ l.dropWhile (· == c)
  | [] => rfl
  | x :: r => by
    have ih := dropW_rep c r
    unfold List.dropWhile
    by_cases h : (x == c) = true
    · rw [h]
      have hx : x = c := by simpa using h
      have hle : (r.dropWhile (· == c)).length ≤ r.length := (List.dropWhile_sublist _).length_le
      simp only [List.length_cons]
      rw [show r.length + 1 - (r.dropWhile (· == c)).length = (r.length - (r.dropWhile (· == c)).length) + 1 by omega, List.replicate_succ, List.cons_append, ← ih, hx]
    · rw [Bool.eq_false_iff.2 h]; simp
theorem trim_rep (l : Bytes) : Lib.trimRightB l 48 ++ List.replicate (l.length - (Lib.trimRightB l 48).length) 48 = l := by
  have h := congrArg List.reverse (dropW_rep 48 l.reverse)
  simp only [List.reverse_append, List.reverse_replicate, List.reverse_reverse, List.length_reverse] at h
  unfold Lib.trimRightB
  rw [List.length_reverse]
  exact h.symm
/-- A text in front of the point, one behind it. -/
theorem mag_parts {n : Nat} : ∃ t : Bytes, t.length ≤ 3 ∧ magV n = Lib.decDigits (n / 1000) ++ (if t = [] then [] else 46 :: t) ∧ t ++ List.replicate (3 - t.length) 48 = d3 (n % 1000) ∧ ∀ c ∈ t, dgt c := by
  have hr : n % 1000 < 1000 := Nat.mod_lt _ (by decide)
  unfold magV fracV
  by_cases h0 : n % 1000 = 0
  · refine ⟨[], by simp, by simp [h0], ?_, fun c hc => (by cases hc)⟩
    rw [h0]; rfl
  · have e := trim_rep (d3 (n % 1000))
    have hl : (d3 (n % 1000)).length = 3 := rfl
    rw [hl] at e
    have hne := frac_ne h0 hr
    rw [dec4 hr] at hne
    refine ⟨Lib.trimRightB (d3 (n % 1000)) 48, ?_, ?_, e, fun c hc => ?_⟩
    · have := trim_len (d3 (n % 1000)); rw [hl] at this; exact this
    · rw [if_neg h0, if_neg hne, dec4 hr]
    · refine dgt_d3 hr c ?_
      rw [← e]
      exact List.mem_append_left _ hc
theorem tw_app {p : UInt8 → Bool} : ∀ {x : Bytes} (y : Bytes), (∀ c ∈ x, p c = true) → (x ++ y).takeWhile p = x ++ y.takeWhile p ∧ (x ++ y).dropWhile p = y.dropWhile p
  | [], y, _ => ⟨rfl, rfl⟩
  | c :: x, y, h => by
    obtain ⟨h1, h2⟩ := tw_app (x := x) y (fun d hd => h d (.tail _ hd))
    simp only [List.cons_append, List.takeWhile, List.dropWhile, h c (.head _), h1, h2, and_self]
theorem dgt_ne {c : UInt8} (h : dgt c) : (c != 46) = true ∧ c ≠ 45 ∧ c ≠ 46 := by
  refine ⟨?_, ?_, ?_⟩
  · simp only [bne_iff_ne]; rintro rfl; exact absurd h.1 (by decide)
  · rintro rfl; exact absurd h.1 (by decide)
  · rintro rfl; exact absurd h.1 (by decide)
theorem candM_mag (n : Nat) : candM (magV n) = n := by
  obtain ⟨t, h1, h2, h3, h4⟩ := mag_parts (n := n)
  have hw := tw_app (p := fun c => c != 46) (x := Lib.decDigits (n / 1000)) (if t = [] then [] else 46 :: t) (fun c hc => (dgt_ne (dgt_dec _ c hc)).1)
  unfold candM
  rw [h2, hw.1, hw.2]
  have e : (((if t = [] then [] else 46 :: t : Bytes)).dropWhile (fun c => c != 46)).drop 1 = t ∧ ((if t = [] then [] else 46 :: t : Bytes)).takeWhile (fun c => c != 46) = [] := by
    split
    · rename_i h; rw [h]; exact ⟨rfl, rfl⟩
    · simp [List.dropWhile, List.takeWhile]
  simp only [e.1, e.2, List.append_nil, h3]
  rw [numD_app, numD_dec, numD_d3 (Nat.mod_lt _ (by decide))]
  omega
theorem mag_head (n : Nat) : ∃ c r, magV n = c :: r ∧ dgt c := by
  obtain ⟨t, h1, h2, h3, h4⟩ := mag_parts (n := n)
  cases hd : Lib.decDigits (n / 1000) with
  | nil => exact absurd hd (dec_ne _)
  | cons c r => exact ⟨c, _, by rw [h2, hd]; rfl, dgt_dec (n / 1000) c (by rw [hd]; exact .head _)⟩
theorem numV_in2 {n : Int} (h0 : -1000000000000000 ≤ n) (h1 : n ≤ 1000000000000000) : numV n = ⟨1, n⟩ := by
  unfold numV; rw [if_neg (by omega), if_neg (by omega)]
theorem cand_pos {s : Bytes} {c : UInt8} {r : Bytes} (h : s = c :: r) (hc : c ≠ 45) : candV s = numV (candM s) := by
  subst h
  unfold candV
  split
  · rename_i he; injection he with e1 _; exact absurd e1 hc
  · rfl
/-- What is printed is read back. -/
theorem cand_print {w : Val} (hw : isV w = true) (hk : w.k = 1) : candV (printV w) = w := by
  obtain ⟨k, n⟩ := w
  simp only at hk
  subst hk
  have hn := isV_cases hw
  have hn : -1000000000000000 ≤ n ∧ n ≤ 1000000000000000 := by
    rcases hn with ⟨_, h1, h2⟩ | h | h | h | h
    · exact ⟨h1, h2⟩
    all_goals cases h
  rw [print_num hw rfl]
  by_cases h0 : n < 0
  · rw [if_pos h0]
    show numV (-(candM (magV n.natAbs) : Int)) = _
    rw [candM_mag, numV_in2 (by omega) (by omega)]
    congr 1; omega
  · rw [if_neg h0]
    obtain ⟨c, r, hm, hc⟩ := mag_head n.natAbs
    simp only
    rw [cand_pos hm (dgt_ne hc).2.1, candM_mag, numV_in2 (by omega) (by omega)]
    congr 1; omega
theorem cand_isV (s : Bytes) : isV (candV s) = true := by unfold candV; split <;> exact isV_num _
theorem isV_num1 {v : Val} (h : isV v = true) (hk : v.k = 1) : -1000000000000000 ≤ v.n ∧ v.n ≤ 1000000000000000 := by
  rcases isV_cases h with ⟨_, h1, h2⟩ | rfl | rfl | rfl | rfl
  · exact ⟨h1, h2⟩
  all_goals cases hk
theorem print_cand {v : Val} (h : isV v = true) (hk : v.k = 1) : printF v.n = printV v := by
  obtain ⟨h1, h2⟩ := isV_num1 h hk
  rw [printF_eq h1 h2]
  obtain ⟨k, n⟩ := v
  simp only at hk
  subst hk; rfl
/-- The value of a text of a number. -/
def numP (s : Bytes) (v : Val) : Prop := isV v = true ∧ v.k = 1 ∧ printV v = s
theorem parse_num {s : Bytes} {r : Val × Int} (h4 : s ≠ [110, 117, 108, 108] ∧ s ≠ [78, 97, 78] ∧ s ≠ [43, 73, 110, 102] ∧ s ≠ [45, 73, 110, 102]) (hr : (∃ v, numP s v ∧ r = (v, 0)) ∨ ((∀ v, ¬ numP s v) ∧ r = (zeroV, 80))) : parseV s = r := by
  unfold parseV
  rw [if_neg h4.1, if_neg h4.2.1, if_neg h4.2.2.1, if_neg h4.2.2.2]
  rcases hr with ⟨v, ⟨h1, h2, h3⟩, rfl⟩ | ⟨h, rfl⟩
  · have e : candV s = v := by rw [← h3]; exact cand_print h1 h2
    rw [e, if_pos ⟨h2, by rw [print_cand h1 h2]; exact h3⟩]
  · rw [if_neg]
    rintro ⟨h1, h2⟩
    exact h (candV s) ⟨cand_isV s, h1, by rw [← print_cand (cand_isV s) h1]; exact h2⟩
theorem parseV_ok {s : Bytes} (h : (parseV s).2 = 0) : isV (parseV s).1 = true ∧ printV (parseV s).1 = s := by
  unfold parseV at h ⊢
  repeat' split at h
  all_goals first
    | (rename_i h1; subst h1; exact ⟨by decide, by decide⟩)
    | (rename_i h1; rw [if_neg ‹_›, if_neg ‹_›, if_neg ‹_›, if_neg ‹_›, if_pos h1]; exact ⟨cand_isV s, by rw [← print_cand (cand_isV s) h1.1]; exact h1.2⟩)
    | cases h
end Go.KX
namespace Go.KX
abbrev M62 : Nat := 4611686018427387903
theorem index_hit : ∀ {x : Bytes} (t : Bytes), (∀ c ∈ x, c ≠ 46) → Lib.index (x ++ 46 :: t) [46] = x.length
  | [], t, _ => by rw [List.nil_append, Lib.index_one]; simp [Lib.indexByte]
  | c :: x, t, h => by
    have ih := index_hit (x := x) t (fun d hd => h d (.tail _ hd))
    have hc := h c (.head _)
    rw [Lib.index_one] at ih ⊢
    rw [List.cons_append]
    unfold Lib.indexByte
    simp [hc, ih]
    try omega
theorem index_miss : ∀ {x : Bytes}, (∀ c ∈ x, c ≠ 46) → Lib.index x [46] = -1
  | [], _ => by rw [Lib.index_one]; rfl
  | c :: x, h => by
    have ih := index_miss (x := x) (fun d hd => h d (.tail _ hd))
    have hc := h c (.head _)
    rw [Lib.index_one] at ih ⊢
    unfold Lib.indexByte
    simp [hc, ih]
theorem cut_mag {x t : Bytes} (hx : ∀ c ∈ x, c ≠ 46) : Lib.cut (x ++ (if t = [] then [] else 46 :: t)) [46] = (x, t, !decide (t = [])) := by
  unfold Lib.cut
  by_cases h : t = []
  · subst h
    simp only [if_true, List.append_nil]
    rw [index_miss hx, if_neg (by decide)]
    rfl
  · rw [if_neg h, index_hit t hx, if_pos (by omega)]
    simp [h]
/-- Digits alone, not too many. -/
theorem uintM_dgt : ∀ (l : Bytes) (a : Nat), (∀ c ∈ l, dgt c) → numD a l ≤ 99999999999999999 → Lib.parseUintM M62 a l = .ok (numD a l)
  | [], a, _, _ => rfl
  | c :: l, a, h, hb => by
    have hc := h c (.head _)
    have mono : ∀ (l : Bytes) (a : Nat), a ≤ numD a l := by
      intro l
      induction l with
      | nil => intro a; exact Nat.le_refl _
      | cons c l ih => intro a; exact Nat.le_trans (by omega) (ih (a * 10 + (c.toNat - 48)))
    have hb' : numD (a * 10 + (c.toNat - 48)) l ≤ 99999999999999999 := hb
    have h2 := mono l (a * 10 + (c.toNat - 48))
    unfold Lib.parseUintM
    rw [if_pos hc, if_neg (by omega), if_neg (by show ¬ 4611686018427387903 < _; omega)]
    exact uintM_dgt l _ (fun d hd => h d (.tail _ hd)) hb'
/-- What the program's Parse comes to. -/
def progV (s : Bytes) : Val × Int :=
  if s = [110, 117, 108, 108] then (nullV, 0) else if s = [78, 97, 78] then (nanV, 0) else if s = [43, 73, 110, 102] then (plusV, 0) else if s = [45, 73, 110, 102] then (minusV, 0) else
  let c := Lib.cut (Lib.trimPrefix s [45]) [46]
  if c.2.1.length ≤ 3 ∧ c.1.length ≤ 13 then
    match Lib.parseUintM M62 0 (c.1 ++ c.2.1 ++ Lib.repeatL [48] (3 - c.2.1.length)) with
    | .ok n => if (numV (if Lib.hasPrefix s [45] then -(n : Int) else n)).k = 1 ∧ printV (numV (if Lib.hasPrefix s [45] then -(n : Int) else n)) = s then (numV (if Lib.hasPrefix s [45] then -(n : Int) else n), 0) else (zeroV, 80)
    | _ => (zeroV, 80)
  else (zeroV, 80)
theorem rep_one (k : Nat) : Lib.repeatL [48] k = List.replicate k 48 := by
  have := Lib.repeatL_replicate 48 1 k
  simpa using this
/-- The parts of what is printed. -/
theorem prog_print {s : Bytes} {w : Val} (hp : numP s w) : Lib.hasPrefix s [45] = decide (w.n < 0) ∧ ∃ x t : Bytes, x.length ≤ 13 ∧ t.length ≤ 3 ∧ Lib.cut (Lib.trimPrefix s [45]) [46] = (x, t, !decide (t = [])) ∧ Lib.parseUintM M62 0 (x ++ t ++ Lib.repeatL [48] (3 - t.length)) = .ok w.n.natAbs := by
  obtain ⟨hw, hk, rfl⟩ := hp
  obtain ⟨b0, b1⟩ := isV_num1 hw hk
  obtain ⟨t, h1, h2, h3, h4⟩ := mag_parts (n := w.n.natAbs)
  have hnot : ∀ c ∈ Lib.decDigits (w.n.natAbs / 1000), c ≠ 46 := fun c hc => (dgt_ne (dgt_dec _ c hc)).2.2
  have hu : Lib.parseUintM M62 0 (Lib.decDigits (w.n.natAbs / 1000) ++ t ++ Lib.repeatL [48] (3 - t.length)) = .ok w.n.natAbs := by
    rw [rep_one, List.append_assoc, h3]
    have hval : numD 0 (Lib.decDigits (w.n.natAbs / 1000) ++ d3 (w.n.natAbs % 1000)) = w.n.natAbs := by
      rw [numD_app, numD_dec, numD_d3 (Nat.mod_lt _ (by decide))]; omega
    rw [uintM_dgt _ _ (fun c hc => ?_) (by rw [hval]; omega), hval]
    rcases List.mem_append.1 hc with hc | hc
    · exact dgt_dec _ c hc
    · exact dgt_d3 (Nat.mod_lt _ (by decide)) c hc
  have hlen : (Lib.decDigits (w.n.natAbs / 1000)).length ≤ 13 := dec_len_lt 12 _ (by omega)
  rw [print_num hw hk]
  by_cases h0 : w.n < 0
  · rw [if_pos h0]
    refine ⟨by simp [Lib.hasPrefix, h0], Lib.decDigits (w.n.natAbs / 1000), t, hlen, h1, ?_, hu⟩
    have : Lib.trimPrefix (45 :: magV w.n.natAbs) [45] = magV w.n.natAbs := by simp [Lib.trimPrefix, Lib.hasPrefix]
    rw [this, h2, cut_mag hnot]
  · rw [if_neg h0]
    obtain ⟨c, r, hm, hc⟩ := mag_head w.n.natAbs
    have hpre : Lib.hasPrefix (magV w.n.natAbs) [45] = false := by
      rw [hm]
      have := (dgt_ne hc).2.1
      simp only [Lib.hasPrefix, List.isPrefixOf, Bool.and_eq_false_iff, beq_eq_false_iff_ne]
      exact .inl (Ne.symm this)
    refine ⟨by rw [hpre]; simp [h0], Lib.decDigits (w.n.natAbs / 1000), t, hlen, h1, ?_, hu⟩
    have : Lib.trimPrefix (magV w.n.natAbs) [45] = magV w.n.natAbs := by unfold Lib.trimPrefix; rw [hpre]; rfl
    rw [this, h2, cut_mag hnot]
theorem signed_abs (n : Int) : (if decide (n < 0) = true then -(n.natAbs : Int) else (n.natAbs : Int)) = n := by
  split
  · rename_i h; have := of_decide_eq_true h; omega
  · rename_i h; have : ¬ n < 0 := by simpa using h
    omega
theorem progV_eq (s : Bytes) : progV s = parseV s := by
  by_cases h1 : s = [110, 117, 108, 108]
  · unfold progV parseV; rw [if_pos h1, if_pos h1]
  by_cases h2 : s = [78, 97, 78]
  · unfold progV parseV; rw [if_neg h1, if_neg h1, if_pos h2, if_pos h2]
  by_cases h3 : s = [43, 73, 110, 102]
  · unfold progV parseV; rw [if_neg h1, if_neg h1, if_neg h2, if_neg h2, if_pos h3, if_pos h3]
  by_cases h4 : s = [45, 73, 110, 102]
  · unfold progV parseV; rw [if_neg h1, if_neg h1, if_neg h2, if_neg h2, if_neg h3, if_neg h3, if_pos h4, if_pos h4]
  refine (parse_num ⟨h1, h2, h3, h4⟩ ?_).symm
  unfold progV
  rw [if_neg h1, if_neg h2, if_neg h3, if_neg h4]
  by_cases hw : ∃ w, numP s w
  · obtain ⟨w, hw⟩ := hw
    obtain ⟨e1, x, t, l1, l2, e2, e3⟩ := prog_print hw
    refine .inl ⟨w, hw, ?_⟩
    simp only [e2, if_pos (show t.length ≤ 3 ∧ x.length ≤ 13 from ⟨l2, l1⟩), e3, e1, signed_abs]
    have hb := isV_num1 hw.1 hw.2.1
    have e4 : numV w.n = w := by
      rw [numV_in2 hb.1 hb.2]
      obtain ⟨k, n⟩ := w
      have := hw.2.1
      simp only at this
      subst this; rfl
    rw [e4, if_pos ⟨hw.2.1, hw.2.2⟩]
  · refine .inr ⟨fun v hv => hw ⟨v, hv⟩, ?_⟩
    simp only
    split
    · split
      · rw [if_neg]
        rintro ⟨g1, g2⟩
        exact hw ⟨_, isV_num _, g1, g2⟩
      · rfl
    · rfl
end Go.KX
namespace Go.KX
section
variable {X : Kx} {k : List It} {L : SL} {M : SM} {fs : List MF} {own : List Res} {arr : Array Oper} {l : List Oper} {o : Oper}
/-- A literal of constants alone. -/
theorem bld {tb : TT} (hT : tb.Ok X.P) (m : Nat) (H : List (List SV)) {d T : Nat} {parts : Array (Nat × Operand)} (cp : Array (Nat × Value)) (v : Value) {l' L' M' φ} (hr : ∀ w, (Instr.build T cp).run X.P w = .ok v w) (hk : ES X arr l' k L' M' fs own) (ho : o.op = .build T parts := by rfl) (hc : ∀ a : Act, parts.map (fun p => (p.1, a.eval p.2)) = cp := by intro a; first | rfl | (simp; rfl) | (simp; done) | (simp; repeat' (first | exact rfl | constructor)))
    (hg : o.guard = none := by rfl) (hd : o.dst = some d := by rfl) (hn : Nat.blt d X.n = true := by rfl) (hrn : xrun tb X.n arr m H l ((d, .v v) :: L) M [] = some (l', L', M', φ) := by rfl) (hφ : conj φ := by first | trivial | omega | (simp +contextual [conj]; done) | (simp +contextual [conj, *]; done) | (simp +contextual [conj, *] <;> omega)) : ES X arr (o :: l) k L M fs own := by
  have hG : gS arr (lkS L) o = some none := by unfold gS; rw [hg]
  refine ES_step (Stp_read (sv := .v v) hG hd hn (fun L' hL hon g a ρ ms st => ⟨v, ?_, .v⟩)) ?_
  · have := hr g.w
    rw [← hc a] at this
    simp only [execOp, ho]
    simp [this]
  · rw [hd]
    exact go hT m H hk hrn hφ
/-- An array's element, at an index that is known. -/
theorem ixa {tb : TT} (hT : tb.Ok X.P) (m : Nat) (H : List (List SV)) {d T : Nat} {x ix : Operand} {vx vz r : Value} (sv : SV) {l' L' M' φ} (hr : ∀ w, (Instr.index T vx vz).run X.P w = .ok r w) (hs : ∀ g ρ, Den g ρ sv r) (hk : ES X arr l' k L' M' fs own) (ho : o.op = .index T x ix := by rfl)
    (hx : evS (lkS L) x = some (.v vx) := by rfl) (hz : evS (lkS L) ix = some (.v vz) := by rfl) (hg : o.guard = none := by rfl) (hd : o.dst = some d := by rfl) (hn : Nat.blt d X.n = true := by rfl) (hrn : xrun tb X.n arr m H l ((d, sv) :: L) M [] = some (l', L', M', φ) := by rfl)
    (hφ : conj φ := by first | trivial | omega | (simp +contextual [conj]; done) | (simp +contextual [conj, *]; done) | (simp +contextual [conj, *] <;> omega)) : ES X arr (o :: l) k L M fs own := by
  have hG : gS arr (lkS L) o = some none := by unfold gS; rw [hg]
  refine ES_step (Stp_read (sv := sv) hG hd hn (fun L' hL hon g a ρ ms st => ⟨r, ?_, hs g ρ⟩)) ?_
  · have hSl : Sl X ρ L' a g := st.all _ (.tail _ (.head _))
    have hev : evs (lkS L') [x, ix] = some [.v vx, .v vz] := by
      have := evs_agree' hL
      rw [show o.op.operands.toList = [x, ix] by rw [ho]; rfl] at this
      rw [this]
      simp only [evs, hx, hz]
    obtain ⟨_, _, e1, dx, hr1⟩ := (evals_den hSl.val hev).uncons
    obtain ⟨_, _, e2, dy, _⟩ := hr1.uncons
    simp only [List.map_cons, List.cons.injEq] at e1
    obtain ⟨rfl, rfl⟩ := e1
    simp only [List.cons.injEq] at e2
    obtain ⟨rfl, _⟩ := e2
    simp only [execOp, ho, den_v dx, den_v dy]
    simp [hr g.w]
  · rw [hd]
    exact go hT m H hk hrn hφ
end
end Go.KX
namespace Go.KX
section
variable {X : Kx} {k : List It} {L : SL} {M : SM} {fs : List MF} {own : List Res} {arr : Array Oper} {l : List Oper} {o : Oper}
/-- Two plain values, put together. -/
theorem kn2 {tb : TT} (hT : tb.Ok X.P) (m : Nat) (H : List (List SV)) {d T yT : Nat} {op : BinOp} {x y : Operand} {vx vy : Value} (v : Value) {l' L' M' φ} (hr : ∀ w, (binOp op T vx vy).run X.P w = .ok v w) (hk : ES X arr l' k L' M' fs own) (ho : o.op = .binOp op T x y yT := by rfl)
    (hx : evS (lkS L) x = some (.v vx) := by rfl) (hy : evS (lkS L) y = some (.v vy) := by rfl) (he : ∀ w, (eqGuard op T x y vx vy).run X.P w = .ok () w := by intro w; rfl)
    (hg : o.guard = none := by rfl) (hd : o.dst = some d := by rfl) (hn : Nat.blt d X.n = true := by rfl) (hrn : xrun tb X.n arr m H l ((d, .v v) :: L) M [] = some (l', L', M', φ) := by rfl)
    (hφ : conj φ := by first | trivial | omega | (simp +contextual [conj]; done) | (simp +contextual [conj, *]; done) | (simp +contextual [conj, *] <;> omega)) : ES X arr (o :: l) k L M fs own := by
  have hG : gS arr (lkS L) o = some none := by unfold gS; rw [hg]
  refine ES_step (Stp_read (sv := .v v) hG hd hn (fun L' hL hon g a ρ ms st => ⟨v, ?_, .v⟩)) ?_
  · have hSl : Sl X ρ L' a g := st.all _ (.tail _ (.head _))
    have hev : evs (lkS L') [x, y] = some [.v vx, .v vy] := by
      have := evs_agree' hL
      rw [show o.op.operands.toList = [x, y] by rw [ho]; rfl] at this
      rw [this]
      simp only [evs, hx, hy]
    obtain ⟨_, _, e1, dx, hr1⟩ := (evals_den hSl.val hev).uncons
    obtain ⟨_, _, e2, dy, _⟩ := hr1.uncons
    simp only [List.map_cons, List.cons.injEq] at e1
    obtain ⟨rfl, rfl⟩ := e1
    simp only [List.cons.injEq] at e2
    obtain ⟨rfl, _⟩ := e2
    simp only [execOp, ho, den_v dx, den_v dy]
    simp [hr g.w, he g.w]
  · rw [hd]
    exact go hT m H hk hrn hφ
/-- An interface that is not nil, compared with nil. -/
theorem nnil {tb : TT} (hT : tb.Ok X.P) (m : Nat) (H : List (List SV)) (ne : Bool) {d T yT : Nat} {x : Operand} {l' L' M' φ} (hu : X.P.underlying T = some (.interface (X.P.methodsAt T))) (hk : ES X arr l' k L' M' fs own) (ho : o.op = .binOp (neO ne) T x (.const .nilIface) yT := by rfl)
    (hx : evS (lkS L) x = some .ni := by rfl) (hg : o.guard = none := by rfl) (hd : o.dst = some d := by rfl) (hn : Nat.blt d X.n = true := by rfl) (hrn : xrun tb X.n arr m H l ((d, .v (.bool ne)) :: L) M [] = some (l', L', M', φ) := by rfl)
    (hφ : conj φ := by first | trivial | omega | (simp +contextual [conj]; done) | (simp +contextual [conj, *]; done) | (simp +contextual [conj, *] <;> omega)) : ES X arr (o :: l) k L M fs own := by
  have hG : gS arr (lkS L) o = some none := by unfold gS; rw [hg]
  refine ES_step (Stp_read (sv := .v (.bool ne)) hG hd hn (fun L' hL hon g a ρ ms st => ⟨.bool ne, ?_, .v⟩)) ?_
  · have hSl : Sl X ρ L' a g := st.all _ (.tail _ (.head _))
    have hev : evs (lkS L') [x, .const .nilIface] = some [.ni, .v .nilIface] := by
      have := evs_agree' hL
      rw [show o.op.operands.toList = [x, .const .nilIface] by rw [ho]; cases ne <;> rfl] at this
      rw [this]
      simp only [evs, hx]
      rfl
    obtain ⟨_, _, e1, dx, hr1⟩ := (evals_den hSl.val hev).uncons
    simp only [List.map_cons, List.cons.injEq] at e1
    obtain ⟨rfl, _⟩ := e1
    have e2 : a.eval (.const .nilIface) = .nilIface := rfl
    generalize hax : a.eval x = vx at dx
    cases dx with
    | ni =>
      cases ne with
      | true =>
        simp only [neO] at ho
        simp only [execOp, ho, hax, e2]
        simp [eqGuard, run_neq_held_nil, hu]
      | false =>
        simp only [neO] at ho
        simp only [execOp, ho, hax, e2]
        simp [eqGuard, run_eql_held_nil, hu]
  · rw [hd]
    exact go hT m H hk hrn hφ
end
end Go.KX
namespace Go.KX
/-- An argument, where the block i is called 1000. -/
def rn1 (i : Nat) : SV → Option SV
  | .l k off => match Nat.beq i k with
    | true => some (.l 1000 off)
    | false => none
  | .o k n => match Nat.beq i k with
    | true => some (.o 1000 n)
    | false => none
  | sv => match clo sv with
    | true => some sv
    | false => none
/-- What comes back, where the block 1000 is called i. -/
def bk (i : Nat) : SV → Option SV
  | .l k off => match Nat.beq k 1000 with
    | true => some (.l i off)
    | false => none
  | .o k n => match Nat.beq k 1000 with
    | true => some (.o i n)
    | false => none
  | sv => match clo sv with
    | true => some sv
    | false => none
theorem bk_ok {g : GW} {ρ : Nat → Lc} {i : Nat} {sv sv' : SV} {x : Value} (h : bk i sv = some sv') (hd : Den g (fun j => if j = 1000 then ρ i else ρ j) sv x) : Den g ρ sv' x := by
  unfold bk at h
  split at h
  · rename_i k off
    split at h
    · rename_i hb
      have := Nat.eq_of_beq_eq_true hb
      subst this
      cases h
      rw [den_l hd]
      have : Den g ρ (.l i off) (.pointer (some ⟨(ρ i).b, off, none⟩)) := .l
      simpa using this
    · cases h
  · rename_i k n
    split at h
    · rename_i hb
      have := Nat.eq_of_beq_eq_true hb
      subst this
      cases h
      cases hd
      have : Den g ρ (.o i n) (.slice (ρ i).ad n (ρ i).c) := .o
      simpa using this
    · cases h
  · split at h
    · cases h; exact hd.swap ‹_› _
    · cases h
def rnA (i : Nat) : List SV → Option (List SV)
  | [] => some []
  | x :: r => match rn1 i x with
    | some y => match rnA i r with
      | some ys => some (y :: ys)
      | none => none
    | none => none
theorem rn1_ok {g : GW} {ρ : Nat → Lc} {i : Nat} {sv sv' : SV} {x : Value} (h : rn1 i sv = some sv') (hd : Den g ρ sv x) : Den g (fun j => if j = 1000 then ρ i else ρ j) sv' x := by
  unfold rn1 at h
  split at h
  · rename_i k off
    split at h
    · rename_i hb
      have := Nat.eq_of_beq_eq_true hb
      subst this
      cases h
      rw [den_l hd]
      have : Den g (fun j => if j = 1000 then ρ i else ρ j) (.l 1000 off) (.pointer (some ⟨((fun j => if j = 1000 then ρ i else ρ j) 1000).b, off, none⟩)) := .l
      simpa using this
    · cases h
  · rename_i k n
    split at h
    · rename_i hb
      have := Nat.eq_of_beq_eq_true hb
      subst this
      cases h
      cases hd
      have : Den g (fun j => if j = 1000 then ρ i else ρ j) (.o 1000 n) (.slice ((fun j => if j = 1000 then ρ i else ρ j) 1000).ad n ((fun j => if j = 1000 then ρ i else ρ j) 1000).c) := .o
      simpa using this
    · cases h
  · split at h
    · cases h; exact hd.swap ‹_› _
    · cases h
theorem rnA_ok {g : GW} {ρ : Nat → Lc} {i : Nat} : ∀ {svs svs' : List SV} {xs : List Value}, rnA i svs = some svs' → DenL g ρ svs xs → DenL g (fun j => if j = 1000 then ρ i else ρ j) svs' xs
  | [], svs', xs, h, hd => by cases h; rw [hd.unnil]; exact DenL.nil
  | sv :: r, svs', xs, h, hd => by
    obtain ⟨x, ys, rfl, hx, hr⟩ := hd.uncons
    unfold rnA at h
    split at h
    · split at h
      · cases h; exact DenL.cons (rn1_ok ‹_› hx) (rnA_ok ‹_› hr)
      · cases h
    · cases h
/-- A function that is handed a block: what comes of it, what stands in the block then. -/
def Fp (P : Program) (fs : List MF) (f : FuncId) (args : List SV) (mb : MB) (res : SV) (mb' : MB) : Prop := FnM P fs f args [(1000, mb)] (fun sv M' => sv = res ∧ M' = [(1000, mb')])
section
variable {X : Kx} {k : List It} {L : SL} {M : SM} {fs : List MF} {own : List Res} {arr : Array Oper} {l : List Oper} {o : Oper}
theorem Stp_fp {f : FuncId} {fo : Operand} {az : Array Operand} {ts : Array TypeId} {svs args : List SV} {res : SV} {i : Nat} {mb mb' : MB} {M' : SM} (hg : o.guard = none) (hn : ∀ d, o.dst = some d → Nat.blt d X.n = true) (ho : o.op = .call ⟨.value fo, az, ts⟩) (hfo : evS (lkS L) fo = some (.f f [] [])) (ha : evs (lkS L) az.toList = some svs)
    (hc : svs.flatMap cd1 = []) (hargs : rnA i (svs.map st1) = some args) (hm : lkM M i = some mb) (hcb : cloB mb = true) (hcb' : cloB mb' = true) {res' : SV} (hcr : bk i res = some res') (hu : updK M i mb' some = some M') (hs : Fp X.P fs f args mb res mb') : Stp X arr o L M fs own res' M' := by
  intro L' hL g a hE
  obtain ⟨ρ, ms, st⟩ := hE.open
  have h2 : ∀ t sv, lkS L' t = some sv → ∃ x, a.tmps[t]? = some x ∧ Den g ρ sv x := (st.all (F2 X ρ L' a) (.tail _ (.head _))).val
  have hw : Region.wanted o (yielded arr a.tmps) = true := live_wanted (L := []) st.kn (live_none hg)
  have hsl : ∀ t ∈ (fo :: az.toList).filterMap tmpOf, lkS L' t = lkS L t := fun t ht => hL t (by
    have : t ∈ o.op.operands.toList.filterMap tmpOf := by rw [ho]; simpa [Op.operands, Call.operands] using ht
    exact List.mem_append_left _ this)
  have hall : evs (lkS L) (fo :: az.toList) = some (.f f [] [] :: svs) := by simp only [evs, hfo, ha]
  have hall' : evs (lkS L') (fo :: az.toList) = some (.f f [] [] :: svs) := (evs_agree hsl).trans hall
  have hM : DenM g ρ M ms := st.all _ (.head _)
  obtain ⟨r, m1, m2, rfl, hB, hup⟩ := hM.split hm
  obtain ⟨M2, hK, hM2⟩ := hup hu
  cases hK
  have hden := sts_ok (evals_den h2 hall') (by simp only [List.flatMap_cons, hc, cd1, List.append_nil]; intro p hp; cases hp)
  obtain ⟨x, rr, e1, dx, dr⟩ := hden.uncons
  simp only [List.map_cons, List.cons.injEq] at e1
  obtain ⟨rfl, rfl⟩ := e1
  obtain ⟨xs, ys, hfe, d1, d2⟩ := den_f dx
  obtain rfl := d1.unnil
  obtain rfl := d2.unnil
  obtain ⟨hcl, hcall⟩ := hs
  have hB' : DenB g (fun j => if j = 1000 then ρ i else ρ j) 1000 mb r := hB.move hcb (by simp)
  have hp : (m1 ++ r :: m2 ++ own).Perm (r :: (m1 ++ m2 ++ own)) := by
    simp only [List.append_assoc, List.cons_append]
    exact List.perm_middle
  have stp := st.perm hp
  have hown : Own [r] g := Own.left (b := m1 ++ m2 ++ own) (by simpa using stp.own)
  have hrun := calls_ent hcl (ρe := a.eval) ho hfe g.w
  simp only [List.nil_append, List.append_nil] at hrun
  unfold opQ
  rw [hw, if_pos rfl]
  simp only [wn, hrun]
  refine (hcall _ g _ [r] (fun f hf => st.all f (.tail _ (.tail _ hf))) (rnA_ok hargs dr) (.cons hB' .nil) hown).mono ?_
  rintro e w' ⟨v, g', sv, M3, ms', rfl, rfl, hE', ⟨rfl, rfl⟩, dv, hM3, ho', hn'⟩
  cases hM3 with
  | cons hb3 ht =>
    cases ht
    rename_i r'
    have s' := stp.frame (r := m1 ++ m2 ++ own) (fsc := []) (ownc := [r]) (fs' := []) (own' := [r']) (.cons .head .nil) hE' (fun f hf => (by cases hf)) ho' hn' .nil
    simp only [List.nil_append, List.cons_append] at s'
    have hp2 : (r' :: (m1 ++ m2 ++ own)).Perm (m1 ++ r' :: m2 ++ own) := by
      simp only [List.append_assoc, List.cons_append]
      exact List.perm_middle.symm
    have s2 := s'.perm hp2
    have hMn := hM2 g' r' (s2.all _ (.head _)) (hb3.move hcb' (by simp))
    have hS : Sl X ρ L' a g' := s2.all _ (.tail _ (.head _))
    have s3 : St X.toCx [] (F1 ρ _ (m1 ++ r' :: m2) :: F2 X ρ L' a :: fs) (m1 ++ r' :: m2 ++ own) g' a := ⟨s2.kn, All.cons hMn (All.cons hS (fun f hf => s2.all f (.tail _ (.tail _ hf)))), s2.own, s2.ext, s2.new⟩
    refine ⟨v, rfl, g', rfl, ?_⟩
    cases hd : o.dst with
    | none => exact ESt.close s3
    | some d => exact ESt.put s3 (hn d hd) (bk_ok hcr dv)
/-- A call that is handed the block i, then m operations. -/
theorem fp {tb : TT} (hT : tb.Ok X.P) (i m : Nat) (H : List (List SV)) {d : Nat} {f : FuncId} {fo : Operand} {az : Array Operand} {ts : Array TypeId} {svs args : List SV} {res res' : SV} {mb mb' : MB} {M2 l' L' M' φ} (hs : Fp X.P fs f args mb res mb') (hk : ES X arr l' k L' M' fs own) (hg : o.guard = none := by rfl) (hd : o.dst = some d := by rfl) (ho : o.op = .call ⟨.value fo, az, ts⟩ := by rfl) (hfo : evS (lkS L) fo = some (.f f [] []) := by rfl)
    (ha : evs (lkS L) az.toList = some svs := by rfl) (hc : svs.flatMap cd1 = [] := by rfl) (hb : rnA i (svs.map st1) = some args := by rfl) (hm : lkM M i = some mb := by rfl) (hcb : cloB mb = true := by rfl) (hcb' : cloB mb' = true := by rfl) (hcr : bk i res = some res' := by rfl) (hu : updK M i mb' some = some M2 := by rfl) (hn : Nat.blt d X.n = true := by rfl)
    (hr : xrun tb X.n arr m H l ((d, res') :: L) M2 [] = some (l', L', M', φ) := by rfl) (hφ : conj φ := by first | trivial | omega | (simp +contextual [conj]; done) | (simp +contextual [conj, *]; done) | (simp +contextual [conj, *] <;> omega)) : ES X arr (o :: l) k L M fs own := by
  have := Stp_fp (arr := arr) (fs := fs) (own := own) hg (fun d' h => by rw [hd] at h; cases h; exact hn) ho hfo ha hc hb hm hcb hcb' hcr hu hs
  refine ES_step this ?_
  rw [hd]
  exact go hT m H hk hr hφ
/-- In a region that draws its order. -/
theorem dpc {tb : TT} (hT : tb.Ok X.P) (i0 m : Nat) (H : List (List SV)) {un i d : Nat} {D r π' : List Nat} {Ms Ms' : List SM} {f : FuncId} {fo : Operand} {az : Array Operand} {ts : Array TypeId} {svs args : List SV} {res res' : SV} {mb mb' : MB} {M2 L' M' φ} (hs : Fp X.P fs f args mb res mb') (hk : ED X arr k fs own un D π' L' M' Ms') (hi : arr[i]? = some o := by rfl) (hun : un.testBit i = true := by rfl) (hg : o.guard = none := by rfl) (hd : o.dst = some d := by rfl) (ho : o.op = .call ⟨.value fo, az, ts⟩ := by rfl) (hfo : evS (lkS L) fo = some (.f f [] []) := by rfl)
    (ha : evs (lkS L) az.toList = some svs := by rfl) (hc : svs.flatMap cd1 = [] := by rfl) (hb : rnA i0 (svs.map st1) = some args := by rfl) (hm : lkM M i0 = some mb := by rfl) (hcb : cloB mb = true := by rfl) (hcb' : cloB mb' = true := by rfl) (hcr : bk i0 res = some res' := by rfl) (hu : updK M i0 mb' some = some M2 := by rfl) (hn : Nat.blt d X.n = true := by rfl)
    (hr : xdrw tb X.n arr un D m H r ((d, res') :: L) M2 (M :: Ms) [] = some (π', L', M', Ms', φ) := by rfl) (hφ : conj φ := by first | trivial | omega | (simp +contextual [conj]; done) | (simp +contextual [conj, *]; done) | (simp +contextual [conj, *] <;> omega)) : ED X arr k fs own un D (i :: r) L M Ms := by
  have := Stp_fp (arr := arr) (fs := fs) (own := own) hg (fun d' h => by rw [hd] at h; cases h; exact hn) ho hfo ha hc hb hm hcb hcb' hcr hu hs
  refine ⟨o, res', hi, ?_⟩
  rw [hun]
  refine ⟨M2, this.u, ?_⟩
  rw [hd]
  exact xd hT m H hk hr hφ
/-- A contract out of the body. -/
theorem fpb {P : Program} {fs : List MF} {tb : TT} (hT : tb.Ok P) {f : FuncId} {fn : Func} {c : Code} {args : List SV} {res : SV} {mb mb' : MB} (n : Nat) (rs : List ResultVar)
    (hf : P.funcs[f]? = some fn) (hrs : fn.results = rs.toArray) (h : ∀ g0 B0 Q ρ0, Rt ⟨⟨P, n, g0, B0, Q, none, []⟩, ρ0⟩ fs tb rs (fun sv M' => sv = res ∧ M' = [(1000, mb')]) → E ⟨⟨P, n, g0, B0, Q, none, []⟩, ρ0⟩ [.code c] (initS args 0) [(1000, mb)] fs []) (hb : fn.body = some c := by rfl)
    (hname : (fn.name == "runtime.NumGoroutine") = false := by kernel_rfl) (hn : fn.ntmps = n := by rfl) (hle : args.length ≤ n := by exact Nat.le_of_ble_eq_true rfl) : Fp P fs f args mb res mb' := FnM_body hT n rs hf hb hname hn hle hrs h
end
section
variable {X : Kx} {k : List It} {L : SL} {M : SM} {fs : List MF} {arr : Array Oper} {l : List Oper} {o : Oper} {tb : TT} {rs : List ResultVar}
/-- The end of such a body. -/
theorem erp {res : SV} {mb mb' : MB} {svs : List SV} {k' : List It} (n : Nat) (R : Rt X fs tb rs (fun sv M' => sv = res ∧ M' = [(1000, mb')])) (he : resVS svs = res ∧ mb = mb') (hk : normS (lkS L) 64 n k = .code .ret :: k' := by rfl) (hr : resS tb L M rs = some svs := by rfl) (hh : hiS (resVS svs) = true := by rfl) (hm : keepM (Nat.ble 1000) M = [(1000, mb)] := by rfl) (hb : hiB mb = true := by rfl) : E X k L M fs [] :=
  norm_E 64 n (hk ▸ R.ret hr hh (by rw [hm]; simp only [hiM, hb]; rfl) ⟨he.1, by rw [hm, he.2]⟩)
theorem efp {res : SV} {mb mb' : MB} {svs : List SV} (n : Nat) (R : Rt X fs tb rs (fun sv M' => sv = res ∧ M' = [(1000, mb')])) (he : resVS svs = res ∧ mb = mb') (hk : normS (lkS L) 64 n k = [] := by rfl) (hr : resS tb L M rs = some svs := by rfl) (hh : hiS (resVS svs) = true := by rfl) (hm : keepM (Nat.ble 1000) M = [(1000, mb)] := by rfl) (hb : hiB mb = true := by rfl) : E X k L M fs [] :=
  norm_E 64 n (hk ▸ R.fall hr hh (by rw [hm]; simp only [hiM, hb]; rfl) ⟨he.1, by rw [hm, he.2]⟩)
theorem srp {res : SV} {mb mb' : MB} {svs : List SV} {k' : List It} (n : Nat) (R : Rt X fs tb rs (fun sv M' => sv = res ∧ M' = [(1000, mb')])) (he : resVS svs = res ∧ mb = mb') (hk : normS (lkS L) 64 n k = .code .ret :: k' := by rfl) (hr : resS tb L M rs = some svs := by rfl) (hh : hiS (resVS svs) = true := by rfl) (hm : keepM (Nat.ble 1000) M = [(1000, mb)] := by rfl) (hb : hiB mb = true := by rfl) : ES X arr [] k L M fs [] := erp n R he hk hr hh hm hb
theorem sfp {res : SV} {mb mb' : MB} {svs : List SV} (n : Nat) (R : Rt X fs tb rs (fun sv M' => sv = res ∧ M' = [(1000, mb')])) (he : resVS svs = res ∧ mb = mb') (hk : normS (lkS L) 64 n k = [] := by rfl) (hr : resS tb L M rs = some svs := by rfl) (hh : hiS (resVS svs) = true := by rfl) (hm : keepM (Nat.ble 1000) M = [(1000, mb)] := by rfl) (hb : hiB mb = true := by rfl) : ES X arr [] k L M fs [] := efp n R he hk hr hh hm hb
end
end Go.KX
namespace Go.KX
/-- The elements' sizes of an array. -/
def arrOf (tb : TT) (T : Nat) : Option (Nat × Nat × Nat) := match tb.get T with
  | some d => match d.kd with
    | .arr n el => match tb.get el with
      | some de => some (n, el, de.sz)
      | none => none
    | _ => none
  | none => none
theorem arrOf_ok {P : Program} {tb : TT} (hT : tb.Ok P) {T n el sz : Nat} (h : arrOf tb T = some (n, el, sz)) : P.underlying T = some (.array n el) ∧ ∃ by_ z, TI P el sz by_ z := by
  unfold arrOf at h
  split at h
  · rename_i d hd
    have u := (TT.get_ok hT hd).kd
    split at h
    · rename_i hk
      rw [hk] at u
      split at h
      · rename_i de hde
        cases h
        exact ⟨u, _, _, (TT.get_ok hT hde).ti⟩
      · cases h
    · cases h
  · cases h
section
variable {X : Kx} {k : List It} {L : SL} {M : SM} {fs : List MF} {own : List Res} {arr : Array Oper} {l : List Oper} {o : Oper}
/-- A package-level variable is read. -/
theorem glo {tb : TT} (hT : tb.Ok X.P) (m : Nat) (H : List (List SV)) {d T b : Nat} {cs : List SV} {r : SV} {l' L' M' φ} (hD : ∀ g ρ, All fs g → Den g ρ (.p cs) (.pointer (some ⟨b, 0, none⟩))) (hk : ES X arr l' k L' M' fs own) (ho : o.op = .load T (.global b) := by rfl) (hx : xLoad tb M T [.p cs] = some (r, []) := by rfl)
    (hg : o.guard = none := by rfl) (hd : o.dst = some d := by rfl) (hn : Nat.blt d X.n = true := by rfl) (hr : xrun tb X.n arr m H l ((d, r) :: L) M [] = some (l', L', M', φ) := by rfl) (hφ : conj φ := by first | trivial | omega | (simp +contextual [conj]; done) | (simp +contextual [conj, *]; done) | (simp +contextual [conj, *] <;> omega)) : ES X arr (o :: l) k L M fs own := by
  have hG : gS arr (lkS L) o = some none := by unfold gS; rw [hg]
  refine ES_step (Stp_read (sv := r) hG hd hn (fun L' hL hon g a ρ ms st => ?_)) ?_
  · have hA : All fs g := fun f hf => st.all f (.tail _ (.tail _ hf))
    exact xLoad_ok hT st (st.all _ (.head _)) ho rfl (DenL.cons (hD g ρ hA) DenL.nil) hx
  · rw [hd]
    exact go hT m H hk hr hφ
/-- An element's address in an array that is a package-level variable. -/
theorem gix {tb : TT} (hT : tb.Ok X.P) (m : Nat) (H : List (List SV)) {d T b n el sz : Nat} {ix : Operand} {ki : IntKind} {z : Int} {cs : List SV} (row : List SV) {l' L' M' φ} (hD : ∀ g ρ, All fs g → Den g ρ (.p cs) (.pointer (some ⟨b, 0, none⟩))) (hz : 0 ≤ z ∧ z < n) (hrow : cs.drop (z.toNat * sz) = row) (hk : ES X arr l' k L' M' fs own) (ho : o.op = .indexAddr T (.global b) ix := by rfl) (ha : arrOf tb T = some (n, el, sz) := by rfl) (hi : evS (lkS L) ix = some (.v (.int ki z)) := by rfl)
    (hg : o.guard = none := by rfl) (hd : o.dst = some d := by rfl) (hn : Nat.blt d X.n = true := by rfl) (hr : xrun tb X.n arr m H l ((d, .p row) :: L) M [] = some (l', L', M', φ) := by rfl) (hφ : conj φ := by first | trivial | omega | (simp +contextual [conj]; done) | (simp +contextual [conj, *]; done) | (simp +contextual [conj, *] <;> omega)) : ES X arr (o :: l) k L M fs own := by
  have hG : gS arr (lkS L) o = some none := by unfold gS; rw [hg]
  obtain ⟨u, by_, z0, hti⟩ := arrOf_ok hT ha
  refine ES_step (Stp_read (sv := .p row) hG hd hn (fun L' hL hon g a ρ ms st => ?_)) ?_
  · have hA : All fs g := fun f hf => st.all f (.tail _ (.tail _ hf))
    have hSl : Sl X ρ L' a g := st.all _ (.tail _ (.head _))
    have hev : evs (lkS L') [.global b, ix] = some [.v (.pointer (some ⟨b, 0, none⟩)), .v (.int ki z)] := by
      have := evs_agree' hL
      rw [show o.op.operands.toList = [.global b, ix] by rw [ho]; rfl] at this
      rw [this]
      simp only [evs, hi]
      rfl
    obtain ⟨_, _, e1, _, hr1⟩ := (evals_den hSl.val hev).uncons
    obtain ⟨_, _, e2, dy, _⟩ := hr1.uncons
    simp only [List.map_cons, List.cons.injEq] at e1
    obtain ⟨rfl, rfl⟩ := e1
    simp only [List.cons.injEq] at e2
    obtain ⟨rfl, _⟩ := e2
    have hv := den_int dy
    have hp := hD g ρ hA
    cases hp with
    | p xs hl hf hc hdd =>
      refine ⟨.pointer (some ⟨b, 0 + z.toNat * sz, none⟩), ?_, .p (xs.drop (z.toNat * sz)) (by rw [← hrow]; simp [hl]) hf (fun j x hx => ?_) (fun ρ' j sv x h1 h2 => ?_)⟩
      · simp only [execOp, ho, hv]
        simp only [Act.eval, Instr.indexAt, asIntOf, Instr.sureAddr, Sem.run_bind, Sem.run_pure, Result.andThen_ok, run_underlying u]
        rw [if_pos hz]
        simp only [Sem.run_bind, run_sizeOf hti, Result.andThen_ok, Sem.run_pure, addr_add]
      · rw [List.getElem?_drop] at hx
        have := hc _ x hx
        simpa [Nat.add_assoc] using this
      · rw [← hrow, List.getElem?_drop] at h1
        rw [List.getElem?_drop] at h2
        exact hdd ρ' _ sv x h1 h2
  · rw [hd]
    exact go hT m H hk hr hφ
/-- An array's element of one cell. -/
theorem ixg {tb : TT} (hT : tb.Ok X.P) (m : Nat) (H : List (List SV)) {d T n el : Nat} {x ix : Operand} {ki : IntKind} {z : Int} {cs : List SV} {de : TD} (sv : SV) {l' L' M' φ} (hz : 0 ≤ z ∧ z < n) (hrow : cs[z.toNat]? = some sv) (hk : ES X arr l' k L' M' fs own) (ho : o.op = .index T x ix := by rfl) (ha : arrOf tb T = some (n, el, 1) := by rfl) (he : tb.get el = some de := by rfl) (hna : de.kd.ag = false := by rfl) (hx : evS (lkS L) x = some (.a cs) := by rfl) (hi : evS (lkS L) ix = some (.v (.int ki z)) := by rfl)
    (hg : o.guard = none := by rfl) (hd : o.dst = some d := by rfl) (hn : Nat.blt d X.n = true := by rfl) (hr : xrun tb X.n arr m H l ((d, sv) :: L) M [] = some (l', L', M', φ) := by rfl) (hφ : conj φ := by first | trivial | omega | (simp +contextual [conj]; done) | (simp +contextual [conj, *]; done) | (simp +contextual [conj, *] <;> omega)) : ES X arr (o :: l) k L M fs own := by
  have hG : gS arr (lkS L) o = some none := by unfold gS; rw [hg]
  obtain ⟨u, by_, z0, hti⟩ := arrOf_ok hT ha
  obtain ⟨td, ue, hag⟩ := (TT.get_ok hT he).kd.und
  rw [hna] at hag
  refine ES_step (Stp_read (sv := sv) hG hd hn (fun L' hL hon g a ρ ms st => ?_)) ?_
  · have hSl : Sl X ρ L' a g := st.all _ (.tail _ (.head _))
    have hev : evs (lkS L') [x, ix] = some [.a cs, .v (.int ki z)] := by
      have := evs_agree' hL
      rw [show o.op.operands.toList = [x, ix] by rw [ho]; rfl] at this
      rw [this]
      simp only [evs, hx, hi]
    obtain ⟨_, _, e1, dx, hr1⟩ := (evals_den hSl.val hev).uncons
    obtain ⟨_, _, e2, dy, _⟩ := hr1.uncons
    simp only [List.map_cons, List.cons.injEq] at e1
    obtain ⟨rfl, rfl⟩ := e1
    simp only [List.cons.injEq] at e2
    obtain ⟨rfl, _⟩ := e2
    have hv := den_int dy
    generalize hvx : a.eval x = vx at dx
    cases dx with
    | a xs hl hdd =>
      have hD : DenL g ρ cs xs := ⟨hl, hdd⟩
      obtain ⟨y, hy, dv⟩ := hD.get hrow
      refine ⟨y, ?_, dv⟩
      have hagr := run_isAgg (w := g.w) ue
      rw [hag] at hagr
      have hy2 : xs.toArray[z.toNat * 1]? = some y := by simpa using hy
      simp only [execOp, ho, hv, hvx]
      simp only [Instr.index, asIntOf, Sem.run_bind, Sem.run_pure, Result.andThen_ok, run_underlying u]
      rw [if_pos hz]
      simp only [Sem.run_bind, run_sizeOf hti, Result.andThen_ok, part, hagr, hy2]
      rfl
  · rw [hd]
    exact go hT m H hk hr hφ
theorem updK_same {β : Type} {i : Nat} {mb : MB} : ∀ {M : SM} {K : SM → Option β}, lkM M i = some mb → updK M i mb K = K M
  | [], K, h => by cases h
  | (j, m) :: r, K, h => by
    unfold lkM at h
    unfold updK
    cases hb : Nat.beq i j with
    | true =>
      rw [hb] at h
      simp only [Option.some.injEq] at h
      subst h; rfl
    | false =>
      rw [hb] at h
      exact updK_same (M := r) (K := fun r' => K ((j, m) :: r')) h
/-- A block said otherwise. -/
theorem smb (i : Nat) {mb mb' : MB} {M' : SM} (e : mb = mb') (h : ES X arr l k L M' fs own) (hm : lkM M i = some mb := by rfl) (hu : updK M i mb' some = some M' := by rfl) : ES X arr l k L M fs own := by
  subst e
  rw [updK_same hm] at hu
  cases hu
  exact h
theorem emb (i : Nat) {mb mb' : MB} {M' : SM} (e : mb = mb') (h : E X k L M' fs own) (hm : lkM M i = some mb := by rfl) (hu : updK M i mb' some = some M' := by rfl) : E X k L M fs own := by
  subst e
  rw [updK_same hm] at hu
  cases hu
  exact h
/-- In a region that draws its order: what is read comes out alike ahead of and behind all that writes till now. -/
def allX (tb : TT) (e : Nat → Option SV) (H : List (List SV)) (op : Op) (r : SV × List Prop) : List SM → Prop
  | [] => True
  | M :: Ms => xst tb e M H op = some r ∧ allX tb e H op r Ms
theorem allX_get {tb : TT} {e : Nat → Option SV} {H : List (List SV)} {op : Op} {r : SV × List Prop} : ∀ {Ms : List SM} {q : Nat} {M' : SM}, allX tb e H op r Ms → Ms[q]? = some M' → xst tb e M' H op = some r
  | [], q, M', _, h => by simp at h
  | M :: Ms, 0, M', ⟨h1, _⟩, h => by simp at h; exact h ▸ h1
  | M :: Ms, q + 1, M', ⟨_, h2⟩, h => allX_get h2 (by simpa using h)
theorem dl {tb : TT} (hT : tb.Ok X.P) (m : Nat) (H : List (List SV)) {un i d : Nat} {D r π' : List Nat} {Ms Ms' : List SM} {sv : SV} {L' M' φ} (hk : ED X arr k fs own un D π' L' M' Ms') (hi : arr[i]? = some o := by rfl) (hu : un.testBit i = false := by rfl) (hg : o.guard = none := by rfl) (hd : o.dst = some d := by rfl) (hn : Nat.blt d X.n = true := by rfl) (hx : xst tb (lkS L) M [] o.op = some (sv, []) := by rfl) (hall : allX tb (lkS L) [] o.op (sv, []) Ms := by repeat (first | exact trivial | refine ⟨rfl, ?_⟩)) (hb : Nat.ble (hiU arr.size un D i) Ms.length = true := by rfl)
    (hr : xdrw tb X.n arr un D m H r ((d, sv) :: L) M Ms [] = some (π', L', M', Ms', φ) := by rfl) (hφ : conj φ := by first | trivial | omega | (simp +contextual [conj]; done) | (simp +contextual [conj, *]; done) | (simp +contextual [conj, *] <;> omega)) : ED X arr k fs own un D (i :: r) L M Ms := by
  have hG : gS arr (lkS L) o = some none := by unfold gS; rw [hg]
  refine ⟨o, sv, hi, ?_⟩
  rw [hu]
  refine ⟨.inl ⟨Nat.le_of_ble_eq_true hb, Stp_st hT hG hd hn hx (fun p hp => nomatch hp), fun q M2 hq _ => Stp_st hT hG hd hn (allX_get hall hq) (fun p hp => nomatch hp)⟩, ?_⟩
  rw [hd]
  exact xd hT m H hk hr hφ
end
end Go.KX
namespace Go.KX
abbrev rB (l : List Bytes) : SV := .s 1 (l.map fun s => [.str s])
/-- A slice without elements has, as a symbolic value, elements of size 0. -/
def kz {α : Type} (l : List α) (z : Nat) : Nat := match l with
  | [] => 0
  | _ => z
mutual
def rowE : Ex → List SV
  | .mk k n v l => [nI k, .str n, nI v.k, nI v.n, .s (kz l 5) (rowsE l)]
def rowsE : List Ex → List (List SV)
  | [] => []
  | x :: r => rowE x :: rowsE r
end
abbrev exL (x : Ex) : List SV := [nI x.kind, .str x.name, nI x.val.k, nI x.val.n, .s (kz x.kids 5) (rowsE x.kids)]
abbrev exS (x : Ex) : SV := .a (exL x)
theorem rowE_eq (x : Ex) : rowE x = exL x := by cases x; rfl
theorem rowsE_len : ∀ l : List Ex, (rowsE l).length = l.length
  | [] => rfl
  | x :: r => by simp [rowsE, rowsE_len r]
theorem rowsE_get : ∀ {l : List Ex} {j : Nat} (h : j < l.length), (rowsE l)[j]? = some (exL l[j])
  | x :: r, 0, _ => by simp [rowsE, rowE_eq]
  | x :: r, j + 1, h => by simp only [rowsE, List.getElem?_cons_succ, List.getElem_cons_succ]; exact rowsE_get (by simpa using h)
theorem ex_pair (o : Bytes) (x y : Ex) : exS (exC o [x, y]) = .a [nI 3, .str o, nI 0, nI 0, .s 5 [exL x, exL y]] := by
  show SV.a [nI 3, .str o, nI 0, nI 0, .s 5 [rowE x, rowE y]] = _
  rw [rowE_eq, rowE_eq]
theorem ex_one (o : Bytes) (x : Ex) : exS (exC o [x]) = .a [nI 3, .str o, nI 0, nI 0, .s 5 [exL x]] := by
  show SV.a [nI 3, .str o, nI 0, nI 0, .s 5 [rowE x]] = _
  rw [rowE_eq]
theorem ib_mem : ∀ (g : Bytes) (c : UInt8), Lib.indexByte g c < 0 ↔ c ∉ g
  | [], c => by simp [Lib.indexByte]
  | b :: g, c => by
    have ih := ib_mem g c
    unfold Lib.indexByte
    by_cases h : b = c
    · subst h; simp
    · have hb : (b == c) = false := by simpa using h
      simp only [hb]
      have h2 : ¬ c = b := fun e => h e.symm
      simp only [List.mem_cons, h2, false_or]
      rw [← ih]
      by_cases h0 : Lib.indexByte g c = -1
      · simp [h0]
      · have hge : ∀ (g : Bytes), -1 ≤ Lib.indexByte g c := by
          intro g
          induction g with
          | nil => simp [Lib.indexByte]
          | cons b g ih => unfold Lib.indexByte; split <;> (try split) <;> (try simp) <;> omega
        have := hge g
        have h1 : (Lib.indexByte g c == -1) = false := by simpa using h0
        simp [h1]
        omega
theorem ib_ge (g : Bytes) (c : UInt8) : decide (0 ≤ Lib.indexByte g c) = decide (c ∈ g) := by
  have h := ib_mem g c
  by_cases hc : c ∈ g
  · have h2 : ¬ Lib.indexByte g c < 0 := fun hx => h.1 hx hc
    simp [hc]; omega
  · have h2 := h.2 hc
    simp [hc]; omega
theorem runB_le (g : Bytes) : ∀ l : Bytes, runB g l ≤ l.length
  | [] => Nat.le_refl _
  | c :: r => by
    have := runB_le g r
    unfold runB
    split <;> simp <;> omega
theorem runB_add {g s : Bytes} : ∀ {j : Nat}, j ≤ s.length → (∀ x ∈ s.take j, x ∈ g) → runB g s = j + runB g (s.drop j) := by
  induction s with
  | nil => intro j hj _; have : j = 0 := by simpa using hj
           subst this; simp
  | cons c r ih =>
    intro j hj h
    cases j with
    | zero => simp
    | succ j =>
      have hc : c ∈ g := h c (by simp)
      have e : runB g (c :: r) = runB g r + 1 := by conv => lhs; unfold runB
                                                    rw [if_pos hc]
      rw [e, List.drop_succ_cons, ih (j := j) (by simpa using hj) (fun x hx => h x (by simp [hx]))]
      omega
abbrev psC (s : Bytes) (p : Ps) : MB := .c 117 [.str s, nI p.i, nI p.err, nI p.at_, bS p.dead]
theorem find_at {α : Type} {p : α → Bool} : ∀ {l : List α} {j : Nat} (hj : j < l.length), (∀ x ∈ l.take j, p x = false) → p l[j] = true → l.find? p = some l[j]
  | [], j, hj, _, _ => by simp at hj
  | x :: r, 0, _, _, h => by simp at h; simp [h]
  | x :: r, j + 1, hj, h0, h => by
    have e := find_at (l := r) (j := j) (by simpa using hj) (fun y hy => h0 y (by simp [hy])) (by simpa using h)
    have hx := h0 x (by simp)
    simp [hx, e]
theorem rest_le {s : Bytes} {p : Ps} (h : p.i ≤ s.length) : (p.restP s).i ≤ s.length := by
  unfold Ps.restP
  split
  · exact h
  · have := runB_le [32] (s.drop p.i)
    simp at this ⊢
    omega
end Go.KX
namespace Go.Proofs
open Go.Shelf Go.RowKit
/-- What comes of a text that is no number. -/
abbrev synU : Lib.NumEnd Nat := Lib.parseUintM 0 0 [0]
variable {P : Program} {ρ : Ren}
set_option maxHeartbeats 32000000 in
set_option maxRecDepth 100000 in
theorem uint_in (L : LaysPu.n16 P ρ) (t : ByteArray) (hne : t.size ≠ 0) (h16 : t.size ≤ 16) (w : World) :
    Calls P (ρ.f 16) #[.string t, .int .i64 10, .int .i64 62] w fun e w' => e = .returned (Lib.uintTupleM (ρ.t 34) 4611686018427387903 (Lib.parseUintM 4611686018427387903 0 t.data.toList)) ∧ w' = Lib.bytesWorld w (ρ.t 5) t := by
  have hmax : t.size ≤ 9223372036854775806 := by omega
  have hp : ∀ k, k < t.size → 10 ^ k ≤ 1000000000000000 := fun k hk => Nat.le_trans (Nat.pow_le_pow_right (by decide) (show k ≤ 15 by omega)) (by decide)
  have mixed := L.mixed
  have t9 := L.t9; have a9 := L.a9; have z9 := L.z9; have v9 := L.v9
  have t3 := L.t3; have a3 := L.a3; have z3 := L.z3; have v3 := L.v3
  have t22 := L.t22; have a22 := L.a22; have z22 := L.z22; have v22 := L.v22
  have t24 := L.t24; have a24 := L.a24; have z24 := L.z24; have v24 := L.v24
  have t4 := L.t4; have a4 := L.a4; have z4 := L.z4; have v4 := L.v4
  have t34 := L.t34; have a34 := L.a34; have z34 := L.z34; have v34 := L.v34
  have t5 := L.t5; have a5 := L.a5; have z5 := L.z5; have v5 := L.v5
  have t36 := L.t36; have a36 := L.a36; have z36 := L.z36; have v36 := L.v36
  have t37 := L.t37; have a37 := L.a37; have z37 := L.z37; have v37 := L.v37
  have t0 := L.t0; have a0 := L.a0; have z0 := L.z0; have v0 := L.v0
  have e19 : ∀ args w, (callFunc (ρ.f 19) args).run P w = .ok (.enter (ρ.f 19) args) w := enters_of L.f19 (by kernel_rfl) rfl
  have hemp : t.toList.isEmpty = false := by
    rw [← decide_eq_emptyBytes]
    exact decide_eq_false (fun h => hne (by rw [h]; rfl))
  have hcv := Lib.run_convert_string_bytes (P := P) w (ρ.t 9) (ρ.t 37) (ρ.t 5) t (u := .string) L.t9 L.t37 L.t5
  have hB : ∀ j, j < t.size → (Lib.bytesWorld w (ρ.t 5) t).cell? ⟨w.heap.size, j, none⟩ = some (.int .u8 (t.data.toList.getD j 0).toNat) := fun j hj => Lib.bytesWorld_cell w (ρ.t 5) t j hj
  obtain ⟨W1, hW1⟩ : ∃ W1, W1 = Lib.bytesWorld w (ρ.t 5) t := ⟨_, rfl⟩
  rw [← hW1] at hcv hB ⊢
  clear hW1
  obtain ⟨bs, hL⟩ : ∃ bs, bs = t.data.toList := ⟨_, rfl⟩
  have hLn : bs.length = t.size := by rw [hL, Lib.size_eq]
  rw [← hL] at hB ⊢
  clear hL
  have hmv : IntKind.u64.wrap (IntKind.u64.wrap 4611686018427387904 - 1) = 4611686018427387903 := by
    rw [IntKind.wrap_u64, IntKind.wrap_u64]
    decide
  go_enter L.f16, BodyPu.n16_ntmps ρ
  go_wp2
  go_loop [12, 13, 101] (fun vu vn vi => ∃ (k acc : Nat) (a : Int), vu = .bool false ∧ vn = .int .u64 a ∧ vi = .int .i64 k ∧ k ≤ t.size ∧ Hid (a = (acc : Int) ∧ acc < 10 ^ k ∧ Lib.parseUintM 4611686018427387903 0 bs = Lib.parseUintM 4611686018427387903 acc (bs.drop k)))
    (fun _ _ vi => t.size - (intOf vi).toNat)
  case atStart => exact ⟨0, 0, 0, rfl, rfl, rfl, by omega, rfl, by decide, rfl⟩
  case round =>
    obtain ⟨k, acc, a, rfl, rfl, rfl, hk, hh⟩ := hrel
    obtain ⟨ha, hacc, hdec⟩ := hh.out
    clear hh
    have a0 : 0 ≤ a := by omega
    by_cases hkn : k < t.size
    · have hpk := hp k hkn
      have a1 : a ≤ 1000000000000000 := by omega
      have hc := hB k hkn
      have hdrop : bs.drop k = bs[k]'(by omega) :: bs.drop (k + 1) := List.drop_eq_getElem_cons (by omega)
      have hget : bs.getD k 0 = bs[k]'(by omega) := by simp [List.getD, List.getElem?_eq_getElem (show k < bs.length by omega)]
      rw [hdrop] at hdec
      rw [hget] at hc
      generalize bs[k]'(by omega) = c at hc hdec
      have hc256 : c.toNat < 256 := c.toNat_lt
      clear hB hdrop hget
      by_cases hdig : 48 ≤ c.toNat ∧ c.toNat ≤ 57
      · obtain ⟨hd0, hd1⟩ := hdig
        have hcut : ¬ 1844674407370955162 ≤ acc := by omega
        have hov : ¬ 4611686018427387903 < acc * 10 + (c.toNat - 48) := by omega
        have hF : Lib.parseUintM 4611686018427387903 acc (c :: bs.drop (k + 1)) = Lib.parseUintM 4611686018427387903 (acc * 10 + (c.toNat - 48)) (bs.drop (k + 1)) := by simp [Lib.parseUintM, hd0, hd1, hcut, hov]
        have HN : Hid (a * 10 + ((c.toNat : Int) - 48) = ((acc * 10 + (c.toNat - 48) : Nat) : Int) ∧ acc * 10 + (c.toNat - 48) < 10 ^ (k + 1) ∧ Lib.parseUintM 4611686018427387903 0 bs = Lib.parseUintM 4611686018427387903 (acc * 10 + (c.toNat - 48)) (bs.drop (k + 1))) := Lib.hid ⟨by omega, by rw [Nat.pow_succ]; omega, hdec.trans hF⟩
        have iov : a * 10 + ((c.toNat : Int) - 48) ≤ 4611686018427387903 := by omega
        clear hcut hacc hF hov hdec ha
        clear hp hpk
        go_wp2
        refine ⟨⟨k + 1, acc * 10 + (c.toNat - 48), a * 10 + ((c.toNat : Int) - 48), rfl, (by first | rfl | (congr 1; omega)), (by first | rfl | (congr 1; omega)), by omega, HN⟩, by simp [intOf]; omega⟩
      · clear hp hpk
        have hF : Lib.parseUintM 4611686018427387903 acc (c :: bs.drop (k + 1)) = synU := by simp [synU, Lib.parseUintM, hdig]
        rw [hF] at hdec
        clear hacc hF ha
        have hv0 := bits_lo_u8 .or (c.toNat : Int) 32
        have hv1 := bits_hi_u8 .or (c.toNat : Int) 32
        have hu0 := bits_lo_u8 .or 95 32
        have hu1 := bits_hi_u8 .or 95 32
        go_wp2_with (go_at_fn (ρ.f 19); refine (AnyPu.internal_strconv_lower { L with } _ _).mono ?_; rintro e w' ⟨rfl, rfl⟩)
        all_goals go_ret2
        all_goals first | exact ⟨rfl, rfl⟩ | exact ⟨by rw [hdec]; rfl, rfl⟩
    · clear hp
      have hkk : k = t.size := by omega
      subst hkk
      have hF : Lib.parseUintM 4611686018427387903 acc (bs.drop t.size) = .ok acc := by rw [List.drop_eq_nil_of_le (by omega)]; rfl
      rw [hF] at hdec
      subst ha
      clear hacc hF a0
      go_wp2
      go_ret2
      exact ⟨rfl, rfl⟩
set_option maxHeartbeats 4000000 in
set_option maxRecDepth 100000 in
theorem uint_ok (L : LaysPu.n14 P ρ) (s : ByteArray) (hne : s.size ≠ 0) (h16 : s.size ≤ 16) (u : Nat) (h : Lib.parseUintM 4611686018427387903 0 s.data.toList = .ok u) (w : World) :
    Calls P (ρ.f 14) #[.string s, .int .i64 10, .int .i64 62] w fun e w' => e = .returned (.tuple #[.int .u64 u, .nilIface]) ∧ w' = Lib.bytesWorld w (ρ.t 5) s := by
  have mixed := L.mixed
  have t9 := L.t9; have a9 := L.a9; have z9 := L.z9; have v9 := L.v9
  have t3 := L.t3; have a3 := L.a3; have z3 := L.z3; have v3 := L.v3
  have t22 := L.t22; have a22 := L.a22; have z22 := L.z22; have v22 := L.v22
  have t24 := L.t24; have a24 := L.a24; have z24 := L.z24; have v24 := L.v24
  have t25 := L.t25; have a25 := L.a25; have z25 := L.z25; have v25 := L.v25
  have t4 := L.t4; have a4 := L.a4; have z4 := L.z4; have v4 := L.v4
  have e16 : ∀ args w, (callFunc (ρ.f 16) args).run P w = .ok (.enter (ρ.f 16) args) w := enters_of L.f16 (by kernel_rfl) rfl
  have hI := uint_in { L with } s hne h16 w
  rw [h] at hI
  have hI : Calls P (ρ.f 16) #[.string s, .int .i64 10, .int .i64 62] w fun e w' => e = .returned (.tuple #[.int .u64 u, .nilIface]) ∧ w' = Lib.bytesWorld w (ρ.t 5) s := hI
  clear h
  go_enter L.f14, BodyPu.n14_ntmps ρ
  go_wp2_with (go_at_fn (ρ.f 16); refine hI.mono ?_; rintro e W1 ⟨rfl, hW⟩)
  go_wp2
  go_ret2
  exact ⟨rfl, rfl⟩
set_option maxHeartbeats 4000000 in
set_option maxRecDepth 100000 in
theorem uint_bad (L : LaysPu.n14 P ρ) (s : ByteArray) (hne : s.size ≠ 0) (h16 : s.size ≤ 16) (h : Lib.parseUintM 4611686018427387903 0 s.data.toList = synU) (ev : Value) (w : World) (hv : w.cell? ⟨(ρ.g 0), 0, none⟩ = some ev) (hev : ev = .nilIface ∨ ∃ te pe, ev = .iface te pe) :
    Calls P (ρ.f 14) #[.string s, .int .i64 10, .int .i64 62] w fun e w' => ∃ v, e = .returned (.tuple #[.int .u64 0, .iface (ρ.t 39) v]) ∧ Below w.heap.size w w' := by
  have hlim : s.size ≤ 281474976710656 := by omega
  have mixed := L.mixed
  have t9 := L.t9; have a9 := L.a9; have z9 := L.z9; have v9 := L.v9
  have t3 := L.t3; have a3 := L.a3; have z3 := L.z3; have v3 := L.v3
  have t22 := L.t22; have a22 := L.a22; have z22 := L.z22; have v22 := L.v22
  have t24 := L.t24; have a24 := L.a24; have z24 := L.z24; have v24 := L.v24
  have t25 := L.t25; have a25 := L.a25; have z25 := L.z25; have v25 := L.v25
  have t4 := L.t4; have a4 := L.a4; have z4 := L.z4; have v4 := L.v4
  have e16 : ∀ args w, (callFunc (ρ.f 16) args).run P w = .ok (.enter (ρ.f 16) args) w := enters_of L.f16 (by kernel_rfl) rfl
  have e17 : ∀ args w, (callFunc (ρ.f 17) args).run P w = .ok (.enter (ρ.f 17) args) w := enters_of L.f17 (by kernel_rfl) rfl
  have hG : (ρ.g 0) < w.heap.size := Lib.lt_of_cell hv
  have hI := uint_in { L with } s hne h16 w
  rw [h] at hI
  have hI : Calls P (ρ.f 16) #[.string s, .int .i64 10, .int .i64 62] w fun e w' => e = .returned (.tuple #[.int .u64 0, .iface (ρ.t 34) (.int .i64 2)]) ∧ w' = Lib.bytesWorld w (ρ.t 5) s := hI
  clear h
  go_enter L.f14, BodyPu.n14_ntmps ρ
  go_wp2_with (go_at_fn (ρ.f 16); refine hI.mono ?_)
  rintro e W1 ⟨rfl, hW⟩
  have hb1 : Below w.heap.size w W1 := by
    subst hW
    exact Lib.bytesWorld_below _ _ _
  have hv1 : W1.cell? ⟨(ρ.g 0), 0, none⟩ = some ev := (hb1.cell (show (⟨(ρ.g 0), 0, none⟩ : Addr).block < w.heap.size from hG)).trans hv
  clear hW
  go_wp2_with (go_at_fn (ρ.f 17); refine (AnyPu.strconv_toError_syntax { L with } ⟨#[80, 97, 114, 115, 101, 85, 105, 110, 116]⟩ s 10 62 ev _ hlim ?_ hev).mono ?_)
  · exact hv1
  rintro e W2 ⟨N, rfl, h1, h2, h3⟩
  go_wp2
  go_ret2
  exact ⟨_, rfl, hb1.trans (h3.mono hb1.size)⟩
end Go.Proofs
