/- BX BY. -/
import Derived.WalkKit
import Derived.StillTail
import Derived.Deep.Draws
import Derived.TacticsIn
import Derived.OrdersIn
import Derived.RangeFuncIn
import Derived.Laws.OwnMore
import Derived.Laws.AppendOwn
import Derived.Laws.AppendOwnNone
import Derived.Laws.BytesString
import Derived.Lib.Strings
import Derived.Lib.AppendStr
import Derived.KernelRfl
import Derived.Lib.ConvBytes
import Derived.Laws.StructEq
import Derived.Lib.AppendZeros
import Derived.Maps.RangeRun
set_option maxRecDepth 100000
namespace Go.KX
abbrev LL := List (Nat × Value)
def lk : LL → Nat → Option Value
 | [], _ => none
 | (j, v) :: r, i => match Nat.beq i j with | true => some v | false => lk r i
def dI (L : LL) : Operand → Option Value
 | .tmp t => lk L t
 | .const v => some v
 | .global g => some (.pointer (some ⟨g, 0, none⟩))
 | .func f => some (.func (.func f) #[] #[])
theorem dA (L : LL) (i : Nat) (v : Value) : lk ((i, v) :: L) i = some v := by simp [lk]
theorem iD (L : LL) {i j : Nat} (v : Value) (h : i ≠ j) : lk ((j, v) :: L) i = lk L i := by
 have : Nat.beq i j = false := by cases hb : Nat.beq i j with | false => rfl | true => exact absurd (Nat.eq_of_beq_eq_true hb) h
 simp [lk, this]
structure KN (n : Nat) (df : List Deferred) (L : LL) (a : Act) : Prop where
 size : a.tmps.size = n
 defers : a.defers = df
 val : ∀ i v, lk L i = some v → a.tmps[i]? = some v
theorem KN.get {n df L a} (h : KN n df L a) {i v} (hv : lk L i = some v) : a.tmps.getD i undef = v := by
 have := h.val i v hv
 simp [Array.getD_eq_getD_getElem?, this]
theorem KN.eval {n df L a} (h : KN n df L a) {o : Operand} {v} (hv : dI L o = some v) : a.eval o = v := by
 cases o with
 | tmp t => exact h.get hv
 | const c => exact Option.some.inj hv
 | global g => exact Option.some.inj hv
 | func f => exact Option.some.inj hv
theorem KN.put {n df L a} (h : KN n df L a) {d : Nat} (hd : Nat.blt d n = true) (v : Value) : KN n df ((d, v) :: L) (a.put (some d) v) := by
 have hd' : d < n := by simpa [Nat.blt_eq] using hd
 refine ⟨by simp [Act.put, h.size], h.defers, ?_⟩
 intro i u hu
 by_cases hi : i = d
 ·subst hi
  rw [dA] at hu
  cases hu
  simp [Act.put, h.size, hd']
 ·rw [iD _ _ hi] at hu
  have := h.val i u hu
  simp [Act.put, Ne.symm hi, this]
def aCO (L' L : LL) : Prop := ∀ i v, lk L' i = some v → lk L i = some v
theorem KN.sub {n df L L' a} (h : KN n df L a) (hs : aCO L' L) : KN n df L' a := ⟨h.size, h.defers, fun i v hv => h.val i v (hs i v hv)⟩
structure GW where
 w : World
 fz : Nat → Prop
 lt : ∀ b, fz b → b < w.heap.size
structure FExt (g g' : GW) : Prop where
 os : g'.w.os = g.w.os
 tape : g'.w.tape = g.w.tape
 output : g'.w.output = g.w.output
 size : g.w.heap.size ≤ g'.w.heap.size
 fz : ∀ b, g.fz b → g'.fz b
 same : ∀ b, g.fz b → g'.w.heap[b]? = g.w.heap[b]?
structure oK (B : List Nat) (g g' : GW) : Prop extends FExt g g' where
 keep : ∀ b, b < g.w.heap.size → b ∉ B → g'.w.heap[b]? = g.w.heap[b]?
 nofz : ∀ b, b < g.w.heap.size → b ∉ B → g'.fz b → g.fz b
theorem FExt.refl (g : GW) : FExt g g := ⟨rfl, rfl, rfl, Nat.le_refl _, fun _ h => h, fun _ _ => rfl⟩
theorem FExt.trans {a b c : GW} (h : FExt a b) (k : FExt b c) : FExt a c :=
 ⟨k.os.trans h.os, k.tape.trans h.tape, k.output.trans h.output, Nat.le_trans h.size k.size, fun x hx => k.fz x (h.fz x hx), fun x hx => (k.same x (h.fz x hx)).trans (h.same x hx)⟩
theorem oK.refl (B) (g : GW) : oK B g g := ⟨FExt.refl g, fun _ _ _ => rfl, fun _ _ _ h => h⟩
theorem oK.trans {B B' : List Nat} {a b c : GW} (h : oK B a b) (k : oK B' b c) (hB : ∀ x ∈ B', x ∈ B ∨ a.w.heap.size ≤ x) : oK B a c := by
 refine ⟨h.toFExt.trans k.toFExt, fun x hx hn => ?_, fun x hx hn hf => ?_⟩
 ·rw [k.keep x (Nat.lt_of_lt_of_le hx h.size) (fun hm => (hB x hm).elim hn (fun hh => by omega)), h.keep x hx hn]
 ·exact h.nofz x hx hn (k.nofz x (Nat.lt_of_lt_of_le hx h.size) (fun hm => (hB x hm).elim hn (fun hh => by omega)) hf)
structure MF where
 p : GW → Prop
 mono : ∀ {g g' : GW}, FExt g g' → p g → p g'
def dF (fs : List MF) (g : GW) : Prop := ∀ f ∈ fs, f.p g
theorem dF.mono {fs g g'} (e : FExt g g') (h : dF fs g) : dF fs g' := fun f hf => f.mono e (h f hf)
theorem dF.cons {f fs g} (h : f.p g) (hs : dF fs g) : dF (f :: fs) g := by
 intro x hx; cases hx with | head => exact h | tail _ hm => exact hs x hm
theorem dF.append {fs gs g} (h : dF fs g) (hs : dF gs g) : dF (fs ++ gs) g := by
 intro x hx; rcases List.mem_append.1 hx with hx | hx
 ·exact h x hx
 ·exact hs x hx
inductive Has {α : Type} : List α → α → Prop
 | head {x : α} {r : List α} : Has (x :: r) x
 | tail {x y : α} {r : List α} : Has r x → Has (y :: r) x
inductive TP {α : Type} (l : List α) : List α → Prop
 | nil : TP l []
 | cons {x r} : Has l x → TP l r → TP l (x :: r)
structure aH where
 bs : List Nat
 p : World → Prop
 loc : ∀ {w w' : World}, (∀ b ∈ bs, w'.heap[b]? = w.heap[b]?) → p w → p w'
def bV (rs : List aH) : List Nat := rs.flatMap aH.bs
@[simp] theorem ZA : bV [] = [] := rfl
@[simp] theorem K7 (r rs) : bV (r :: rs) = r.bs ++ bV rs := rfl
@[simp] theorem D1 (a b) : bV (a ++ b) = bV a ++ bV b := by simp [bV]
structure Own (rs : List aH) (g : GW) : Prop where
 p : ∀ r ∈ rs, r.p g.w
 nodup : (bV rs).Nodup
 lt : ∀ b ∈ bV rs, b < g.w.heap.size
 nfz : ∀ b ∈ bV rs, ¬ g.fz b
inductive m7 : List aH → aH → List aH → Prop
 | head {x : aH} {r : List aH} : m7 (x :: r) x r
 | tail {x y : aH} {r r' : List aH} : m7 r x r' → m7 (y :: r) x (y :: r')
theorem m7.perm {l x r} (h : m7 l x r) : l.Perm (x :: r) := by
 induction h with
 | head => exact List.Perm.refl _
 | tail _ ih => exact (List.Perm.cons _ ih).trans (List.Perm.swap _ _ _)
inductive lI : List aH → List aH → List aH → Prop
 | nil {l : List aH} : lI l [] l
 | cons {l l' r : List aH} {x : aH} {xs : List aH} : m7 l x l' → lI l' xs r → lI l (x :: xs) r
theorem lI.perm {l xs r} (h : lI l xs r) : l.Perm (xs ++ r) := by
 induction h with
 | nil => exact List.Perm.refl _
 | cons h _ ih => exact h.perm.trans (List.Perm.cons _ ih)
theorem cX {a b : List aH} (h : a.Perm b) : (bV a).Perm (bV b) := by
 induction h with
 | nil => exact List.Perm.refl _
 | cons x _ ih => simpa using List.Perm.append_left _ ih
 | swap x y l =>
   simp only [K7, ← List.append_assoc]
   exact List.Perm.append_right _ List.perm_append_comm
 | trans _ _ ih1 ih2 => exact ih1.trans ih2
theorem Own.perm {a b g} (h : Own a g) (hp : a.Perm b) : Own b g :=
 ⟨fun r hr => h.p r (hp.symm.subset hr), (cX hp).nodup_iff.1 h.nodup, fun x hx => h.lt x ((cX hp).symm.subset hx), fun x hx => h.nfz x ((cX hp).symm.subset hx)⟩
theorem Own.left {a b g} (h : Own (a ++ b) g) : Own a g :=
 ⟨fun r hr => h.p r (List.mem_append_left _ hr), (List.nodup_append.1 (by simpa using h.nodup)).1, fun x hx => h.lt x (by simp [hx]), fun x hx => h.nfz x (by simp [hx])⟩
theorem Own.right {a b g} (h : Own (a ++ b) g) : Own b g :=
 ⟨fun r hr => h.p r (List.mem_append_right _ hr), (List.nodup_append.1 (by simpa using h.nodup)).2.1, fun x hx => h.lt x (by simp [hx]), fun x hx => h.nfz x (by simp [hx])⟩
theorem Own.disj {a b g} (h : Own (a ++ b) g) : ∀ x ∈ bV a, x ∉ bV b := fun x hx hy => (List.nodup_append.1 (by simpa using h.nodup)).2.2 x hx x hy rfl
theorem Own.frame {A A' R g g'} (h : Own (A ++ R) g) (e : oK (bV A) g g') (h' : Own A' g') (hn : ∀ b ∈ bV A', b ∈ bV A ∨ g.w.heap.size ≤ b) : Own (A' ++ R) g' := by
 have hd := h.disj
 have hR := h.right
 refine ⟨fun r hr => ?_, ?_, fun b hb => ?_, fun b hb => ?_⟩
 ·rcases List.mem_append.1 hr with hr | hr
  ·exact h'.p r hr
  ·refine r.loc (fun b hb => ?_) (hR.p r hr)
   have hm : b ∈ bV R := List.mem_flatMap.2 ⟨r, hr, hb⟩
   exact e.keep b (hR.lt b hm) (fun hx => hd b hx hm)
 ·simp only [D1]
  refine List.nodup_append.2 ⟨h'.nodup, hR.nodup, fun x hx y hy hxy => ?_⟩
  subst hxy
  rcases hn x hx with h1 | h1
  ·exact hd x h1 hy
  ·have := hR.lt x hy; omega
 ·rcases List.mem_append.1 (by simpa using hb) with hb | hb
  ·exact h'.lt b hb
  ·exact Nat.lt_of_lt_of_le (hR.lt b hb) e.size
 ·rcases List.mem_append.1 (by simpa using hb) with hb | hb
  ·exact h'.nfz b hb
  ·exact fun hf => hR.nfz b hb (e.nofz b (hR.lt b hb) (fun hx => hd b hx hb) hf)
abbrev N2 (m : Option Nat) : Fence := { Fence.wide with round := m }
theorem tO {P : Program} {m : Option Nat} {c : Code} {Q : Exit → Act → World → Prop} {σ : Type} (I : σ → Act → World → Prop) (μ : σ → Nat)
 (round : ∀ s a w, I s a w → c.wpIn (N2 m) 0 P (Exit.then (fun a' w' => ∃ s', I s' a' w' ∧ μ s' < μ s) Q) a w) (s0 : σ) (a : Act) (w : World) (h0 : I s0 a w) : (Code.loop c).wpIn (N2 m) 0 P Q a w := by
 intro b k cs hro hb hr
 have key : ∀ n s a w, μ s = n → I s a w →
  ∃ e a' w', Q e a' w' ∧ ArrivesIn (Machine.fenced P (N2 m)) P (lone (b.atR a (.code c :: .inLoop c :: k)) cs w) b k cs e a' w' := by
  intro n
  induction n using Nat.strongRecOn with
  | _ n ih =>
    intro s a w hn hI
    obtain ⟨e, a₁, w₁, hq, harr⟩ := round s a w hI b (.inLoop c :: k) cs hro hb hr
    cases e with
    | normal =>
      obtain ⟨s', hI₁, hlt⟩ := hq
      obtain ⟨e₂, a₂, w₂, hq₂, harr₂⟩ := ih (μ s') (hn ▸ hlt) s' a₁ w₁ rfl hI₁
      exact ⟨e₂, a₂, w₂, hq₂, .of_steps (StepsIn.trans harr (.one (fenced_calm hb hr rfl) stepR_inLoop)) harr₂⟩
    | exit id => exact ⟨_, a₁, w₁, hq, .pass (x := .inLoop c) rfl (fun _ _ => .inl (by simp)) harr⟩
    | goto l => exact ⟨_, a₁, w₁, hq, .pass (x := .inLoop c) rfl (fun _ _ => .inl (by simp)) harr⟩
    | ret => exact ⟨_, a₁, w₁, hq, .pass (x := .inLoop c) rfl (fun _ _ => .inl (by simp)) harr⟩
    | panic ch => exact ⟨_, a₁, w₁, hq, .pass (x := .inLoop c) rfl (fun _ _ => .inl (by simp)) harr⟩
    | outgrown => exact ⟨_, a₁, w₁, hq, .pass (x := .inLoop c) rfl (fun _ _ => .inl (by simp)) harr⟩
 obtain ⟨e, a', w', hq, harr⟩ := key _ s0 a w rfl h0
 exact ⟨e, a', w', hq, .of_steps (.one (fenced_calm hb hr rfl) stepR_loop) harr⟩
structure Cx where
 P : Program
 n : Nat
 g0 : GW
 B0 : List Nat
 Q : Exit → Act → World → Prop
 rd : Option Nat
 df : List Deferred
structure St (X : Cx) (L : LL) (fs : List MF) (rs : List aH) (g : GW) (a : Act) : Prop where
 kn : KN X.n X.df L a
 all : dF fs g
 own : Own rs g
 ext : oK X.B0 X.g0 g
 new : ∀ b ∈ bV rs, b ∈ X.B0 ∨ X.g0.w.heap.size ≤ b
def wn (P : Program) (o : Oper) (a : Act) (w : World) (next : Act → World → Prop) : Prop :=
 match (execOp a.eval o).run P w with
 | .ok (.value v) w' => next (a.put o.dst v) w'
 | .ok .skip w' => next (a.put o.dst undef) w'
 | .ok (.enter f args) w' => Calls P f args w' fun e w'' => ∃ v, e = .returned v ∧ next (a.put o.dst v) w''
 | .ok (.round l f tmps assign body) w' => RoundIn Fence.wide 0 P l f tmps assign body w' fun e w'' => ∃ v, e = .returned v ∧ next (a.put o.dst v) w''
 | _ => False
def wl (P : Program) (ops : Array Oper) (Q : Act → World → Prop) : List Oper → Act → World → Prop
 | [], a, w => Q a w
 | o :: rest, a, w => if Region.wanted o (yielded ops a.tmps) then wn P o a w (wl P ops Q rest) else wl P ops Q rest (a.put o.dst undef) w
theorem WT {P : Program} {m : Option Nat} {o : Oper} {a : Act} {w : World} {next next' : Act → World → Prop} {Q : Exit → Act → World → Prop} (hn : ∀ a w, next a w → next' a w) (h : wn P o a w next) : o.wpIn (N2 m) 0 P a w next' Q := by
 refine ⟨fun _ _ => trivial, ?_⟩
 have hd : ∀ c, o.op ≠ .defer c := by
  intro c hc
  unfold wn at h
  simp only [execOp, hc] at h
  rw [Sem.run_bind] at h
  generalize (resolve a.eval c o.type).run P w = r at h
  cases r with
  | halt => exact h
  | ok d w' => simp at h
 rw [Oper.semAt_eq _ _ _ hd]
 unfold wn at h
 generalize (execOp a.eval o).run P w = r at h ⊢
 cases r with
 | halt => exact h.elim
 | ok n w' =>
   cases n <;> first
    | exact hn _ _ h
    | exact h.elim
    | exact ⟨fun h => by simp [Fence.wide] at h, (callsIn_wide (n := 0)).2 (h.mono fun e w'' ⟨v, he, hx⟩ => by subst he; exact hn _ _ hx)⟩
    | exact ⟨fun h => by simp [Fence.wide] at h, RoundIn.mono h fun e w'' ⟨v, he, hx⟩ => by subst he; exact hn _ _ hx⟩
theorem TQ {P : Program} {o : Oper} {a : Act} {w : World} {next next' : Act → World → Prop} (hn : ∀ a w, next a w → next' a w) (h : wn P o a w next) : wn P o a w next' := by
 unfold wn at h ⊢
 generalize (execOp a.eval o).run P w = r at h ⊢
 cases r with
 | halt => exact h.elim
 | ok n w' =>
   cases n <;> first
    | exact hn _ _ h
    | exact h.elim
    | exact h.mono fun e w'' ⟨v, he, hx⟩ => ⟨v, he, hn _ _ hx⟩
theorem IV {P : Program} {m : Option Nat} {ops : Array Oper} {Q : Exit → Act → World → Prop} : ∀ (l : List Oper) (a : Act) (w : World), wl P ops (Q .normal) l a w → wpListIn (N2 m) 0 P ops Q l a w
 | [], _, _, h => h
 | o :: rest, a, w, h => by
   simp only [wl] at h
   simp only [wpListIn]
   split
   ·rename_i hw; simp only [hw, if_true] at h; exact WT (fun a w h => IV rest a w h) h
   ·rename_i hw; simp only [hw] at h; exact ⟨fun _ _ => trivial, IV rest _ w h⟩
def Y4 (P : Program) (ops : Array Oper) (i : Nat) (K : Act → World → Prop) (a : Act) (w : World) : Prop :=
 match ops[i]? with
 | none => K a w
 | some o => if Region.wanted o (yielded ops a.tmps) then wn P o a w K else K (a.put o.dst undef) w
def N5 (P : Program) (ops : Array Oper) (Q : Act → World → Prop) : Nat → Array Bool → Act → World → Prop
 | 0, listed, a, w => Region.ready .any ops listed = [] ∧ Q a w
 | f + 1, listed, a, w => (Region.ready .any ops listed = [] → Q a w) ∧ ∀ i ∈ Region.ready .any ops listed, Y4 P ops i (N5 P ops Q f (listed.setIfInBounds i true)) a w
inductive It where
 | code (c : Code)
 | blk (id : Nat)
 | lp (J : Act → World → Prop)
 | da (arr : Array Oper) (f : Nat) (listed : Array Bool)
def jP (P : Program) (m : Option Nat) (Q : Exit → Act → World → Prop) : List It → Exit → Act → World → Prop
 | [] => Q
 | .code c :: k => Exit.then (fun a w => c.wpIn (N2 m) 0 P (jP P m Q k) a w) (jP P m Q k)
 | .blk id :: k => Exit.inBlock id (jP P m Q k)
 | .lp J :: k => Exit.then J (jP P m Q k)
 | .da arr f listed :: k => Exit.then (N5 P arr (jP P m Q k .normal) f listed) (jP P m Q k)
def C (X : Cx) (k : List It) (L : LL) (fs : List MF) (own : List aH) : Prop :=
 ∀ g a, St X L fs own g a → jP X.P X.rd X.Q k .normal a g.w
def S (X : Cx) (arr : Array Oper) (l : List Oper) (k : List It) (L : LL) (fs : List MF) (own : List aH) : Prop :=
 ∀ g a, St X L fs own g a → wl X.P arr (jP X.P X.rd X.Q k .normal) l a g.w
section
variable {X : Cx} {k : List It} {L : LL} {fs : List MF} {own : List aH}
theorem ZB {x y : Code} (h : C X (.code x :: .code y :: k) L fs own) : C X (.code (.seq x y) :: k) L fs own :=
 fun g a s => wpIn_seq (h g a s)
theorem W9 (h : C X k L fs own) : C X (.code .skip :: k) L fs own := fun g a s => wpIn_skip (h g a s)
theorem TR {id : Nat} {c : Code} (h : C X (.code c :: .blk id :: k) L fs own) : C X (.code (.block id c) :: k) L fs own :=
 fun g a s => wpIn_block (h g a s)
theorem ZC {id : Nat} (h : C X k L fs own) : C X (.blk id :: k) L fs own := fun g a s => h g a s
def kR (id : Nat) : List It → Option (List It)
 | [] => none
 | .blk id' :: k => match Nat.beq id id' with | true => some k | false => kR id k
 | .code _ :: k => kR id k
 | .lp _ :: k => kR id k
 | .da _ _ _ :: k => kR id k
theorem iE {P m Q id} : ∀ {k k' : List It}, kR id k = some k' → ∀ a w, jP P m Q k (.exit id) a w = jP P m Q k' .normal a w
 | [], _, h, _, _ => by simp [kR] at h
 | .blk id' :: k, k', h, a, w => by
   simp only [kR] at h
   split at h
   ·rename_i hb
    have : id = id' := Nat.eq_of_beq_eq_true hb
    cases h
    simp [jP, Exit.inBlock, this]
   ·rename_i hb
    have : id ≠ id' := fun e => by subst e; rw [Nat.beq_refl] at hb; cases hb
    simp only [jP, Exit.inBlock, this, if_false]
    exact iE h a w
 | .code _ :: k, k', h, a, w => iE (k := k) (by simpa [kR] using h) a w
 | .lp _ :: k, k', h, a, w => iE (k := k) (by simpa [kR] using h) a w
 | .da _ _ _ :: k, k', h, a, w => iE (k := k) (by simpa [kR] using h) a w
theorem XA {id : Nat} {k'} (hp : kR id k = some k') (h : C X k' L fs own) : C X (.code (.exit id) :: k) L fs own :=
 fun g a s => wpIn_exit (by rw [iE hp]; exact h g a s)
theorem dU {P m Q} : ∀ (k : List It) a w, jP P m Q k .ret a w = Q .ret a w
 | [], _, _ => rfl
 | .blk _ :: k, a, w => dU k a w
 | .code _ :: k, a, w => dU k a w
 | .lp _ :: k, a, w => dU k a w
 | .da _ _ _ :: k, a, w => dU k a w
theorem N6 {c : Operand} {x y : Code} (hc : dI L c = some (.bool true)) (h : C X (.code x :: k) L fs own) : C X (.code (.cond c x y) :: k) L fs own :=
 fun g a s => wpIn_cond_true (s.kn.eval hc) (h g a s)
theorem N7 {c : Operand} {x y : Code} (hc : dI L c = some (.bool false)) (h : C X (.code y :: k) L fs own) : C X (.code (.cond c x y) :: k) L fs own :=
 fun g a s => wpIn_cond_false (s.kn.eval hc) (h g a s)
end
def iV (P : Program) (f : FuncId) : Prop := ∃ fn, P.funcs[f]? = some fn ∧ fn.body.isSome = true ∧ (fn.name == "runtime.NumGoroutine") = false
def N8 : List Value → Value
 | [v] => v
 | vs => .tuple vs.toArray
section
variable {X : Cx} {k : List It} {L : LL} {fs : List MF} {own : List aH} {arr : Array Oper} {l : List Oper} {o : Oper}
theorem N9 {id : Nat} (h : S X l.toArray l k L fs own) : C X (.code (.region id l.toArray false) :: k) L fs own := by
 intro g a s
 exact wpIn_region_lit (IV l a g.w (Q := jP X.P X.rd X.Q k) (h g a s))
def live (arr : Array Oper) (L : LL) (o : Oper) : Option Bool :=
 match o.guard with
 | none => some true
 | some (j, want) => match arr[j]? with
   | none => none
   | some oj => match oj.dst with
     | none => none
     | some t => match lk L t with
       | some (.bool b) => match b, want with
         | true, true => some true
         | false, false => some true
         | true, false => some false
         | false, true => some false
       | some (.tuple _) => some false
       | _ => none
theorem aX {n df a r} (hk : KN n df L a) (h : live arr L o = some r) : Region.wanted o (yielded arr a.tmps) = r := by
 unfold live at h
 unfold Region.wanted
 split at h
 ·rename_i hg; cases h; simp only [hg]
 ·rename_i j want hg
  simp only [hg]
  split at h
  ·cases h
  ·rename_i oj hj
   split at h
   ·cases h
   ·rename_i t ht
    split at h
    ·rename_i b hb
     have hv := hk.val t _ hb
     simp only [yielded, hj, Option.bind_some, ht, hv]
     cases b <;> cases want <;> simp at h <;> subst h <;> rfl
    ·rename_i u hb
     have hv := hk.val t _ hb
     simp only [yielded, hj, Option.bind_some, ht, hv]
     cases h
     rfl
    ·cases h
def qE (X : Cx) (o : Oper) (L : LL) (fs : List MF) (own : List aH) (v : Value) : Prop :=
 ∀ g a, St X L fs own g a → (execOp a.eval o).run X.P g.w = .ok (.value v) g.w
theorem St.put {g a} (s : St X L fs own g a) {d : Nat} (hn : Nat.blt d X.n = true) (v : Value) : St X ((d, v) :: L) fs own g (a.put (some d) v) :=
 ⟨s.kn.put hn v, s.all, s.own, s.ext, s.new⟩
theorem S_y {d : Nat} {v : Value} (hl : live arr L o = some true) (hd : o.dst = some d) (hn : Nat.blt d X.n = true) (hy : qE X o L fs own v) (h : S X arr l k ((d, v) :: L) fs own) :
 S X arr (o :: l) k L fs own := by
 intro g a s
 simp only [wl, aX s.kn hl, if_true, wn, hy g a s, hd]
 exact h g _ (s.put hn v)
theorem ZD {d : Nat} (hl : live arr L o = some false) (hd : o.dst = some d) (hn : Nat.blt d X.n = true) (h : S X arr l k ((d, undef) :: L) fs own) : S X arr (o :: l) k L fs own := by
 intro g a s
 simp only [wl, aX s.kn hl, hd]
 exact h g _ (s.put hn undef)
theorem XB (hl : live arr L o = some false) (hd : o.dst = none) (h : S X arr l k L fs own) : S X arr (o :: l) k L fs own := by
 intro g a s
 simp only [wl, aX s.kn hl, hd]
 exact h g _ s
theorem TS {fs' own'} (hs : ∀ g a, St X L fs own g a → ∃ g', g'.w = g.w ∧ St X L fs' own' g' a) (h : S X arr l k L fs' own') : S X arr l k L fs own := by
 intro g a s
 obtain ⟨g', hw, s'⟩ := hs g a s
 exact hw ▸ h g' a s'
def oL (L : LL) : List Operand → Option (List Value)
 | [] => some []
 | x :: r => match dI L x with | some v => (match oL L r with | some vs => some (v :: vs) | none => none) | none => none
theorem KN.evals {n df a} (h : KN n df L a) : ∀ {xs : List Operand} {vs}, oL L xs = some vs → xs.map a.eval = vs
 | [], vs, e => by simp [oL] at e; simp [e]
 | x :: r, vs, e => by
   simp only [oL] at e
   split at e
   ·rename_i v hv
    split at e
    ·rename_i us hu
     cases e
     simp [h.eval hv, h.evals hu]
    ·cases e
   ·cases e
def iW (L : LL) : Op → Option Value
 | .move x => dI L x
 | .assign x => dI L x
 | .pick c a b => match dI L c with
   | some (.bool true) => dI L a
   | some (.bool false) => dI L b
   | _ => none
 | .extract t i => match dI L t with
   | some (.tuple vs) => vs[i]?
   | _ => none
 | .unOp .not _ x => match dI L x with
   | some (.bool b) => some (.bool !b)
   | _ => none
 | .nilCheck x => match dI L x with
   | some (.pointer (some a)) => some (.pointer (some a))
   | some (.iface t v) => some (.iface t v)
   | some (.func (.func f) a c) => some (.func (.func f) a c)
   | _ => none
 | .makeFunc fn first captured => match oL L first.toList with
   | some vs => match oL L captured.toList with
     | some us => some (.func fn vs.toArray us.toArray)
     | none => none
   | none => none
 | .binOp .lss _ x y _ => match dI L x with
   | some (.int k a) => match dI L y with
     | some (.int k' b) => if k = k' then some (.bool (decide (a < b))) else none
     | _ => none
   | _ => none
 | .binOp .leq _ x y _ => match dI L x with
   | some (.int k a) => match dI L y with
     | some (.int k' b) => if k = k' then some (.bool (decide (a ≤ b))) else none
     | _ => none
   | _ => none
 | .binOp .gtr _ x y _ => match dI L x with
   | some (.int k a) => match dI L y with
     | some (.int k' b) => if k = k' then some (.bool (decide (b < a))) else none
     | _ => none
   | _ => none
 | .binOp .geq _ x y _ => match dI L x with
   | some (.int k a) => match dI L y with
     | some (.int k' b) => if k = k' then some (.bool (decide (b ≤ a))) else none
     | _ => none
   | _ => none
 | .binOp .eql _ x y _ => match dI L x with
   | some (.int k a) => match dI L y with
     | some (.int k' b) => if k = k' then some (.bool (decide (a = b))) else none
     | _ => none
   | _ => none
 | .binOp .neq _ x y _ => match dI L x with
   | some (.int k a) => match dI L y with
     | some (.int k' b) => if k = k' then some (.bool (decide (¬ a = b))) else none
     | _ => none
   | _ => none
 | _ => none
theorem K8 {P : Program} {w : World} {n df a} (hk : KN n df L a) {v : Value} (h : iW L o.op = some v) : (execOp a.eval o).run P w = .ok (.value v) w := by
 have cmp : ∀ {x y : Operand} {f : Int → Int → Bool} {v : Value}, (match dI L x with
  | some (.int k a) => match dI L y with
    | some (.int k' b) => if k = k' then some (Value.bool (f a b)) else none
    | _ => none
  | _ => none) = some v → ∃ kk p q, a.eval x = .int kk p ∧ a.eval y = .int kk q ∧ v = .bool (f p q) := by
  intro x y f v h
  split at h
  ·rename_i k p hx
   split at h
   ·rename_i k' q hy
    split at h
    ·rename_i hkk
     subst hkk
     cases h
     exact ⟨k, p, q, hk.eval hx, hk.eval hy, rfl⟩
    ·cases h
   ·cases h
  ·cases h
 unfold iW at h
 split at h
 ·rename_i x ho; have e := hk.eval h; unfold execOp; rw [ho]; show Sem.run P (pure (Next.value (a.eval x))) w = _; rw [e]; rfl
 ·rename_i x ho; have e := hk.eval h; unfold execOp; rw [ho]; show Sem.run P (pure (Next.value (a.eval x))) w = _; rw [e]; rfl
 ·rename_i c x y ho
  split at h
  ·rename_i hc; simp only [execOp, ho, hk.eval hc, hk.eval h]; rfl
  ·rename_i hc; simp only [execOp, ho, hk.eval hc, hk.eval h]; rfl
  ·cases h
 ·rename_i t i ho
  split at h
  ·rename_i vs hc
   simp only [execOp, ho, hk.eval hc, Instr.extract, h]; rfl
  ·cases h
 ·rename_i x ho
  split at h
  ·rename_i b hb; cases h; simp only [execOp, ho, hk.eval hb, Op.unary]; rfl
  ·cases h
 ·rename_i x ho
  split at h
  ·rename_i b hb; cases h; simp only [execOp, ho, hk.eval hb]; rfl
  ·rename_i b hb; cases h; simp only [execOp, ho, hk.eval hb]; rfl
  ·rename_i b hb; cases h; simp only [execOp, ho, hk.eval hb]; rfl
  ·cases h
 ·rename_i fn first captured ho
  split at h
  ·rename_i vs hv
   split at h
   ·rename_i us hu
    cases h
    have e1 := hk.evals hv
    have e2 := hk.evals hu
    have e1' : first.map a.eval = vs.toArray := Array.ext' (by simpa using e1)
    have e2' : captured.map a.eval = us.toArray := Array.ext' (by simpa using e2)
    simp only [execOp, ho, Instr.makeFunc, e1', e2']; rfl
   ·cases h
  ·cases h
 ·rename_i x y _ ho
  obtain ⟨kk, p, q, h1, h2, rfl⟩ := cmp (f := fun a b => decide (a < b)) h
  simp only [execOp, ho, h1, h2, binOp_lss, eqGuard_lss]; rfl
 ·rename_i x y _ ho
  obtain ⟨kk, p, q, h1, h2, rfl⟩ := cmp (f := fun a b => decide (a ≤ b)) h
  simp only [execOp, ho, h1, h2, binOp_leq, eqGuard_leq]; rfl
 ·rename_i x y _ ho
  obtain ⟨kk, p, q, h1, h2, rfl⟩ := cmp (f := fun a b => decide (b < a)) h
  simp only [execOp, ho, h1, h2, binOp_gtr, eqGuard_gtr]; rfl
 ·rename_i x y _ ho
  obtain ⟨kk, p, q, h1, h2, rfl⟩ := cmp (f := fun a b => decide (b ≤ a)) h
  simp only [execOp, ho, h1, h2, binOp_geq, eqGuard_geq]; rfl
 ·rename_i x y _ ho
  obtain ⟨kk, p, q, h1, h2, rfl⟩ := cmp (f := fun a b => decide (a = b)) h
  simp only [execOp, ho, h1, h2, binOp_eql, eqGuard_at_int]; rfl
 ·rename_i x y _ ho
  obtain ⟨kk, p, q, h1, h2, rfl⟩ := cmp (f := fun a b => decide (¬ a = b)) h
  simp only [execOp, ho, h1, h2, binOp_neq, eqGuard_at_int, decide_not]; rfl
 ·cases h
theorem GR {v : Value} (h : iW L o.op = some v) : qE X o L fs own v := fun _ _ s => K8 s.kn h
def runN (n : Nat) (arr : Array Oper) : Nat → List Oper → LL → Option (List Oper × LL)
 | 0, l, L => some (l, L)
 | _ + 1, [], _ => none
 | m + 1, o :: r, L => match live arr L o with
   | some true => match o.dst with
     | some d => match Nat.blt d n with
       | true => match iW L o.op with
         | some v => runN n arr m r ((d, v) :: L)
         | none => none
       | false => none
     | none => none
   | some false => match o.dst with
     | some d => match Nat.blt d n with
       | true => runN n arr m r ((d, undef) :: L)
       | false => none
     | none => runN n arr m r L
   | none => none
theorem ZE (m : Nat) {l' : List Oper} {L' : LL} (h : runN X.n arr m l L = some (l', L')) (hk : S X arr l' k L' fs own) : S X arr l k L fs own := by
 induction m generalizing l L with
 | zero => simp only [runN, Option.some.injEq, Prod.mk.injEq] at h; obtain ⟨rfl, rfl⟩ := h; exact hk
 | succ m ih =>
   cases l with
   | nil => simp [runN] at h
   | cons o r =>
     simp only [runN] at h
     split at h
     ·rename_i hl
      split at h
      ·rename_i d hd
       split at h
       ·rename_i hn
        split at h
        ·rename_i v hv
         exact S_y hl hd hn (GR hv) (ih h)
        ·cases h
       ·cases h
      ·cases h
     ·rename_i hl
      split at h
      ·rename_i d hd
       split at h
       ·rename_i hn
        exact ZD hl hd hn (ih h)
       ·cases h
      ·rename_i hd
       exact XB hl hd (ih h)
     ·cases h
theorem St.frame {g a g' r fsc ownc fs' own'} (s : St X L fs own g a) (hO : lI own ownc r) (hE : oK (bV ownc) g g') (hA : dF fs' g') (hO' : Own own' g')
 (hN : ∀ b ∈ bV own', b ∈ bV ownc ∨ g.w.heap.size ≤ b) (_ : TP fs fsc) : St X L (fs' ++ fs) (own' ++ r) g' a := by
 have ho := s.own.perm hO.perm
 have hp := cX hO.perm
 have hnew : ∀ b ∈ bV ownc, b ∈ X.B0 ∨ X.g0.w.heap.size ≤ b := fun b hb => s.new b (hp.symm.subset (by simp [hb]))
 refine ⟨s.kn, hA.append (s.all.mono hE.toFExt), ho.frame hE hO' hN, s.ext.trans hE hnew, fun b hb => ?_⟩
 rcases List.mem_append.1 (by simpa using hb) with hb | hb
 ·rcases hN b hb with h1 | h1
  ·exact hnew b h1
  ·exact .inr (Nat.le_trans s.ext.size h1)
 ·exact s.new b (hp.symm.subset (by simp [hb]))
theorem mC {P : Program} {f : FuncId} (h : iV P f) (args : Array Value) (w : World) : (callFunc f args).run P w = .ok (.enter f args) w := by
 obtain ⟨fn, h1, h2, h3⟩ := h
 have h4 : fn.body.isNone = false := by cases hb : fn.body <;> simp_all
 show (match P.funcs[f]? with | none => stuck "call: no such function" | some fn => _ : Sem Next).run P w = _
 rw [h1]
 simp only [h3, h4]
 rfl
end
abbrev Bytes := List UInt8
def str (s : Bytes) : Value := .string ⟨s.toArray⟩
theorem m8 (s : Bytes) : (⟨s.toArray⟩ : ByteArray).size = s.length := by rw [Go.Lib.size_eq]
theorem GT (b : ByteArray) : ∃ s : Bytes, Value.string b = str s := ⟨b.data.toList, by unfold str; rw [Go.Lib.mk_data]⟩
structure El (α : Type) where
 sz : Nat
 enc : α → List Value
 len : ∀ a, (enc a).length = sz
 pos : 0 < sz
 one : ∀ a, ∀ u ∈ enc a, u.oneCell' = true
def flat {α} (E : El α) (xs : List α) : List Value := xs.flatMap E.enc
theorem eN {α} (E : El α) (xs : List α) : (flat E xs).length = xs.length * E.sz := by
 induction xs with
 | nil => simp [flat]
 | cons x xs ih => simp only [flat, List.flatMap_cons, List.length_append, E.len, List.length_cons] at ih ⊢; rw [ih, Nat.add_mul]; omega
theorem u9 {α} (E : El α) (xs : List α) : ∀ u ∈ flat E xs, u.oneCell' = true := by
 intro u hu
 obtain ⟨a, _, h⟩ := List.mem_flatMap.1 hu
 exact E.one a u h
@[simp] theorem flat_nil {α} (E : El α) : flat E [] = [] := rfl
@[simp] theorem tP {α} (E : El α) (xs ys : List α) : flat E (xs ++ ys) = flat E xs ++ flat E ys := by simp [flat]
theorem r7 {α} (E : El α) : ∀ (xs : List α) (n : Nat), (flat E xs).drop (n * E.sz) = flat E (xs.drop n)
 | [], n => by simp
 | x :: xs, 0 => by simp
 | x :: xs, n + 1 => by
   rw [List.drop_succ_cons, ← r7 E xs n]
   show (E.enc x ++ flat E xs).drop _ = _
   rw [show (n + 1) * E.sz = (E.enc x).length + n * E.sz by rw [E.len, Nat.add_mul]; omega, ← List.drop_drop, List.drop_left]
theorem flat_get {α} (E : El α) (xs : List α) (i j : Nat) (x : α) (v : Value) (hi : xs[i]? = some x) (hj : (E.enc x)[j]? = some v) : (flat E xs)[i * E.sz + j]? = some v := by
 rw [← List.getElem?_drop, r7]
 have : xs.drop i = x :: xs.drop (i + 1) := by
  have hlt : i < xs.length := by
   rcases Nat.lt_or_ge i xs.length with h | h
   ·exact h
   ·rw [List.getElem?_eq_none h] at hi; cases hi
  rw [List.drop_eq_getElem_cons hlt]
  rw [List.getElem?_eq_getElem hlt] at hi
  cases hi; rfl
 rw [this]
 show (E.enc x ++ flat E (xs.drop (i + 1)))[j]? = _
 have hj' : j < (E.enc x).length := by
  rcases Nat.lt_or_ge j (E.enc x).length with h | h
  ·exact h
  ·rw [List.getElem?_eq_none h] at hj; cases hj
 rw [List.getElem?_append_left hj', hj]
theorem oM {w w' : World} {b o : Nat} (h : w'.heap[b]? = w.heap[b]?) : w'.cell? ⟨b, o, none⟩ = w.cell? ⟨b, o, none⟩ := World.cell?_of_block h
def TU {α : Type} (E : El α) (a : Option Addr) (c : Nat) (ys : List α) : MF where
 p g := ys.length ≤ maxLen ∧ ys.length ≤ c ∧ (ys ≠ [] → ∃ b o, a = some ⟨b, o, none⟩ ∧ g.fz b ∧ ∀ (j : Nat) x, (flat E ys)[j]? = some x → g.w.cell? ⟨b, o + j, none⟩ = some x)
 mono := by
  intro g g' e ⟨h1, h2, h3⟩
  refine ⟨h1, h2, fun hn => ?_⟩
  obtain ⟨b, o, rfl, hf, hc⟩ := h3 hn
  exact ⟨b, o, rfl, e.fz b hf, fun j x hx => by rw [oM (e.same b hf)]; exact hc j x hx⟩
def PtM (b o : Nat) (cs : List Value) : MF where
 p g := g.fz b ∧ ∀ (j : Nat) x, cs[j]? = some x → g.w.cell? ⟨b, o + j, none⟩ = some x
 mono := by
  intro g g' e ⟨h1, h2⟩
  exact ⟨e.fz b h1, fun j x hx => by rw [oM (e.same b h1)]; exact h2 j x hx⟩
theorem TU.nil {α} (E : El α) (a : Option Addr) (c : Nat) (g : GW) : (TU E a c []).p g := ⟨by simp, by simp, fun h => (h rfl).elim⟩
def aH.blk (b : Nat) (o : Obj) : aH where
 bs := [b]
 p w := w.heap[b]? = some o
 loc h hp := by rw [h _ (.head _)]; exact hp
def yD (a : Option Addr) : List Nat := match a with | some a => [a.block] | none => []
def aH.arr {α : Type} (E : El α) (T : TypeId) (a : Option Addr) (c : Nat) (ys : List α) : aH where
 bs := yD a
 p w := w.ownsRow 0 T E.sz (.slice a ys.length c) ys.length (flat E ys)
 loc := by
  intro w w' h hp
  obtain ⟨h1, h2⟩ := hp
  refine ⟨h1, ?_⟩
  rcases h2 with h2 | ⟨gg, cap, cur, hv, hb, hh, r⟩
  ·exact .inl h2
  ·refine .inr ⟨gg, cap, cur, hv, hb, ?_, r⟩
   injection hv with hv1
   subst hv1
   rw [h gg (by simp [yD])]
   exact hh
section
variable {X : Cx} {k : List It} {L : LL} {fs : List MF} {own : List aH} {arr : Array Oper} {l : List Oper} {o : Oper}
theorem Own.arr_nil {g} {α} (E : El α) (T : TypeId) (h : Own own g) : Own (aH.arr E T none 0 ([] : List α) :: own) g := by
 refine ⟨fun r hr => ?_, h.nodup, h.lt, h.nfz⟩
 cases hr with
 | head => exact ⟨by simp, .inl ⟨rfl, rfl⟩⟩
 | tail _ hm => exact h.p r hm
theorem St.publish {g a} {α} {E : El α} {T ad c ys own'} (hr : m7 own (aH.arr (α := α) E T ad c ys) own') (s : St X L fs own g a) :
 ∃ g', g'.w = g.w ∧ St X L (TU E ad c ys :: fs) own' g' a := by
 have hp := hr.perm
 have ho := s.own.perm hp
 have hown := ho.p _ (.head _)
 have hnew : ∀ b ∈ yD ad, b ∈ X.B0 ∨ X.g0.w.heap.size ≤ b := fun b hb => s.new b ((cX hp).symm.subset (by simp [aH.arr, hb]))
 let g' : GW := ⟨g.w, fun b => g.fz b ∨ b ∈ yD ad, fun b hb => hb.elim (g.lt b) (fun h => ho.lt b (by simp [aH.arr, h]))⟩
 have hF : FExt g g' := ⟨rfl, rfl, rfl, Nat.le_refl _, fun _ h => .inl h, fun _ _ => rfl⟩
 have hnd : (yD ad ++ bV own').Nodup := ho.nodup
 have hd : ∀ b ∈ yD ad, b ∉ bV own' := fun b hb hx => (List.nodup_append.1 hnd).2.2 b hb b hx rfl
 refine ⟨g', rfl, s.kn, dF.cons ?_ (s.all.mono hF), ?_, ?_, fun b hb => s.new b ((cX hp).symm.subset (by simp [hb]))⟩
 ·obtain ⟨h1, h2⟩ := hown
  rcases h2 with ⟨hv, hn⟩ | ⟨gg, cap, cur, hv, hb, hh, hnc, hcm, hcs, htk⟩
  ·have : ys = [] := List.eq_nil_of_length_eq_zero hn
   subst this
   exact TU.nil E _ _ _
  ·injection hv with e1 e2 e3
   subst e1
   refine ⟨Nat.le_trans hnc hcm, by omega, fun _ => ⟨gg, 0, rfl, .inr (by simp [yD]), fun j x hx => ?_⟩⟩
   have hlt : j < ys.length * E.sz := by
    rw [← eN]
    rcases Nat.lt_or_ge j (flat E ys).length with h | h
    ·exact h
    ·rw [List.getElem?_eq_none h] at hx; cases hx
   show g.w.cell? _ = _
   simp only [World.cell?, hh, Nat.zero_add]
   rw [← htk, List.getElem?_take_of_lt hlt] at hx
   simpa using hx
 ·exact ⟨fun r hr' => ho.p r (.tail _ hr'), (List.nodup_append.1 hnd).2.1, fun b hb => ho.lt b (by simp [hb]), fun b hb hf => hf.elim (ho.nfz b (by simp [hb])) (fun hx => hd b hx hb)⟩
 ·refine ⟨s.ext.toFExt.trans hF, s.ext.keep, fun b hb hn hf => ?_⟩
  rcases hf with hf | hf
  ·exact s.ext.nofz b hb hn hf
  ·rcases hnew b hf with h1 | h1
   ·exact (hn h1).elim
   ·omega
theorem ZF {α} {E : El α} {T ad c ys own'} (hr : m7 own (aH.arr (α := α) E T ad c ys) own') (h : S X arr l k L (TU E ad c ys :: fs) own') : S X arr l k L fs own :=
 TS (fun _ _ s => s.publish hr) h
theorem hZ {op : BinOp} {T yT : TypeId} {x y : Operand} {vx vy v : Value} (ho : o.op = .binOp op T x y yT) (hx : dI L x = some vx) (hy : dI L y = some vy) (hg : eqGuard op T x y vx vy = pure ())
 (hb : ∀ w, (binOp op T vx vy).run X.P w = .ok v w) : qE X o L fs own v := by
 intro g a s
 simp only [execOp, ho, s.kn.eval hx, s.kn.eval hy, hg]
 simp [hb]
theorem wrap_i64 {x : Int} (h1 : -9223372036854775808 ≤ x) (h2 : x ≤ 9223372036854775807) : IntKind.i64.wrap x = x := by
 simp only [IntKind.wrap, IntKind.bits, IntKind.signed]
 simp only [Bool.true_and]
 split <;> rename_i h <;> simp at h <;> omega
theorem wrap_u64 {x : Int} (h1 : 0 ≤ x) (h2 : x ≤ 18446744073709551615) : IntKind.u64.wrap x = x := by
 simp only [IntKind.wrap, IntKind.bits, IntKind.signed]
 simp only [Bool.false_and]
 simp
 omega
theorem wrap_u8 {x : Int} (h1 : 0 ≤ x) (h2 : x ≤ 255) : IntKind.u8.wrap x = x := by
 simp only [IntKind.wrap, IntKind.bits, IntKind.signed]
 simp only [Bool.false_and]
 simp
 omega
theorem ZG {T yT : TypeId} {x y : Operand} {kk : IntKind} {p q : Int} (ho : o.op = .binOp .add T x y yT) (hx : dI L x = some (.int kk p)) (hy : dI L y = some (.int kk q)) : qE X o L fs own (.int kk (kk.wrap (p + q))) :=
 hZ ho hx hy rfl (fun w => by simp [binOp_add, Op.intArith])
theorem ZH {T yT : TypeId} {x y : Operand} {kk : IntKind} {p q : Int} (ho : o.op = .binOp .sub T x y yT) (hx : dI L x = some (.int kk p)) (hy : dI L y = some (.int kk q)) : qE X o L fs own (.int kk (kk.wrap (p - q))) :=
 hZ ho hx hy rfl (fun w => by simp [binOp_sub, Op.intArith])
theorem ZI {T yT : TypeId} {x y : Operand} {kk : IntKind} {p q : Int} (ho : o.op = .binOp .mul T x y yT) (hx : dI L x = some (.int kk p)) (hy : dI L y = some (.int kk q)) : qE X o L fs own (.int kk (kk.wrap (p * q))) :=
 hZ ho hx hy rfl (fun w => by simp [binOp_mul, Op.intArith])
theorem ZJ {T yT : TypeId} {x y : Operand} {kk : IntKind} {p q : Int} (ho : o.op = .binOp .quo T x y yT) (hx : dI L x = some (.int kk p)) (hy : dI L y = some (.int kk q)) (hq : q ≠ 0) : qE X o L fs own (.int kk (kk.wrap (p.tdiv q))) :=
 hZ ho hx hy rfl (fun w => by simp [binOp_quo, Op.intDiv, hq])
theorem ZK {T yT : TypeId} {x y : Operand} {kk : IntKind} {p q : Int} (ho : o.op = .binOp .rem T x y yT) (hx : dI L x = some (.int kk p)) (hy : dI L y = some (.int kk q)) (hq : q ≠ 0) : qE X o L fs own (.int kk (p.tmod q)) :=
 hZ ho hx hy rfl (fun w => by simp [binOp_rem, Op.intDiv, hq])
theorem ZL {T : TypeId} {x : Operand} {kk : IntKind} {p : Int} (ho : o.op = .unOp .neg T x) (hx : dI L x = some (.int kk p)) : qE X o L fs own (.int kk (kk.wrap (0 - p))) := by
 intro g a s
 simp only [execOp, ho, s.kn.eval hx]
 simp [Op.unary, Op.intArith]
theorem XC {sT dT : TypeId} {x : Operand} {ks kk : IntKind} {p : Int} (ho : o.op = .convert sT dT x) (hx : dI L x = some (.int ks p)) (us : X.P.underlying sT = some (.int ks)) (ud : X.P.underlying dT = some (.int kk)) : qE X o L fs own (.int kk (kk.wrap p)) := by
 intro g a s
 simp only [execOp, ho, s.kn.eval hx]
 simp [convert, run_underlying us, run_underlying ud, Conv.intToInt]
theorem ZM {x y : Operand} {ts : Array TypeId} {kk : IntKind} {p q : Int} (ho : o.op = .call ⟨.builtin .max, #[x, y], ts⟩) (hx : dI L x = some (.int kk p)) (hy : dI L y = some (.int kk q)) : qE X o L fs own (.int kk (max p q)) := by
 intro g a st
 simp only [execOp, ho, resolve]
 have e : (if p < q then q else p) = max p q := by rw [Int.max_def]; split <;> split <;> omega
 simp [st.kn.eval hx, st.kn.eval hy, invoke, builtin, Builtin.max_, Builtin.max2, e]
theorem ZN {x y : Operand} {ts : Array TypeId} {kk : IntKind} {p q : Int} (ho : o.op = .call ⟨.builtin .min, #[x, y], ts⟩) (hx : dI L x = some (.int kk p)) (hy : dI L y = some (.int kk q)) : qE X o L fs own (.int kk (min p q)) := by
 intro g a st
 simp only [execOp, ho, resolve]
 have e : (if q < p then q else p) = min p q := by rw [Int.min_def]; split <;> split <;> omega
 simp [st.kn.eval hx, st.kn.eval hy, invoke, builtin, Builtin.min_, Builtin.min2, e]
theorem qF {α : Type} [BEq α] [LawfulBEq α] [DecidableEq α] (a b : α) : (a == b) = decide (a = b) := by rw [Bool.eq_iff_iff]; simp
theorem OA {x : Operand} {T : TypeId} {s : Bytes} (ho : o.op = .call ⟨.builtin .len, #[x], #[T]⟩) (hx : dI L x = some (str s)) (u : X.P.underlying T = some .string) : qE X o L fs own (.int .i64 s.length) := by
 intro g a st
 simp only [execOp, ho, resolve]
 simp [st.kn.eval hx, invoke, builtin, Builtin.len_, run_underlying u, str, m8, goInt]
theorem OB {x : Operand} {T e : TypeId} {ad : Option Addr} {n c : Nat} (ho : o.op = .call ⟨.builtin .len, #[x], #[T]⟩) (hx : dI L x = some (.slice ad n c)) (u : X.P.underlying T = some (.slice e)) : qE X o L fs own (.int .i64 n) := by
 intro g a st
 simp only [execOp, ho, resolve]
 simp [st.kn.eval hx, invoke, builtin, Builtin.len_, run_underlying u, goInt]
theorem OC {T yT : TypeId} {x y : Operand} {p q : Bytes} (ho : o.op = .binOp .eql T x y yT) (hx : dI L x = some (str p)) (hy : dI L y = some (str q)) : qE X o L fs own (.bool (decide (p = q))) :=
 hZ ho hx hy (eqGuard_at_string ..) (fun w => by simp only [str, binOp_string_eql, ByteArray.toList_mk]; simp [qF])
theorem OD {T yT : TypeId} {x y : Operand} {p q : Bytes} (ho : o.op = .binOp .neq T x y yT) (hx : dI L x = some (str p)) (hy : dI L y = some (str q)) : qE X o L fs own (.bool (decide (¬ p = q))) :=
 hZ ho hx hy (eqGuard_at_string ..) (fun w => by simp only [str, binOp_string_neq, ByteArray.toList_mk]; simp [qF])
def blt (a b : Bytes) : Bool := Op.bytesLess a b
theorem OE {T yT : TypeId} {x y : Operand} {p q : Bytes} (ho : o.op = .binOp .lss T x y yT) (hx : dI L x = some (str p)) (hy : dI L y = some (str q)) : qE X o L fs own (.bool (blt p q)) :=
 hZ ho hx hy rfl (fun w => by simp [str, binOp, Op.stringOp, blt])
theorem OG {T yT : TypeId} {x y : Operand} {p q : Bytes} (ho : o.op = .binOp .geq T x y yT) (hx : dI L x = some (str p)) (hy : dI L y = some (str q)) : qE X o L fs own (.bool (!blt p q)) :=
 hZ ho hx hy rfl (fun w => by simp [str, binOp, Op.stringOp, blt])
theorem OH {T yT : TypeId} {x y : Operand} {p q : Bytes} (ho : o.op = .binOp .add T x y yT) (hx : dI L x = some (str p)) (hy : dI L y = some (str q)) (h : p.length + q.length ≤ 9223372036854775807) : qE X o L fs own (str (p ++ q)) := by
 refine hZ ho hx hy rfl (fun w => ?_)
 have e : (⟨p.toArray⟩ : ByteArray) ++ ⟨q.toArray⟩ = ⟨(p ++ q).toArray⟩ := by
  have h1 : ((⟨p.toArray⟩ : ByteArray) ++ ⟨q.toArray⟩).data.toList = p ++ q := by simp
  have h2 := Go.Lib.mk_data ((⟨p.toArray⟩ : ByteArray) ++ ⟨q.toArray⟩)
  rw [h1] at h2
  exact h2.symm
 have hs : ¬ ((((⟨p.toArray⟩ : ByteArray).size + (⟨q.toArray⟩ : ByteArray).size : Nat) : Int) > IntKind.i64.max) := by
  rw [m8, m8, IntKind.max_i64]; omega
 show (Op.stringOp .add ⟨p.toArray⟩ ⟨q.toArray⟩).run X.P w = _
 simp only [Op.stringOp]
 rw [if_neg hs, e]
 rfl
theorem OI {T : TypeId} {x ix : Operand} {s : Bytes} {kk : IntKind} {z : Int} {b : UInt8} (ho : o.op = .index T x ix) (hx : dI L x = some (str s)) (hi : dI L ix = some (.int kk z)) (u : X.P.underlying T = some .string)
 (h0 : 0 ≤ z) (hb : s[z.toNat]? = some b) : qE X o L fs own (.int .u8 b.toNat) := by
 intro g a st
 have hlt : z.toNat < s.length := by
  rcases Nat.lt_or_ge z.toNat s.length with h | h
  ·exact h
  ·rw [List.getElem?_eq_none h] at hb; cases hb
 have hget : (⟨s.toArray⟩ : ByteArray)[z.toNat]? = some b := by
  rw [getElem?_pos (⟨s.toArray⟩ : ByteArray) z.toNat (by rw [m8]; exact hlt)]
  rw [List.getElem?_eq_getElem hlt] at hb
  simp only [Option.some.injEq] at hb ⊢
  rw [← hb]
  rfl
 simp only [execOp, ho, st.kn.eval hx, st.kn.eval hi]
 simp [Instr.index, asIntOf, run_underlying u, str, h0, hget]
def bnd (L : LL) (o : Option Operand) (d z : Int) : Prop := match o with | none => z = d | some y => ∃ kk, dI L y = some (.int kk z)
theorem run_sliceBound {P : Program} {w : World} {kk : IntKind} {z : Int} {m : Nat} {code : BoundsCode} (h0 : 0 ≤ z) (h1 : z ≤ m) : (Instr.sliceBound (.int kk z) m code).run P w = .ok z.toNat w := by
 unfold Instr.sliceBound
 simp only [asIntOf, Sem.run_bind, Sem.run_pure, Result.andThen_ok]
 rw [if_pos ⟨h0, h1⟩]
 rfl
theorem t7 {P : Program} {w : World} {n df a} (hk : KN n df L a) (isSlice : Bool) (len cap : Nat) {lo hi : Option Operand} {zl zh : Int} (hlo : bnd L lo 0 zl) (hhi : bnd L hi len zh)
 (h0 : 0 ≤ zl) (h1 : zl ≤ zh) (h2 : zh ≤ cap) : (Instr.sliceBounds isSlice len cap (lo.map a.eval) (hi.map a.eval) none).run P w = .ok (zl.toNat, zh.toNat, cap) w := by
 have hl : ∀ (m : Nat) code, zl ≤ (m : Int) → (match lo.map a.eval with | some v => Instr.sliceBound v m code | none => pure 0 : Sem Nat).run P w = .ok zl.toNat w := by
  intro m code hm
  cases lo with
  | none => have : zl = 0 := hlo; subst this; rfl
  | some y =>
    obtain ⟨kk, hy⟩ := hlo
    simp only [Option.map_some, hk.eval hy]
    exact run_sliceBound h0 hm
 cases hi with
 | none =>
   have e : zh = (len : Int) := hhi
   subst e
   have := hl len .sliceB (by omega)
   cases lo with
   | none =>
     simp only [Option.map_none] at this ⊢
     simp only [Instr.sliceBounds, Sem.run_bind, Sem.run_pure, Result.andThen_ok, Int.toNat_natCast]
     simp only [Sem.run_pure, Result.ok.injEq, and_true] at this
     simp only [this]
   | some y =>
     simp only [Option.map_some, Option.map_none] at this ⊢
     simp only [Instr.sliceBounds, Sem.run_bind, Sem.run_pure, Result.andThen_ok, Int.toNat_natCast, Option.isSome_none, Bool.false_eq_true, if_false, this]
 | some y =>
   obtain ⟨kk, hy⟩ := hhi
   have hh := run_sliceBound (P := P) (w := w) (kk := kk) (z := zh) (m := cap) (code := if isSlice then .sliceAcap else .sliceAlen) (by omega) h2
   have := hl zh.toNat .sliceB (by omega)
   cases lo with
   | none =>
     simp only [Option.map_none, Option.map_some, hk.eval hy] at this ⊢
     simp only [Instr.sliceBounds, Sem.run_bind, Sem.run_pure, Result.andThen_ok, hh]
     simp only [Sem.run_pure, Result.ok.injEq, and_true] at this
     simp only [this]
   | some x =>
     simp only [Option.map_some, hk.eval hy] at this ⊢
     simp only [Instr.sliceBounds, Sem.run_bind, Sem.run_pure, Result.andThen_ok, hh, Option.isSome_none, Bool.false_eq_true, if_false, this]
theorem pO {T : TypeId} {x : Operand} {lo hi : Option Operand} {s : Bytes} {zl zh : Int} (ho : o.op = .slice T x lo hi none) (hx : dI L x = some (str s)) (u : X.P.underlying T = some .string)
 (hlo : bnd L lo 0 zl) (hhi : bnd L hi s.length zh) (h0 : 0 ≤ zl) (h1 : zl ≤ zh) (h2 : zh ≤ s.length) : qE X o L fs own (str ((s.drop zl.toNat).take (zh.toNat - zl.toNat))) := by
 intro g a st
 have e : (⟨s.toArray⟩ : ByteArray).extract zl.toNat zh.toNat = ⟨((s.drop zl.toNat).take (zh.toNat - zl.toNat)).toArray⟩ := by rw [Go.Lib.extract_eq]
 have hb := t7 (P := X.P) (w := g.w) st.kn false s.length s.length hlo hhi h0 h1 h2
 simp only [execOp, ho, st.kn.eval hx]
 rw [← m8] at hb
 simp [Instr.sliceAt, Instr.slice, run_underlying u, str, hb, e]
end
structure TI (P : Program) (T sz bytes : Nat) (z : Value) : Prop where
 ex : ∃ i, P.info? T = some i ∧ i.size = sz ∧ i.bytes = bytes ∧ i.zero = some z
def D2 : TypeDesc → Bool
 | .struct _ => true
 | .array _ _ => true
 | _ => false
theorem jV {P : Program} {w : World} {T d} (u : P.underlying T = some d) : (isAgg T).run P w = .ok (D2 d) w := by
 unfold isAgg
 simp only [Sem.run_bind, run_underlying u, Result.andThen_ok]
 cases d <;> rfl
theorem run_sizeOf {P : Program} {w : World} {T sz b z} (i : TI P T sz b z) : (sizeOf T).run P w = .ok sz w := by
 obtain ⟨i, h1, h2, _⟩ := i
 simp [sizeOf, typeInfo, h1, h2]
theorem lA {P : Program} {w : World} {T sz b z} (i : TI P T sz b z) : (zeroValue T).run P w = .ok z w := by
 obtain ⟨i, h1, h2, h3, h4⟩ := i
 simp [zeroValue, typeInfo, h1, h4]
theorem addr_add (b o n : Nat) : (⟨b, o, none⟩ : Addr).add n = ⟨b, o + n, none⟩ := Addr.add_lit b o n
section
variable {X : Cx} {k : List It} {L : LL} {fs : List MF} {own : List aH} {arr : Array Oper} {l : List Oper} {o : Oper}
structure LY (P : Program) (T : Nat) (pl : List (Nat × Nat × Bool)) : Prop where
 ex : ∃ fields, P.underlying T = some (.struct fields) ∧ fields.size = pl.length ∧ ∀ (f off sz : Nat) (ag : Bool), pl[f]? = some (off, sz, ag) → sz ≠ 0 ∧ ∃ (fd : Field) (d : TypeDesc), fields[f]? = some fd ∧ fd.offset = off ∧ P.underlying fd.type = some d ∧ D2 d = ag ∧ ∃ i, P.info? fd.type = some i ∧ i.size = sz
theorem XD {T f b oo off sz : Nat} {ag : Bool} {x : Operand} {pl : List (Nat × Nat × Bool)} (ly : LY X.P T pl) (hf : pl[f]? = some (off, sz, ag)) (ho : o.op = .fieldAddr T x f) (hx : dI L x = some (.pointer (some ⟨b, oo, none⟩))) :
 qE X o L fs own (.pointer (some ⟨b, oo + off, none⟩)) := by
 obtain ⟨fields, u, _, h⟩ := ly
 obtain ⟨hsz, fd, d, h1, h2, h3, h4, i, h5, h6⟩ := h f off sz ag hf
 intro g a s
 simp only [execOp, ho, s.kn.eval hx]
 simp [Instr.fieldAt, run_underlying u, h1, Instr.sureAddr, fieldPlace, sizeOf, typeInfo, h5, h6, hsz, addr_add, h2]
theorem ZO {T f off sz : Nat} {x : Operand} {pl : List (Nat × Nat × Bool)} {cs : Array Value} {v : Value} (ly : LY X.P T pl) (hf : pl[f]? = some (off, sz, false)) (ho : o.op = .field T x f) (hx : dI L x = some (.agg cs)) (hv : cs[off]? = some v) :
 qE X o L fs own v := by
 obtain ⟨fields, u, _, h⟩ := ly
 obtain ⟨hsz, fd, d, h1, h2, h3, h4, i, h5, h6⟩ := h f off sz false hf
 intro g a s
 have hag := jV (w := g.w) h3
 rw [h4] at hag
 simp only [execOp, ho, s.kn.eval hx]
 simp [Instr.field, run_underlying u, h1, part, hag, asAgg, h2, hv]
theorem XE {T f off sz : Nat} {x : Operand} {pl : List (Nat × Nat × Bool)} {cs : Array Value} (ly : LY X.P T pl) (hf : pl[f]? = some (off, sz, true)) (ho : o.op = .field T x f) (hx : dI L x = some (.agg cs)) :
 qE X o L fs own (.agg (cs.extract off (off + sz))) := by
 obtain ⟨fields, u, _, h⟩ := ly
 obtain ⟨hsz, fd, d, h1, h2, h3, h4, i, h5, h6⟩ := h f off sz true hf
 intro g a s
 have hag := jV (w := g.w) h3
 rw [h4] at hag
 simp only [execOp, ho, s.kn.eval hx]
 simp [Instr.field, run_underlying u, h1, part, hag, asAgg, h2, sizeOf, typeInfo, h5, h6]
theorem yU {P : Program} {w : World} {T d} {ad : Addr} {v : Value} (u : P.underlying T = some d) (hd : D2 d = false) (hc : w.cell? ad = some v) : (Instr.loadAt T (.pointer (some ad))).run P w = .ok v w := by
 have := jV (w := w) u
 simp [Instr.loadAt, Instr.sureAddr, loadVar, this, hd, hc]
theorem yV {P : Program} {w : World} {T d sz by_ z} {b oo : Nat} {cs : List Value} (u : P.underlying T = some d) (hd : D2 d = true) (i : TI P T sz by_ z) (hl : cs.length = sz)
 (hc : ∀ (j : Nat) v, cs[j]? = some v → w.cell? ⟨b, oo + j, none⟩ = some v) : (Instr.loadAt T (.pointer (some ⟨b, oo, none⟩))).run P w = .ok (.agg cs.toArray) w := by
 have := jV (w := w) u
 have hl' := run_loadCells_list (P := P) (w := w) ⟨b, oo, none⟩ cs (fun j v h => by rw [addr_add]; exact hc j v h)
 rw [hl] at hl'
 simp [Instr.loadAt, Instr.sureAddr, loadVar, this, hd, run_sizeOf i, hl']
theorem XF {fs' own'} (hl : live arr L o = some true) (hd : o.dst = none)
 (he : ∀ g a, St X L fs own g a → ∃ g', (execOp a.eval o).run X.P g.w = .ok .skip g'.w ∧ St X L fs' own' g' a) (h : S X arr l k L fs' own') : S X arr (o :: l) k L fs own := by
 intro g a s
 obtain ⟨g', hr, s'⟩ := he g a s
 simp only [wl, aX s.kn hl, if_true, wn, hr, hd]
 exact h g' _ s'
theorem size_alloc (w : World) (ob : Obj) : (w.alloc ob).heap.size = w.heap.size + 1 := by show (w.heap.push ob).size = _; simp
theorem St.alloc {g a} (s : St X L fs own g a) (ob : Obj) : St X L fs (aH.blk g.w.heap.size ob :: own) ⟨g.w.alloc ob, g.fz, fun b hb => by have := g.lt b hb; rw [size_alloc]; omega⟩ a := by
 have hold : ∀ b, b < g.w.heap.size → (g.w.alloc ob).heap[b]? = g.w.heap[b]? := fun b hb => heap_alloc_old g.w ob hb
 have hF : FExt g ⟨g.w.alloc ob, g.fz, fun b hb => by have := g.lt b hb; rw [size_alloc]; omega⟩ := ⟨rfl, rfl, rfl, by rw [size_alloc]; omega, fun _ h => h, fun b hb => hold b (g.lt b hb)⟩
 refine ⟨s.kn, s.all.mono hF, ⟨fun r hr => ?_, ?_, fun b hb => ?_, fun b hb => ?_⟩, ⟨s.ext.toFExt.trans hF, fun b hb hn => ?_, s.ext.nofz⟩, fun b hb => ?_⟩
 ·cases hr with
  | head => exact heap_alloc_new g.w ob
  | tail _ hm => exact r.loc (fun b hb => hold b (s.own.lt b (List.mem_flatMap.2 ⟨r, hm, hb⟩))) (s.own.p r hm)
 ·show (g.w.heap.size :: bV own).Nodup
  exact List.nodup_cons.2 ⟨fun hx => Nat.lt_irrefl _ (s.own.lt _ hx), s.own.nodup⟩
 ·rcases List.mem_cons.1 (show b ∈ g.w.heap.size :: bV own from hb) with h | h
  ·subst h; show _ < (g.w.alloc ob).heap.size; rw [size_alloc]; omega
  ·exact Nat.lt_of_lt_of_le (s.own.lt b h) hF.size
 ·rcases List.mem_cons.1 (show b ∈ g.w.heap.size :: bV own from hb) with h | h
  ·subst h; exact fun hf => Nat.lt_irrefl _ (g.lt _ hf)
  ·exact s.own.nfz b h
 ·show (g.w.alloc ob).heap[b]? = _
  rw [hold b (Nat.lt_of_lt_of_le hb s.ext.size)]
  exact s.ext.keep b hb hn
 ·rcases List.mem_cons.1 (show b ∈ g.w.heap.size :: bV own from hb) with h | h
  ·subst h; exact .inr s.ext.size
  ·exact s.new b h
theorem St.turn {g a} {r r' : aH} {own'} (s : St X L fs own g a) (hp : m7 own r own') {w' : World} (hg : ∀ b, b < g.w.heap.size → b ∉ r.bs → w'.heap[b]? = g.w.heap[b]?)
 (hos : w'.os = g.w.os) (ht : w'.tape = g.w.tape) (hout : w'.output = g.w.output) (hsz : g.w.heap.size ≤ w'.heap.size) (hr' : r'.p w') (hnd : r'.bs.Nodup) (hlt : ∀ b ∈ r'.bs, b < w'.heap.size)
 (hn : ∀ b ∈ r'.bs, b ∈ r.bs ∨ g.w.heap.size ≤ b) : ∃ g', g'.w = w' ∧ St X L fs (r' :: own') g' a := by
 have ho := s.own.perm hp.perm
 have hnf : ∀ b ∈ r.bs, ¬ g.fz b := fun b hb => ho.nfz b (by simp [hb])
 let g' : GW := ⟨w', g.fz, fun b hb => Nat.lt_of_lt_of_le (g.lt b hb) hsz⟩
 have hE : oK (bV [r]) g g' := by
  refine ⟨⟨hos, ht, hout, hsz, fun _ h => h, fun b hb => hg b (g.lt b hb) (fun hx => hnf b hx hb)⟩, fun b hb hx => hg b hb (by simpa using hx), fun _ _ _ h => h⟩
 have hO : Own [r'] g' := by
  refine ⟨fun x hx => ?_, by simpa using hnd, fun b hb => hlt b (by simpa using hb), fun b hb hf => ?_⟩
  ·rcases List.mem_singleton.1 hx with rfl; exact hr'
  ·rcases hn b (by simpa using hb) with h | h
   ·exact hnf b h hf
   ·exact Nat.lt_irrefl _ (Nat.lt_of_lt_of_le (g.lt b hf) h)
 have := s.frame (fsc := []) (fs' := []) (lI.cons hp .nil) hE (fun x hx => by cases hx) hO (fun b hb => (hn b (by simpa using hb)).imp (fun h => by simpa using h) id) .nil
 exact ⟨g', rfl, by simpa using this⟩
end
section
variable {X : Cx} {k : List It} {L : LL} {fs : List MF} {own : List aH} {arr : Array Oper} {l : List Oper} {o : Oper}
theorem qG : ∀ {xs : List Operand} {vs : List Value}, oL L xs = some vs → vs.length = xs.length
 | [], vs, h => by simp [oL] at h; subst h; rfl
 | x :: xs, vs, h => by
   simp only [oL] at h
   split at h
   ·split at h
    ·rename_i us hu; cases h; simp [qG hu]
    ·cases h
   ·cases h
theorem foldl_set (cells : List Value) : ∀ (vs pre : List Value) (rest : List Value) (j0 : Nat), cells = pre ++ rest → pre.length = j0 → vs.length ≤ rest.length →
 (vs.zipIdx.foldl (fun (cs : Array Value) (p : Value × Nat) => cs.setIfInBounds (j0 + p.2) p.1) cells.toArray) = (pre ++ vs ++ rest.drop vs.length).toArray := by
 suffices H : ∀ (vs : List Value) (k : Nat) (pre rest : List Value) (j0 : Nat), pre.length = j0 + k → vs.length ≤ rest.length →
  ((vs.zipIdx k).foldl (fun (cs : Array Value) (p : Value × Nat) => cs.setIfInBounds (j0 + p.2) p.1) (pre ++ rest).toArray) = (pre ++ vs ++ rest.drop vs.length).toArray by
  intro vs pre rest j0 h1 h2 h3
  subst h1
  exact H vs 0 pre rest j0 (by simpa using h2) h3
 intro vs
 induction vs with
 | nil => intro k pre rest j0 _ _; simp
 | cons v vs ih =>
   intro k pre rest j0 hl hr
   match rest, hr with
   | [], hr => simp at hr
   | r :: rest, hr =>
     simp only [List.zipIdx_cons, List.foldl_cons]
     have e : (pre ++ r :: rest).toArray.setIfInBounds (j0 + k) v = ((pre ++ [v]) ++ rest).toArray := by
      apply Array.ext'
      rw [← hl]
      simp [List.set_append_right]
     rw [e, ih (k + 1) (pre ++ [v]) rest j0 (by simp; omega) (by simpa using hr)]
     simp
theorem OJ (sz : Nat) : ∀ (vs : List Value) (k : Nat) (pre rest : List Value), (∀ v ∈ vs, v.cells.size = sz) → pre.length = k * sz → rest.length = vs.length * sz →
 Instr.fill (fun i => some (i * sz, sz)) (pre ++ rest).toArray (vs.zipIdx k |>.map fun p => (p.2, p.1)) = some (pre ++ vs.flatMap (·.cells.toList)).toArray := by
 intro vs
 induction vs with
 | nil => intro k pre rest _ _ hr; simp at hr; subst hr; simp [Instr.fill]
 | cons v vs ih =>
   intro k pre rest hv hp hr
   simp only [List.zipIdx_cons, List.map_cons, Instr.fill]
   have hsz := hv v (.head _)
   have hrl : rest.length = sz + vs.length * sz := by rw [hr, List.length_cons, Nat.add_mul]; omega
   rw [if_neg (by simp [hsz]; omega)]
   have hf : (v.cells.zipIdx.foldl (fun (cs : Array Value) (p : Value × Nat) => cs.setIfInBounds (k * sz + p.2) p.1) (pre ++ rest).toArray) = (pre ++ v.cells.toList ++ rest.drop sz).toArray := by
    have := foldl_set (pre ++ rest) v.cells.toList pre rest (k * sz) rfl hp (by simp [hsz]; omega)
    rw [← Array.foldl_toList]
    have e : v.cells.zipIdx.toList = v.cells.toList.zipIdx := by simp
    rw [e, this]
    simp [hsz]
   have hfun : (fun (cs : Array Value) (x : Value × Nat) => match x with | (c, j) => cs.setIfInBounds (k * sz + j) c) = (fun (cs : Array Value) (p : Value × Nat) => cs.setIfInBounds (k * sz + p.2) p.1) := rfl
   rw [hfun, hf, ih (k + 1) (pre ++ v.cells.toList) (rest.drop sz) (fun u hu => hv u (.tail _ hu)) (by simp [hp, hsz, Nat.add_mul]) (by simp [hrl])]
   simp
theorem WU {α : Type} (E : El α) (ys : List α) {d T e n sz by_ : Nat} {z0 : Value} {parts : List (Nat × Operand)} {vs : List Value} (ho : o.op = .buildSlice T n parts.toArray) (hl : live arr L o = some true) (hd : o.dst = some d) (hn : Nat.blt d X.n = true)
 (u : X.P.underlying T = some (.slice e)) (i : TI X.P e sz by_ z0) (he : E.sz = sz) (hz : z0.cells.size = sz) (hpi : parts.map (·.1) = List.range n) (hv : oL L (parts.map (·.2)) = some vs) (hvs : vs.map (fun v => v.cells.toList) = ys.map E.enc) (hbig : n * sz ≤ 16777216)
 (h : ∀ ad c, S X arr l k ((d, .slice ad ys.length c) :: L) fs (aH.arr E e ad c ys :: own)) : S X arr (o :: l) k L fs own := by
 intro g a s
 subst he
 have hvl : vs.length = n := by
  have h1 := qG hv
  have h2 : (parts.map (·.1)).length = n := by rw [hpi]; simp
  simp at h1 h2; omega
 have hyl : ys.length = n := by rw [← hvl]; have := congrArg List.length hvs; simpa using this.symm
 have hcs : ∀ v ∈ vs, v.cells.size = E.sz := by
  intro v hm
  have : v.cells.toList ∈ vs.map (fun v => v.cells.toList) := List.mem_map.2 ⟨v, hm, rfl⟩
  rw [hvs] at this
  obtain ⟨y, _, hy⟩ := List.mem_map.1 this
  have := E.len y
  rw [hy] at this
  simpa using this
 have hflat : vs.flatMap (·.cells.toList) = flat E ys := by
  rw [flat, List.flatMap_def, List.flatMap_def, hvs]
 have hparts : (parts.toArray.map fun (p : Nat × Operand) => (p.1, a.eval p.2)).toList = (vs.zipIdx 0 |>.map fun p => (p.2, p.1)) := by
  have hvals : parts.map (fun p => a.eval p.2) = vs := by
   have := s.kn.evals hv
   rw [List.map_map] at this
   exact this
  apply List.ext_getElem?
  intro j
  simp only [Array.toList_map, List.getElem?_map, List.getElem?_zipIdx, Nat.zero_add]
  rw [← hvals]
  simp only [List.getElem?_map]
  cases hp : parts[j]? with
  | none => simp
  | some p =>
    have hj : (parts.map (·.1))[j]? = some p.1 := by simp [hp]
    rw [hpi] at hj
    have hlt : j < n := by
     rcases Nat.lt_or_ge j n with h | h
     ·exact h
     ·rw [List.getElem?_eq_none (by simpa using h)] at hj; cases hj
    rw [List.getElem?_range hlt] at hj
    simp only [Option.some.injEq] at hj
    simp [← hj]
 have hfill : ∀ (cells : Array Value), cells.size = n * E.sz → Instr.fill (fun i => some (i * E.sz, E.sz)) cells (parts.toArray.map fun (p : Nat × Operand) => (p.1, a.eval p.2)).toList = some (flat E ys).toArray := by
  intro cells hc
  rw [hparts]
  have := OJ E.sz vs 0 [] cells.toList hcs (by simp) (by simp [hc, hvl])
  simp only [List.nil_append] at this
  rw [← hflat]
  simpa using this
 have hr : (execOp a.eval o).run X.P g.w = .ok (.value (.slice (some ⟨g.w.heap.size, 0, none⟩) n n)) (g.w.alloc (.cells (flat E ys).toArray e)) := by
  simp only [execOp, ho]
  unfold Instr.buildSlice
  simp only [Sem.run_bind, run_underlying u, Result.andThen_ok, run_sizeOf i]
  rw [if_neg (by omega)]
  by_cases hn0 : n * E.sz = 0
  ·simp only [hn0, if_true, Sem.run_bind, Sem.run_pure, Result.andThen_ok]
   rw [hfill _ (by simp [hn0])]
   simp [newRow]
  ·simp only [if_neg hn0, Sem.run_bind, lA i, Sem.run_pure, Result.andThen_ok]
   rw [hfill _ (by simp)]
   simp [newRow]
 have s' := s.alloc (.cells (flat E ys).toArray e)
 simp only [wl, aX s.kn hl, if_true, wn, hr, hd]
 have hk := h (some ⟨g.w.heap.size, 0, none⟩) n
 rw [hyl] at hk
 have s2 : St X L fs (aH.arr E e (some ⟨g.w.heap.size, 0, none⟩) n ys :: own) ⟨g.w.alloc (.cells (flat E ys).toArray e), g.fz, fun b hb => by have := g.lt b hb; rw [size_alloc]; omega⟩ a := by
  refine ⟨s'.kn, s'.all, ⟨fun r hr' => ?_, s'.own.nodup, s'.own.lt, s'.own.nfz⟩, s'.ext, s'.new⟩
  cases hr' with
  | head =>
    have := World.ownsRow_lit (base := 0) (e := e) (size := E.sz) g.w (flat E ys).toArray n (Nat.zero_le _) (by
     have := E.pos
     have : n ≤ n * E.sz := Nat.le_mul_of_pos_right n this
     simp only [maxLen]; omega) (by simp [eN, hyl])
    show World.ownsRow _ _ _ _ _ _ _
    rw [hyl]
    simpa using this
  | tail _ hm => exact s'.own.p r (.tail _ hm)
 exact hk _ _ (s2.put hn _)
theorem St.grown {g a} {α : Type} {E : El α} {Te : Nat} {ad : Option Addr} {c : Nat} {ys zs : List α} {own'} (s : St X L fs own g a) (hp : m7 own (aH.arr E Te ad c ys) own') {v' : Value} {w' : World}
 (h1 : w'.ownsRow 0 Te E.sz v' zs.length (flat E zs)) (h2 : g.w.grownBy w' (Value.slice ad ys.length c).ownBlock) (hv : v' = .slice none 0 0 ∨ (∀ b, v'.ownBlock = some b → b ∈ yD ad ∨ g.w.heap.size ≤ b)) :
 ∃ ad' c' g', v' = .slice ad' zs.length c' ∧ g'.w = w' ∧ St X L fs (aH.arr E Te ad' c' zs :: own') g' a := by
 have hvb : ∀ b, (Value.slice ad ys.length c).ownBlock ≠ some b ↔ b ∉ yD ad := by
  intro b; cases ad <;> simp [Value.ownBlock, yD]; exact ⟨fun h e => h e.symm, fun h e => h e.symm⟩
 have key : ∀ ad' c', v' = .slice ad' zs.length c' → (∀ b ∈ yD ad', b ∈ yD ad ∨ g.w.heap.size ≤ b) → (∀ b ∈ yD ad', b < w'.heap.size) → ∃ g' : GW, g'.w = w' ∧ St X L fs (aH.arr E Te ad' c' zs :: own') g' a := by
  intro ad' c' hv' hn hlt
  subst hv'
  refine s.turn hp (r' := aH.arr E Te ad' c' zs) (fun b hb hx => h2.block b hb (fun e => ?_)) h2.os h2.tape h2.output h2.size h1 ?_ hlt hn
  ·exact (hvb b).2 hx e.symm
  ·show (yD ad').Nodup
   cases ad' <;> simp [yD]
 have hlt := h1.lt
 rcases h1.2 with ⟨rfl, h0⟩ | ⟨gg, cap, cur, rfl, _⟩
 ·obtain ⟨g', h3, h4⟩ := key none 0 (by rw [h0]) (fun b hb => by cases hb) (fun b hb => by cases hb)
  exact ⟨none, 0, g', by rw [h0], h3, h4⟩
 ·have hb : ∀ b ∈ yD (some (⟨gg, 0, none⟩ : Addr)), b = gg := fun b hb => by simpa [yD] using hb
  obtain ⟨g', h3, h4⟩ := key (some ⟨gg, 0, none⟩) cap rfl (fun b hb' => by
   rw [hb b hb']
   rcases hv with h | h
   ·cases h
   ·exact h gg rfl) (fun b hb' => by rw [hb b hb']; exact (hlt gg rfl).2)
  exact ⟨_, _, g', rfl, h3, h4⟩
end
open Go.Lib (strCells strCells_length run_append_own_string run_append_room_string run_append_grow_string)
section
variable {X : Cx} {k : List It} {L : LL} {fs : List MF} {own : List aH} {arr : Array Oper} {l : List Oper} {o : Oper}
theorem K9 {w : World} {B e sz : Nat} {v : Value} {n : Nat} {xs : List Value} (h : w.ownsRow B e sz v n xs) : w.ownsRow 0 e sz v n xs := by
 refine ⟨h.1, ?_⟩
 rcases h.2 with h2 | ⟨g, cap, cur, h1, _, h3⟩
 ·exact .inl h2
 ·exact .inr ⟨g, cap, cur, h1, Nat.zero_le _, h3⟩
def vA (w w' : World) (Te sz : Nat) (v v' : Value) (n : Nat) (xs : List Value) : Prop :=
 w'.ownsRow 0 Te sz v' n xs ∧ w.grownBy w' v.ownBlock ∧ ∀ b, v'.ownBlock = some b → v.ownBlock = some b ∨ w.heap.size ≤ b
theorem GU {w : World} {Te sz : Nat} {b n c : Nat} {cur : Array Value} {xs news : List Value} {m : Nat} (hg : w.heap[b]? = some (.cells cur Te (0, 0))) (hc : c ≤ maxLen) (hcs : cur.size = c * sz) (htk : cur.toList.take (n * sz) = xs) (hl : xs.length = n * sz) (hn : news.length = m * sz) (hr : n + m ≤ c) :
 vA w (w.setRow b (cur.toList.take (n * sz) ++ news ++ cur.toList.drop (n * sz + news.length)).toArray) Te sz (.slice (some ⟨b, 0, none⟩) n c) (.slice (some ⟨b, 0, none⟩) (n + m) c) (n + m) (xs ++ news) := by
 have hle : (n + m) * sz ≤ c * sz := Nat.mul_le_mul_right _ hr
 have hsum : (n + m) * sz = n * sz + m * sz := Nat.add_mul ..
 refine ⟨⟨by simp [hl, hn]; omega, .inr ⟨b, c, _, rfl, Nat.zero_le _, setRow_heap w b cur _ Te _ hg, hr, hc, ?_, ?_⟩⟩, ⟨rfl, rfl, rfl, by simp, fun k _ hk => setRow_other w b k _ (fun e => hk (by simp [Value.ownBlock, e]))⟩, fun x hx => .inl hx⟩
 ·simp only [List.size_toArray, List.length_append, List.length_take, List.length_drop, Array.length_toList, hcs, hn]
  omega
 ·rw [htk]
  have : (n + m) * sz = (xs ++ news).length := by simp [hl, hn]; omega
  rw [this]
  exact List.take_left
theorem LA {w : World} {Te sz need cap : Nat} {v : Value} {xs rest : List Value} (hl : xs.length = need * sz) (hc : need ≤ cap) (hm : cap ≤ maxLen) (hr : xs.length + rest.length = cap * sz) :
 vA w (w.drew.alloc (.cells (xs ++ rest).toArray Te)) Te sz v (.slice (some ⟨w.heap.size, 0, none⟩) need cap) need xs := by
 refine ⟨⟨hl, .inr ⟨w.heap.size, cap, _, rfl, Nat.zero_le _, heap_alloc_new w.drew _, hc, hm, by simpa using hr, ?_⟩⟩, ⟨rfl, rfl, rfl, by rw [size_alloc]; exact Nat.le_succ _, fun k hk _ => heap_alloc_old w.drew _ hk⟩, fun b hb => ?_⟩
 ·rw [← hl]; simp
 ·right; simp [Value.ownBlock] at hb; omega
theorem IW {P : Program} {w : World} {T Te sz by_ ty : Nat} {z : Value} (u : P.underlying T = some (.slice Te)) (i : TI P Te sz by_ z) (hz : z.cells.size = sz) (hpos : 0 < sz) {v : Value} {n : Nat} {xs : List Value} (hown : w.ownsRow 0 Te sz v n xs)
 {a : Addr} {m c : Nat} {news : List Value} (hl : news.length = m * sz) (hnews : ∀ (j : Nat) u, news[j]? = some u → w.cell? (a.add j) = some u) (h1 : ∀ u ∈ news, u.oneCell' = true) (h63 : n + m ≤ maxLen) (hb : (n + m) * by_ ≤ 140737488355328) :
 ∃ v' w', (Builtin.append_ #[T, T] ty #[v, .slice (some a) m c]).run P w = .ok v' w' ∧ vA w w' Te sz v v' (n + m) (xs ++ news) := by
 obtain ⟨i0, hi, rfl, rfl, hz0⟩ := i
 have hsmall : n + m ≤ 9223372036854775807 := by simp only [maxLen] at h63; omega
 rcases hown.2 with ⟨rfl, rfl⟩ | ⟨g, cap, cur, rfl, _, hg, hnc, hcm, hcs, htk⟩
 ·obtain ⟨v', w', r1, r2, r3, _⟩ := run_append_own (P := P) w w.heap.size T ty Te i0 z i0.size i0.bytes u hi hz0 rfl rfl hz hpos (.slice none 0 0) 0 xs ⟨hown.1, .inl ⟨rfl, rfl⟩⟩ a m c news hl hnews h1 h63 hb (Nat.le_refl _)
  exact ⟨v', w', r1, K9 r2, r3, fun b hb => .inr (r2.lt b hb).1⟩
 ·by_cases hroom : n + m ≤ cap
  ·have hfit : n * i0.size + news.length ≤ cur.size := by rw [hl, hcs, ← Nat.add_mul]; exact Nat.mul_le_mul_right _ hroom
   exact ⟨_, _, run_append_room (P := P) w T ty Te i0 u hi g n cap cur hg a m c news hl hnews h1 hroom hfit, GU hg hcm hcs htk hown.1 hl hroom⟩
  ·have holds : ∀ (j : Nat) u, xs[j]? = some u → w.cell? ((⟨g, 0, none⟩ : Addr).add j) = some u := hown.cells (g := g) rfl
   have hr := run_append_grow (P := P) w T ty Te i0 z u hi hz0 ⟨g, 0, none⟩ n cap xs hown.1 holds a m c news hl hnews (by omega) (by omega) (growslice_fits (by omega) hb)
   have hge := grownCap_ge w (n + m) cap Te
   refine ⟨_, _, hr, ?_⟩
   have e : xs.toArray ++ news.toArray ++ Builtin.zeroCells z.cells (grownCap w (n + m) cap Te - (n + m)) = ((xs ++ news) ++ (Builtin.zeroCells z.cells (grownCap w (n + m) cap Te - (n + m))).toList).toArray := by
    apply Array.ext'; simp
   rw [e]
   have hl2 : (xs ++ news).length = (n + m) * i0.size := by rw [List.length_append, hown.1, hl, Nat.add_mul]
   refine LA hl2 hge (grownCap_le_maxLen w (n + m) cap Te h63) ?_
   rw [hl2, Array.length_toList, size_zeroCells, hz, ← Nat.add_mul]
   congr 1; omega
theorem St.appd {g a} {α : Type} {E : El α} {Te : Nat} {ad : Option Addr} {c : Nat} {ys zs : List α} {own'} (s : St X L fs own g a) (hp : m7 own (aH.arr E Te ad c ys) own') {v' : Value} {w' : World}
 (h : vA g.w w' Te E.sz (.slice ad ys.length c) v' zs.length (flat E zs)) : ∃ ad' c' g', v' = .slice ad' zs.length c' ∧ g'.w = w' ∧ St X L fs (aH.arr E Te ad' c' zs :: own') g' a :=
 s.grown hp h.1 h.2.1 (.inr fun b hb => (h.2.2 b hb).imp (fun e => by cases ad <;> simp [Value.ownBlock, yD] at e ⊢; exact e.symm) id)
structure BT (P : Program) (T : Nat) (pl : List (Nat × Nat)) (zs : List Value) : Prop where
 ex : ∃ fields z, P.underlying T = some (.struct fields) ∧ (∃ i, P.info? T = some i ∧ i.zero = some z) ∧ z.cells = zs.toArray ∧ ∀ w, (fields.mapM fun f => do pure (f.offset, ← sizeOf f.type) : Sem (Array (Nat × Nat))).run P w = .ok pl.toArray w
end
end Go.KX
namespace Go.KX
theorem aU {P : Program} {T sz by_ : Nat} {z : Value} (h : (P.info? T).map (fun i => (i.size, i.bytes, i.zero)) = some (sz, by_, some z)) : TI P T sz by_ z := by
 cases hi : P.info? T with
 | none => rw [hi] at h; cases h
 | some i =>
   rw [hi] at h
   simp only [Option.map_some, Option.some.injEq, Prod.mk.injEq] at h
   exact ⟨i, hi, h.1, h.2.1, h.2.2⟩
def lyF (P : Program) (f : Field) : Option (Nat × Nat × Bool) :=
 match P.underlying f.type, P.info? f.type with
 | some d, some i => match i.size with | 0 => none | n + 1 => some (f.offset, n + 1, D2 d)
 | _, _ => none
def TE (P : Program) : List Field → Option (List (Nat × Nat × Bool))
 | [] => some []
 | f :: r => match lyF P f, TE P r with | some x, some xs => some (x :: xs) | _, _ => none
theorem IX {P : Program} : ∀ {fs : List Field} {pl}, TE P fs = some pl → fs.length = pl.length ∧ ∀ (j : Nat) x, pl[j]? = some x → ∃ f, fs[j]? = some f ∧ lyF P f = some x
 | [], pl, h => by simp [TE] at h; subst h; simp
 | f :: r, pl, h => by
   simp only [TE] at h
   split at h
   ·rename_i x xs hx hxs
    cases h
    obtain ⟨h1, h2⟩ := IX hxs
    refine ⟨by simp [h1], fun j y hy => ?_⟩
    cases j with
    | zero => simp at hy; subst hy; exact ⟨f, by simp, hx⟩
    | succ j => simp at hy; obtain ⟨f', h3, h4⟩ := h2 j y hy; exact ⟨f', by simpa using h3, h4⟩
   ·cases h
theorem ZP {P : Program} {T : Nat} {fields : List Field} {pl} (u : P.underlying T = some (.struct fields.toArray)) (h : TE P fields = some pl) : LY P T pl := by
 obtain ⟨h1, h2⟩ := IX h
 refine ⟨fields.toArray, u, by simpa using h1, fun f off sz ag hf => ?_⟩
 obtain ⟨fd, h3, h4⟩ := h2 f _ hf
 unfold lyF at h4
 split at h4
 ·rename_i d i hd hi
  split at h4
  ·cases h4
  ·rename_i n hn
   cases h4
   exact ⟨by omega, fd, d, by simpa using h3, rfl, hd, rfl, i, hi, hn⟩
 ·cases h4
theorem ZQ {P : Program} {T sz by_ : Nat} {fields : List Field} {pl : List (Nat × Nat × Bool)} {zs : List Value} (u : P.underlying T = some (.struct fields.toArray)) (h : TE P fields = some pl) (i : TI P T sz by_ (.agg zs.toArray)) : BT P T (pl.map fun p => (p.1, p.2.1)) zs := by
 obtain ⟨i0, h1, h2, h3, h4⟩ := i
 refine ⟨fields.toArray, .agg zs.toArray, u, ⟨i0, h1, h4⟩, rfl, fun w => ?_⟩
 have key : ∀ (fs : List Field) (pl : List (Nat × Nat × Bool)), TE P fs = some pl → (fs.mapM fun f => do pure (f.offset, ← sizeOf f.type) : Sem (List (Nat × Nat))).run P w = .ok (pl.map fun p => (p.1, p.2.1)) w := by
  intro fs
  induction fs with
  | nil => intro pl h; simp [TE] at h; subst h; rfl
  | cons f r ih =>
    intro pl h
    simp only [TE] at h
    split at h
    ·rename_i x xs hx hxs
     cases h
     unfold lyF at hx
     split at hx
     ·rename_i d i hd hi
      split at hx
      ·cases hx
      ·rename_i n hn
       cases hx
       have hs : (sizeOf f.type).run P w = .ok (n + 1) w := by simp [sizeOf, typeInfo, hi, hn]
       simp only [List.mapM_cons, Sem.run_bind, hs, Result.andThen_ok, Sem.run_pure, ih xs hxs, List.map_cons]
     ·cases hx
    ·cases h
 rw [List.mapM_toArray, Sem.run_map, key fields pl h]
 rfl
section
variable {X : Cx} {k : List It} {L : LL} {fs : List MF} {own : List aH} {arr : Array Oper} {l : List Oper} {o : Oper}
theorem OK {T yT : TypeId} {x y : Operand} {p q : Bytes} (ho : o.op = .binOp .gtr T x y yT) (hx : dI L x = some (str p)) (hy : dI L y = some (str q)) : qE X o L fs own (.bool (!(blt p q || decide (p = q)))) :=
 hZ ho hx hy rfl (fun w => by simp [str, binOp, Op.stringOp, blt, qF])
theorem OL {T yT : TypeId} {x y : Operand} {p q : Bytes} (ho : o.op = .binOp .leq T x y yT) (hx : dI L x = some (str p)) (hy : dI L y = some (str q)) : qE X o L fs own (.bool (blt p q || decide (p = q))) :=
 hZ ho hx hy rfl (fun w => by simp [str, binOp, Op.stringOp, blt, qF])
theorem St.freeze {g a} {b : Nat} {cs : Array Value} {T : Nat} {fr} {own'} (hr : m7 own (aH.blk b (.cells cs T fr)) own') (s : St X L fs own g a) :
 ∃ g', g'.w = g.w ∧ St X L (PtM b 0 cs.toList :: fs) own' g' a := by
 have hp := hr.perm
 have ho := s.own.perm hp
 have hown : g.w.heap[b]? = some (.cells cs T fr) := ho.p _ (.head _)
 have hnew := s.new b ((cX hp).symm.subset (by simp [aH.blk]))
 let g' : GW := ⟨g.w, fun x => g.fz x ∨ x = b, fun x hx => hx.elim (g.lt x) (fun h => by subst h; exact ho.lt x (by simp [aH.blk]))⟩
 have hF : FExt g g' := ⟨rfl, rfl, rfl, Nat.le_refl _, fun _ h => .inl h, fun _ _ => rfl⟩
 have hnd : (b :: bV own').Nodup := ho.nodup
 refine ⟨g', rfl, s.kn, dF.cons ⟨.inr rfl, fun j x hx => ?_⟩ (s.all.mono hF), ?_, ?_, fun x hx => s.new x ((cX hp).symm.subset (by simp [hx]))⟩
 ·show g.w.cell? _ = _
  simp only [World.cell?, hown, Nat.zero_add]
  simpa using hx
 ·exact ⟨fun r hr' => ho.p r (.tail _ hr'), (List.nodup_cons.1 hnd).2, fun x hx => ho.lt x (by simp [hx]), fun x hx hf => hf.elim (ho.nfz x (by simp [hx])) (fun e => (List.nodup_cons.1 hnd).1 (e ▸ hx))⟩
 ·refine ⟨s.ext.toFExt.trans hF, s.ext.keep, fun x hx hn hf => ?_⟩
  rcases hf with hf | hf
  ·exact s.ext.nofz x hx hn hf
  ·subst hf
   rcases hnew with h1 | h1
   ·exact (hn h1).elim
   ·omega
end
section
variable {P : Program} {ops : Array Oper}
theorem XG {m : Option Nat} {Q : Exit → Act → World → Prop} {i : Nat} {K K' : Act → World → Prop} {a : Act} {w : World} (hK : ∀ a w, K a w → K' a w) (h : Y4 P ops i K a w) : wpOpIn (N2 m) 0 P ops Q i K' a w := by
 unfold Y4 at h
 unfold wpOpIn
 split
 ·rename_i ho; simp only [ho] at h; exact hK _ _ h
 ·rename_i o ho
  simp only [ho] at h
  split
  ·rename_i hw; simp only [hw, if_true] at h; exact WT hK h
  ·rename_i hw; simp only [hw] at h; exact ⟨fun _ _ => trivial, hK _ _ h⟩
theorem vB {m : Option Nat} {Q : Exit → Act → World → Prop} : ∀ (f : Nat) (listed : Array Bool) (a : Act) (w : World), N5 P ops (Q .normal) f listed a w → wpAnyIn (N2 m) 0 P .any ops Q f listed a w
 | 0, _, _, _, h => h
 | f + 1, _, _, _, h => ⟨h.1, fun i hi => XG (fun a w h => vB f _ a w h) (h.2 i hi)⟩
def dead {α : Type} : Sem α → Prop
 | .pure _ => False
 | .load _ _ k => ∀ v, dead (k v)
 | .store .. => False
 | .new .. => False
 | .shape _ k => ∀ s, dead (k s)
 | .freeze .. => False
 | .frozen _ k => ∀ b, dead (k b)
 | .getObj _ k => ∀ o, dead (k o)
 | .setObj .. => False
 | .choose _ k => ∀ n, dead (k n)
 | .sys .. => False
 | .program k => ∀ p, dead (k p)
 | .mark _ k => dead k
 | .halt _ => True
def Closed (ops : Array Oper) (listed : Array Bool) : Prop :=
 listed.size = ops.size ∧ ∀ (j : Nat) oj, ops[j]? = some oj → listed.getD j false = true → ∀ e ∈ oj.after, Region.binds .any e = true → listed.getD e.on false = true
theorem Closed.set {listed : Array Bool} (hc : Closed ops listed) {i : Nat} (hi : i ∈ Region.ready .any ops listed) : Closed ops (listed.setIfInBounds i true) := by
 obtain ⟨_, oi, hoi, hall⟩ := mem_ready.1 hi
 refine ⟨by simp [hc.1], fun j oj hj hl e he hb => ?_⟩
 by_cases hij : i = j
 ·subst hij
  have : oj = oi := Option.some.inj (hj.symm.trans hoi)
  subst this
  exact getD_set_true (hall e he hb)
 ·rw [getD_set_ne false hij] at hl
  exact getD_set_true (hc.2 j oj hj hl e he hb)
end
section
variable {X : Cx} {k : List It} {L : LL} {fs : List MF} {own : List aH} {arr : Array Oper} {l : List Oper} {o : Oper}
def eq1 (d : TypeDesc) (x y : Value) : Option Bool :=
 match d, x, y with
  | .pointer _, .pointer none, .pointer p => some p.isNone
  | .pointer _, .pointer (some _), .pointer none => some false
  | .interface _, .nilIface, .iface _ _ => some false
  | .interface _, .iface _ _, .nilIface => some false
  | .interface _, .nilIface, .nilIface => some true
  | .slice _, .slice none _ _, .slice p _ _ => some p.isNone
  | .slice _, .slice (some _) _ _, .slice none _ _ => some false
  | .map _ _, .map none, .map p => some p.isNone
  | .map _ _, .map (some _), .map none => some false
  | .bool, .bool p, .bool q => some (p == q)
  | _, _, _ => none
theorem IY {P : Program} {w : World} {T : Nat} {d : TypeDesc} {x y : Value} {b : Bool} (u : P.underlying T = some d) (h : eq1 d x y = some b) : (Op.equal T x y).run P w = .ok b w := by
 simp only [Op.equal, Op.maxDepth]
 unfold Op.equalIn
 simp only [Sem.run_bind, run_underlying u, Result.andThen_ok]
 unfold eq1 at h
 split at h <;> first | (cases h; done) | (simp only [Option.some.injEq] at h; subst h; rfl)
theorem XH {T yT : Nat} {d : TypeDesc} {x y : Operand} {vx vy : Value} {b : Bool} (ho : o.op = .binOp .eql T x y yT) (hx : dI L x = some vx) (hy : dI L y = some vy) (u : X.P.underlying T = some d)
 (hg : eqGuard .eql T x y vx vy = pure ()) (hb : ∀ w, (binOp .eql T vx vy).run X.P w = (do pure (.bool (← Op.equal T vx vy)) : Sem Value).run X.P w) (h : eq1 d vx vy = some b) : qE X o L fs own (.bool b) :=
 hZ ho hx hy hg (fun w => by rw [hb w, Sem.run_bind, IY u h]; rfl)
theorem XI {T yT : Nat} {d : TypeDesc} {x y : Operand} {vx vy : Value} {b : Bool} (ho : o.op = .binOp .neq T x y yT) (hx : dI L x = some vx) (hy : dI L y = some vy) (u : X.P.underlying T = some d)
 (hg : eqGuard .neq T x y vx vy = pure ()) (hb : ∀ w, (binOp .neq T vx vy).run X.P w = (do pure (.bool (!(← Op.equal T vx vy))) : Sem Value).run X.P w) (h : eq1 d vx vy = some b) : qE X o L fs own (.bool (!b)) :=
 hZ ho hx hy hg (fun w => by rw [hb w, Sem.run_bind, IY u h]; rfl)
end
structure XJ {α : Type} [DecidableEq α] (P : Program) (T : Nat) (K : α → Value) : Prop where
 ex : ∃ d, P.underlying T = some d ∧ (∀ a b, Instr.sameNow d (K a) (K b) = some (decide (a = b))) ∧ (∀ a e w, (Instr.checkKey e 10000 T (K a)).run P w = .ok () w) ∧ (∀ a, Instr.sameBits 10000 (K a) (K a) = true)
theorem run_checkKey {P : Program} {w : World} {T : Nat} {d : TypeDesc} {v : Value} (u : P.underlying T = some d) (hd : (match d with | .int _ => true | .string => true | .bool => true | _ => false) = true) (e : Bool) (n : Nat) :
 (Instr.checkKey e (n + 1) T v).run P w = .ok () w := by
 simp only [Instr.checkKey, Sem.run_bind, run_underlying u, Result.andThen_ok]
 cases d <;> first | (cases hd; done) | rfl
theorem bytes_beq (a b : Bytes) : ((⟨a.toArray⟩ : ByteArray) == ⟨b.toArray⟩) = decide (a = b) := by
 show (a.toArray == b.toArray) = _
 rw [qF, Bool.eq_iff_iff]; simp
theorem GV {P : Program} {T : Nat} (u : P.underlying T = some .string) : XJ P T str :=
 ⟨.string, u, fun a b => by simp only [Instr.sameNow, str, bytes_beq], fun a e w => run_checkKey u rfl e 9999, fun a => by simp [Instr.sameBits, str, bytes_beq]⟩
section
variable {α β : Type} [DecidableEq α]
def bL : List (α × β) → α → Option β
 | [], _ => none
 | p :: r, k => if k = p.1 then some p.2 else bL r k
def kN : List (α × β) → α → β → List (α × β)
 | [], k, v => [(k, v)]
 | p :: r, k, v => if k = p.1 then (k, v) :: r else p :: kN r k v
def LC : List (α × β) → α → List (α × β)
 | [], _ => []
 | p :: r, k => if k = p.1 then r else p :: LC r k
def enc2 (K : α → Value) (V : β → Value) (m : List (α × β)) : List (Value × Value) := m.map fun p => (K p.1, V p.2)
def lB (es : List MapEntry) : List (Value × Value) := es.map fun e => (e.key, e.val)
def aH.mp (K : α → Value) (V : β → Value) (b : Nat) (m : List (α × β)) : aH where
 bs := [b]
 p w := ∃ es clk, w.heap[b]? = some (.map es clk) ∧ lB es.toList = enc2 K V m ∧ (es.toList.map (·.born)).Nodup ∧ ∀ e ∈ es.toList, e.born < clk
 loc := by
  intro w w' h ⟨es, clk, h1, h2⟩
  exact ⟨es, clk, by rw [h b (.head _)]; exact h1, h2⟩
def Found (K : α → Value) (V : β → Value) (es : List MapEntry) (m : List (α × β)) (k : α) : Option (Nat × Value) → Prop
 | none => bL m k = none ∧ (∀ x, kN m k x = m ++ [(k, x)]) ∧ LC m k = m
 | some (i, v) => (∃ x, bL m k = some x ∧ v = V x) ∧ (es[i]?).map (·.key) = some (K k) ∧ (∀ x, lB (es.modify i fun e => { e with key := K k, val := V x }) = enc2 K V (kN m k x)) ∧ lB (es.eraseIdx i) = enc2 K V (LC m k)
theorem D3 {P : Program} {T : Nat} {K : α → Value} {V : β → Value} (kt : XJ P T K) (k : α) (w : World) {es : List MapEntry} {m : List (α × β)} (h : lB es = enc2 K V m) :
 ∃ r, (Instr.findKey T (K k) es).run P w = .ok r w ∧ Found K V es m k r := by
 obtain ⟨d, u, hs, _, _⟩ := kt
 have key : ∀ (es : List MapEntry) (m : List (α × β)) (j : Nat), lB es = enc2 K V m → ∃ r, Instr.findNow d (K k) es j = some (r.map fun q => (q.1 + j, q.2)) ∧ Found K V es m k r := by
  intro es
  induction es with
  | nil =>
    intro m j h
    have : m = [] := by cases m with | nil => rfl | cons p r => simp [lB, enc2] at h
    subst this
    exact ⟨none, rfl, rfl, fun x => rfl, rfl⟩
  | cons e es ih =>
    intro m j h
    cases m with
    | nil => simp [lB, enc2] at h
    | cons p r =>
      simp only [lB, enc2, List.map_cons, List.cons.injEq, Prod.mk.injEq] at h
      obtain ⟨⟨h1, h2⟩, h3⟩ := h
      simp only [Instr.findNow, h1, hs k p.1]
      by_cases hk : k = p.1
      ·subst hk
       refine ⟨some (0, e.val), by simp, ⟨p.2, by simp [bL], h2⟩, by simp [h1], fun x => ?_, ?_⟩
       ·have h3' : lB es = enc2 K V r := h3
        simp only [lB, enc2] at h3'
        simp [lB, enc2, kN, h3']
       ·have h3' : lB es = enc2 K V r := h3
        simpa [LC] using h3'
      ·obtain ⟨r', hr, hm⟩ := ih r (j + 1) h3
       refine ⟨r'.map fun q => (q.1 + 1, q.2), ?_, ?_⟩
       ·simp only [hk, decide_false, hr, Option.map_map]
        congr 1
        cases r' with
        | none => rfl
        | some q => simp; omega
       ·cases r' with
        | none =>
          obtain ⟨m1, m2, m3⟩ := hm
          exact ⟨by simpa [bL, hk] using m1, fun x => by simp [kN, hk, m2], by simp [LC, hk, m3]⟩
        | some q =>
          obtain ⟨i, v⟩ := q
          obtain ⟨⟨x, hx, hv⟩, hkk, hmod, hdel⟩ := hm
          refine ⟨⟨x, by simpa [bL, hk] using hx, hv⟩, by simpa using hkk, fun y => ?_, ?_⟩
          ·have := hmod y
           simp only [lB, enc2] at this
           simp [lB, enc2, kN, hk, this, h1, h2]
          ·simp only [lB, enc2] at hdel
           simp [lB, enc2, LC, hk, hdel, h1, h2]
 obtain ⟨r, hr, hm⟩ := key es m 0 h
 refine ⟨r, ?_, hm⟩
 have : (r.map fun q => (q.1 + 0, q.2)) = r := by cases r <;> rfl
 rw [this] at hr
 simp [Instr.findKey, run_underlying u, hr]
end
section
variable {α β : Type} [DecidableEq α] {K : α → Value} {V : β → Value}
variable {X : Cx} {k : List It} {L : LL} {fs : List MF} {own : List aH} {arr : Array Oper} {l : List Oper} {o : Oper}
omit [DecidableEq α] in
theorem ZR {g a} (s : St X L fs own g a) {b m own'} (hp : m7 own (aH.mp K V b m) own') : (aH.mp K V b m).p g.w := s.own.p _ (hp.perm.symm.subset (.head _))
theorem run_getObj_map {P : Program} {w : World} {b : Nat} {es clk} (h : w.heap[b]? = some (.map es clk)) : (getObj b).run P w = .ok (.map es clk) w := by
 simp [getObj, Sem.run, h]
theorem run_setObj_map {P : Program} {w : World} {b : Nat} {es clk ob} (h : w.heap[b]? = some (.map es clk)) : (setObj b ob).run P w = .ok () { w with heap := w.heap.setIfInBounds b ob } := by
 simp [setObj, Sem.run, h]
omit [DecidableEq α] in
theorem St.setMap {g a} {b : Nat} {m m' : List (α × β)} {own' es clk es' clk'} (s : St X L fs own g a) (hp : m7 own (aH.mp K V b m) own') (hh : g.w.heap[b]? = some (.map es clk))
 (h1 : lB es'.toList = enc2 K V m') (h2 : (es'.toList.map (·.born)).Nodup) (h3 : ∀ e ∈ es'.toList, e.born < clk') :
 ∃ g', g'.w = { g.w with heap := g.w.heap.setIfInBounds b (.map es' clk') } ∧ St X L fs (aH.mp K V b m' :: own') g' a := by
 have hb : b < g.w.heap.size := (Array.getElem?_eq_some_iff.1 hh).1
 refine s.turn hp (r' := aH.mp K V b m') (w' := { g.w with heap := g.w.heap.setIfInBounds b (.map es' clk') }) (fun b' _ hx => ?_) rfl rfl rfl (by simp) ⟨es', clk', ?_, h1, h2, h3⟩ (by simp [aH.mp]) (fun b' hb' => ?_) (fun b' hb' => .inl hb')
 ·have : b ≠ b' := fun e => hx (by rw [e]; exact .head _)
  simp [Array.getElem?_setIfInBounds_ne this]
 ·simp [hb]
 ·have : b' = b := by simpa [aH.mp] using hb'
  subst this; simpa using hb
theorem XK {T Tk Te b : Nat} {x y z : Operand} {m : List (α × β)} {own'} {q : α} {v : β} (ho : o.op = .mapUpdate T x y z) (hl : live arr L o = some true) (hd : o.dst = none) (hx : dI L x = some (.map (some b))) (hy : dI L y = some (K q)) (hz : dI L z = some (V v))
 (u : X.P.underlying T = some (.map Tk Te)) (kt : XJ X.P Tk K) (hp : m7 own (aH.mp K V b m) own') (h : S X arr l k L fs (aH.mp K V b (kN m q v) :: own')) : S X arr (o :: l) k L fs own := by
 refine XF hl hd (fun g a s => ?_) h
 obtain ⟨es, clk, hh, he, hn, hlt⟩ := ZR s hp
 obtain ⟨r, hr, hf⟩ := D3 kt q g.w he
 obtain ⟨d, _, _, hck, hsb⟩ := kt.ex
 simp only [execOp, ho, s.kn.eval hx, s.kn.eval hy, s.kn.eval hz]
 simp only [Instr.mapUpdate, Sem.run_bind, run_underlying u, Result.andThen_ok, run_getObj_map hh, hck, hr]
 cases r with
 | none =>
   obtain ⟨_, h2, _⟩ := hf
   obtain ⟨g', hw, s'⟩ := s.setMap hp hh (es' := es.push { key := K q, val := V v, born := clk }) (clk' := clk + 1) (m' := kN m q v) (by rw [h2 v]; simp only [lB] at he; simp [lB, enc2, he]) (by
    simp only [Array.toList_push, List.map_append, List.map_cons, List.map_nil]
    refine List.nodup_append.2 ⟨hn, by simp, fun a ha b hb hab => ?_⟩
    simp at hb
    obtain ⟨e, he', rfl⟩ := List.mem_map.1 ha
    have := hlt e he'
    omega) (fun e he' => by
    simp only [Array.toList_push, List.mem_append, List.mem_singleton] at he'
    rcases he' with h | rfl
    ·have := hlt e h; omega
    ·exact Nat.lt_succ_self _)
   refine ⟨g', ?_, s'⟩
   rw [hw]
   simp [run_setObj_map hh]
 | some p =>
   obtain ⟨i, w0⟩ := p
   obtain ⟨_, hkk, hmod, _⟩ := hf
   have hkk' : (es[i]?.map (·.key)).getD (K q) = K q := by
    have : es.toList[i]? = es[i]? := by simp
    rw [← this, hkk]; rfl
   obtain ⟨g', hw, s'⟩ := s.setMap hp hh (es' := es.modify i fun e => { e with key := K q, val := V v }) (clk' := clk) (m' := kN m q v) (by
    have := hmod v
    simpa using this) (by
    have : ((es.modify i fun e => { e with key := K q, val := V v }).toList.map (·.born)) = es.toList.map (·.born) := by
     rw [Array.toList_modify]
     apply List.ext_getElem?
     intro j
     simp only [List.getElem?_map, List.getElem?_modify]
     split <;> cases es.toList[j]? <;> rfl
    rw [this]; exact hn) (fun e he' => by
    rw [Array.toList_modify] at he'
    obtain ⟨j, hj⟩ := List.mem_iff_getElem?.1 he'
    rw [List.getElem?_modify] at hj
    cases hjj : es.toList[j]? with
    | none => rw [hjj] at hj; simp at hj
    | some e0 =>
      rw [hjj] at hj
      have := hlt e0 (List.mem_of_getElem? hjj)
      split at hj <;> (simp at hj; subst hj; exact this))
   refine ⟨g', ?_, s'⟩
   rw [hw]
   simp only [hkk', Instr.keyThatStays, hsb q, if_true, Sem.run_bind, Sem.run_pure, Result.andThen_ok, run_setObj_map hh]
end
section
variable {X : Cx} {k : List It} {L : LL} {fs : List MF} {own : List aH} {arr : Array Oper} {l : List Oper} {o : Oper}
theorem oN {P : Program} {w : World} {t : Nat} {d : TypeDesc} {cs : Array Value} {off : Nat} {v : Value} (u : P.underlying t = some d) (hd : D2 d = false) (hv : cs[off]? = some v) : (part t cs off).run P w = .ok v w := by
 have hag := jV (P := P) (w := w) u
 rw [hd] at hag
 simp [part, hag, hv]
theorem IZ {P : Program} {w : World} {d : Nat} {xs ys : Array Value} {f : Field} {r : List Field} {kk : IntKind} {p q : Int} (hn : f.name ≠ "_") (u : P.underlying f.type = some (.int kk)) (hx : xs[f.offset]? = some (.int kk p)) (hy : ys[f.offset]? = some (.int kk q)) :
 (Op.eqFields (d + 1) xs ys (f :: r)).run P w = if p = q then (Op.eqFields (d + 1) xs ys r).run P w else .ok false w := by
 simp only [Op.eqFields, hn, if_true, ne_eq, not_false_eq_true, Sem.run_bind, oN u rfl hx, oN u rfl hy, Result.andThen_ok, run_equalIn_int w d f.type kk kk p q u]
 by_cases h : p = q <;> simp [h]
theorem I0 {P : Program} {w : World} {d : Nat} {xs ys : Array Value} {f : Field} {r : List Field} {p q : Bytes} (hn : f.name ≠ "_") (u : P.underlying f.type = some .string) (hx : xs[f.offset]? = some (str p)) (hy : ys[f.offset]? = some (str q)) :
 (Op.eqFields (d + 1) xs ys (f :: r)).run P w = if p = q then (Op.eqFields (d + 1) xs ys r).run P w else .ok false w := by
 have he : (Op.equalIn (d + 1) f.type (str p) (str q)).run P w = .ok (decide (p = q)) w := by
  simp only [str, Op.equalIn, Sem.run_bind, run_underlying u, Result.andThen_ok, Sem.run_pure, bytes_beq]
 simp only [Op.eqFields, hn, if_true, ne_eq, not_false_eq_true, Sem.run_bind, oN u rfl hx, oN u rfl hy, Result.andThen_ok, he]
 by_cases h : p = q <;> simp [h]
end
open Go.ChangeMaps (setBlock)
section
variable {α β : Type}
def aH.it (K : α → Value) (V : β → Value) (b r : Nat) (m : List (α × β)) (js : List Nat) : aH where
 bs := [b, r]
 p w := js.Nodup ∧ (∀ j ∈ js, j < m.length) ∧ ∃ es clk since ss c0, w.heap[b]? = some (.map es clk) ∧ lB es.toList = enc2 K V m ∧ (es.toList.map (·.born)).Nodup ∧ (∀ e ∈ es.toList, e.born < clk) ∧
  w.heap[r]? = some (.mapIter (some b) since ss c0) ∧ (∀ e ∈ es.toList, e.born < since) ∧ since ≤ c0 ∧ since ≤ clk ∧ (js ≠ [] → c0 = clk) ∧ ss.toList.map some = js.map (fun j => (es.toList[j]?).map (·.born))
 loc := by
  intro w w' h ⟨h0, h1, es, clk, since, ss, c0, h2, h3, h4, h5, h6, h7⟩
  exact ⟨h0, h1, es, clk, since, ss, c0, by rw [h b (.head _)]; exact h2, h3, h4, h5, by rw [h r (.tail _ (.head _))]; exact h6, h7⟩
end
end Go.KX
namespace Go.KX
abbrev SlE (α : Type) := Option Addr × Nat × List α
def ZS (α : Type) : El (SlE α) := ⟨1, fun x => [.slice x.1 x.2.2.length x.2.1], fun _ => rfl, by decide, fun _ u h => by simp at h; subst h; rfl⟩
def norm (L : LL) : Nat → Nat → List It → List It
 | 0, _, k => k
 | f + 1, n, .code (.seq x y) :: k => norm L f n (.code x :: .code y :: k)
 | f + 1, n, .code .skip :: k => norm L f n k
 | f + 1, n, .code (.block id c) :: k => norm L f n (.code c :: .blk id :: k)
 | f + 1, n, .blk _ :: k => norm L f n k
 | f + 1, n, .code (.exit id) :: k => match kR id k with
   | some k' => norm L f n k'
   | none => .code (.exit id) :: k
 | f + 1, n + 1, .code (.cond c x y) :: k => match dI L c with
   | some (.bool true) => norm L f n (.code x :: k)
   | some (.bool false) => norm L f n (.code y :: k)
   | _ => .code (.cond c x y) :: k
 | _ + 1, _, k => k
section
variable {X : Cx} {k : List It} {L : LL} {fs : List MF} {own : List aH} {arr : Array Oper} {l : List Oper} {o : Oper}
theorem m9 : ∀ (f n : Nat) {k : List It}, C X (norm L f n k) L fs own → C X k L fs own
 | 0, _, _, h => h
 | f + 1, n, k, h => by
   unfold norm at h
   split at h
   ·cases ‹_ + 1 = _›
   ·obtain ⟨rfl⟩ := Nat.succ.inj ‹_›; exact ZB (m9 f _ h)
   ·obtain ⟨rfl⟩ := Nat.succ.inj ‹_›; exact W9 (m9 f _ h)
   ·obtain ⟨rfl⟩ := Nat.succ.inj ‹_›; exact TR (m9 f _ h)
   ·obtain ⟨rfl⟩ := Nat.succ.inj ‹_›; exact ZC (m9 f _ h)
   ·obtain ⟨rfl⟩ := Nat.succ.inj ‹_›
    split at h
    ·exact XA ‹_› (m9 f _ h)
    ·exact h
   ·obtain ⟨rfl⟩ := Nat.succ.inj ‹_›
    split at h
    ·exact N6 ‹_› (m9 f _ h)
    ·exact N7 ‹_› (m9 f _ h)
    ·exact h
   ·exact h
theorem cx (n m : Nat) {id : Nat} {k' : List It} {l l' : List Oper} {L' : LL} (h : S X l.toArray l' k' L' fs own) (hk : norm L 64 n k = .code (.region id l.toArray false) :: k' := by rfl) (hr : runN X.n l.toArray m l L = some (l', L') := by rfl) : C X k L fs own :=
 m9 64 n (hk ▸ N9 (ZE m hr h))
end
end Go.KX
