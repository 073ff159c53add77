/- BaseA BaseB BaseC BaseD BaseE BaseF BaseG BaseH BaseI. -/
import Derived.WalkKit
import Derived.StillTail
import Derived.Deep.Draws
import Derived.TacticsIn
import Derived.OrdersIn
import Derived.RangeFuncIn
import Derived.Laws.OwnMore
import Derived.Laws.AppendOwn
import Derived.Laws.AppendOwnNone
import Derived.Laws.BytesString
import Derived.Lib.Strings
import Derived.Lib.AppendStr
import Derived.KernelRfl
/- The logic of symbolic states: known slots, persistent facts, owned blocks; rules for the code's own forms. No program in sight. -/
namespace Go.KX

/-! ### Known slots -/
theorem intE {kk : IntKind} {a b : Int} (h : a = b) : some (Value.int kk a) = some (Value.int kk b) := by rw [h]
theorem c_a {α : Type} (a : α) (l r : List α) : a :: l ++ r = a :: (l ++ r) := rfl
theorem n_a {α : Type} (r : List α) : [] ++ r = r := rfl
abbrev LL := List (Nat × Value)
def lk : LL → Nat → Option Value
  | [], _ => none
  | (j, v) :: r, i => match Nat.beq i j with | true => some v | false => lk r i
def evo (L : LL) : Operand → Option Value
  | .tmp t => lk L t
  | .const v => some v
  | .global g => some (.pointer (some ⟨g, 0, none⟩))
  | .func f => some (.func (.func f) #[] #[])
theorem lk_cons_same (L : LL) (i : Nat) (v : Value) : lk ((i, v) :: L) i = some v := by simp [lk]
theorem lk_cons_ne (L : LL) {i j : Nat} (v : Value) (h : i ≠ j) : lk ((j, v) :: L) i = lk L i := by
  have : Nat.beq i j = false := by cases hb : Nat.beq i j with | false => rfl | true => exact absurd (Nat.eq_of_beq_eq_true hb) h
  simp [lk, this]

structure KN (n : Nat) (df : List Deferred) (L : LL) (a : Act) : Prop where
  size : a.tmps.size = n
  defers : a.defers = df
  val : ∀ i v, lk L i = some v → a.tmps[i]? = some v

theorem KN.get {n df L a} (h : KN n df L a) {i v} (hv : lk L i = some v) : a.tmps.getD i undef = v := by
  have := h.val i v hv
  simp [Array.getD_eq_getD_getElem?, this]
theorem KN.eval {n df L a} (h : KN n df L a) {o : Operand} {v} (hv : evo L o = some v) : a.eval o = v := by
  cases o with
  | tmp t => exact h.get hv
  | const c => exact Option.some.inj hv
  | global g => exact Option.some.inj hv
  | func f => exact Option.some.inj hv
theorem KN.put {n df L a} (h : KN n df L a) {d : Nat} (hd : Nat.blt d n = true) (v : Value) : KN n df ((d, v) :: L) (a.put (some d) v) := by
  have hd' : d < n := by simpa [Nat.blt_eq] using hd
  refine ⟨by simp [Act.put, h.size], h.defers, ?_⟩
  intro i u hu
  by_cases hi : i = d
  · subst hi
    rw [lk_cons_same] at hu
    cases hu
    simp [Act.put, h.size, hd']
  · rw [lk_cons_ne _ _ hi] at hu
    have := h.val i u hu
    simp [Act.put, Ne.symm hi, this]
/-- Every slot that L' knows, L knows likewise. -/
def LSub (L' L : LL) : Prop := ∀ i v, lk L' i = some v → lk L i = some v
theorem KN.sub {n df L L' a} (h : KN n df L a) (hs : LSub L' L) : KN n df L' a := ⟨h.size, h.defers, fun i v hv => h.val i v (hs i v hv)⟩
def keepL (L : LL) : List Nat → LL → Option LL
  | [], acc => some acc
  | i :: is, acc => match lk L i with | some v => keepL L is ((i, v) :: acc) | none => none
theorem keepL_sub {L : LL} : ∀ (is : List Nat) (acc L' : LL), LSub acc L → keepL L is acc = some L' → LSub L' L
  | [], acc, L', h, e => by simp [keepL] at e; exact e ▸ h
  | i :: is, acc, L', h, e => by
    simp only [keepL] at e
    split at e
    · rename_i v hv
      refine keepL_sub is _ L' (fun j u hu => ?_) e
      by_cases hj : j = i
      · subst hj; rw [lk_cons_same] at hu; cases hu; exact hv
      · rw [lk_cons_ne _ _ hj] at hu; exact h j u hu
    · cases e
/-- All entries of L' are found in L (for loops: L' written out). -/
def subL (L : LL) : LL → Prop
  | [] => True
  | (i, v) :: r => lk L i = some v ∧ subL L r
theorem subL_sub {L : LL} : ∀ (L' : LL), subL L L' → LSub L' L
  | [], _ => fun i v h => by simp [lk] at h
  | (j, u) :: r, ⟨h1, h2⟩ => fun i v h => by
    by_cases hj : i = j
    · subst hj; rw [lk_cons_same] at h; cases h; exact h1
    · rw [lk_cons_ne _ _ hj] at h; exact subL_sub r h2 i v h

/-! ### Ghost worlds: a world, and which blocks are never written again -/
structure GW where
  w : World
  fz : Nat → Prop
  lt : ∀ b, fz b → b < w.heap.size
structure FExt (g g' : GW) : Prop where
  os : g'.w.os = g.w.os
  tape : g'.w.tape = g.w.tape
  output : g'.w.output = g.w.output
  size : g.w.heap.size ≤ g'.w.heap.size
  fz : ∀ b, g.fz b → g'.fz b
  same : ∀ b, g.fz b → g'.w.heap[b]? = g.w.heap[b]?
structure Ext (B : List Nat) (g g' : GW) : Prop extends FExt g g' where
  keep : ∀ b, b < g.w.heap.size → b ∉ B → g'.w.heap[b]? = g.w.heap[b]?
  nofz : ∀ b, b < g.w.heap.size → b ∉ B → g'.fz b → g.fz b
theorem FExt.refl (g : GW) : FExt g g := ⟨rfl, rfl, rfl, Nat.le_refl _, fun _ h => h, fun _ _ => rfl⟩
theorem FExt.trans {a b c : GW} (h : FExt a b) (k : FExt b c) : FExt a c :=
  ⟨k.os.trans h.os, k.tape.trans h.tape, k.output.trans h.output, Nat.le_trans h.size k.size, fun x hx => k.fz x (h.fz x hx), fun x hx => (k.same x (h.fz x hx)).trans (h.same x hx)⟩
theorem Ext.refl (B) (g : GW) : Ext B g g := ⟨FExt.refl g, fun _ _ _ => rfl, fun _ _ _ h => h⟩
/-- Two steps: what the second may touch was touchable in the first, or is new. -/
theorem Ext.trans {B B' : List Nat} {a b c : GW} (h : Ext B a b) (k : Ext B' b c) (hB : ∀ x ∈ B', x ∈ B ∨ a.w.heap.size ≤ x) : Ext B a c := by
  refine ⟨h.toFExt.trans k.toFExt, fun x hx hn => ?_, fun x hx hn hf => ?_⟩
  · rw [k.keep x (Nat.lt_of_lt_of_le hx h.size) (fun hm => (hB x hm).elim hn (fun hh => by omega)), h.keep x hx hn]
  · exact h.nofz x hx hn (k.nofz x (Nat.lt_of_lt_of_le hx h.size) (fun hm => (hB x hm).elim hn (fun hh => by omega)) hf)

/-- A persistent fact. -/
structure MF where
  p : GW → Prop
  mono : ∀ {g g' : GW}, FExt g g' → p g → p g'
def All (fs : List MF) (g : GW) : Prop := ∀ f ∈ fs, f.p g
theorem All.mono {fs g g'} (e : FExt g g') (h : All fs g) : All fs g' := fun f hf => f.mono e (h f hf)
theorem All.cons {f fs g} (h : f.p g) (hs : All fs g) : All (f :: fs) g := by
  intro x hx; cases hx with | head => exact h | tail _ hm => exact hs x hm
theorem All.append {fs gs g} (h : All fs g) (hs : All gs g) : All (fs ++ gs) g := by
  intro x hx; rcases List.mem_append.1 hx with hx | hx
  · exact h x hx
  · exact hs x hx
inductive Has {α : Type} : List α → α → Prop
  | head {x : α} {r : List α} : Has (x :: r) x
  | tail {x y : α} {r : List α} : Has r x → Has (y :: r) x
theorem Has.mem {α : Type} {l : List α} {x : α} (h : Has l x) : x ∈ l := by
  induction h with | head => exact .head _ | tail _ ih => exact .tail _ ih
inductive Subs {α : Type} (l : List α) : List α → Prop
  | nil : Subs l []
  | cons {x r} : Has l x → Subs l r → Subs l (x :: r)
theorem Subs.mem {α : Type} {l l' : List α} (h : Subs l l') : ∀ x ∈ l', x ∈ l := by
  induction h with
  | nil => intro x hx; cases hx
  | cons h _ ih => intro x hx; cases hx with | head => exact h.mem | tail _ hm => exact ih x hm
theorem Subs.all {fs fs' g} (h : Subs fs fs') (ha : All fs g) : All fs' g := fun x hx => ha x (h.mem x hx)
theorem Subs.of_mem {α : Type} {l : List α} : ∀ {l' : List α}, (∀ x ∈ l', x ∈ l) → Subs l l'
  | [], _ => .nil
  | x :: r, h => .cons (by
      have := h x (.head _)
      clear h
      induction l with
      | nil => cases this
      | cons y t ih => cases this with | head => exact .head | tail _ hm => exact .tail (ih hm)) (Subs.of_mem fun y hy => h y (.tail _ hy))
theorem Subs.refl {α : Type} (l : List α) : Subs l l := Subs.of_mem fun _ h => h

/-- What is owned: some blocks, and what is known of them. -/
structure Res where
  bs : List Nat
  p : World → Prop
  loc : ∀ {w w' : World}, (∀ b ∈ bs, w'.heap[b]? = w.heap[b]?) → p w → p w'
def blks (rs : List Res) : List Nat := rs.flatMap Res.bs
@[simp] theorem blks_nil : blks [] = [] := rfl
@[simp] theorem blks_cons (r rs) : blks (r :: rs) = r.bs ++ blks rs := rfl
@[simp] theorem blks_append (a b) : blks (a ++ b) = blks a ++ blks b := by simp [blks]
structure Own (rs : List Res) (g : GW) : Prop where
  p : ∀ r ∈ rs, r.p g.w
  nodup : (blks rs).Nodup
  lt : ∀ b ∈ blks rs, b < g.w.heap.size
  nfz : ∀ b ∈ blks rs, ¬ g.fz b
/-- 'Pick l x r': x is one of l, r is the rest. -/
inductive Pick : List Res → Res → List Res → Prop
  | head {x : Res} {r : List Res} : Pick (x :: r) x r
  | tail {x y : Res} {r r' : List Res} : Pick r x r' → Pick (y :: r) x (y :: r')
theorem Pick.perm {l x r} (h : Pick l x r) : l.Perm (x :: r) := by
  induction h with
  | head => exact List.Perm.refl _
  | tail _ ih => exact (List.Perm.cons _ ih).trans (List.Perm.swap _ _ _)
inductive Split : List Res → List Res → List Res → Prop
  | nil {l : List Res} : Split l [] l
  | cons {l l' r : List Res} {x : Res} {xs : List Res} : Pick l x l' → Split l' xs r → Split l (x :: xs) r
theorem Split.perm {l xs r} (h : Split l xs r) : l.Perm (xs ++ r) := by
  induction h with
  | nil => exact List.Perm.refl _
  | cons h _ ih => exact h.perm.trans (List.Perm.cons _ ih)
theorem Split.of_perm {l xs r : List Res} (h : l.Perm (xs ++ r)) : ∃ r', Split l xs r' ∧ r'.Perm r := by
  induction xs generalizing l with
  | nil => exact ⟨l, .nil, h⟩
  | cons x xs ih =>
    have hx : x ∈ l := h.symm.subset (.head _)
    have : ∀ (l : List Res), x ∈ l → ∃ l', Pick l x l' := by
      intro l hl
      induction l with
      | nil => cases hl
      | cons y t iht =>
        cases hl with
        | head => exact ⟨_, .head⟩
        | tail _ hm => obtain ⟨l', hl'⟩ := iht hm; exact ⟨_, .tail hl'⟩
    obtain ⟨l', hl'⟩ := this l hx
    have h2 : l'.Perm (xs ++ r) := by
      have := hl'.perm.symm.trans h
      exact (List.perm_cons x).1 this
    obtain ⟨r', hs, hp⟩ := ih h2
    exact ⟨r', .cons hl' hs, hp⟩
theorem blks_perm {a b : List Res} (h : a.Perm b) : (blks a).Perm (blks b) := by
  induction h with
  | nil => exact List.Perm.refl _
  | cons x _ ih => simpa using List.Perm.append_left _ ih
  | swap x y l =>
    simp only [blks_cons, ← List.append_assoc]
    exact List.Perm.append_right _ List.perm_append_comm
  | trans _ _ ih1 ih2 => exact ih1.trans ih2
theorem Own.perm {a b g} (h : Own a g) (hp : a.Perm b) : Own b g :=
  ⟨fun r hr => h.p r (hp.symm.subset hr), (blks_perm hp).nodup_iff.1 h.nodup, fun x hx => h.lt x ((blks_perm hp).symm.subset hx), fun x hx => h.nfz x ((blks_perm hp).symm.subset hx)⟩
theorem Own.left {a b g} (h : Own (a ++ b) g) : Own a g :=
  ⟨fun r hr => h.p r (List.mem_append_left _ hr), (List.nodup_append.1 (by simpa using h.nodup)).1, fun x hx => h.lt x (by simp [hx]), fun x hx => h.nfz x (by simp [hx])⟩
theorem Own.right {a b g} (h : Own (a ++ b) g) : Own b g :=
  ⟨fun r hr => h.p r (List.mem_append_right _ hr), (List.nodup_append.1 (by simpa using h.nodup)).2.1, fun x hx => h.lt x (by simp [hx]), fun x hx => h.nfz x (by simp [hx])⟩
theorem Own.disj {a b g} (h : Own (a ++ b) g) : ∀ x ∈ blks a, x ∉ blks b := fun x hx hy => (List.nodup_append.1 (by simpa using h.nodup)).2.2 x hx x hy rfl
/-- The frame: A has become A' by a step that may touch A's blocks alone; R stays. -/
theorem Own.frame {A A' R g g'} (h : Own (A ++ R) g) (e : Ext (blks A) g g') (h' : Own A' g') (hn : ∀ b ∈ blks A', b ∈ blks A ∨ g.w.heap.size ≤ b) : Own (A' ++ R) g' := by
  have hd := h.disj
  have hR := h.right
  refine ⟨fun r hr => ?_, ?_, fun b hb => ?_, fun b hb => ?_⟩
  · rcases List.mem_append.1 hr with hr | hr
    · exact h'.p r hr
    · refine r.loc (fun b hb => ?_) (hR.p r hr)
      have hm : b ∈ blks R := List.mem_flatMap.2 ⟨r, hr, hb⟩
      exact e.keep b (hR.lt b hm) (fun hx => hd b hx hm)
  · simp only [blks_append]
    refine List.nodup_append.2 ⟨h'.nodup, hR.nodup, fun x hx y hy hxy => ?_⟩
    subst hxy
    rcases hn x hx with h1 | h1
    · exact hd x h1 hy
    · have := hR.lt x hy; omega
  · rcases List.mem_append.1 (by simpa using hb) with hb | hb
    · exact h'.lt b hb
    · exact Nat.lt_of_lt_of_le (hR.lt b hb) e.size
  · rcases List.mem_append.1 (by simpa using hb) with hb | hb
    · exact h'.nfz b hb
    · exact fun hf => hR.nfz b hb (e.nofz b (hR.lt b hb) (fun hx => hd b hx hb) hf)

/-- How a frame is walked: none: an activation's; some l: a round's, of the range over a function l. -/
abbrev fen (m : Option Nat) : Fence := { Fence.wide with round := m }
theorem fen_room (m : Option Nat) (n : Nat) : (fen m).room n := fun _ h => by simp [Fence.wide] at h
/-- The kit's rule for loops, over a state of one's own. -/
theorem wpIn_loop_s {P : Program} {m : Option Nat} {c : Code} {Q : Exit → Act → World → Prop} {σ : Type} (I : σ → Act → World → Prop) (μ : σ → Nat)
    (round : ∀ s a w, I s a w → c.wpIn (fen m) 0 P (Exit.then (fun a' w' => ∃ s', I s' a' w' ∧ μ s' < μ s) Q) a w) (s0 : σ) (a : Act) (w : World) (h0 : I s0 a w) : (Code.loop c).wpIn (fen m) 0 P Q a w := by
  intro b k cs hro hb hr
  have key : ∀ n s a w, μ s = n → I s a w →
      ∃ e a' w', Q e a' w' ∧ ArrivesIn (Machine.fenced P (fen m)) P (lone (b.atR a (.code c :: .inLoop c :: k)) cs w) b k cs e a' w' := by
    intro n
    induction n using Nat.strongRecOn with
    | _ n ih =>
      intro s a w hn hI
      obtain ⟨e, a₁, w₁, hq, harr⟩ := round s a w hI b (.inLoop c :: k) cs hro hb hr
      cases e with
      | normal =>
        obtain ⟨s', hI₁, hlt⟩ := hq
        obtain ⟨e₂, a₂, w₂, hq₂, harr₂⟩ := ih (μ s') (hn ▸ hlt) s' a₁ w₁ rfl hI₁
        exact ⟨e₂, a₂, w₂, hq₂, .of_steps (StepsIn.trans harr (.one (fenced_calm hb hr rfl) stepR_inLoop)) harr₂⟩
      | exit id => exact ⟨_, a₁, w₁, hq, .pass (x := .inLoop c) rfl (fun _ _ => .inl (by simp)) harr⟩
      | goto l => exact ⟨_, a₁, w₁, hq, .pass (x := .inLoop c) rfl (fun _ _ => .inl (by simp)) harr⟩
      | ret => exact ⟨_, a₁, w₁, hq, .pass (x := .inLoop c) rfl (fun _ _ => .inl (by simp)) harr⟩
      | panic ch => exact ⟨_, a₁, w₁, hq, .pass (x := .inLoop c) rfl (fun _ _ => .inl (by simp)) harr⟩
      | outgrown => exact ⟨_, a₁, w₁, hq, .pass (x := .inLoop c) rfl (fun _ _ => .inl (by simp)) harr⟩
  obtain ⟨e, a', w', hq, harr⟩ := key _ s0 a w rfl h0
  exact ⟨e, a', w', hq, .of_steps (.one (fenced_calm hb hr rfl) stepR_loop) harr⟩

/-! ### The judgement -/
structure Cx where
  P : Program
  n : Nat
  g0 : GW
  B0 : List Nat
  Q : Exit → Act → World → Prop
  rd : Option Nat
  df : List Deferred
structure St (X : Cx) (L : LL) (fs : List MF) (rs : List Res) (g : GW) (a : Act) : Prop where
  kn : KN X.n X.df L a
  all : All fs g
  own : Own rs g
  ext : Ext X.B0 X.g0 g
  new : ∀ b ∈ blks rs, b ∈ X.B0 ∨ X.g0.w.heap.size ≤ b
/-- An operation that neither panics nor asks for more room than there is. -/
def wn (P : Program) (o : Oper) (a : Act) (w : World) (next : Act → World → Prop) : Prop :=
  match (execOp a.eval o).run P w with
  | .ok (.value v) w' => next (a.put o.dst v) w'
  | .ok .skip w' => next (a.put o.dst undef) w'
  | .ok (.enter f args) w' => Calls P f args w' fun e w'' => ∃ v, e = .returned v ∧ next (a.put o.dst v) w''
  | .ok (.round l f tmps assign body) w' => RoundIn Fence.wide 0 P l f tmps assign body w' fun e w'' => ∃ v, e = .returned v ∧ next (a.put o.dst v) w''
  | _ => False
def wl (P : Program) (ops : Array Oper) (Q : Act → World → Prop) : List Oper → Act → World → Prop
  | [], a, w => Q a w
  | o :: rest, a, w => if Region.wanted o (yielded ops a.tmps) then wn P o a w (wl P ops Q rest) else wl P ops Q rest (a.put o.dst undef) w
theorem wn_wp {P : Program} {m : Option Nat} {o : Oper} {a : Act} {w : World} {next next' : Act → World → Prop} {Q : Exit → Act → World → Prop} (hn : ∀ a w, next a w → next' a w) (h : wn P o a w next) : o.wpIn (fen m) 0 P a w next' Q := by
  refine ⟨fun _ _ => trivial, ?_⟩
  have hd : ∀ c, o.op ≠ .defer c := by
    intro c hc
    unfold wn at h
    simp only [execOp, hc] at h
    rw [Sem.run_bind] at h
    generalize (resolve a.eval c o.type).run P w = r at h
    cases r with
    | halt => exact h
    | ok d w' => simp at h
  rw [Oper.semAt_eq _ _ _ hd]
  unfold wn at h
  generalize (execOp a.eval o).run P w = r at h ⊢
  cases r with
  | halt => exact h.elim
  | ok n w' =>
    cases n <;> first
      | exact hn _ _ h
      | exact h.elim
      | exact ⟨fun h => by simp [Fence.wide] at h, (callsIn_wide (n := 0)).2 (h.mono fun e w'' ⟨v, he, hx⟩ => by subst he; exact hn _ _ hx)⟩
      | exact ⟨fun h => by simp [Fence.wide] at h, RoundIn.mono h fun e w'' ⟨v, he, hx⟩ => by subst he; exact hn _ _ hx⟩
theorem wn_mono {P : Program} {o : Oper} {a : Act} {w : World} {next next' : Act → World → Prop} (hn : ∀ a w, next a w → next' a w) (h : wn P o a w next) : wn P o a w next' := by
  unfold wn at h ⊢
  generalize (execOp a.eval o).run P w = r at h ⊢
  cases r with
  | halt => exact h.elim
  | ok n w' =>
    cases n <;> first
      | exact hn _ _ h
      | exact h.elim
      | exact h.mono fun e w'' ⟨v, he, hx⟩ => ⟨v, he, hn _ _ hx⟩
theorem wl_wp {P : Program} {m : Option Nat} {ops : Array Oper} {Q : Exit → Act → World → Prop} : ∀ (l : List Oper) (a : Act) (w : World), wl P ops (Q .normal) l a w → wpListIn (fen m) 0 P ops Q l a w
  | [], _, _, h => h
  | o :: rest, a, w, h => by
    simp only [wl] at h
    simp only [wpListIn]
    split
    · rename_i hw; simp only [hw, if_true] at h; exact wn_wp (fun a w h => wl_wp rest a w h) h
    · rename_i hw; simp only [hw] at h; exact ⟨fun _ _ => trivial, wl_wp rest _ w h⟩
/-- The operations that are not carried out yet, in whatever order the region allows. -/
def opN (P : Program) (ops : Array Oper) (i : Nat) (K : Act → World → Prop) (a : Act) (w : World) : Prop :=
  match ops[i]? with
  | none => K a w
  | some o => if Region.wanted o (yielded ops a.tmps) then wn P o a w K else K (a.put o.dst undef) w
def anyN (P : Program) (ops : Array Oper) (Q : Act → World → Prop) : Nat → Array Bool → Act → World → Prop
  | 0, listed, a, w => Region.ready .any ops listed = [] ∧ Q a w
  | f + 1, listed, a, w => (Region.ready .any ops listed = [] → Q a w) ∧ ∀ i ∈ Region.ready .any ops listed, opN P ops i (anyN P ops Q f (listed.setIfInBounds i true)) a w
inductive It where
  | code (c : Code)
  | blk (id : Nat)
  | lp (J : Act → World → Prop)
  | da (arr : Array Oper) (f : Nat) (listed : Array Bool)
def cont (P : Program) (m : Option Nat) (Q : Exit → Act → World → Prop) : List It → Exit → Act → World → Prop
  | [] => Q
  | .code c :: k => Exit.then (fun a w => c.wpIn (fen m) 0 P (cont P m Q k) a w) (cont P m Q k)
  | .blk id :: k => Exit.inBlock id (cont P m Q k)
  | .lp J :: k => Exit.then J (cont P m Q k)
  | .da arr f listed :: k => Exit.then (anyN P arr (cont P m Q k .normal) f listed) (cont P m Q k)
def C (X : Cx) (k : List It) (L : LL) (fs : List MF) (own : List Res) : Prop :=
  ∀ g a, St X L fs own g a → cont X.P X.rd X.Q k .normal a g.w
def S (X : Cx) (arr : Array Oper) (l : List Oper) (k : List It) (L : LL) (fs : List MF) (own : List Res) : Prop :=
  ∀ g a, St X L fs own g a → wl X.P arr (cont X.P X.rd X.Q k .normal) l a g.w

section
variable {X : Cx} {k : List It} {L : LL} {fs : List MF} {own : List Res}
theorem St.sub {g a L' fs' own' r} (h : St X L fs own g a) (hL : LSub L' L) (hf : Subs fs fs') (ho : Split own own' r) : St X L' fs' own' g a := by
  have hp := h.own.perm ho.perm
  refine ⟨h.kn.sub hL, hf.all h.all, hp.left, h.ext, fun b hb => h.new b ?_⟩
  exact (blks_perm ho.perm).symm.subset (by simp [hb])
theorem St.subL {g a L'} (h : St X L fs own g a) (hL : LSub L' L) : St X L' fs own g a := ⟨h.kn.sub hL, h.all, h.own, h.ext, h.new⟩
theorem C_weak {L' fs' own' r} (hL : LSub L' L) (hf : Subs fs fs') (ho : Split own own' r) (h : C X k L' fs' own') : C X k L fs own :=
  fun g a s => h g a (s.sub hL hf ho)
theorem C_keep (is : List Nat) {L'} (hL : keepL L is [] = some L') (h : C X k L' fs own) : C X k L fs own :=
  fun g a s => h g a (s.subL (keepL_sub is [] L' (fun i v hv => by simp [lk] at hv) hL))
theorem C_seq {x y : Code} (h : C X (.code x :: .code y :: k) L fs own) : C X (.code (.seq x y) :: k) L fs own :=
  fun g a s => wpIn_seq (h g a s)
/-- Likewise, what is behind x under a name. -/
theorem C_seqh {x y : Code} (h : ∀ K, K = It.code y :: k → C X (.code x :: K) L fs own) : C X (.code (.seq x y) :: k) L fs own :=
  C_seq (h _ rfl)
theorem C_skip (h : C X k L fs own) : C X (.code .skip :: k) L fs own := fun g a s => wpIn_skip (h g a s)
theorem C_block {id : Nat} {c : Code} (h : C X (.code c :: .blk id :: k) L fs own) : C X (.code (.block id c) :: k) L fs own :=
  fun g a s => wpIn_block (h g a s)
theorem C_blk {id : Nat} (h : C X k L fs own) : C X (.blk id :: k) L fs own := fun g a s => h g a s
def popTo (id : Nat) : List It → Option (List It)
  | [] => none
  | .blk id' :: k => match Nat.beq id id' with | true => some k | false => popTo id k
  | .code _ :: k => popTo id k
  | .lp _ :: k => popTo id k
  | .da _ _ _ :: k => popTo id k
theorem popTo_cont {P m Q id} : ∀ {k k' : List It}, popTo id k = some k' → ∀ a w, cont P m Q k (.exit id) a w = cont P m Q k' .normal a w
  | [], _, h, _, _ => by simp [popTo] at h
  | .blk id' :: k, k', h, a, w => by
    simp only [popTo] at h
    split at h
    · rename_i hb
      have : id = id' := Nat.eq_of_beq_eq_true hb
      cases h
      simp [cont, Exit.inBlock, this]
    · rename_i hb
      have : id ≠ id' := fun e => by subst e; rw [Nat.beq_refl] at hb; cases hb
      simp only [cont, Exit.inBlock, this, if_false]
      exact popTo_cont h a w
  | .code _ :: k, k', h, a, w => popTo_cont (k := k) (by simpa [popTo] using h) a w
  | .lp _ :: k, k', h, a, w => popTo_cont (k := k) (by simpa [popTo] using h) a w
  | .da _ _ _ :: k, k', h, a, w => popTo_cont (k := k) (by simpa [popTo] using h) a w
theorem C_exit {id : Nat} {k'} (hp : popTo id k = some k') (h : C X k' L fs own) : C X (.code (.exit id) :: k) L fs own :=
  fun g a s => wpIn_exit (by rw [popTo_cont hp]; exact h g a s)
theorem cont_ret {P m Q} : ∀ (k : List It) a w, cont P m Q k .ret a w = Q .ret a w
  | [], _, _ => rfl
  | .blk _ :: k, a, w => cont_ret k a w
  | .code _ :: k, a, w => cont_ret k a w
  | .lp _ :: k, a, w => cont_ret k a w
  | .da _ _ _ :: k, a, w => cont_ret k a w
theorem C_cond {c : Operand} {x y : Code} {b : Bool} (hc : evo L c = some (.bool b)) (ht : b = true → C X (.code x :: k) L fs own) (hf : b = false → C X (.code y :: k) L fs own) :
    C X (.code (.cond c x y) :: k) L fs own :=
  fun g a s => wpIn_cond_split (s.kn.eval hc) (fun h => ht h g a s) (fun h => hf h g a s)
theorem C_cond_t {c : Operand} {x y : Code} (hc : evo L c = some (.bool true)) (h : C X (.code x :: k) L fs own) : C X (.code (.cond c x y) :: k) L fs own :=
  fun g a s => wpIn_cond_true (s.kn.eval hc) (h g a s)
theorem C_cond_f {c : Operand} {x y : Code} (hc : evo L c = some (.bool false)) (h : C X (.code y :: k) L fs own) : C X (.code (.cond c x y) :: k) L fs own :=
  fun g a s => wpIn_cond_false (s.kn.eval hc) (h g a s)
/-- A test that is a proposition. -/
theorem C_if {c : Operand} {x y : Code} {p : Prop} [Decidable p] (hc : evo L c = some (.bool (decide p))) (ht : p → C X (.code x :: k) L fs own) (hf : ¬ p → C X (.code y :: k) L fs own) :
    C X (.code (.cond c x y) :: k) L fs own :=
  C_cond hc (fun h => ht (of_decide_eq_true h)) (fun h => hf (of_decide_eq_false h))
/-- A loop: the state at its head is 'st s'. -/
theorem C_loop {σ : Type} (I : σ → Prop) (μ : σ → Nat) (Ls : σ → LL) (Fs : σ → List MF) (Os : σ → List Res) {body : Code} {r0 : List Res} (s0 : σ) (h0 : I s0)
    (hL : subL L (Ls s0)) (hF : Subs fs (Fs s0)) (hO : Split own (Os s0) r0)
    (round : ∀ (J : Act → World → Prop) s, I s → (∀ s' {L' fs' own' r'}, I s' → μ s' < μ s → (_ : subL L' (Ls s') := by repeat (first | exact trivial | refine ⟨rfl, ?_⟩ | refine ⟨intE (by omega), ?_⟩)) → (_ : Subs fs' (Fs s') := by repeat constructor) → (_ : Split own' (Os s') r' := by repeat constructor) → C X (.lp J :: k) L' fs' own') →
      C X (.code body :: .lp J :: k) (Ls s) (Fs s) (Os s)) :
    C X (.code (.loop body) :: k) L fs own := by
  intro g a hs
  exact wpIn_loop_s (fun s a w => I s ∧ ∃ g', St X (Ls s) (Fs s) (Os s) g' a ∧ g'.w = w) μ (fun s a w ⟨hI, g', hst, hw⟩ => by
    subst hw
    exact round (fun a' w' => ∃ s', (I s' ∧ ∃ g', St X (Ls s') (Fs s') (Os s') g' a' ∧ g'.w = w') ∧ μ s' < μ s) s hI
      (fun s' {L' fs' own' r'} h1 h2 h3 h4 h5 g2 a' hst' => ⟨s', ⟨h1, g2, hst'.sub (subL_sub _ h3) h4 h5, rfl⟩, h2⟩) g' a hst) s0 a g.w
    ⟨h0, g, hs.sub (subL_sub _ hL) hF hO, rfl⟩
end
end Go.KX

/- Contracts of functions; the steps of a region; pure operations in one stroke. No program in sight. -/
namespace Go.KX

/-! ### Contracts -/
def Callable (P : Program) (f : FuncId) : Prop := ∃ fn, P.funcs[f]? = some fn ∧ fn.body.isSome = true ∧ (fn.name == "runtime.NumGoroutine") = false
/-- What a call comes to: it returns, and touches what it owns alone. -/
structure Ret (own : List Res) (g : GW) (R : Value → List MF → List Res → Prop) (e : Ending) (w' : World) : Prop where
  ex : ∃ v fs' own' g', e = .returned v ∧ R v fs' own' ∧ g'.w = w' ∧ Ext (blks own) g g' ∧ All fs' g' ∧ Own own' g' ∧ ∀ b ∈ blks own', b ∈ blks own ∨ g.w.heap.size ≤ b
def Spx (P : Program) (f : FuncId) (args : Array Value) (fs : List MF) (own : List Res) (R : Value → List MF → List Res → Prop) : Prop :=
  Callable P f ∧ ∀ g, All fs g → Own own g → Calls P f args g.w (Ret own g R)
theorem Spx.mono {P f args fs own} {R R' : Value → List MF → List Res → Prop} (h : Spx P f args fs own R) (hr : ∀ v fs' own', R v fs' own' → R' v fs' own') : Spx P f args fs own R' :=
  ⟨h.1, fun g ha ho => (h.2 g ha ho).mono fun _ _ ⟨v, fs', own', g', h1, h2, h3⟩ => ⟨v, fs', own', g', h1, hr _ _ _ h2, h3⟩⟩
/-- More facts, and more owned, than the contract asks: the rest stays. -/
theorem Spx.frame {P f args fs own fs0 own0 r} {R : Value → List MF → List Res → Prop} (h : Spx P f args fs own R) (hF : Subs fs0 fs) (hO : Split own0 own r) :
    Spx P f args fs0 own0 (fun v fs' own' => ∃ fs1 own1, R v fs1 own1 ∧ fs' = fs1 ++ fs0 ∧ own' = own1 ++ r) := by
  refine ⟨h.1, fun g ha ho => ?_⟩
  have ho' := ho.perm hO.perm
  refine (h.2 g (hF.all ha) ho'.left).mono ?_
  rintro e w' ⟨v, fs', own', g', rfl, hR, rfl, hE, hA, hO', hN⟩
  have hp := blks_perm hO.perm
  refine ⟨v, fs' ++ fs0, own' ++ r, g', rfl, ⟨fs', own', hR, rfl, rfl⟩, rfl, ?_, hA.append (ha.mono hE.toFExt), ho'.frame hE hO' hN, ?_⟩
  · exact ⟨hE.toFExt, fun b hb hn => hE.keep b hb (fun hx => hn (hp.symm.subset (by simp [hx]))), fun b hb hn => hE.nofz b hb (fun hx => hn (hp.symm.subset (by simp [hx])))⟩
  · intro b hb
    rcases List.mem_append.1 (by simpa using hb) with hb | hb
    · exact (hN b hb).imp (fun hx => hp.symm.subset (by simp [hx])) id
    · exact .inl (hp.symm.subset (by simp [hb]))

/-- The slots of the arguments. -/
def initL : List Value → Nat → LL
  | [], _ => []
  | v :: vs, i => (i, v) :: initL vs (i + 1)
theorem initL_lk : ∀ (vs : List Value) (k i : Nat) (v : Value), lk (initL vs k) i = some v → ∃ j, i = k + j ∧ vs[j]? = some v
  | [], _, _, _, h => by simp [initL, lk] at h
  | u :: us, k, i, v, h => by
    by_cases hi : i = k
    · subst hi
      simp only [initL] at h
      rw [lk_cons_same] at h
      cases h
      exact ⟨0, by simp, by simp⟩
    · simp only [initL] at h
      rw [lk_cons_ne _ _ hi] at h
      obtain ⟨j, rfl, hj⟩ := initL_lk us (k + 1) i v h
      exact ⟨j + 1, by omega, by simpa using hj⟩
def resV (L : LL) : List ResultVar → Option (List Value)
  | [] => some []
  | .tmp t :: r => match lk L t with | some v => (match resV L r with | some vs => some (v :: vs) | none => none) | none => none
  | .cell _ _ :: _ => none
def resVal : List Value → Value
  | [v] => v
  | vs => .tuple vs.toArray
theorem run_results {P : Program} {w : World} {n df L a} {fn : Func} (hk : KN n df L a) {rs : List ResultVar} {vs : List Value} (hr : fn.results = rs.toArray) (hv : resV L rs = some vs) :
    (results fn a.tmps).run P w = .ok (resVal vs) w := by
  have key : ∀ (f : ResultVar → Sem Value), (∀ t, f (.tmp t) = pure (a.tmps.getD t undef)) → ∀ (rs : List ResultVar) (vs : List Value), resV L rs = some vs → rs.mapM f = pure vs := by
    intro f hf rs
    induction rs with
    | nil => intro vs h; simp [resV] at h; subst h; rfl
    | cons r rs ih =>
      intro vs h
      cases r with
      | cell c t => simp [resV] at h
      | tmp t =>
        simp only [resV] at h
        split at h
        · rename_i v hv
          split at h
          · rename_i us hu
            cases h
            rw [List.mapM_cons, hf t, hk.get hv, ih us hu]
            rfl
          · cases h
        · cases h
  unfold results
  rw [hr, List.mapM_toArray, key _ (fun _ => rfl) rs vs hv]
  show (do let vs' ← (List.toArray <$> (pure vs : Sem (List Value))); pure (if h : vs'.size = 1 then vs'[0] else Value.tuple vs') : Sem Value).run P w = _
  have : (List.toArray <$> (pure vs : Sem (List Value))) = (pure vs.toArray : Sem (Array Value)) := rfl
  rw [this]
  show Result.ok (if h : vs.toArray.size = 1 then vs.toArray[0] else Value.tuple vs.toArray) w = _
  match vs with
  | [] => rfl
  | [v] => rfl
  | v :: u :: us => simp [resVal]

/-- The results read as v. -/
def ResOK (X : Cx) (fn : Func) (L : LL) (fs : List MF) (own : List Res) (v : Value) : Prop :=
  ∀ g a, St X L fs own g a → (results fn a.tmps).run X.P g.w = .ok v g.w
theorem Res_tmps {X : Cx} {fn : Func} {L fs own} {rs : List ResultVar} {vs : List Value} {v : Value} (hr : fn.results = rs.toArray) (hv : resV L rs = some vs) (e : resVal vs = v) : ResOK X fn L fs own v :=
  fun _ _ s => e ▸ run_results s.kn hr hv

/-- A contract out of the function's body. -/
theorem Spx_of_body {P : Program} {f : FuncId} {fn : Func} {c : Code} {args : List Value} {fs : List MF} {own : List Res} {R : Value → List MF → List Res → Prop} (n : Nat)
    (hf : P.funcs[f]? = some fn) (hb : fn.body = some c) (hname : (fn.name == "runtime.NumGoroutine") = false) (hn : fn.ntmps = n) (hle : args.length ≤ n)
    (h : ∀ g0 Q, (∀ {k L fs' own' v fs1 own1 r}, ResOK ⟨P, n, g0, blks own, Q, none, []⟩ fn L fs' own' v → R v fs1 own1 → (_ : Subs fs' fs1 := by repeat constructor) → (_ : Split own' own1 r := by repeat constructor) → C ⟨P, n, g0, blks own, Q, none, []⟩ (.code .ret :: k) L fs' own') →
      (∀ {L fs' own' v fs1 own1 r}, ResOK ⟨P, n, g0, blks own, Q, none, []⟩ fn L fs' own' v → R v fs1 own1 → (_ : Subs fs' fs1 := by repeat constructor) → (_ : Split own' own1 r := by repeat constructor) → C ⟨P, n, g0, blks own, Q, none, []⟩ [] L fs' own') →
      C ⟨P, n, g0, blks own, Q, none, []⟩ [.code c] (initL args 0) fs own) :
    Spx P f args.toArray fs own R := by
  refine ⟨⟨fn, hf, by simp [hb], hname⟩, fun g ha ho => ?_⟩
  refine calls_of_wp hf hb (wpIn_wide (n := 0) |>.1 ?_)
  have hpost : ∀ (a : Act) (g' : GW) L fs' own' v fs1 own1 r, ResOK ⟨P, n, g, blks own, bodyPost P fn (Ret own g R), none, []⟩ fn L fs' own' v → R v fs1 own1 → Subs fs' fs1 → Split own' own1 r →
      St ⟨P, n, g, blks own, bodyPost P fn (Ret own g R), none, []⟩ L fs' own' g' a →
      a.defers = [] ∧ ∃ v, (results fn a.tmps).run P g'.w = .ok v g'.w ∧ Ret own g R (.returned v) g'.w := by
    intro a g' L fs' own' v fs1 own1 r h1 h3 h4 h5 hst
    refine ⟨hst.kn.defers, v, h1 g' a hst, ⟨v, fs1, own1, g', rfl, h3, rfl, hst.ext, h4.all hst.all, (hst.own.perm h5.perm).left, fun b hb => hst.new b ?_⟩⟩
    exact (blks_perm h5.perm).symm.subset (by simp [hb])
  refine h g (bodyPost P fn (Ret own g R)) ?_ ?_ g _ ?_
  · intro k L fs' own' v fs1 own1 r h1 h3 h4 h5 g' a hst
    refine wpIn_ret ?_
    rw [cont_ret]
    exact hpost a g' L fs' own' v fs1 own1 r h1 h3 h4 h5 hst
  · intro L fs' own' v fs1 own1 r h1 h3 h4 h5 g' a hst
    exact hpost a g' L fs' own' v fs1 own1 r h1 h3 h4 h5 hst
  · refine ⟨⟨by simp [hn]; omega, rfl, ?_⟩, ha, ho, Ext.refl _ g, fun b hb => .inl hb⟩
    intro i v hi
    obtain ⟨j, rfl, hj⟩ := initL_lk args 0 i v hi
    have hlt : j < args.length := by
      rcases Nat.lt_or_ge j args.length with h | h
      · exact h
      · rw [List.getElem?_eq_none h] at hj; cases hj
    simp only [Nat.zero_add]
    rw [Array.getElem?_append_left (by simpa using hlt)]
    simpa using hj

/-! ### Regions -/
section
variable {X : Cx} {k : List It} {L : LL} {fs : List MF} {own : List Res} {arr : Array Oper} {l : List Oper} {o : Oper}
theorem C_region {id : Nat} (h : S X l.toArray l k L fs own) : C X (.code (.region id l.toArray false) :: k) L fs own := by
  intro g a s
  exact wpIn_region_lit (wl_wp l a g.w (Q := cont X.P X.rd X.Q k) (h g a s))
theorem S_nil (h : C X k L fs own) : S X arr [] k L fs own := fun g a s => h g a s
theorem S_keep (is : List Nat) {L'} (hL : keepL L is [] = some L') (h : S X arr l k L' fs own) : S X arr l k L fs own :=
  fun g a s => h g a (s.subL (keepL_sub is [] L' (fun i v hv => by simp [lk] at hv) hL))
def live (arr : Array Oper) (L : LL) (o : Oper) : Option Bool :=
  match o.guard with
  | none => some true
  | some (j, want) => match arr[j]? with
    | none => none
    | some oj => match oj.dst with
      | none => none
      | some t => match lk L t with
        | some (.bool b) => match b, want with
          | true, true => some true
          | false, false => some true
          | true, false => some false
          | false, true => some false
        | some (.tuple _) => some false
        | _ => none
theorem live_wanted {n df a r} (hk : KN n df L a) (h : live arr L o = some r) : Region.wanted o (yielded arr a.tmps) = r := by
  unfold live at h
  unfold Region.wanted
  split at h
  · rename_i hg; cases h; simp only [hg]
  · rename_i j want hg
    simp only [hg]
    split at h
    · cases h
    · rename_i oj hj
      split at h
      · cases h
      · rename_i t ht
        split at h
        · rename_i b hb
          have hv := hk.val t _ hb
          simp only [yielded, hj, Option.bind_some, ht, hv]
          cases b <;> cases want <;> simp at h <;> subst h <;> rfl
        · rename_i u hb
          have hv := hk.val t _ hb
          simp only [yielded, hj, Option.bind_some, ht, hv]
          cases h
          rfl
        · cases h
/-- The operation yields v, and leaves the world as it is. -/
def Yld (X : Cx) (o : Oper) (L : LL) (fs : List MF) (own : List Res) (v : Value) : Prop :=
  ∀ g a, St X L fs own g a → (execOp a.eval o).run X.P g.w = .ok (.value v) g.w
theorem St.put {g a} (s : St X L fs own g a) {d : Nat} (hn : Nat.blt d X.n = true) (v : Value) : St X ((d, v) :: L) fs own g (a.put (some d) v) :=
  ⟨s.kn.put hn v, s.all, s.own, s.ext, s.new⟩
theorem S_y {d : Nat} {v : Value} (hl : live arr L o = some true) (hd : o.dst = some d) (hn : Nat.blt d X.n = true) (hy : Yld X o L fs own v) (h : S X arr l k ((d, v) :: L) fs own) :
    S X arr (o :: l) k L fs own := by
  intro g a s
  simp only [wl, live_wanted s.kn hl, if_true, wn, hy g a s, hd]
  exact h g _ (s.put hn v)
theorem S_off {d : Nat} (hl : live arr L o = some false) (hd : o.dst = some d) (hn : Nat.blt d X.n = true) (h : S X arr l k ((d, undef) :: L) fs own) : S X arr (o :: l) k L fs own := by
  intro g a s
  simp only [wl, live_wanted s.kn hl, hd]
  exact h g _ (s.put hn undef)
theorem S_off0 (hl : live arr L o = some false) (hd : o.dst = none) (h : S X arr l k L fs own) : S X arr (o :: l) k L fs own := by
  intro g a s
  simp only [wl, live_wanted s.kn hl, hd]
  exact h g _ s
/-- A slot's bool, known by name: the two ways. -/
theorem lk_sub_same {i : Nat} {v : Value} (h : lk L i = some v) : LSub ((i, v) :: L) L := by
  intro j u hu
  by_cases hj : j = i
  · subst hj; rw [lk_cons_same] at hu; cases hu; exact h
  · rwa [lk_cons_ne _ _ hj] at hu
theorem S_bool (i : Nat) {b : Bool} (hi : lk L i = some (.bool b)) (ht : b = true → S X arr l k ((i, .bool true) :: L) fs own) (hf : b = false → S X arr l k ((i, .bool false) :: L) fs own) :
    S X arr l k L fs own := by
  intro g a s
  cases b with
  | true => exact ht rfl g a (s.subL (lk_sub_same hi))
  | false => exact hf rfl g a (s.subL (lk_sub_same hi))
theorem S_prop (i : Nat) {p : Prop} [Decidable p] (hi : lk L i = some (.bool (decide p))) (ht : p → S X arr l k ((i, .bool true) :: L) fs own) (hf : ¬ p → S X arr l k ((i, .bool false) :: L) fs own) :
    S X arr l k L fs own :=
  S_bool i hi (fun h => ht (of_decide_eq_true h)) (fun h => hf (of_decide_eq_false h))
/-- A slot said otherwise. -/
theorem S_as (i : Nat) {v v' : Value} (hi : lk L i = some v) (e : v = v') (h : S X arr l k ((i, v') :: L) fs own) : S X arr l k L fs own :=
  fun g a s => h g a (s.subL (lk_sub_same (e ▸ hi)))
theorem C_as (i : Nat) {v v' : Value} (hi : lk L i = some v) (e : v = v') (h : C X k ((i, v') :: L) fs own) : C X k L fs own :=
  fun g a s => h g a (s.subL (lk_sub_same (e ▸ hi)))
/-- Ghost steps. -/
theorem C_ghost {fs' own'} (hs : ∀ g a, St X L fs own g a → ∃ g', g'.w = g.w ∧ St X L fs' own' g' a) (h : C X k L fs' own') : C X k L fs own := by
  intro g a s
  obtain ⟨g', hw, s'⟩ := hs g a s
  exact hw ▸ h g' a s'
theorem S_ghost {fs' own'} (hs : ∀ g a, St X L fs own g a → ∃ g', g'.w = g.w ∧ St X L fs' own' g' a) (h : S X arr l k L fs' own') : S X arr l k L fs own := by
  intro g a s
  obtain ⟨g', hw, s'⟩ := hs g a s
  exact hw ▸ h g' a s'
/-- A fact that speaks of no world comes into the context. -/
theorem C_pure {f : MF} {φ : Prop} (hf : Has fs f) (hp : ∀ g, f.p g → φ) (h : φ → C X k L fs own) : C X k L fs own :=
  fun g a s => h (hp g (s.all f hf.mem)) g a s
theorem S_pure {f : MF} {φ : Prop} (hf : Has fs f) (hp : ∀ g, f.p g → φ) (h : φ → S X arr l k L fs own) : S X arr l k L fs own :=
  fun g a s => h (hp g (s.all f hf.mem)) g a s
theorem C_pureR {r : Res} {own'} {φ : Prop} (hr : Pick own r own') (hp : ∀ w, r.p w → φ) (h : φ → C X k L fs own) : C X k L fs own :=
  fun g a s => h (hp g.w (s.own.p r (hr.perm.symm.subset (.head _)))) g a s
theorem S_pureR {r : Res} {own'} {φ : Prop} (hr : Pick own r own') (hp : ∀ w, r.p w → φ) (h : φ → S X arr l k L fs own) : S X arr l k L fs own :=
  fun g a s => h (hp g.w (s.own.p r (hr.perm.symm.subset (.head _)))) g a s
/-- A fact that follows from what is known. -/
theorem C_fact {f : MF} (hp : ∀ g, All fs g → f.p g) (h : C X k L (f :: fs) own) : C X k L fs own :=
  fun g a s => h g a ⟨s.kn, (s.all).cons (hp g s.all), s.own, s.ext, s.new⟩
theorem S_fact {f : MF} (hp : ∀ g, All fs g → f.p g) (h : S X arr l k L (f :: fs) own) : S X arr l k L fs own :=
  fun g a s => h g a ⟨s.kn, (s.all).cons (hp g s.all), s.own, s.ext, s.new⟩

/-! ### Pure operations in one stroke -/
def evl (L : LL) : List Operand → Option (List Value)
  | [] => some []
  | x :: r => match evo L x with | some v => (match evl L r with | some vs => some (v :: vs) | none => none) | none => none
theorem KN.evals {n df a} (h : KN n df L a) : ∀ {xs : List Operand} {vs}, evl L xs = some vs → xs.map a.eval = vs
  | [], vs, e => by simp [evl] at e; simp [e]
  | x :: r, vs, e => by
    simp only [evl] at e
    split at e
    · rename_i v hv
      split at e
      · rename_i us hu
        cases e
        simp [h.eval hv, h.evals hu]
      · cases e
    · cases e
def pureV (L : LL) : Op → Option Value
  | .move x => evo L x
  | .assign x => evo L x
  | .pick c a b => match evo L c with
    | some (.bool true) => evo L a
    | some (.bool false) => evo L b
    | _ => none
  | .extract t i => match evo L t with
    | some (.tuple vs) => vs[i]?
    | _ => none
  | .unOp .not _ x => match evo L x with
    | some (.bool b) => some (.bool !b)
    | _ => none
  | .nilCheck x => match evo L x with
    | some (.pointer (some a)) => some (.pointer (some a))
    | some (.iface t v) => some (.iface t v)
    | some (.func (.func f) a c) => some (.func (.func f) a c)
    | _ => none
  | .makeFunc fn first captured => match evl L first.toList with
    | some vs => match evl L captured.toList with
      | some us => some (.func fn vs.toArray us.toArray)
      | none => none
    | none => none
  | .binOp .lss _ x y _ => match evo L x with
    | some (.int k a) => match evo L y with
      | some (.int k' b) => if k = k' then some (.bool (decide (a < b))) else none
      | _ => none
    | _ => none
  | .binOp .leq _ x y _ => match evo L x with
    | some (.int k a) => match evo L y with
      | some (.int k' b) => if k = k' then some (.bool (decide (a ≤ b))) else none
      | _ => none
    | _ => none
  | .binOp .gtr _ x y _ => match evo L x with
    | some (.int k a) => match evo L y with
      | some (.int k' b) => if k = k' then some (.bool (decide (b < a))) else none
      | _ => none
    | _ => none
  | .binOp .geq _ x y _ => match evo L x with
    | some (.int k a) => match evo L y with
      | some (.int k' b) => if k = k' then some (.bool (decide (b ≤ a))) else none
      | _ => none
    | _ => none
  | .binOp .eql _ x y _ => match evo L x with
    | some (.int k a) => match evo L y with
      | some (.int k' b) => if k = k' then some (.bool (decide (a = b))) else none
      | _ => none
    | _ => none
  | .binOp .neq _ x y _ => match evo L x with
    | some (.int k a) => match evo L y with
      | some (.int k' b) => if k = k' then some (.bool (decide (¬ a = b))) else none
      | _ => none
    | _ => none
  | _ => none
theorem pureV_run {P : Program} {w : World} {n df a} (hk : KN n df L a) {v : Value} (h : pureV L o.op = some v) : (execOp a.eval o).run P w = .ok (.value v) w := by
  have cmp : ∀ {x y : Operand} {f : Int → Int → Bool} {v : Value}, (match evo L x with
    | some (.int k a) => match evo L y with
      | some (.int k' b) => if k = k' then some (Value.bool (f a b)) else none
      | _ => none
    | _ => none) = some v → ∃ kk p q, a.eval x = .int kk p ∧ a.eval y = .int kk q ∧ v = .bool (f p q) := by
    intro x y f v h
    split at h
    · rename_i k p hx
      split at h
      · rename_i k' q hy
        split at h
        · rename_i hkk
          subst hkk
          cases h
          exact ⟨k, p, q, hk.eval hx, hk.eval hy, rfl⟩
        · cases h
      · cases h
    · cases h
  unfold pureV at h
  split at h
  · rename_i x ho; have e := hk.eval h; unfold execOp; rw [ho]; show Sem.run P (pure (Next.value (a.eval x))) w = _; rw [e]; rfl
  · rename_i x ho; have e := hk.eval h; unfold execOp; rw [ho]; show Sem.run P (pure (Next.value (a.eval x))) w = _; rw [e]; rfl
  · rename_i c x y ho
    split at h
    · rename_i hc; simp only [execOp, ho, hk.eval hc, hk.eval h]; rfl
    · rename_i hc; simp only [execOp, ho, hk.eval hc, hk.eval h]; rfl
    · cases h
  · rename_i t i ho
    split at h
    · rename_i vs hc
      simp only [execOp, ho, hk.eval hc, Instr.extract, h]; rfl
    · cases h
  · rename_i x ho
    split at h
    · rename_i b hb; cases h; simp only [execOp, ho, hk.eval hb, Op.unary]; rfl
    · cases h
  · rename_i x ho
    split at h
    · rename_i b hb; cases h; simp only [execOp, ho, hk.eval hb]; rfl
    · rename_i b hb; cases h; simp only [execOp, ho, hk.eval hb]; rfl
    · rename_i b hb; cases h; simp only [execOp, ho, hk.eval hb]; rfl
    · cases h
  · rename_i fn first captured ho
    split at h
    · rename_i vs hv
      split at h
      · rename_i us hu
        cases h
        have e1 := hk.evals hv
        have e2 := hk.evals hu
        have e1' : first.map a.eval = vs.toArray := Array.ext' (by simpa using e1)
        have e2' : captured.map a.eval = us.toArray := Array.ext' (by simpa using e2)
        simp only [execOp, ho, Instr.makeFunc, e1', e2']; rfl
      · cases h
    · cases h
  · rename_i x y _ ho
    obtain ⟨kk, p, q, h1, h2, rfl⟩ := cmp (f := fun a b => decide (a < b)) h
    simp only [execOp, ho, h1, h2, binOp_lss, eqGuard_lss]; rfl
  · rename_i x y _ ho
    obtain ⟨kk, p, q, h1, h2, rfl⟩ := cmp (f := fun a b => decide (a ≤ b)) h
    simp only [execOp, ho, h1, h2, binOp_leq, eqGuard_leq]; rfl
  · rename_i x y _ ho
    obtain ⟨kk, p, q, h1, h2, rfl⟩ := cmp (f := fun a b => decide (b < a)) h
    simp only [execOp, ho, h1, h2, binOp_gtr, eqGuard_gtr]; rfl
  · rename_i x y _ ho
    obtain ⟨kk, p, q, h1, h2, rfl⟩ := cmp (f := fun a b => decide (b ≤ a)) h
    simp only [execOp, ho, h1, h2, binOp_geq, eqGuard_geq]; rfl
  · rename_i x y _ ho
    obtain ⟨kk, p, q, h1, h2, rfl⟩ := cmp (f := fun a b => decide (a = b)) h
    simp only [execOp, ho, h1, h2, binOp_eql, eqGuard_at_int]; rfl
  · rename_i x y _ ho
    obtain ⟨kk, p, q, h1, h2, rfl⟩ := cmp (f := fun a b => decide (¬ a = b)) h
    simp only [execOp, ho, h1, h2, binOp_neq, eqGuard_at_int, decide_not]; rfl
  · cases h
theorem Y_pure {v : Value} (h : pureV L o.op = some v) : Yld X o L fs own v := fun _ _ s => pureV_run s.kn h
def runN (n : Nat) (arr : Array Oper) : Nat → List Oper → LL → Option (List Oper × LL)
  | 0, l, L => some (l, L)
  | _ + 1, [], _ => none
  | m + 1, o :: r, L => match live arr L o with
    | some true => match o.dst with
      | some d => match Nat.blt d n with
        | true => match pureV L o.op with
          | some v => runN n arr m r ((d, v) :: L)
          | none => none
        | false => none
      | none => none
    | some false => match o.dst with
      | some d => match Nat.blt d n with
        | true => runN n arr m r ((d, undef) :: L)
        | false => none
      | none => runN n arr m r L
    | none => none
/-- The next m operations are pure, or off. -/
theorem S_run (m : Nat) {l' : List Oper} {L' : LL} (h : runN X.n arr m l L = some (l', L')) (hk : S X arr l' k L' fs own) : S X arr l k L fs own := by
  induction m generalizing l L with
  | zero => simp only [runN, Option.some.injEq, Prod.mk.injEq] at h; obtain ⟨rfl, rfl⟩ := h; exact hk
  | succ m ih =>
    cases l with
    | nil => simp [runN] at h
    | cons o r =>
      simp only [runN] at h
      split at h
      · rename_i hl
        split at h
        · rename_i d hd
          split at h
          · rename_i hn
            split at h
            · rename_i v hv
              exact S_y hl hd hn (Y_pure hv) (ih h)
            · cases h
          · cases h
        · cases h
      · rename_i hl
        split at h
        · rename_i d hd
          split at h
          · rename_i hn
            exact S_off hl hd hn (ih h)
          · cases h
        · rename_i hd
          exact S_off0 hl hd (ih h)
      · cases h

/-! ### Calls -/
/-- What the operation does, where it calls: the callee, its arguments. -/
def Ent (X : Cx) (o : Oper) (L : LL) (fs : List MF) (own : List Res) (f : FuncId) (args : Array Value) : Prop :=
  ∀ g a, St X L fs own g a → Callable X.P f → (execOp a.eval o).run X.P g.w = .ok (.enter f args) g.w
theorem St.frame {g a g' r fsc ownc fs' own'} (s : St X L fs own g a) (hO : Split own ownc r) (hE : Ext (blks ownc) g g') (hA : All fs' g') (hO' : Own own' g')
    (hN : ∀ b ∈ blks own', b ∈ blks ownc ∨ g.w.heap.size ≤ b) (_ : Subs fs fsc) : St X L (fs' ++ fs) (own' ++ r) g' a := by
  have ho := s.own.perm hO.perm
  have hp := blks_perm hO.perm
  have hnew : ∀ b ∈ blks ownc, b ∈ X.B0 ∨ X.g0.w.heap.size ≤ b := fun b hb => s.new b (hp.symm.subset (by simp [hb]))
  refine ⟨s.kn, hA.append (s.all.mono hE.toFExt), ho.frame hE hO' hN, s.ext.trans hE hnew, fun b hb => ?_⟩
  rcases List.mem_append.1 (by simpa using hb) with hb | hb
  · rcases hN b hb with h1 | h1
    · exact hnew b h1
    · exact .inr (Nat.le_trans s.ext.size h1)
  · exact s.new b (hp.symm.subset (by simp [hb]))
theorem S_enter {d : Nat} {f args fsc ownc r} {R : Value → List MF → List Res → Prop} (hl : live arr L o = some true) (hd : o.dst = some d) (hn : Nat.blt d X.n = true)
    (he : Ent X o L fs own f args) (hs : Spx X.P f args fsc ownc R)
    (h : ∀ v fs' own', R v fs' own' → S X arr l k ((d, v) :: L) (fs' ++ fs) (own' ++ r)) (hF : Subs fs fsc := by repeat constructor) (hO : Split own ownc r := by repeat constructor) : S X arr (o :: l) k L fs own := by
  intro g a s
  simp only [wl, live_wanted s.kn hl, if_true, wn, he g a s hs.1]
  refine (hs.2 g (hF.all s.all) (s.own.perm hO.perm).left).mono ?_
  rintro e w' ⟨v, fs', own', g', rfl, hR, rfl, hE, hA, hO', hN⟩
  simp only [hd]
  exact ⟨v, rfl, h v fs' own' hR g' _ ((s.frame hO hE hA hO' hN hF).put hn v)⟩
theorem S_enter0 {f args fsc ownc r} {R : Value → List MF → List Res → Prop} (hl : live arr L o = some true) (hd : o.dst = none)
    (he : Ent X o L fs own f args) (hs : Spx X.P f args fsc ownc R)
    (h : ∀ v fs' own', R v fs' own' → S X arr l k L (fs' ++ fs) (own' ++ r)) (hF : Subs fs fsc := by repeat constructor) (hO : Split own ownc r := by repeat constructor) : S X arr (o :: l) k L fs own := by
  intro g a s
  simp only [wl, live_wanted s.kn hl, if_true, wn, he g a s hs.1]
  refine (hs.2 g (hF.all s.all) (s.own.perm hO.perm).left).mono ?_
  rintro e w' ⟨v, fs', own', g', rfl, hR, rfl, hE, hA, hO', hN⟩
  simp only [hd]
  exact ⟨v, rfl, h v fs' own' hR g' _ (s.frame hO hE hA hO' hN hF)⟩
theorem run_callFunc {P : Program} {f : FuncId} (h : Callable P f) (args : Array Value) (w : World) : (callFunc f args).run P w = .ok (.enter f args) w := by
  obtain ⟨fn, h1, h2, h3⟩ := h
  have h4 : fn.body.isNone = false := by cases hb : fn.body <;> simp_all
  show (match P.funcs[f]? with | none => stuck "call: no such function" | some fn => _ : Sem Next).run P w = _
  rw [h1]
  simp only [h3, h4]
  rfl
/-- A plain call. -/
theorem E_fn {f : FuncId} {az : List Operand} {ts : Array TypeId} {vs : List Value} (ho : o.op = .call ⟨.value (.func f), az.toArray, ts⟩) (ha : evl L az = some vs) : Ent X o L fs own f vs.toArray := by
  intro g a s hc
  have e := s.kn.evals ha
  have e' : az.toArray.map a.eval = vs.toArray := by rw [← e]; simp
  simp only [execOp, ho, resolve, e', Act.eval]
  show (do let d ← Deferred.ofValue (.func (.func f) #[] #[]) vs.toArray; invoke d.target d.args : Sem Next).run X.P g.w = _
  show (callFunc f ((#[] ++ vs.toArray) ++ #[])).run X.P g.w = _
  rw [run_callFunc hc]
  simp
/-- A function value. -/
theorem E_val {f : FuncId} {fo : Operand} {fi ca : Array Value} {az : List Operand} {ts : Array TypeId} {vs : List Value} {args : Array Value} (ho : o.op = .call ⟨.value fo, az.toArray, ts⟩)
    (hf : evo L fo = some (.func (.func f) fi ca)) (ha : evl L az = some vs) (hargs : fi ++ vs.toArray ++ ca = args) : Ent X o L fs own f args := by
  intro g a s hc
  have e := s.kn.evals ha
  have e' : az.toArray.map a.eval = vs.toArray := by rw [← e]; simp
  simp only [execOp, ho, resolve, e', s.kn.eval hf]
  show (callFunc f ((fi ++ vs.toArray) ++ ca)).run X.P g.w = _
  rw [run_callFunc hc, hargs]
/-- A method of an interface value. -/
theorem E_inv {f : FuncId} {name : String} {ro : Operand} {t : TypeId} {v recv : Value} {az : List Operand} {ts : Array TypeId} {vs : List Value} (ho : o.op = .call ⟨.invoke ro name, az.toArray, ts⟩)
    (hr : evo L ro = some (.iface t v)) (ha : evl L az = some vs) (hm : ∀ w, (method (X.P.types.size + Made.depth) t v name).run X.P w = .ok (f, recv) w) : Ent X o L fs own f (recv :: vs).toArray := by
  intro g a s hc
  have e := s.kn.evals ha
  have e' : az.toArray.map a.eval = vs.toArray := by rw [← e]; simp
  simp only [execOp, ho, resolve, e', s.kn.eval hr]
  have hx : (#[Value.iface t v] ++ vs.toArray).extract 1 (#[Value.iface t v] ++ vs.toArray).size = vs.toArray := by simp
  have h0 : (#[Value.iface t v] ++ vs.toArray)[0]? = some (Value.iface t v) := by simp
  have hi : invoke (Target.fn (Fn.method name) #[]) (#[Value.iface t v] ++ vs.toArray) = callMethod (Value.iface t v) name vs.toArray := by
    simp only [invoke, h0, hx]
  show (invoke (Target.fn (Fn.method name) #[]) (#[Value.iface t v] ++ vs.toArray)).run X.P g.w = _
  rw [hi]
  have hmw := hm g.w
  unfold callMethod
  show (do let (f, receiver) ← method (X.P.types.size + Made.depth) t v name; callFunc f (#[receiver] ++ vs.toArray) : Sem Next).run X.P g.w = _
  rw [Sem.run_bind, hmw]
  show (callFunc f (#[recv] ++ vs.toArray)).run X.P g.w = _
  rw [run_callFunc hc]
  simp
end
end Go.KX

/- Operations on numbers, strings, cells and slices, as steps of the judgement. No program in sight. -/
namespace Go.KX

/-! ### Values -/
abbrev Bytes := List UInt8
def str (s : Bytes) : Value := .string ⟨s.toArray⟩
theorem str_size (s : Bytes) : (⟨s.toArray⟩ : ByteArray).size = s.length := by rw [Go.Lib.size_eq]
theorem exists_str (b : ByteArray) : ∃ s : Bytes, Value.string b = str s := ⟨b.data.toList, by unfold str; rw [Go.Lib.mk_data]⟩
/-- How elements of a slice lie in cells. -/
structure El (α : Type) where
  sz : Nat
  enc : α → List Value
  len : ∀ a, (enc a).length = sz
  pos : 0 < sz
  one : ∀ a, ∀ u ∈ enc a, u.oneCell' = true
def flat {α} (E : El α) (xs : List α) : List Value := xs.flatMap E.enc
theorem flat_len {α} (E : El α) (xs : List α) : (flat E xs).length = xs.length * E.sz := by
  induction xs with
  | nil => simp [flat]
  | cons x xs ih => simp only [flat, List.flatMap_cons, List.length_append, E.len, List.length_cons] at ih ⊢; rw [ih, Nat.add_mul]; omega
theorem flat_one {α} (E : El α) (xs : List α) : ∀ u ∈ flat E xs, u.oneCell' = true := by
  intro u hu
  obtain ⟨a, _, h⟩ := List.mem_flatMap.1 hu
  exact E.one a u h
@[simp] theorem flat_nil {α} (E : El α) : flat E [] = [] := rfl
@[simp] theorem flat_append {α} (E : El α) (xs ys : List α) : flat E (xs ++ ys) = flat E xs ++ flat E ys := by simp [flat]
theorem flat_drop {α} (E : El α) : ∀ (xs : List α) (n : Nat), (flat E xs).drop (n * E.sz) = flat E (xs.drop n)
  | [], n => by simp
  | x :: xs, 0 => by simp
  | x :: xs, n + 1 => by
    rw [List.drop_succ_cons, ← flat_drop E xs n]
    show (E.enc x ++ flat E xs).drop _ = _
    rw [show (n + 1) * E.sz = (E.enc x).length + n * E.sz by rw [E.len, Nat.add_mul]; omega, ← List.drop_drop, List.drop_left]
theorem flat_take {α} (E : El α) : ∀ (xs : List α) (n : Nat), (flat E xs).take (n * E.sz) = flat E (xs.take n)
  | [], n => by simp
  | x :: xs, 0 => by simp
  | x :: xs, n + 1 => by
    rw [List.take_succ_cons]
    show (E.enc x ++ flat E xs).take _ = E.enc x ++ flat E (xs.take n)
    rw [← flat_take E xs n, show (n + 1) * E.sz = (E.enc x).length + n * E.sz by rw [E.len, Nat.add_mul]; omega, List.take_length_add_append]
theorem flat_get {α} (E : El α) (xs : List α) (i j : Nat) (x : α) (v : Value) (hi : xs[i]? = some x) (hj : (E.enc x)[j]? = some v) : (flat E xs)[i * E.sz + j]? = some v := by
  rw [← List.getElem?_drop, flat_drop]
  have : xs.drop i = x :: xs.drop (i + 1) := by
    have hlt : i < xs.length := by
      rcases Nat.lt_or_ge i xs.length with h | h
      · exact h
      · rw [List.getElem?_eq_none h] at hi; cases hi
    rw [List.drop_eq_getElem_cons hlt]
    rw [List.getElem?_eq_getElem hlt] at hi
    cases hi; rfl
  rw [this]
  show (E.enc x ++ flat E (xs.drop (i + 1)))[j]? = _
  have hj' : j < (E.enc x).length := by
    rcases Nat.lt_or_ge j (E.enc x).length with h | h
    · exact h
    · rw [List.getElem?_eq_none h] at hj; cases hj
  rw [List.getElem?_append_left hj', hj]
def elB : El UInt8 := ⟨1, fun b => [.int .u8 b.toNat], fun _ => rfl, by decide, fun _ u h => by simp at h; subst h; rfl⟩
def elS : El Bytes := ⟨1, fun s => [str s], fun _ => rfl, by decide, fun _ u h => by simp at h; subst h; rfl⟩
def elI (k : IntKind) : El Int := ⟨1, fun i => [.int k i], fun _ => rfl, by decide, fun _ u h => by simp at h; subst h; rfl⟩
/-- Elements of one cell, whatever it be. -/
def elV : El { v : Value // v.oneCell' = true } := ⟨1, fun v => [v.1], fun _ => rfl, by decide, fun v u h => by simp at h; subst h; exact v.2⟩

/-! ### Persistent facts on memory -/
theorem cell_same {w w' : World} {b o : Nat} (h : w'.heap[b]? = w.heap[b]?) : w'.cell? ⟨b, o, none⟩ = w.cell? ⟨b, o, none⟩ := World.cell?_of_block h
/-- A frozen slice. -/
def SlM {α : Type} (E : El α) (a : Option Addr) (c : Nat) (ys : List α) : MF where
  p g := ys.length ≤ maxLen ∧ ys.length ≤ c ∧ (ys ≠ [] → ∃ b o, a = some ⟨b, o, none⟩ ∧ g.fz b ∧ ∀ (j : Nat) x, (flat E ys)[j]? = some x → g.w.cell? ⟨b, o + j, none⟩ = some x)
  mono := by
    intro g g' e ⟨h1, h2, h3⟩
    refine ⟨h1, h2, fun hn => ?_⟩
    obtain ⟨b, o, rfl, hf, hc⟩ := h3 hn
    exact ⟨b, o, rfl, e.fz b hf, fun j x hx => by rw [cell_same (e.same b hf)]; exact hc j x hx⟩
/-- Frozen cells behind an address. -/
def PtM (b o : Nat) (cs : List Value) : MF where
  p g := g.fz b ∧ ∀ (j : Nat) x, cs[j]? = some x → g.w.cell? ⟨b, o + j, none⟩ = some x
  mono := by
    intro g g' e ⟨h1, h2⟩
    exact ⟨e.fz b h1, fun j x hx => by rw [cell_same (e.same b h1)]; exact h2 j x hx⟩
theorem SlM.le {α} {E : El α} {a c ys} (g) (h : (SlM E a c ys).p g) : ys.length ≤ 9223372036854775807 := h.1
theorem SlM.nil {α} (E : El α) (a : Option Addr) (c : Nat) (g : GW) : (SlM E a c []).p g := ⟨by simp, by simp, fun h => (h rfl).elim⟩

/-! ### What is owned -/
def Res.blk (b : Nat) (o : Obj) : Res where
  bs := [b]
  p w := w.heap[b]? = some o
  loc h hp := by rw [h _ (.head _)]; exact hp
def vbs (a : Option Addr) : List Nat := match a with | some a => [a.block] | none => []
/-- A slice in a block of its own. T: the elements' type. -/
def Res.arr {α : Type} (E : El α) (T : TypeId) (a : Option Addr) (c : Nat) (ys : List α) : Res where
  bs := vbs a
  p w := w.ownsRow 0 T E.sz (.slice a ys.length c) ys.length (flat E ys)
  loc := by
    intro w w' h hp
    obtain ⟨h1, h2⟩ := hp
    refine ⟨h1, ?_⟩
    rcases h2 with h2 | ⟨gg, cap, cur, hv, hb, hh, r⟩
    · exact .inl h2
    · refine .inr ⟨gg, cap, cur, hv, hb, ?_, r⟩
      injection hv with hv1
      subst hv1
      rw [h gg (by simp [vbs])]
      exact hh
/-- A nil slice: nothing is owned. -/
theorem arr_nil {α} (E : El α) (T : TypeId) : (Res.arr E T none 0 ([] : List α)).bs = [] := rfl

section
variable {X : Cx} {k : List It} {L : LL} {fs : List MF} {own : List Res} {arr : Array Oper} {l : List Oper} {o : Oper}

/-- A nil slice may be called owned. -/
theorem Own.arr_nil {g} {α} (E : El α) (T : TypeId) (h : Own own g) : Own (Res.arr E T none 0 ([] : List α) :: own) g := by
  refine ⟨fun r hr => ?_, h.nodup, h.lt, h.nfz⟩
  cases hr with
  | head => exact ⟨by simp, .inl ⟨rfl, rfl⟩⟩
  | tail _ hm => exact h.p r hm
theorem C_nilarr {α} (E : El α) (T : TypeId) (h : C X k L fs (Res.arr E T none 0 ([] : List α) :: own)) : C X k L fs own :=
  fun g a s => h g a ⟨s.kn, s.all, s.own.arr_nil E T, s.ext, s.new⟩
theorem S_nilarr {α} (E : El α) (T : TypeId) (h : S X arr l k L fs (Res.arr E T none 0 ([] : List α) :: own)) : S X arr l k L fs own :=
  fun g a s => h g a ⟨s.kn, s.all, s.own.arr_nil E T, s.ext, s.new⟩
/-- What is owned is laid open: it is not written any more. -/
theorem St.publish {g a} {α} {E : El α} {T ad c ys own'} (hr : Pick own (Res.arr (α := α) E T ad c ys) own') (s : St X L fs own g a) :
    ∃ g', g'.w = g.w ∧ St X L (SlM E ad c ys :: fs) own' g' a := by
  have hp := hr.perm
  have ho := s.own.perm hp
  have hown := ho.p _ (.head _)
  have hnew : ∀ b ∈ vbs ad, b ∈ X.B0 ∨ X.g0.w.heap.size ≤ b := fun b hb => s.new b ((blks_perm hp).symm.subset (by simp [Res.arr, hb]))
  let g' : GW := ⟨g.w, fun b => g.fz b ∨ b ∈ vbs ad, fun b hb => hb.elim (g.lt b) (fun h => ho.lt b (by simp [Res.arr, h]))⟩
  have hF : FExt g g' := ⟨rfl, rfl, rfl, Nat.le_refl _, fun _ h => .inl h, fun _ _ => rfl⟩
  have hnd : (vbs ad ++ blks own').Nodup := ho.nodup
  have hd : ∀ b ∈ vbs ad, b ∉ blks own' := fun b hb hx => (List.nodup_append.1 hnd).2.2 b hb b hx rfl
  refine ⟨g', rfl, s.kn, All.cons ?_ (s.all.mono hF), ?_, ?_, fun b hb => s.new b ((blks_perm hp).symm.subset (by simp [hb]))⟩
  · obtain ⟨h1, h2⟩ := hown
    rcases h2 with ⟨hv, hn⟩ | ⟨gg, cap, cur, hv, hb, hh, hnc, hcm, hcs, htk⟩
    · have : ys = [] := List.eq_nil_of_length_eq_zero hn
      subst this
      exact SlM.nil E _ _ _
    · injection hv with e1 e2 e3
      subst e1
      refine ⟨Nat.le_trans hnc hcm, by omega, fun _ => ⟨gg, 0, rfl, .inr (by simp [vbs]), fun j x hx => ?_⟩⟩
      have hlt : j < ys.length * E.sz := by
        rw [← flat_len]
        rcases Nat.lt_or_ge j (flat E ys).length with h | h
        · exact h
        · rw [List.getElem?_eq_none h] at hx; cases hx
      show g.w.cell? _ = _
      simp only [World.cell?, hh, Nat.zero_add]
      rw [← htk, List.getElem?_take_of_lt hlt] at hx
      simpa using hx
  · exact ⟨fun r hr' => ho.p r (.tail _ hr'), (List.nodup_append.1 hnd).2.1, fun b hb => ho.lt b (by simp [hb]), fun b hb hf => hf.elim (ho.nfz b (by simp [hb])) (fun hx => hd b hx hb)⟩
  · refine ⟨s.ext.toFExt.trans hF, s.ext.keep, fun b hb hn hf => ?_⟩
    rcases hf with hf | hf
    · exact s.ext.nofz b hb hn hf
    · rcases hnew b hf with h1 | h1
      · exact (hn h1).elim
      · omega
theorem C_pub {α} {E : El α} {T ad c ys own'} (hr : Pick own (Res.arr (α := α) E T ad c ys) own') (h : C X k L (SlM E ad c ys :: fs) own') : C X k L fs own :=
  C_ghost (fun _ _ s => s.publish hr) h
theorem S_pub {α} {E : El α} {T ad c ys own'} (hr : Pick own (Res.arr (α := α) E T ad c ys) own') (h : S X arr l k L (SlM E ad c ys :: fs) own') : S X arr l k L fs own :=
  S_ghost (fun _ _ s => s.publish hr) h
theorem arr_le {α} {E : El α} {T ad c ys} (w : World) (h : (Res.arr (α := α) E T ad c ys).p w) : ys.length ≤ 9223372036854775807 := by
  obtain ⟨h1, h2⟩ := h
  rcases h2 with ⟨hv, hn⟩ | ⟨gg, cap, cur, hv, hb, hh, hnc, hcm, _⟩
  · omega
  · exact Nat.le_trans hnc hcm

/-! ### Steps that tell something new -/
def YX (X : Cx) (o : Oper) (L : LL) (fs : List MF) (own : List Res) (K : Value → List MF → Prop) : Prop :=
  ∀ g a, St X L fs own g a → ∃ v fs', K v fs' ∧ (execOp a.eval o).run X.P g.w = .ok (.value v) g.w ∧ All fs' g
theorem S_yx {d : Nat} {K} (hl : live arr L o = some true) (hd : o.dst = some d) (hn : Nat.blt d X.n = true) (hy : YX X o L fs own K) (h : ∀ v fs', K v fs' → S X arr l k ((d, v) :: L) (fs' ++ fs) own) :
    S X arr (o :: l) k L fs own := by
  intro g a s
  obtain ⟨v, fs', hK, hr, hA⟩ := hy g a s
  simp only [wl, live_wanted s.kn hl, if_true, wn, hr, hd]
  exact h v fs' hK g _ (St.put ⟨s.kn, hA.append s.all, s.own, s.ext, s.new⟩ hn v)
/-! ### Numbers -/
theorem Y_bin {op : BinOp} {T yT : TypeId} {x y : Operand} {vx vy v : Value} (ho : o.op = .binOp op T x y yT) (hx : evo L x = some vx) (hy : evo L y = some vy) (hg : eqGuard op T x y vx vy = pure ())
    (hb : ∀ w, (binOp op T vx vy).run X.P w = .ok v w) : Yld X o L fs own v := by
  intro g a s
  simp only [execOp, ho, s.kn.eval hx, s.kn.eval hy, hg]
  simp [hb]
theorem wrap_i64 {x : Int} (h1 : -9223372036854775808 ≤ x) (h2 : x ≤ 9223372036854775807) : IntKind.i64.wrap x = x := by
  simp only [IntKind.wrap, IntKind.bits, IntKind.signed]
  simp only [Bool.true_and]
  split <;> rename_i h <;> simp at h <;> omega
theorem wrap_u64 {x : Int} (h1 : 0 ≤ x) (h2 : x ≤ 18446744073709551615) : IntKind.u64.wrap x = x := by
  simp only [IntKind.wrap, IntKind.bits, IntKind.signed]
  simp only [Bool.false_and]
  simp
  omega
theorem wrap_u32 {x : Int} (h1 : 0 ≤ x) (h2 : x ≤ 4294967295) : IntKind.u32.wrap x = x := by
  simp only [IntKind.wrap, IntKind.bits, IntKind.signed]
  simp only [Bool.false_and]
  simp
  omega
theorem wrap_u8 {x : Int} (h1 : 0 ≤ x) (h2 : x ≤ 255) : IntKind.u8.wrap x = x := by
  simp only [IntKind.wrap, IntKind.bits, IntKind.signed]
  simp only [Bool.false_and]
  simp
  omega
theorem Y_add {T yT : TypeId} {x y : Operand} {kk : IntKind} {p q : Int} (ho : o.op = .binOp .add T x y yT) (hx : evo L x = some (.int kk p)) (hy : evo L y = some (.int kk q)) : Yld X o L fs own (.int kk (kk.wrap (p + q))) :=
  Y_bin ho hx hy rfl (fun w => by simp [binOp_add, Op.intArith])
theorem Y_sub {T yT : TypeId} {x y : Operand} {kk : IntKind} {p q : Int} (ho : o.op = .binOp .sub T x y yT) (hx : evo L x = some (.int kk p)) (hy : evo L y = some (.int kk q)) : Yld X o L fs own (.int kk (kk.wrap (p - q))) :=
  Y_bin ho hx hy rfl (fun w => by simp [binOp_sub, Op.intArith])
theorem Y_mul {T yT : TypeId} {x y : Operand} {kk : IntKind} {p q : Int} (ho : o.op = .binOp .mul T x y yT) (hx : evo L x = some (.int kk p)) (hy : evo L y = some (.int kk q)) : Yld X o L fs own (.int kk (kk.wrap (p * q))) :=
  Y_bin ho hx hy rfl (fun w => by simp [binOp_mul, Op.intArith])
theorem Yld.as {v v' : Value} (h : Yld X o L fs own v) (e : v = v') : Yld X o L fs own v' := e ▸ h
theorem Y_addi {T yT : TypeId} {x y : Operand} {p q : Int} (ho : o.op = .binOp .add T x y yT) (hx : evo L x = some (.int .i64 p)) (hy : evo L y = some (.int .i64 q)) (h1 : -9223372036854775808 ≤ p + q) (h2 : p + q ≤ 9223372036854775807) : Yld X o L fs own (.int .i64 (p + q)) :=
  (Y_add ho hx hy).as (by rw [wrap_i64 h1 h2])
theorem Y_subi {T yT : TypeId} {x y : Operand} {p q : Int} (ho : o.op = .binOp .sub T x y yT) (hx : evo L x = some (.int .i64 p)) (hy : evo L y = some (.int .i64 q)) (h1 : -9223372036854775808 ≤ p - q) (h2 : p - q ≤ 9223372036854775807) : Yld X o L fs own (.int .i64 (p - q)) :=
  (Y_sub ho hx hy).as (by rw [wrap_i64 h1 h2])
theorem Y_muli {T yT : TypeId} {x y : Operand} {p q : Int} (ho : o.op = .binOp .mul T x y yT) (hx : evo L x = some (.int .i64 p)) (hy : evo L y = some (.int .i64 q)) (h1 : -9223372036854775808 ≤ p * q) (h2 : p * q ≤ 9223372036854775807) : Yld X o L fs own (.int .i64 (p * q)) :=
  (Y_mul ho hx hy).as (by rw [wrap_i64 h1 h2])
theorem Y_quo {T yT : TypeId} {x y : Operand} {kk : IntKind} {p q : Int} (ho : o.op = .binOp .quo T x y yT) (hx : evo L x = some (.int kk p)) (hy : evo L y = some (.int kk q)) (hq : q ≠ 0) : Yld X o L fs own (.int kk (kk.wrap (p.tdiv q))) :=
  Y_bin ho hx hy rfl (fun w => by simp [binOp_quo, Op.intDiv, hq])
theorem Y_rem {T yT : TypeId} {x y : Operand} {kk : IntKind} {p q : Int} (ho : o.op = .binOp .rem T x y yT) (hx : evo L x = some (.int kk p)) (hy : evo L y = some (.int kk q)) (hq : q ≠ 0) : Yld X o L fs own (.int kk (p.tmod q)) :=
  Y_bin ho hx hy rfl (fun w => by simp [binOp_rem, Op.intDiv, hq])
theorem Y_bits {op : BinOp} {T yT : TypeId} {x y : Operand} {kk : IntKind} {p q : Int} {v : Value} (ho : o.op = .binOp op T x y yT) (hx : evo L x = some (.int kk p)) (hy : evo L y = some (.int kk q))
    (hv : (op = .and ∧ v = .int kk (bits .and kk p q)) ∨ (op = .or ∧ v = .int kk (bits .or kk p q)) ∨ (op = .xor ∧ v = .int kk (bits .xor kk p q))) : Yld X o L fs own v := by
  rcases hv with ⟨rfl, rfl⟩ | ⟨rfl, rfl⟩ | ⟨rfl, rfl⟩
  · exact Y_bin ho hx hy rfl (fun w => by simp [binOp_and, intBits_and])
  · exact Y_bin ho hx hy rfl (fun w => by simp [binOp_or, intBits_or])
  · exact Y_bin ho hx hy rfl (fun w => by simp [binOp_xor, intBits_xor])
theorem Y_shl {T yT : TypeId} {x y : Operand} {kk ky : IntKind} {p q : Int} (ho : o.op = .binOp .shl T x y yT) (hx : evo L x = some (.int kk p)) (hy : evo L y = some (.int ky q)) (h0 : 0 ≤ q) : Yld X o L fs own (.int kk (kk.wrap (p * 2 ^ min q.toNat kk.bits))) :=
  Y_bin ho hx hy rfl (fun w => by rw [binOp_shl]; simp only [Op.shift]; rw [if_neg (by omega)]; rfl)
theorem Y_shr {T yT : TypeId} {x y : Operand} {kk ky : IntKind} {p q : Int} (ho : o.op = .binOp .shr T x y yT) (hx : evo L x = some (.int kk p)) (hy : evo L y = some (.int ky q)) (h0 : 0 ≤ q) : Yld X o L fs own (.int kk (p.fdiv (2 ^ min q.toNat kk.bits))) :=
  Y_bin ho hx hy rfl (fun w => by rw [binOp_shr]; simp only [Op.shift]; rw [if_neg (by omega)]; rfl)
theorem Y_neg {T : TypeId} {x : Operand} {kk : IntKind} {p : Int} (ho : o.op = .unOp .neg T x) (hx : evo L x = some (.int kk p)) : Yld X o L fs own (.int kk (kk.wrap (0 - p))) := by
  intro g a s
  simp only [execOp, ho, s.kn.eval hx]
  simp [Op.unary, Op.intArith]
theorem Y_conv {sT dT : TypeId} {x : Operand} {ks kk : IntKind} {p : Int} (ho : o.op = .convert sT dT x) (hx : evo L x = some (.int ks p)) (us : X.P.underlying sT = some (.int ks)) (ud : X.P.underlying dT = some (.int kk)) : Yld X o L fs own (.int kk (kk.wrap p)) := by
  intro g a s
  simp only [execOp, ho, s.kn.eval hx]
  simp [convert, run_underlying us, run_underlying ud, Conv.intToInt]
theorem Y_max {x y : Operand} {ts : Array TypeId} {kk : IntKind} {p q : Int} (ho : o.op = .call ⟨.builtin .max, #[x, y], ts⟩) (hx : evo L x = some (.int kk p)) (hy : evo L y = some (.int kk q)) : Yld X o L fs own (.int kk (max p q)) := by
  intro g a st
  simp only [execOp, ho, resolve]
  have e : (if p < q then q else p) = max p q := by rw [Int.max_def]; split <;> split <;> omega
  simp [st.kn.eval hx, st.kn.eval hy, invoke, builtin, Builtin.max_, Builtin.max2, e]
theorem Y_min {x y : Operand} {ts : Array TypeId} {kk : IntKind} {p q : Int} (ho : o.op = .call ⟨.builtin .min, #[x, y], ts⟩) (hx : evo L x = some (.int kk p)) (hy : evo L y = some (.int kk q)) : Yld X o L fs own (.int kk (min p q)) := by
  intro g a st
  simp only [execOp, ho, resolve]
  have e : (if q < p then q else p) = min p q := by rw [Int.min_def]; split <;> split <;> omega
  simp [st.kn.eval hx, st.kn.eval hy, invoke, builtin, Builtin.min_, Builtin.min2, e]

/-! ### Strings -/
theorem beq_dec {α : Type} [BEq α] [LawfulBEq α] [DecidableEq α] (a b : α) : (a == b) = decide (a = b) := by rw [Bool.eq_iff_iff]; simp
theorem Y_strlen {x : Operand} {T : TypeId} {s : Bytes} (ho : o.op = .call ⟨.builtin .len, #[x], #[T]⟩) (hx : evo L x = some (str s)) (u : X.P.underlying T = some .string) : Yld X o L fs own (.int .i64 s.length) := by
  intro g a st
  simp only [execOp, ho, resolve]
  simp [st.kn.eval hx, invoke, builtin, Builtin.len_, run_underlying u, str, str_size, goInt]
theorem Y_slen {x : Operand} {T e : TypeId} {ad : Option Addr} {n c : Nat} (ho : o.op = .call ⟨.builtin .len, #[x], #[T]⟩) (hx : evo L x = some (.slice ad n c)) (u : X.P.underlying T = some (.slice e)) : Yld X o L fs own (.int .i64 n) := by
  intro g a st
  simp only [execOp, ho, resolve]
  simp [st.kn.eval hx, invoke, builtin, Builtin.len_, run_underlying u, goInt]
theorem Y_streql {T yT : TypeId} {x y : Operand} {p q : Bytes} (ho : o.op = .binOp .eql T x y yT) (hx : evo L x = some (str p)) (hy : evo L y = some (str q)) : Yld X o L fs own (.bool (decide (p = q))) :=
  Y_bin ho hx hy (eqGuard_at_string ..) (fun w => by simp only [str, binOp_string_eql, ByteArray.toList_mk]; simp [beq_dec])
theorem Y_strneq {T yT : TypeId} {x y : Operand} {p q : Bytes} (ho : o.op = .binOp .neq T x y yT) (hx : evo L x = some (str p)) (hy : evo L y = some (str q)) : Yld X o L fs own (.bool (decide (¬ p = q))) :=
  Y_bin ho hx hy (eqGuard_at_string ..) (fun w => by simp only [str, binOp_string_neq, ByteArray.toList_mk]; simp [beq_dec])
/-- Byte by byte. -/
def blt (a b : Bytes) : Bool := Op.bytesLess a b
theorem Y_strlss {T yT : TypeId} {x y : Operand} {p q : Bytes} (ho : o.op = .binOp .lss T x y yT) (hx : evo L x = some (str p)) (hy : evo L y = some (str q)) : Yld X o L fs own (.bool (blt p q)) :=
  Y_bin ho hx hy rfl (fun w => by simp [str, binOp, Op.stringOp, blt])
theorem Y_strgeq {T yT : TypeId} {x y : Operand} {p q : Bytes} (ho : o.op = .binOp .geq T x y yT) (hx : evo L x = some (str p)) (hy : evo L y = some (str q)) : Yld X o L fs own (.bool (!blt p q)) :=
  Y_bin ho hx hy rfl (fun w => by simp [str, binOp, Op.stringOp, blt])
theorem Y_strcat {T yT : TypeId} {x y : Operand} {p q : Bytes} (ho : o.op = .binOp .add T x y yT) (hx : evo L x = some (str p)) (hy : evo L y = some (str q)) (h : p.length + q.length ≤ 9223372036854775807) : Yld X o L fs own (str (p ++ q)) := by
  refine Y_bin ho hx hy rfl (fun w => ?_)
  have e : (⟨p.toArray⟩ : ByteArray) ++ ⟨q.toArray⟩ = ⟨(p ++ q).toArray⟩ := by
    have h1 : ((⟨p.toArray⟩ : ByteArray) ++ ⟨q.toArray⟩).data.toList = p ++ q := by simp
    have h2 := Go.Lib.mk_data ((⟨p.toArray⟩ : ByteArray) ++ ⟨q.toArray⟩)
    rw [h1] at h2
    exact h2.symm
  have hs : ¬ ((((⟨p.toArray⟩ : ByteArray).size + (⟨q.toArray⟩ : ByteArray).size : Nat) : Int) > IntKind.i64.max) := by
    rw [str_size, str_size, IntKind.max_i64]; omega
  show (Op.stringOp .add ⟨p.toArray⟩ ⟨q.toArray⟩).run X.P w = _
  simp only [Op.stringOp]
  rw [if_neg hs, e]
  rfl
theorem Y_stridx {T : TypeId} {x ix : Operand} {s : Bytes} {kk : IntKind} {z : Int} {b : UInt8} (ho : o.op = .index T x ix) (hx : evo L x = some (str s)) (hi : evo L ix = some (.int kk z)) (u : X.P.underlying T = some .string)
    (h0 : 0 ≤ z) (hb : s[z.toNat]? = some b) : Yld X o L fs own (.int .u8 b.toNat) := by
  intro g a st
  have hlt : z.toNat < s.length := by
    rcases Nat.lt_or_ge z.toNat s.length with h | h
    · exact h
    · rw [List.getElem?_eq_none h] at hb; cases hb
  have hget : (⟨s.toArray⟩ : ByteArray)[z.toNat]? = some b := by
    rw [getElem?_pos (⟨s.toArray⟩ : ByteArray) z.toNat (by rw [str_size]; exact hlt)]
    rw [List.getElem?_eq_getElem hlt] at hb
    simp only [Option.some.injEq] at hb ⊢
    rw [← hb]
    rfl
  simp only [execOp, ho, st.kn.eval hx, st.kn.eval hi]
  simp [Instr.index, asIntOf, run_underlying u, str, h0, hget]
/-- A bound of a slice expression. -/
def bnd (L : LL) (o : Option Operand) (d z : Int) : Prop := match o with | none => z = d | some y => ∃ kk, evo L y = some (.int kk z)
theorem run_sliceBound {P : Program} {w : World} {kk : IntKind} {z : Int} {m : Nat} {code : BoundsCode} (h0 : 0 ≤ z) (h1 : z ≤ m) : (Instr.sliceBound (.int kk z) m code).run P w = .ok z.toNat w := by
  unfold Instr.sliceBound
  simp only [asIntOf, Sem.run_bind, Sem.run_pure, Result.andThen_ok]
  rw [if_pos ⟨h0, h1⟩]
  rfl
theorem run_sliceBounds {P : Program} {w : World} {n df a} (hk : KN n df L a) (isSlice : Bool) (len cap : Nat) {lo hi : Option Operand} {zl zh : Int} (hlo : bnd L lo 0 zl) (hhi : bnd L hi len zh)
    (h0 : 0 ≤ zl) (h1 : zl ≤ zh) (h2 : zh ≤ cap) : (Instr.sliceBounds isSlice len cap (lo.map a.eval) (hi.map a.eval) none).run P w = .ok (zl.toNat, zh.toNat, cap) w := by
  have hl : ∀ (m : Nat) code, zl ≤ (m : Int) → (match lo.map a.eval with | some v => Instr.sliceBound v m code | none => pure 0 : Sem Nat).run P w = .ok zl.toNat w := by
    intro m code hm
    cases lo with
    | none => have : zl = 0 := hlo; subst this; rfl
    | some y =>
      obtain ⟨kk, hy⟩ := hlo
      simp only [Option.map_some, hk.eval hy]
      exact run_sliceBound h0 hm
  cases hi with
  | none =>
    have e : zh = (len : Int) := hhi
    subst e
    have := hl len .sliceB (by omega)
    cases lo with
    | none =>
      simp only [Option.map_none] at this ⊢
      simp only [Instr.sliceBounds, Sem.run_bind, Sem.run_pure, Result.andThen_ok, Int.toNat_natCast]
      simp only [Sem.run_pure, Result.ok.injEq, and_true] at this
      simp only [this]
    | some y =>
      simp only [Option.map_some, Option.map_none] at this ⊢
      simp only [Instr.sliceBounds, Sem.run_bind, Sem.run_pure, Result.andThen_ok, Int.toNat_natCast, Option.isSome_none, Bool.false_eq_true, if_false, this]
  | some y =>
    obtain ⟨kk, hy⟩ := hhi
    have hh := run_sliceBound (P := P) (w := w) (kk := kk) (z := zh) (m := cap) (code := if isSlice then .sliceAcap else .sliceAlen) (by omega) h2
    have := hl zh.toNat .sliceB (by omega)
    cases lo with
    | none =>
      simp only [Option.map_none, Option.map_some, hk.eval hy] at this ⊢
      simp only [Instr.sliceBounds, Sem.run_bind, Sem.run_pure, Result.andThen_ok, hh]
      simp only [Sem.run_pure, Result.ok.injEq, and_true] at this
      simp only [this]
    | some x =>
      simp only [Option.map_some, hk.eval hy] at this ⊢
      simp only [Instr.sliceBounds, Sem.run_bind, Sem.run_pure, Result.andThen_ok, hh, Option.isSome_none, Bool.false_eq_true, if_false, this]
theorem Y_strslice {T : TypeId} {x : Operand} {lo hi : Option Operand} {s : Bytes} {zl zh : Int} (ho : o.op = .slice T x lo hi none) (hx : evo L x = some (str s)) (u : X.P.underlying T = some .string)
    (hlo : bnd L lo 0 zl) (hhi : bnd L hi s.length zh) (h0 : 0 ≤ zl) (h1 : zl ≤ zh) (h2 : zh ≤ s.length) : Yld X o L fs own (str ((s.drop zl.toNat).take (zh.toNat - zl.toNat))) := by
  intro g a st
  have e : (⟨s.toArray⟩ : ByteArray).extract zl.toNat zh.toNat = ⟨((s.drop zl.toNat).take (zh.toNat - zl.toNat)).toArray⟩ := by rw [Go.Lib.extract_eq]
  have hb := run_sliceBounds (P := X.P) (w := g.w) st.kn false s.length s.length hlo hhi h0 h1 h2
  simp only [execOp, ho, st.kn.eval hx]
  rw [← str_size] at hb
  simp [Instr.sliceAt, Instr.slice, run_underlying u, str, hb, e]
end
end Go.KX

/- Cells, structs, slices: loads, stores, new blocks, append. No program in sight. -/
namespace Go.KX

/-! ### What is asked of types: closed facts -/
structure TI (P : Program) (T sz bytes : Nat) (z : Value) : Prop where
  ex : ∃ i, P.info? T = some i ∧ i.size = sz ∧ i.bytes = bytes ∧ i.zero = some z
def aggD : TypeDesc → Bool
  | .struct _ => true
  | .array _ _ => true
  | _ => false
theorem run_isAgg {P : Program} {w : World} {T d} (u : P.underlying T = some d) : (isAgg T).run P w = .ok (aggD d) w := by
  unfold isAgg
  simp only [Sem.run_bind, run_underlying u, Result.andThen_ok]
  cases d <;> rfl
theorem run_sizeOf {P : Program} {w : World} {T sz b z} (i : TI P T sz b z) : (sizeOf T).run P w = .ok sz w := by
  obtain ⟨i, h1, h2, _⟩ := i
  simp [sizeOf, typeInfo, h1, h2]
theorem run_zeroValue {P : Program} {w : World} {T sz b z} (i : TI P T sz b z) : (zeroValue T).run P w = .ok z w := by
  obtain ⟨i, h1, h2, h3, h4⟩ := i
  simp [zeroValue, typeInfo, h1, h4]
theorem addr_add (b o n : Nat) : (⟨b, o, none⟩ : Addr).add n = ⟨b, o + n, none⟩ := Addr.add_lit b o n

section
variable {X : Cx} {k : List It} {L : LL} {fs : List MF} {own : List Res} {arr : Array Oper} {l : List Oper} {o : Oper}

/-! ### Fields -/
theorem Y_fieldAddr {T sz by_ : Nat} {z : Value} {x : Operand} {f b oo : Nat} {fields : Array Field} {fd : Field} (ho : o.op = .fieldAddr T x f) (hx : evo L x = some (.pointer (some ⟨b, oo, none⟩)))
    (u : X.P.underlying T = some (.struct fields)) (hf : fields[f]? = some fd) (i : TI X.P fd.type sz by_ z) (hsz : sz ≠ 0) : Yld X o L fs own (.pointer (some ⟨b, oo + fd.offset, none⟩)) := by
  intro g a s
  simp only [execOp, ho, s.kn.eval hx]
  simp [Instr.fieldAt, run_underlying u, hf, Instr.sureAddr, fieldPlace, run_sizeOf i, hsz, addr_add]
/-- A struct's layout: of each field the offset and the size; the zero value's cells. -/
structure LY (P : Program) (T : Nat) (pl : List (Nat × Nat × Bool)) : Prop where
  ex : ∃ fields, P.underlying T = some (.struct fields) ∧ fields.size = pl.length ∧ ∀ (f off sz : Nat) (ag : Bool), pl[f]? = some (off, sz, ag) → sz ≠ 0 ∧ ∃ (fd : Field) (d : TypeDesc), fields[f]? = some fd ∧ fd.offset = off ∧ P.underlying fd.type = some d ∧ aggD d = ag ∧ ∃ i, P.info? fd.type = some i ∧ i.size = sz
theorem Y_fa {T f b oo off sz : Nat} {ag : Bool} {x : Operand} {pl : List (Nat × Nat × Bool)} (ly : LY X.P T pl) (hf : pl[f]? = some (off, sz, ag)) (ho : o.op = .fieldAddr T x f) (hx : evo L x = some (.pointer (some ⟨b, oo, none⟩))) :
    Yld X o L fs own (.pointer (some ⟨b, oo + off, none⟩)) := by
  obtain ⟨fields, u, _, h⟩ := ly
  obtain ⟨hsz, fd, d, h1, h2, h3, h4, i, h5, h6⟩ := h f off sz ag hf
  intro g a s
  simp only [execOp, ho, s.kn.eval hx]
  simp [Instr.fieldAt, run_underlying u, h1, Instr.sureAddr, fieldPlace, sizeOf, typeInfo, h5, h6, hsz, addr_add, h2]
/-- A field of a struct that is no aggregate. -/
theorem Y_fld {T f off sz : Nat} {x : Operand} {pl : List (Nat × Nat × Bool)} {cs : Array Value} {v : Value} (ly : LY X.P T pl) (hf : pl[f]? = some (off, sz, false)) (ho : o.op = .field T x f) (hx : evo L x = some (.agg cs)) (hv : cs[off]? = some v) :
    Yld X o L fs own v := by
  obtain ⟨fields, u, _, h⟩ := ly
  obtain ⟨hsz, fd, d, h1, h2, h3, h4, i, h5, h6⟩ := h f off sz false hf
  intro g a s
  have hag := run_isAgg (w := g.w) h3
  rw [h4] at hag
  simp only [execOp, ho, s.kn.eval hx]
  simp [Instr.field, run_underlying u, h1, part, hag, asAgg, h2, hv]
theorem Y_fldS {T f off sz : Nat} {x : Operand} {pl : List (Nat × Nat × Bool)} {cs : Array Value} (ly : LY X.P T pl) (hf : pl[f]? = some (off, sz, true)) (ho : o.op = .field T x f) (hx : evo L x = some (.agg cs)) :
    Yld X o L fs own (.agg (cs.extract off (off + sz))) := by
  obtain ⟨fields, u, _, h⟩ := ly
  obtain ⟨hsz, fd, d, h1, h2, h3, h4, i, h5, h6⟩ := h f off sz true hf
  intro g a s
  have hag := run_isAgg (w := g.w) h3
  rw [h4] at hag
  simp only [execOp, ho, s.kn.eval hx]
  simp [Instr.field, run_underlying u, h1, part, hag, asAgg, h2, sizeOf, typeInfo, h5, h6]

/-! ### Loads -/
theorem run_load1 {P : Program} {w : World} {T d} {ad : Addr} {v : Value} (u : P.underlying T = some d) (hd : aggD d = false) (hc : w.cell? ad = some v) : (Instr.loadAt T (.pointer (some ad))).run P w = .ok v w := by
  have := run_isAgg (w := w) u
  simp [Instr.loadAt, Instr.sureAddr, loadVar, this, hd, hc]
theorem run_loadS {P : Program} {w : World} {T d sz by_ z} {b oo : Nat} {cs : List Value} (u : P.underlying T = some d) (hd : aggD d = true) (i : TI P T sz by_ z) (hl : cs.length = sz)
    (hc : ∀ (j : Nat) v, cs[j]? = some v → w.cell? ⟨b, oo + j, none⟩ = some v) : (Instr.loadAt T (.pointer (some ⟨b, oo, none⟩))).run P w = .ok (.agg cs.toArray) w := by
  have := run_isAgg (w := w) u
  have hl' := run_loadCells_list (P := P) (w := w) ⟨b, oo, none⟩ cs (fun j v h => by rw [addr_add]; exact hc j v h)
  rw [hl] at hl'
  simp [Instr.loadAt, Instr.sureAddr, loadVar, this, hd, run_sizeOf i, hl']
theorem Y_ldP {T : Nat} {d} {x : Operand} {b oo j : Nat} {cs : List Value} {v : Value} (u : X.P.underlying T = some d) (hd : aggD d = false) (ho : o.op = .load T x) (hx : evo L x = some (.pointer (some ⟨b, oo + j, none⟩)))
    (hf : Has fs (PtM b oo cs)) (hj : cs[j]? = some v) : Yld X o L fs own v := by
  intro g a s
  have h := (s.all _ hf.mem).2 j v hj
  simp only [execOp, ho, s.kn.eval hx]
  simp [run_load1 u hd h]
theorem Y_ldP0 {T : Nat} {d} {x : Operand} {b oo : Nat} {cs : List Value} {v : Value} (u : X.P.underlying T = some d) (hd : aggD d = false) (ho : o.op = .load T x) (hx : evo L x = some (.pointer (some ⟨b, oo, none⟩)))
    (hf : Has fs (PtM b oo cs)) (hj : cs[0]? = some v) : Yld X o L fs own v := by
  intro g a s
  have h : g.w.cell? ⟨b, oo, none⟩ = some v := (s.all _ hf.mem).2 0 v hj
  simp only [execOp, ho, s.kn.eval hx]
  simp [run_load1 u hd h]
theorem Y_ldPS {T : Nat} {d sz by_ z} {x : Operand} {b oo : Nat} {cs : List Value} (u : X.P.underlying T = some d) (hd : aggD d = true) (i : TI X.P T sz by_ z) (ho : o.op = .load T x) (hx : evo L x = some (.pointer (some ⟨b, oo, none⟩)))
    (hf : Has fs (PtM b oo cs)) (hl : cs.length = sz) : Yld X o L fs own (.agg cs.toArray) := by
  intro g a s
  have h := (s.all _ hf.mem).2
  simp only [execOp, ho, s.kn.eval hx]
  simp [run_loadS u hd i hl h]
theorem blk_of {g a} (s : St X L fs own g a) {b ob own'} (hp : Pick own (Res.blk b ob) own') : g.w.heap[b]? = some ob := s.own.p _ (hp.perm.symm.subset (.head _))
theorem Y_ldO {T : Nat} {d} {x : Operand} {b oo : Nat} {cs : Array Value} {T' : Nat} {fr} {v : Value} {own'} (u : X.P.underlying T = some d) (hd : aggD d = false) (ho : o.op = .load T x) (hx : evo L x = some (.pointer (some ⟨b, oo, none⟩)))
    (hp : Pick own (Res.blk b (.cells cs T' fr)) own') (hj : cs[oo]? = some v) : Yld X o L fs own v := by
  intro g a s
  have h : g.w.cell? ⟨b, oo, none⟩ = some v := by simp [World.cell?, blk_of s hp, hj]
  simp only [execOp, ho, s.kn.eval hx]
  simp [run_load1 u hd h]
theorem Y_ldOS {T : Nat} {d sz by_ z} {x : Operand} {b : Nat} {cs : List Value} {T' : Nat} {fr} {own'} (u : X.P.underlying T = some d) (hd : aggD d = true) (i : TI X.P T sz by_ z) (ho : o.op = .load T x) (hx : evo L x = some (.pointer (some ⟨b, 0, none⟩)))
    (hp : Pick own (Res.blk b (.cells cs.toArray T' fr)) own') (hl : cs.length = sz) : Yld X o L fs own (.agg cs.toArray) := by
  intro g a s
  have h : ∀ (j : Nat) v, cs[j]? = some v → g.w.cell? ⟨b, 0 + j, none⟩ = some v := fun j v hv => by simp [World.cell?, blk_of s hp, hv]
  simp only [execOp, ho, s.kn.eval hx]
  simp [run_loadS u hd i hl h]

/-! ### Effects -/
theorem S_eff {d : Nat} {v : Value} {fs' own'} (hl : live arr L o = some true) (hd : o.dst = some d) (hn : Nat.blt d X.n = true)
    (he : ∀ g a, St X L fs own g a → ∃ g', (execOp a.eval o).run X.P g.w = .ok (.value v) g'.w ∧ St X L fs' own' g' a) (h : S X arr l k ((d, v) :: L) fs' own') : S X arr (o :: l) k L fs own := by
  intro g a s
  obtain ⟨g', hr, s'⟩ := he g a s
  simp only [wl, live_wanted s.kn hl, if_true, wn, hr, hd]
  exact h g' _ (s'.put hn v)
theorem S_eff0 {fs' own'} (hl : live arr L o = some true) (hd : o.dst = none)
    (he : ∀ g a, St X L fs own g a → ∃ g', (execOp a.eval o).run X.P g.w = .ok .skip g'.w ∧ St X L fs' own' g' a) (h : S X arr l k L fs' own') : S X arr (o :: l) k L fs own := by
  intro g a s
  obtain ⟨g', hr, s'⟩ := he g a s
  simp only [wl, live_wanted s.kn hl, if_true, wn, hr, hd]
  exact h g' _ s'
theorem size_alloc (w : World) (ob : Obj) : (w.alloc ob).heap.size = w.heap.size + 1 := by show (w.heap.push ob).size = _; simp
/-- A new block. -/
theorem St.alloc {g a} (s : St X L fs own g a) (ob : Obj) : St X L fs (Res.blk g.w.heap.size ob :: own) ⟨g.w.alloc ob, g.fz, fun b hb => by have := g.lt b hb; rw [size_alloc]; omega⟩ a := by
  have hold : ∀ b, b < g.w.heap.size → (g.w.alloc ob).heap[b]? = g.w.heap[b]? := fun b hb => heap_alloc_old g.w ob hb
  have hF : FExt g ⟨g.w.alloc ob, g.fz, fun b hb => by have := g.lt b hb; rw [size_alloc]; omega⟩ := ⟨rfl, rfl, rfl, by rw [size_alloc]; omega, fun _ h => h, fun b hb => hold b (g.lt b hb)⟩
  refine ⟨s.kn, s.all.mono hF, ⟨fun r hr => ?_, ?_, fun b hb => ?_, fun b hb => ?_⟩, ⟨s.ext.toFExt.trans hF, fun b hb hn => ?_, s.ext.nofz⟩, fun b hb => ?_⟩
  · cases hr with
    | head => exact heap_alloc_new g.w ob
    | tail _ hm => exact r.loc (fun b hb => hold b (s.own.lt b (List.mem_flatMap.2 ⟨r, hm, hb⟩))) (s.own.p r hm)
  · show (g.w.heap.size :: blks own).Nodup
    exact List.nodup_cons.2 ⟨fun hx => Nat.lt_irrefl _ (s.own.lt _ hx), s.own.nodup⟩
  · rcases List.mem_cons.1 (show b ∈ g.w.heap.size :: blks own from hb) with h | h
    · subst h; show _ < (g.w.alloc ob).heap.size; rw [size_alloc]; omega
    · exact Nat.lt_of_lt_of_le (s.own.lt b h) hF.size
  · rcases List.mem_cons.1 (show b ∈ g.w.heap.size :: blks own from hb) with h | h
    · subst h; exact fun hf => Nat.lt_irrefl _ (g.lt _ hf)
    · exact s.own.nfz b h
  · show (g.w.alloc ob).heap[b]? = _
    rw [hold b (Nat.lt_of_lt_of_le hb s.ext.size)]
    exact s.ext.keep b hb hn
  · rcases List.mem_cons.1 (show b ∈ g.w.heap.size :: blks own from hb) with h | h
    · subst h; exact .inr s.ext.size
    · exact s.new b h
/-- One owned thing has become another one in its place, or in a new block. -/
theorem St.turn {g a} {r r' : Res} {own'} (s : St X L fs own g a) (hp : Pick own r own') {w' : World} (hg : ∀ b, b < g.w.heap.size → b ∉ r.bs → w'.heap[b]? = g.w.heap[b]?)
    (hos : w'.os = g.w.os) (ht : w'.tape = g.w.tape) (hout : w'.output = g.w.output) (hsz : g.w.heap.size ≤ w'.heap.size) (hr' : r'.p w') (hnd : r'.bs.Nodup) (hlt : ∀ b ∈ r'.bs, b < w'.heap.size)
    (hn : ∀ b ∈ r'.bs, b ∈ r.bs ∨ g.w.heap.size ≤ b) : ∃ g', g'.w = w' ∧ St X L fs (r' :: own') g' a := by
  have ho := s.own.perm hp.perm
  have hnf : ∀ b ∈ r.bs, ¬ g.fz b := fun b hb => ho.nfz b (by simp [hb])
  let g' : GW := ⟨w', g.fz, fun b hb => Nat.lt_of_lt_of_le (g.lt b hb) hsz⟩
  have hE : Ext (blks [r]) g g' := by
    refine ⟨⟨hos, ht, hout, hsz, fun _ h => h, fun b hb => hg b (g.lt b hb) (fun hx => hnf b hx hb)⟩, fun b hb hx => hg b hb (by simpa using hx), fun _ _ _ h => h⟩
  have hO : Own [r'] g' := by
    refine ⟨fun x hx => ?_, by simpa using hnd, fun b hb => hlt b (by simpa using hb), fun b hb hf => ?_⟩
    · rcases List.mem_singleton.1 hx with rfl; exact hr'
    · rcases hn b (by simpa using hb) with h | h
      · exact hnf b h hf
      · exact Nat.lt_irrefl _ (Nat.lt_of_lt_of_le (g.lt b hf) h)
  have := s.frame (fsc := []) (fs' := []) (Split.cons hp .nil) hE (fun x hx => by cases hx) hO (fun b hb => (hn b (by simpa using hb)).imp (fun h => by simpa using h) id) .nil
  exact ⟨g', rfl, by simpa using this⟩
theorem S_box {d T : Nat} {x : Operand} {v : Value} {cs : Array Value} (ho : o.op = .box T x) (hl : live arr L o = some true) (hd : o.dst = some d) (hn : Nat.blt d X.n = true) (hx : evo L x = some v) (hc : v.cells = cs)
    (h : ∀ b, S X arr l k ((d, .pointer (some ⟨b, 0, none⟩)) :: L) fs (Res.blk b (.cells cs T (0, 0)) :: own)) : S X arr (o :: l) k L fs own := by
  intro g a s
  subst hc
  have s' := s.alloc (.cells v.cells T (0, 0))
  simp only [wl, live_wanted s.kn hl, if_true]
  have hr : (execOp a.eval o).run X.P g.w = .ok (.value (.pointer (some ⟨g.w.heap.size, 0, none⟩))) (g.w.alloc (.cells v.cells T (0, 0))) := by
    simp only [execOp, ho, s.kn.eval hx]
    simp [Instr.box, newVar, newRow]
  simp only [wn, hr, hd]
  exact h g.w.heap.size _ _ (s'.put hn _)
theorem S_alloc {d T sz by_ : Nat} {z : Value} {cs : Array Value} (ho : o.op = .alloc T) (hl : live arr L o = some true) (hd : o.dst = some d) (hn : Nat.blt d X.n = true) (i : TI X.P T sz by_ z) (hc : z.cells = cs)
    (h : ∀ b, S X arr l k ((d, .pointer (some ⟨b, 0, none⟩)) :: L) fs (Res.blk b (.cells cs T (0, 0)) :: own)) : S X arr (o :: l) k L fs own := by
  intro g a s
  subst hc
  have s' := s.alloc (.cells z.cells T (0, 0))
  simp only [wl, live_wanted s.kn hl, if_true]
  have hr : (execOp a.eval o).run X.P g.w = .ok (.value (.pointer (some ⟨g.w.heap.size, 0, none⟩))) (g.w.alloc (.cells z.cells T (0, 0))) := by
    simp only [execOp, ho]
    simp [Instr.alloc, run_zeroValue i, newVar, newRow]
  simp only [wn, hr, hd]
  exact h g.w.heap.size _ _ (s'.put hn _)
/-- A store of one cell. -/
theorem S_st {T b oo : Nat} {x y : Operand} {v : Value} {cs : Array Value} {T' : Nat} {own'} (ho : o.op = .store T x y) (hl : live arr L o = some true) (hd : o.dst = none) {by_ : Nat} {z : Value} (i : TI X.P T 1 by_ z)
    (hx : evo L x = some (.pointer (some ⟨b, oo, none⟩))) (hy : evo L y = some v) (hv : v.oneCell' = true) (hp : Pick own (Res.blk b (.cells cs T' (0, 0))) own') (hlt : Nat.blt oo cs.size = true)
    (h : S X arr l k L fs (Res.blk b (.cells (cs.setIfInBounds oo v) T' (0, 0)) :: own')) : S X arr (o :: l) k L fs own := by
  refine S_eff0 hl hd (fun g a s => ?_) h
  have hlt' : oo < cs.size := by simpa [Nat.blt_eq] using hlt
  have hb := blk_of s hp
  have hc : g.w.cell? ⟨b, oo, none⟩ = some cs[oo] := by simp [World.cell?, hb, hlt']
  have hfz : g.w.frozen? ⟨b, oo, none⟩ = false := by simp [World.frozen?, hb]
  have hsc : v.cells = #[v] := by cases v <;> first | rfl | simp [Value.oneCell'] at hv
  have hbs : b < g.w.heap.size := by
    rcases Nat.lt_or_ge b g.w.heap.size with h | h
    · exact h
    · rw [Array.getElem?_eq_none h] at hb; cases hb
  have hset : (g.w.setCell ⟨b, oo, none⟩ v).heap[b]? = some (.cells (cs.setIfInBounds oo v) T' (0, 0)) := by
    simp only [World.setCell, Array.getElem?_modify, if_true, hb, Option.map_some]
    rfl
  obtain ⟨g', hw, s'⟩ := s.turn hp (r' := Res.blk b (.cells (cs.setIfInBounds oo v) T' (0, 0))) (w' := g.w.setCell ⟨b, oo, none⟩ v)
    (fun b' hb' hx' => by simp only [World.setCell, Array.getElem?_modify]; rw [if_neg (fun e => hx' (by rw [← e]; exact .head _))]) rfl rfl rfl (by simp [World.setCell]) hset (by simp [Res.blk]) (fun b' hb' => by
      have : b' = b := by simpa [Res.blk] using hb'
      subst this; simpa [World.setCell] using hbs) (fun b' hb' => .inl hb')
  refine ⟨g', ?_, s'⟩
  rw [hw]
  have hst := run_store X.P g.w ⟨b, oo, none⟩ v .plain hv
  rw [hc] at hst
  simp only [hfz] at hst
  simp only [execOp, ho, s.kn.eval hx, s.kn.eval hy]
  simp [Instr.storeAt, Instr.sureAddr, storeVar, run_sizeOf i, hsc, storeCells, hst, Addr.add]
end
end Go.KX

/- Slices: index, reslice, literals, append, bytes to strings. No program in sight. -/
namespace Go.KX
section
variable {X : Cx} {k : List It} {L : LL} {fs : List MF} {own : List Res} {arr : Array Oper} {l : List Oper} {o : Oper}

/-- The address of an element of a frozen slice. -/
def YXW (X : Cx) (o : Oper) (L : LL) (fs : List MF) (own : List Res) (K : Value → List MF → Prop) : Prop :=
  ∀ g a, St X L fs own g a → ∃ v fs', K v fs' ∧ (∀ w', (execOp a.eval o).run X.P w' = .ok (.value v) w') ∧ All fs' g
theorem YXW.yx {K} (h : YXW X o L fs own K) : YX X o L fs own K := fun g a s => by
  obtain ⟨v, fs', h1, h2, h3⟩ := h g a s
  exact ⟨v, fs', h1, h2 g.w, h3⟩
theorem Y_ixAW {α : Type} {E : El α} {T e sz by_ : Nat} {z0 : Value} {x ix : Operand} {ad : Option Addr} {n c : Nat} {ys : List α} {kk : IntKind} {z : Int} {y : α} (ho : o.op = .indexAddr T x ix) (u : X.P.underlying T = some (.slice e)) (i : TI X.P e sz by_ z0) (he : E.sz = sz)
    (hx : evo L x = some (.slice ad n c)) (hi : evo L ix = some (.int kk z)) (hf : Has fs (SlM E ad c ys)) (hlen : n = ys.length) (h0 : 0 ≤ z) (hy : ys[z.toNat]? = some y) :
    YXW X o L fs own (fun v fs' => ∃ b oo, v = .pointer (some ⟨b, oo, none⟩) ∧ fs' = [PtM b oo (E.enc y)]) := by
  intro g a s
  subst he
  have hlt : z.toNat < ys.length := by
    rcases Nat.lt_or_ge z.toNat ys.length with h | h
    · exact h
    · rw [List.getElem?_eq_none h] at hy; cases hy
  obtain ⟨_, _, h3⟩ := s.all _ hf.mem
  obtain ⟨b, oo, rfl, hfz, hc⟩ := h3 (by intro e; subst e; simp at hlt)
  refine ⟨_, _, ⟨b, oo + z.toNat * E.sz, rfl, rfl⟩, fun w' => ?_, ?_⟩
  · have hb : 0 ≤ z ∧ z < (n : Int) := ⟨h0, by omega⟩
    simp only [execOp, ho, s.kn.eval hx, s.kn.eval hi]
    simp only [Instr.indexAt, asIntOf, Sem.run_bind, Sem.run_pure, Result.andThen_ok, run_underlying u]
    rw [if_pos hb]
    simp only [Sem.run_bind, run_sizeOf i, Result.andThen_ok, Sem.run_pure, addr_add]
  · refine All.cons ⟨hfz, fun j x hx' => ?_⟩ (fun f hf => by cases hf)
    have := hc (z.toNat * E.sz + j) x (flat_get E ys z.toNat j y x hy hx')
    rwa [← Nat.add_assoc] at this
theorem Y_ixA {α : Type} {E : El α} {T e sz by_ : Nat} {z0 : Value} {x ix : Operand} {ad : Option Addr} {n c : Nat} {ys : List α} {kk : IntKind} {z : Int} {y : α} (ho : o.op = .indexAddr T x ix) (u : X.P.underlying T = some (.slice e)) (i : TI X.P e sz by_ z0) (he : E.sz = sz)
    (hx : evo L x = some (.slice ad n c)) (hi : evo L ix = some (.int kk z)) (hf : Has fs (SlM E ad c ys)) (hlen : n = ys.length) (h0 : 0 ≤ z) (hy : ys[z.toNat]? = some y) :
    YX X o L fs own (fun v fs' => ∃ b oo, v = .pointer (some ⟨b, oo, none⟩) ∧ fs' = [PtM b oo (E.enc y)]) := (Y_ixAW ho u i he hx hi hf hlen h0 hy).yx
/-- A part of a frozen slice. -/
theorem Y_resliceW {α : Type} {E : El α} {T e sz by_ : Nat} {z0 : Value} {x : Operand} {lo hi : Option Operand} {ad : Option Addr} {n c : Nat} {ys : List α} {zl zh : Int} (ho : o.op = .slice T x lo hi none) (u : X.P.underlying T = some (.slice e)) (i : TI X.P e sz by_ z0) (he : E.sz = sz)
    (hx : evo L x = some (.slice ad n c)) (hf : Has fs (SlM E ad c ys)) (hlen : n = ys.length) (hlo : bnd L lo 0 zl) (hhi : bnd L hi n zh) (h0 : 0 ≤ zl) (h1 : zl ≤ zh) (h2 : zh ≤ n) :
    YXW X o L fs own (fun v fs' => ∃ ad' c', v = .slice ad' ((ys.drop zl.toNat).take (zh.toNat - zl.toNat)).length c' ∧ fs' = [SlM E ad' c' ((ys.drop zl.toNat).take (zh.toNat - zl.toNat))]) := by
  intro g a s
  subst he
  subst hlen
  obtain ⟨hm, hcc, h3⟩ := s.all _ hf.mem
  have hln : ((ys.drop zl.toNat).take (zh.toNat - zl.toNat)).length = zh.toNat - zl.toNat := by simp; omega
  refine ⟨_, _, ⟨if c = zl.toNat then ad else ad.map (·.add (zl.toNat * E.sz)), c - zl.toNat, rfl, rfl⟩, fun w' => ?_, ?_⟩
  · have hb := run_sliceBounds (P := X.P) (w := w') s.kn true ys.length c hlo hhi h0 h1 (by omega)
    simp only [execOp, ho, s.kn.eval hx]
    rw [hln]
    simp only [Instr.sliceAt, Instr.slice, Sem.run_bind, run_underlying u, Result.andThen_ok, Option.map_none, hb, run_sizeOf i, Sem.run_pure]
  · refine All.cons ⟨by rw [hln]; omega, by rw [hln]; omega, fun hne => ?_⟩ (fun f hf => by cases hf)
    have hyne : ys ≠ [] := by intro e; subst e; simp at hne
    obtain ⟨b, oo, rfl, hfz, hc⟩ := h3 hyne
    have hlt : zl.toNat < c := by
      rcases Nat.lt_or_ge zl.toNat c with h | h
      · exact h
      · exfalso; apply hne; rw [List.eq_nil_iff_length_eq_zero, hln]; omega
    rw [if_neg (by omega)]
    refine ⟨b, oo + zl.toNat * E.sz, by simp [addr_add], hfz, fun j x hx' => ?_⟩
    have hflat : (flat E ((ys.drop zl.toNat).take (zh.toNat - zl.toNat)))[j]? = some x := hx'
    rw [← flat_take, ← flat_drop] at hflat
    have hj : j < (zh.toNat - zl.toNat) * E.sz := by
      rcases Nat.lt_or_ge j ((zh.toNat - zl.toNat) * E.sz) with h | h
      · exact h
      · rw [List.getElem?_eq_none (by simp; omega)] at hflat; cases hflat
    rw [List.getElem?_take_of_lt hj, List.getElem?_drop] at hflat
    have := hc _ x hflat
    rwa [← Nat.add_assoc] at this
theorem Y_reslice {α : Type} {E : El α} {T e sz by_ : Nat} {z0 : Value} {x : Operand} {lo hi : Option Operand} {ad : Option Addr} {n c : Nat} {ys : List α} {zl zh : Int} (ho : o.op = .slice T x lo hi none) (u : X.P.underlying T = some (.slice e)) (i : TI X.P e sz by_ z0) (he : E.sz = sz)
    (hx : evo L x = some (.slice ad n c)) (hf : Has fs (SlM E ad c ys)) (hlen : n = ys.length) (hlo : bnd L lo 0 zl) (hhi : bnd L hi n zh) (h0 : 0 ≤ zl) (h1 : zl ≤ zh) (h2 : zh ≤ n) :
    YX X o L fs own (fun v fs' => ∃ ad' c', v = .slice ad' ((ys.drop zl.toNat).take (zh.toNat - zl.toNat)).length c' ∧ fs' = [SlM E ad' c' ((ys.drop zl.toNat).take (zh.toNat - zl.toNat))]) := (Y_resliceW ho u i he hx hf hlen hlo hhi h0 h1 h2).yx
/-- A whole reslice of a nil or any slice by nothing: xs[:]. -/
theorem evl_len : ∀ {xs : List Operand} {vs : List Value}, evl L xs = some vs → vs.length = xs.length
  | [], vs, h => by simp [evl] at h; subst h; rfl
  | x :: xs, vs, h => by
    simp only [evl] at h
    split at h
    · split at h
      · rename_i us hu; cases h; simp [evl_len hu]
      · cases h
    · cases h
theorem foldl_set (cells : List Value) : ∀ (vs pre : List Value) (rest : List Value) (j0 : Nat), cells = pre ++ rest → pre.length = j0 → vs.length ≤ rest.length →
    (vs.zipIdx.foldl (fun (cs : Array Value) (p : Value × Nat) => cs.setIfInBounds (j0 + p.2) p.1) cells.toArray) = (pre ++ vs ++ rest.drop vs.length).toArray := by
  suffices H : ∀ (vs : List Value) (k : Nat) (pre rest : List Value) (j0 : Nat), pre.length = j0 + k → vs.length ≤ rest.length →
      ((vs.zipIdx k).foldl (fun (cs : Array Value) (p : Value × Nat) => cs.setIfInBounds (j0 + p.2) p.1) (pre ++ rest).toArray) = (pre ++ vs ++ rest.drop vs.length).toArray by
    intro vs pre rest j0 h1 h2 h3
    subst h1
    exact H vs 0 pre rest j0 (by simpa using h2) h3
  intro vs
  induction vs with
  | nil => intro k pre rest j0 _ _; simp
  | cons v vs ih =>
    intro k pre rest j0 hl hr
    match rest, hr with
    | [], hr => simp at hr
    | r :: rest, hr =>
      simp only [List.zipIdx_cons, List.foldl_cons]
      have e : (pre ++ r :: rest).toArray.setIfInBounds (j0 + k) v = ((pre ++ [v]) ++ rest).toArray := by
        apply Array.ext'
        rw [← hl]
        simp [List.set_append_right]
      rw [e, ih (k + 1) (pre ++ [v]) rest j0 (by simp; omega) (by simpa using hr)]
      simp
theorem fill_all (sz : Nat) : ∀ (vs : List Value) (k : Nat) (pre rest : List Value), (∀ v ∈ vs, v.cells.size = sz) → pre.length = k * sz → rest.length = vs.length * sz →
    Instr.fill (fun i => some (i * sz, sz)) (pre ++ rest).toArray (vs.zipIdx k |>.map fun p => (p.2, p.1)) = some (pre ++ vs.flatMap (·.cells.toList)).toArray := by
  intro vs
  induction vs with
  | nil => intro k pre rest _ _ hr; simp at hr; subst hr; simp [Instr.fill]
  | cons v vs ih =>
    intro k pre rest hv hp hr
    simp only [List.zipIdx_cons, List.map_cons, Instr.fill]
    have hsz := hv v (.head _)
    have hrl : rest.length = sz + vs.length * sz := by rw [hr, List.length_cons, Nat.add_mul]; omega
    rw [if_neg (by simp [hsz]; omega)]
    have hf : (v.cells.zipIdx.foldl (fun (cs : Array Value) (p : Value × Nat) => cs.setIfInBounds (k * sz + p.2) p.1) (pre ++ rest).toArray) = (pre ++ v.cells.toList ++ rest.drop sz).toArray := by
      have := foldl_set (pre ++ rest) v.cells.toList pre rest (k * sz) rfl hp (by simp [hsz]; omega)
      rw [← Array.foldl_toList]
      have e : v.cells.zipIdx.toList = v.cells.toList.zipIdx := by simp
      rw [e, this]
      simp [hsz]
    have hfun : (fun (cs : Array Value) (x : Value × Nat) => match x with | (c, j) => cs.setIfInBounds (k * sz + j) c) = (fun (cs : Array Value) (p : Value × Nat) => cs.setIfInBounds (k * sz + p.2) p.1) := rfl
    rw [hfun, hf, ih (k + 1) (pre ++ v.cells.toList) (rest.drop sz) (fun u hu => hv u (.tail _ hu)) (by simp [hp, hsz, Nat.add_mul]) (by simp [hrl])]
    simp
/-- A slice literal: a new block. -/
theorem S_lit {α : Type} (E : El α) (ys : List α) {d T e n sz by_ : Nat} {z0 : Value} {parts : List (Nat × Operand)} {vs : List Value} (ho : o.op = .buildSlice T n parts.toArray) (hl : live arr L o = some true) (hd : o.dst = some d) (hn : Nat.blt d X.n = true)
    (u : X.P.underlying T = some (.slice e)) (i : TI X.P e sz by_ z0) (he : E.sz = sz) (hz : z0.cells.size = sz) (hpi : parts.map (·.1) = List.range n) (hv : evl L (parts.map (·.2)) = some vs) (hvs : vs.map (fun v => v.cells.toList) = ys.map E.enc) (hbig : n * sz ≤ 16777216)
    (h : ∀ ad c, S X arr l k ((d, .slice ad ys.length c) :: L) fs (Res.arr E e ad c ys :: own)) : S X arr (o :: l) k L fs own := by
  intro g a s
  subst he
  have hvl : vs.length = n := by
    have h1 := evl_len hv
    have h2 : (parts.map (·.1)).length = n := by rw [hpi]; simp
    simp at h1 h2; omega
  have hyl : ys.length = n := by rw [← hvl]; have := congrArg List.length hvs; simpa using this.symm
  have hcs : ∀ v ∈ vs, v.cells.size = E.sz := by
    intro v hm
    have : v.cells.toList ∈ vs.map (fun v => v.cells.toList) := List.mem_map.2 ⟨v, hm, rfl⟩
    rw [hvs] at this
    obtain ⟨y, _, hy⟩ := List.mem_map.1 this
    have := E.len y
    rw [hy] at this
    simpa using this
  have hflat : vs.flatMap (·.cells.toList) = flat E ys := by
    rw [flat, List.flatMap_def, List.flatMap_def, hvs]
  have hparts : (parts.toArray.map fun (p : Nat × Operand) => (p.1, a.eval p.2)).toList = (vs.zipIdx 0 |>.map fun p => (p.2, p.1)) := by
    have hvals : parts.map (fun p => a.eval p.2) = vs := by
      have := s.kn.evals hv
      rw [List.map_map] at this
      exact this
    apply List.ext_getElem?
    intro j
    simp only [Array.toList_map, List.getElem?_map, List.getElem?_zipIdx, Nat.zero_add]
    rw [← hvals]
    simp only [List.getElem?_map]
    cases hp : parts[j]? with
    | none => simp
    | some p =>
      have hj : (parts.map (·.1))[j]? = some p.1 := by simp [hp]
      rw [hpi] at hj
      have hlt : j < n := by
        rcases Nat.lt_or_ge j n with h | h
        · exact h
        · rw [List.getElem?_eq_none (by simpa using h)] at hj; cases hj
      rw [List.getElem?_range hlt] at hj
      simp only [Option.some.injEq] at hj
      simp [← hj]
  have hfill : ∀ (cells : Array Value), cells.size = n * E.sz → Instr.fill (fun i => some (i * E.sz, E.sz)) cells (parts.toArray.map fun (p : Nat × Operand) => (p.1, a.eval p.2)).toList = some (flat E ys).toArray := by
    intro cells hc
    rw [hparts]
    have := fill_all E.sz vs 0 [] cells.toList hcs (by simp) (by simp [hc, hvl])
    simp only [List.nil_append] at this
    rw [← hflat]
    simpa using this
  have hr : (execOp a.eval o).run X.P g.w = .ok (.value (.slice (some ⟨g.w.heap.size, 0, none⟩) n n)) (g.w.alloc (.cells (flat E ys).toArray e)) := by
    simp only [execOp, ho]
    unfold Instr.buildSlice
    simp only [Sem.run_bind, run_underlying u, Result.andThen_ok, run_sizeOf i]
    rw [if_neg (by omega)]
    by_cases hn0 : n * E.sz = 0
    · simp only [hn0, if_true, Sem.run_bind, Sem.run_pure, Result.andThen_ok]
      rw [hfill _ (by simp [hn0])]
      simp [newRow]
    · simp only [if_neg hn0, Sem.run_bind, run_zeroValue i, Sem.run_pure, Result.andThen_ok]
      rw [hfill _ (by simp)]
      simp [newRow]
  have s' := s.alloc (.cells (flat E ys).toArray e)
  simp only [wl, live_wanted s.kn hl, if_true, wn, hr, hd]
  have hk := h (some ⟨g.w.heap.size, 0, none⟩) n
  rw [hyl] at hk
  have s2 : St X L fs (Res.arr E e (some ⟨g.w.heap.size, 0, none⟩) n ys :: own) ⟨g.w.alloc (.cells (flat E ys).toArray e), g.fz, fun b hb => by have := g.lt b hb; rw [size_alloc]; omega⟩ a := by
    refine ⟨s'.kn, s'.all, ⟨fun r hr' => ?_, s'.own.nodup, s'.own.lt, s'.own.nfz⟩, s'.ext, s'.new⟩
    cases hr' with
    | head =>
      have := World.ownsRow_lit (base := 0) (e := e) (size := E.sz) g.w (flat E ys).toArray n (Nat.zero_le _) (by
        have := E.pos
        have : n ≤ n * E.sz := Nat.le_mul_of_pos_right n this
        simp only [maxLen]; omega) (by simp [flat_len, hyl])
      show World.ownsRow _ _ _ _ _ _ _
      rw [hyl]
      simpa using this
    | tail _ hm => exact s'.own.p r (.tail _ hm)
  exact hk _ _ (s2.put hn _)
/-- append(xs, ys...), xs in a block of its own. -/
theorem St.grown {g a} {α : Type} {E : El α} {Te : Nat} {ad : Option Addr} {c : Nat} {ys zs : List α} {own'} (s : St X L fs own g a) (hp : Pick own (Res.arr E Te ad c ys) own') {v' : Value} {w' : World}
    (h1 : w'.ownsRow 0 Te E.sz v' zs.length (flat E zs)) (h2 : g.w.grownBy w' (Value.slice ad ys.length c).ownBlock) (hv : v' = .slice none 0 0 ∨ (∀ b, v'.ownBlock = some b → b ∈ vbs ad ∨ g.w.heap.size ≤ b)) :
    ∃ ad' c' g', v' = .slice ad' zs.length c' ∧ g'.w = w' ∧ St X L fs (Res.arr E Te ad' c' zs :: own') g' a := by
  have hvb : ∀ b, (Value.slice ad ys.length c).ownBlock ≠ some b ↔ b ∉ vbs ad := by
    intro b; cases ad <;> simp [Value.ownBlock, vbs]; exact ⟨fun h e => h e.symm, fun h e => h e.symm⟩
  have key : ∀ ad' c', v' = .slice ad' zs.length c' → (∀ b ∈ vbs ad', b ∈ vbs ad ∨ g.w.heap.size ≤ b) → (∀ b ∈ vbs ad', b < w'.heap.size) → ∃ g' : GW, g'.w = w' ∧ St X L fs (Res.arr E Te ad' c' zs :: own') g' a := by
    intro ad' c' hv' hn hlt
    subst hv'
    refine s.turn hp (r' := Res.arr E Te ad' c' zs) (fun b hb hx => h2.block b hb (fun e => ?_)) h2.os h2.tape h2.output h2.size h1 ?_ hlt hn
    · exact (hvb b).2 hx e.symm
    · show (vbs ad').Nodup
      cases ad' <;> simp [vbs]
  have hlt := h1.lt
  rcases h1.2 with ⟨rfl, h0⟩ | ⟨gg, cap, cur, rfl, _⟩
  · obtain ⟨g', h3, h4⟩ := key none 0 (by rw [h0]) (fun b hb => by cases hb) (fun b hb => by cases hb)
    exact ⟨none, 0, g', by rw [h0], h3, h4⟩
  · have hb : ∀ b ∈ vbs (some (⟨gg, 0, none⟩ : Addr)), b = gg := fun b hb => by simpa [vbs] using hb
    obtain ⟨g', h3, h4⟩ := key (some ⟨gg, 0, none⟩) cap rfl (fun b hb' => by
      rw [hb b hb']
      rcases hv with h | h
      · cases h
      · exact h gg rfl) (fun b hb' => by rw [hb b hb']; exact (hlt gg rfl).2)
    exact ⟨_, _, g', rfl, h3, h4⟩
end
end Go.KX

/- append, conversions between bytes and strings, structs by value, interface values. No program in sight. -/
namespace Go.KX
open Go.Lib (strCells strCells_length run_append_own_string run_append_room_string run_append_grow_string)
section
variable {X : Cx} {k : List It} {L : LL} {fs : List MF} {own : List Res} {arr : Array Oper} {l : List Oper} {o : Oper}

theorem owns_weak {w : World} {B e sz : Nat} {v : Value} {n : Nat} {xs : List Value} (h : w.ownsRow B e sz v n xs) : w.ownsRow 0 e sz v n xs := by
  refine ⟨h.1, ?_⟩
  rcases h.2 with h2 | ⟨g, cap, cur, h1, _, h3⟩
  · exact .inl h2
  · exact .inr ⟨g, cap, cur, h1, Nat.zero_le _, h3⟩
/-- Where an append leaves its elements: in the block that was there, or in a new one. -/
def AppOK (w w' : World) (Te sz : Nat) (v v' : Value) (n : Nat) (xs : List Value) : Prop :=
  w'.ownsRow 0 Te sz v' n xs ∧ w.grownBy w' v.ownBlock ∧ ∀ b, v'.ownBlock = some b → v.ownBlock = some b ∨ w.heap.size ≤ b
theorem appOK_room {w : World} {Te sz : Nat} {b n c : Nat} {cur : Array Value} {xs news : List Value} {m : Nat} (hg : w.heap[b]? = some (.cells cur Te (0, 0))) (hc : c ≤ maxLen) (hcs : cur.size = c * sz) (htk : cur.toList.take (n * sz) = xs) (hl : xs.length = n * sz) (hn : news.length = m * sz) (hr : n + m ≤ c) :
    AppOK w (w.setRow b (cur.toList.take (n * sz) ++ news ++ cur.toList.drop (n * sz + news.length)).toArray) Te sz (.slice (some ⟨b, 0, none⟩) n c) (.slice (some ⟨b, 0, none⟩) (n + m) c) (n + m) (xs ++ news) := by
  have hle : (n + m) * sz ≤ c * sz := Nat.mul_le_mul_right _ hr
  have hsum : (n + m) * sz = n * sz + m * sz := Nat.add_mul ..
  refine ⟨⟨by simp [hl, hn]; omega, .inr ⟨b, c, _, rfl, Nat.zero_le _, setRow_heap w b cur _ Te _ hg, hr, hc, ?_, ?_⟩⟩, ⟨rfl, rfl, rfl, by simp, fun k _ hk => setRow_other w b k _ (fun e => hk (by simp [Value.ownBlock, e]))⟩, fun x hx => .inl hx⟩
  · simp only [List.size_toArray, List.length_append, List.length_take, List.length_drop, Array.length_toList, hcs, hn]
    omega
  · rw [htk]
    have : (n + m) * sz = (xs ++ news).length := by simp [hl, hn]; omega
    rw [this]
    exact List.take_left
theorem appOK_new {w : World} {Te sz need cap : Nat} {v : Value} {xs rest : List Value} (hl : xs.length = need * sz) (hc : need ≤ cap) (hm : cap ≤ maxLen) (hr : xs.length + rest.length = cap * sz) :
    AppOK w (w.drew.alloc (.cells (xs ++ rest).toArray Te)) Te sz v (.slice (some ⟨w.heap.size, 0, none⟩) need cap) need xs := by
  refine ⟨⟨hl, .inr ⟨w.heap.size, cap, _, rfl, Nat.zero_le _, heap_alloc_new w.drew _, hc, hm, by simpa using hr, ?_⟩⟩, ⟨rfl, rfl, rfl, by rw [size_alloc]; exact Nat.le_succ _, fun k hk _ => heap_alloc_old w.drew _ hk⟩, fun b hb => ?_⟩
  · rw [← hl]; simp
  · right; simp [Value.ownBlock] at hb; omega
theorem run_app {P : Program} {w : World} {T Te sz by_ ty : Nat} {z : Value} (u : P.underlying T = some (.slice Te)) (i : TI P Te sz by_ z) (hz : z.cells.size = sz) (hpos : 0 < sz) {v : Value} {n : Nat} {xs : List Value} (hown : w.ownsRow 0 Te sz v n xs)
    {a : Addr} {m c : Nat} {news : List Value} (hl : news.length = m * sz) (hnews : ∀ (j : Nat) u, news[j]? = some u → w.cell? (a.add j) = some u) (h1 : ∀ u ∈ news, u.oneCell' = true) (h63 : n + m ≤ maxLen) (hb : (n + m) * by_ ≤ 140737488355328) :
    ∃ v' w', (Builtin.append_ #[T, T] ty #[v, .slice (some a) m c]).run P w = .ok v' w' ∧ AppOK w w' Te sz v v' (n + m) (xs ++ news) := by
  obtain ⟨i0, hi, rfl, rfl, hz0⟩ := i
  have hsmall : n + m ≤ 9223372036854775807 := by simp only [maxLen] at h63; omega
  rcases hown.2 with ⟨rfl, rfl⟩ | ⟨g, cap, cur, rfl, _, hg, hnc, hcm, hcs, htk⟩
  · obtain ⟨v', w', r1, r2, r3, _⟩ := run_append_own (P := P) w w.heap.size T ty Te i0 z i0.size i0.bytes u hi hz0 rfl rfl hz hpos (.slice none 0 0) 0 xs ⟨hown.1, .inl ⟨rfl, rfl⟩⟩ a m c news hl hnews h1 h63 hb (Nat.le_refl _)
    exact ⟨v', w', r1, owns_weak r2, r3, fun b hb => .inr (r2.lt b hb).1⟩
  · by_cases hroom : n + m ≤ cap
    · have hfit : n * i0.size + news.length ≤ cur.size := by rw [hl, hcs, ← Nat.add_mul]; exact Nat.mul_le_mul_right _ hroom
      exact ⟨_, _, run_append_room (P := P) w T ty Te i0 u hi g n cap cur hg a m c news hl hnews h1 hroom hfit, appOK_room hg hcm hcs htk hown.1 hl hroom⟩
    · have holds : ∀ (j : Nat) u, xs[j]? = some u → w.cell? ((⟨g, 0, none⟩ : Addr).add j) = some u := hown.cells (g := g) rfl
      have hr := run_append_grow (P := P) w T ty Te i0 z u hi hz0 ⟨g, 0, none⟩ n cap xs hown.1 holds a m c news hl hnews (by omega) (by omega) (growslice_fits (by omega) hb)
      have hge := grownCap_ge w (n + m) cap Te
      refine ⟨_, _, hr, ?_⟩
      have e : xs.toArray ++ news.toArray ++ Builtin.zeroCells z.cells (grownCap w (n + m) cap Te - (n + m)) = ((xs ++ news) ++ (Builtin.zeroCells z.cells (grownCap w (n + m) cap Te - (n + m))).toList).toArray := by
        apply Array.ext'; simp
      rw [e]
      have hl2 : (xs ++ news).length = (n + m) * i0.size := by rw [List.length_append, hown.1, hl, Nat.add_mul]
      refine appOK_new hl2 hge (grownCap_le_maxLen w (n + m) cap Te h63) ?_
      rw [hl2, Array.length_toList, size_zeroCells, hz, ← Nat.add_mul]
      congr 1; omega
theorem run_app_str {P : Program} {w : World} {T Tu Te ty : Nat} (u : P.underlying T = some (.slice Te)) (us : P.underlying Tu = some .string) (i : TI P Te 1 1 (.int .u8 0)) {v : Value} {n : Nat} {xs : List Value} (hown : w.ownsRow 0 Te 1 v n xs) (s : ByteArray)
    (h63 : n + s.size ≤ maxLen) (hb : n + s.size ≤ 140737488355328) :
    ∃ v' w', (Builtin.append_ #[T, Tu] ty #[v, .string s]).run P w = .ok v' w' ∧ AppOK w w' Te 1 v v' (n + s.size) (xs ++ strCells s) := by
  obtain ⟨i0, hi, hs1, hb1, hz0⟩ := i
  have hsmall : n + s.size ≤ 9223372036854775807 := by simp only [maxLen] at h63; omega
  rcases hown.2 with ⟨rfl, rfl⟩ | ⟨g, cap, cur, rfl, _, hg, hnc, hcm, hcs, htk⟩
  · obtain ⟨v', w', r1, r2, r3, _⟩ := run_append_own_string (P := P) w w.heap.size T Tu ty Te i0 u us hi hz0 hs1 hb1 (.slice none 0 0) 0 xs ⟨hown.1, .inl ⟨rfl, rfl⟩⟩ s h63 hb (Nat.le_refl _)
    exact ⟨v', w', r1, owns_weak r2, r3, fun b hb => .inr (r2.lt b hb).1⟩
  · by_cases hroom : n + s.size ≤ cap
    · have hr := run_append_room_string (P := P) w T Tu ty Te i0 u us hi hs1 g n cap cur hg s hroom (by omega)
      have := appOK_room (sz := 1) (m := s.size) hg hcm hcs htk hown.1 (news := strCells s) (by rw [strCells_length]; omega) hroom
      simp only [Nat.mul_one, strCells_length] at this
      exact ⟨_, _, hr, this⟩
    · have holds : ∀ (j : Nat) u, xs[j]? = some u → w.cell? ((⟨g, 0, none⟩ : Addr).add j) = some u := hown.cells (g := g) rfl
      have hr := run_append_grow_string (P := P) w T Tu ty Te i0 (.int .u8 0) u us hi hz0 ⟨g, 0, none⟩ n cap xs (by rw [hown.1, hs1]) holds s (by omega) (by omega) (growslice_fits (by omega) (by rw [hb1]; omega))
      have hge := grownCap_ge w (n + s.size) cap Te
      refine ⟨_, _, hr, ?_⟩
      have e : xs.toArray ++ (strCells s).toArray ++ Builtin.zeroCells (Value.int .u8 0).cells (grownCap w (n + s.size) cap Te - (n + s.size)) = ((xs ++ strCells s) ++ (Builtin.zeroCells (Value.int .u8 0).cells (grownCap w (n + s.size) cap Te - (n + s.size))).toList).toArray := by
        apply Array.ext'; simp
      rw [e]
      have hl2 : (xs ++ strCells s).length = (n + s.size) * 1 := by rw [List.length_append, hown.1, strCells_length]; omega
      refine appOK_new hl2 hge (grownCap_le_maxLen w (n + s.size) cap Te h63) ?_
      rw [hl2, Array.length_toList, size_zeroCells]
      show (n + s.size) * 1 + _ * 1 = _
      omega
theorem St.appd {g a} {α : Type} {E : El α} {Te : Nat} {ad : Option Addr} {c : Nat} {ys zs : List α} {own'} (s : St X L fs own g a) (hp : Pick own (Res.arr E Te ad c ys) own') {v' : Value} {w' : World}
    (h : AppOK g.w w' Te E.sz (.slice ad ys.length c) v' zs.length (flat E zs)) : ∃ ad' c' g', v' = .slice ad' zs.length c' ∧ g'.w = w' ∧ St X L fs (Res.arr E Te ad' c' zs :: own') g' a :=
  s.grown hp h.1 h.2.1 (.inr fun b hb => (h.2.2 b hb).imp (fun e => by cases ad <;> simp [Value.ownBlock, vbs] at e ⊢; exact e.symm) id)
/-- append(xs, ys...), xs in a block of its own, ys frozen. -/
theorem S_app {α : Type} {E : El α} {T Te sz by_ d : Nat} {z0 : Value} {x y : Operand} {ad ad2 : Option Addr} {n c n2 c2 : Nat} {ys zs : List α} {own'} (ho : o.op = .call ⟨.builtin .append, #[x, y], #[T, T]⟩) (hl : live arr L o = some true) (hd : o.dst = some d) (hn : Nat.blt d X.n = true)
    (u : X.P.underlying T = some (.slice Te)) (i : TI X.P Te sz by_ z0) (he : E.sz = sz) (hz : z0.cells.size = sz) (hx : evo L x = some (.slice ad n c)) (hy : evo L y = some (.slice ad2 n2 c2)) (hlen : n = ys.length) (hlen2 : n2 = zs.length)
    (hp : Pick own (Res.arr E Te ad c ys) own') (hf : Has fs (SlM E ad2 c2 zs)) (hbig : (ys.length + zs.length) * by_ ≤ 140737488355328) (hbig2 : ys.length + zs.length ≤ 9223372036854775807)
    (h : ∀ ad' c', S X arr l k ((d, .slice ad' (ys ++ zs).length c') :: L) fs (Res.arr E Te ad' c' (ys ++ zs) :: own')) : S X arr (o :: l) k L fs own := by
  intro g a s
  subst he hlen hlen2
  have hown := s.own.p _ (hp.perm.symm.subset (.head _))
  obtain ⟨i0, hi, hsz, hby, hz0⟩ := i
  obtain ⟨hm, hcc, h3⟩ := s.all _ hf.mem
  simp only [wl, live_wanted s.kn hl, if_true]
  have hrun : ∃ v' w', (Builtin.append_ #[T, T] o.type #[.slice ad ys.length c, .slice ad2 zs.length c2]).run X.P g.w = .ok v' w' ∧ AppOK g.w w' Te E.sz (.slice ad ys.length c) v' (ys ++ zs).length (flat E (ys ++ zs)) := by
    rw [List.length_append, flat_append]
    have hown' : g.w.ownsRow 0 Te E.sz (.slice ad ys.length c) ys.length (flat E ys) := hown
    cases ad2 with
    | none =>
      have hzs : zs = [] := by
        rcases zs with _ | ⟨z, zs⟩
        · rfl
        · obtain ⟨_, _, he, _⟩ := h3 (by simp); cases he
      subst hzs
      refine ⟨.slice ad ys.length c, g.w, ?_, by simpa using hown', ⟨rfl, rfl, rfl, Nat.le_refl _, fun _ _ _ => rfl⟩, fun b hb => .inl hb⟩
      rcases hown'.2 with ⟨hv, _⟩ | ⟨gg, cap, cur, hv, _, _, hnc, _⟩
      · injection hv with e1 e2 e3
        subst e1 e3
        simp [Builtin.append_, run_underlying u, sizeOf, typeInfo, hi, Builtin.lenOf, Builtin.firstCells, e2]
      · injection hv with e1 e2 e3
        subst e1 e3
        simp [Builtin.append_, run_underlying u, sizeOf, typeInfo, hi, Builtin.lenOf, Builtin.firstCells, hnc, storeCells]
    | some ad2 =>
      have hnews : ∀ (j : Nat) v, (flat E zs)[j]? = some v → g.w.cell? (ad2.add j) = some v := by
        intro j v hv
        have hne : zs ≠ [] := by intro e; subst e; simp at hv
        obtain ⟨b, oo, he, _, hc⟩ := h3 hne
        cases he
        rw [addr_add]
        exact hc j v hv
      exact run_app u ⟨i0, hi, hsz, hby, hz0⟩ hz E.pos hown' (flat_len E zs) hnews (flat_one E zs) (by simp only [maxLen]; omega) hbig
  obtain ⟨v', w', hr, h1⟩ := hrun
  obtain ⟨ad', c', g', rfl, rfl, s'⟩ := s.appd hp h1
  have hre : (execOp a.eval o).run X.P g.w = .ok (.value (.slice ad' (ys ++ zs).length c')) g'.w := by
    simp only [execOp, ho, resolve]
    simp only [List.map_toArray, List.map_cons, List.map_nil, s.kn.eval hx, s.kn.eval hy]
    simp [invoke, builtin, hr]
  simp only [wn, hre, hd]
  exact h ad' c' g' _ (s'.put hn _)
theorem strCells_eq (s : Bytes) : strCells ⟨s.toArray⟩ = flat elB s := by
  simp only [strCells, flat, elB]
  induction s with
  | nil => rfl
  | cons b s ih => simp only [List.map_cons, List.flatMap_cons, List.cons_append, List.nil_append] at ih ⊢; rw [ih]
/-- append(b, s...), s a string. -/
theorem S_appS {T Tu Te d : Nat} {x y : Operand} {ad : Option Addr} {n c : Nat} {ys zs : Bytes} {own'} (ho : o.op = .call ⟨.builtin .append, #[x, y], #[T, Tu]⟩) (hl : live arr L o = some true) (hd : o.dst = some d) (hn : Nat.blt d X.n = true)
    (u : X.P.underlying T = some (.slice Te)) (us : X.P.underlying Tu = some .string) (i : TI X.P Te 1 1 (.int .u8 0)) (hx : evo L x = some (.slice ad n c)) (hy : evo L y = some (str zs)) (hlen : n = ys.length)
    (hp : Pick own (Res.arr elB Te ad c ys) own') (hbig : ys.length + zs.length ≤ 140737488355328)
    (h : ∀ ad' c', S X arr l k ((d, .slice ad' (ys ++ zs).length c') :: L) fs (Res.arr elB Te ad' c' (ys ++ zs) :: own')) : S X arr (o :: l) k L fs own := by
  intro g a s
  subst hlen
  have hown := s.own.p _ (hp.perm.symm.subset (.head _))
  obtain ⟨v', w', hr, h1⟩ := run_app_str (P := X.P) (w := g.w) (ty := o.type) u us i hown ⟨zs.toArray⟩ (by rw [str_size]; simp only [maxLen]; omega) (by rw [str_size]; exact hbig)
  rw [str_size, strCells_eq] at h1
  have h1' : AppOK g.w w' Te elB.sz (.slice ad ys.length c) v' (ys ++ zs).length (flat elB (ys ++ zs)) := by rw [List.length_append, flat_append]; exact h1
  obtain ⟨ad', c', g', rfl, rfl, s'⟩ := s.appd hp h1'
  simp only [wl, live_wanted s.kn hl, if_true]
  have hre : (execOp a.eval o).run X.P g.w = .ok (.value (.slice ad' (ys ++ zs).length c')) g'.w := by
    simp only [execOp, ho, resolve]
    simp only [List.map_toArray, List.map_cons, List.map_nil, s.kn.eval hx, s.kn.eval hy]
    simp [invoke, builtin, str, hr]
  simp only [wn, hre, hd]
  exact h ad' c' g' _ (s'.put hn _)
theorem foldl_push : ∀ (ys : Bytes) (r : ByteArray), (ys.map fun b => (b.toNat : Int)).foldl (fun r n => r.push (UInt8.ofNat n.toNat)) r = ⟨(r.data.toList ++ ys).toArray⟩
  | [], r => by simp
  | y :: ys, r => by
    simp only [List.map_cons, List.foldl_cons, foldl_push ys]
    have : (r.push (UInt8.ofNat (y.toNat : Int).toNat)).data.toList = r.data.toList ++ [y] := by
      show (r.data.push _).toList = _
      simp
    rw [this]; simp
/-- string(b). -/
theorem Y_b2s {sT dT e : Nat} {x : Operand} {ad : Option Addr} {n c : Nat} {ys : Bytes} (ho : o.op = .convert sT dT x) (hx : evo L x = some (.slice ad n c)) (hlen : n = ys.length) (hf : Has fs (SlM elB ad c ys))
    (us : X.P.underlying sT = some (.slice e)) (ue : X.P.underlying e = some (.int .u8)) (ud : X.P.underlying dT = some .string) : Yld X o L fs own (str ys) := by
  intro g a s
  subst hlen
  obtain ⟨hm, hcc, h3⟩ := s.all _ hf.mem
  have hcv : (convert sT dT (.slice ad ys.length c)).run X.P g.w = .ok (str ys) g.w := by
    rw [run_convert_bytes_string g.w sT dT e ad ys.length c us ue ud]
    cases ad with
    | none =>
      have : ys = [] := by
        rcases ys with _ | ⟨z, zs⟩
        · rfl
        · obtain ⟨_, _, he, _⟩ := h3 (by simp); cases he
      subst this
      rfl
    | some ad =>
      have hl := run_loadCells_list (P := X.P) (w := g.w) ad (flat elB ys) (fun j v hv => by
        have hne : ys ≠ [] := by intro e; subst e; simp at hv
        obtain ⟨b, oo, he, _, hc⟩ := h3 hne
        cases he
        rw [addr_add]
        exact hc j v hv)
      have hfl : flat elB ys = (ys.map fun b => (b.toNat : Int)).map (Value.int .u8) := by
        rw [← strCells_eq]; simp [strCells]
      have hlen : (flat elB ys).length = ys.length := by rw [flat_len]; exact Nat.mul_one _
      rw [hlen, hfl] at hl
      rw [run_bytesToString g.w ad ys.length c (ys.map fun b => (b.toNat : Int)) hl, foldl_push]
      rfl
  simp only [execOp, ho, s.kn.eval hx]
  simp [hcv]
/-- A value of a concrete type, as an interface. -/
theorem Y_mkI {T : Nat} {x : Operand} {v : Value} {d} (ho : o.op = .makeInterface T x) (hx : evo L x = some v) (u : X.P.underlying T = some d) (hd : ∀ ms, d ≠ .interface ms) : Yld X o L fs own (.iface T v) := by
  intro g a s
  simp only [execOp, ho, s.kn.eval hx]
  cases d <;> first | (simp [Instr.makeInterface, run_underlying u]; done) | exact (hd _ rfl).elim
/-- A struct by its fields. -/
structure BT (P : Program) (T : Nat) (pl : List (Nat × Nat)) (zs : List Value) : Prop where
  ex : ∃ fields z, P.underlying T = some (.struct fields) ∧ (∃ i, P.info? T = some i ∧ i.zero = some z) ∧ z.cells = zs.toArray ∧ ∀ w, (fields.mapM fun f => do pure (f.offset, ← sizeOf f.type) : Sem (Array (Nat × Nat))).run P w = .ok pl.toArray w
def appK {β : Type} : List Value → List Value → (List Value → β) → β
  | [], acc, k => k acc
  | x :: xs, acc, k => appK xs acc (fun r => k (x :: r))
def cellsK {β : Type} (v : Value) (acc : List Value) (k : List Value → β) : β :=
  match v with
  | .agg cs => appK cs.toList acc k
  | .bool b => k (.bool b :: acc)
  | .int kk n => k (.int kk n :: acc)
  | .string s => k (.string s :: acc)
  | .pointer a => k (.pointer a :: acc)
  | .slice a n c => k (.slice a n c :: acc)
  | .map r => k (.map r :: acc)
  | .func f a b => k (.func f a b :: acc)
  | .nilFunc => k (.nilFunc :: acc)
  | .iface t v => k (.iface t v :: acc)
  | .nilIface => k (.nilIface :: acc)
  | v => k (v :: acc)
/-- The cells of some operands, the last one first. -/
def evlR (L : LL) : List Operand → List Value → Option (List Value)
  | [], acc => some acc
  | x :: r, acc => match evo L x with | some v => cellsK v acc (fun acc' => evlR L r acc') | none => none
theorem Y_build {T : Nat} {parts : List (Nat × Operand)} {pl : List (Nat × Nat)} {zs : List Value} {vs : List Value} {cl : List Value} (fo : List Operand) (b : BT X.P T pl zs) (ho : o.op = .build T parts.toArray) (hv : evl L (parts.map (·.2)) = some vs) (_hw : evlR L fo [] = some cl)
    (hc : Instr.fill (fun (i : Nat) => pl[i]?) zs.toArray ((parts.map (·.1)).zip vs) = some cl.toArray) : Yld X o L fs own (.agg cl.toArray) := by
  intro g a s
  obtain ⟨fields, z, u, ⟨i, hi, hz⟩, hzc, hm⟩ := b
  have hvals := s.kn.evals hv
  have hz2 : (parts.map (·.1)).zip vs = parts.map fun p => (p.1, a.eval p.2) := by
    rw [← hvals, List.map_map]
    clear hv hvals hc ho
    induction parts with
    | nil => rfl
    | cons p ps ih => simp only [List.map_cons, List.zip_cons_cons, ih]; rfl
  rw [hz2] at hc
  simp only [execOp, ho]
  have hfun : (fun (x : Nat) => pl.toArray[x]?) = fun (i : Nat) => pl[i]? := by funext i; simp
  have hm' := hm g.w
  have hpp : (Array.map (fun (x : Nat × Operand) => (x.1, a.eval x.2)) parts.toArray).toList = parts.map fun p => (p.1, a.eval p.2) := by simp
  have hb : (Instr.build T (Array.map (fun (x : Nat × Operand) => (x.1, a.eval x.2)) parts.toArray)).run X.P g.w = .ok (.agg cl.toArray) g.w := by
    simp only [Instr.build, Sem.run_bind, zeroValue, typeInfo, run_program, hi, hz, Result.andThen_ok, Sem.run_pure, run_underlying u, hm', hzc]
    rw [hpp, hfun, hc]
    rfl
  show (do let v ← Instr.build T (Array.map (fun (x : Nat × Operand) => (x.1, a.eval x.2)) parts.toArray); pure (Next.value v) : Sem Next).run X.P g.w = _
  rw [Sem.run_bind, hb]
  rfl
end
end Go.KX

/- Closed facts on types, out of a reckoning of the kernel's. No program in sight. -/
namespace Go.KX
theorem TI_of {P : Program} {T sz by_ : Nat} {z : Value} (h : (P.info? T).map (fun i => (i.size, i.bytes, i.zero)) = some (sz, by_, some z)) : TI P T sz by_ z := by
  cases hi : P.info? T with
  | none => rw [hi] at h; cases h
  | some i =>
    rw [hi] at h
    simp only [Option.map_some, Option.some.injEq, Prod.mk.injEq] at h
    exact ⟨i, hi, h.1, h.2.1, h.2.2⟩
def lyF (P : Program) (f : Field) : Option (Nat × Nat × Bool) :=
  match P.underlying f.type, P.info? f.type with
  | some d, some i => match i.size with | 0 => none | n + 1 => some (f.offset, n + 1, aggD d)
  | _, _ => none
def lyB (P : Program) : List Field → Option (List (Nat × Nat × Bool))
  | [] => some []
  | f :: r => match lyF P f, lyB P r with | some x, some xs => some (x :: xs) | _, _ => none
theorem lyB_get {P : Program} : ∀ {fs : List Field} {pl}, lyB P fs = some pl → fs.length = pl.length ∧ ∀ (j : Nat) x, pl[j]? = some x → ∃ f, fs[j]? = some f ∧ lyF P f = some x
  | [], pl, h => by simp [lyB] at h; subst h; simp
  | f :: r, pl, h => by
    simp only [lyB] at h
    split at h
    · rename_i x xs hx hxs
      cases h
      obtain ⟨h1, h2⟩ := lyB_get hxs
      refine ⟨by simp [h1], fun j y hy => ?_⟩
      cases j with
      | zero => simp at hy; subst hy; exact ⟨f, by simp, hx⟩
      | succ j => simp at hy; obtain ⟨f', h3, h4⟩ := h2 j y hy; exact ⟨f', by simpa using h3, h4⟩
    · cases h
theorem LY_of {P : Program} {T : Nat} {fields : List Field} {pl} (u : P.underlying T = some (.struct fields.toArray)) (h : lyB P fields = some pl) : LY P T pl := by
  obtain ⟨h1, h2⟩ := lyB_get h
  refine ⟨fields.toArray, u, by simpa using h1, fun f off sz ag hf => ?_⟩
  obtain ⟨fd, h3, h4⟩ := h2 f _ hf
  unfold lyF at h4
  split at h4
  · rename_i d i hd hi
    split at h4
    · cases h4
    · rename_i n hn
      cases h4
      exact ⟨by omega, fd, d, by simpa using h3, rfl, hd, rfl, i, hi, hn⟩
  · cases h4
theorem BT_of {P : Program} {T sz by_ : Nat} {fields : List Field} {pl : List (Nat × Nat × Bool)} {zs : List Value} (u : P.underlying T = some (.struct fields.toArray)) (h : lyB P fields = some pl) (i : TI P T sz by_ (.agg zs.toArray)) : BT P T (pl.map fun p => (p.1, p.2.1)) zs := by
  obtain ⟨i0, h1, h2, h3, h4⟩ := i
  refine ⟨fields.toArray, .agg zs.toArray, u, ⟨i0, h1, h4⟩, rfl, fun w => ?_⟩
  have key : ∀ (fs : List Field) (pl : List (Nat × Nat × Bool)), lyB P fs = some pl → (fs.mapM fun f => do pure (f.offset, ← sizeOf f.type) : Sem (List (Nat × Nat))).run P w = .ok (pl.map fun p => (p.1, p.2.1)) w := by
    intro fs
    induction fs with
    | nil => intro pl h; simp [lyB] at h; subst h; rfl
    | cons f r ih =>
      intro pl h
      simp only [lyB] at h
      split at h
      · rename_i x xs hx hxs
        cases h
        unfold lyF at hx
        split at hx
        · rename_i d i hd hi
          split at hx
          · cases hx
          · rename_i n hn
            cases hx
            have hs : (sizeOf f.type).run P w = .ok (n + 1) w := by simp [sizeOf, typeInfo, hi, hn]
            simp only [List.mapM_cons, Sem.run_bind, hs, Result.andThen_ok, Sem.run_pure, ih xs hxs, List.map_cons]
        · cases hx
      · cases h
  rw [List.mapM_toArray, Sem.run_map, key fields pl h]
  rfl
end Go.KX

/- Smaller steps: negated tests, literals of one element, whole structs stored, arrays. No program in sight. -/
namespace Go.KX
section
variable {X : Cx} {k : List It} {L : LL} {fs : List MF} {own : List Res} {arr : Array Oper} {l : List Oper} {o : Oper}
theorem sliceE {ad : Option Addr} {a b c : Nat} (h : a = b) : some (Value.slice ad a c) = some (Value.slice ad b c) := by rw [h]
theorem C_ifn {c : Operand} {x y : Code} {p : Prop} [Decidable p] (hc : evo L c = some (.bool (!decide p))) (ht : ¬ p → C X (.code x :: k) L fs own) (hf : p → C X (.code y :: k) L fs own) :
    C X (.code (.cond c x y) :: k) L fs own :=
  C_cond hc (fun h => ht (by simpa using h)) (fun h => hf (by simpa using h))
theorem Y_strgtr {T yT : TypeId} {x y : Operand} {p q : Bytes} (ho : o.op = .binOp .gtr T x y yT) (hx : evo L x = some (str p)) (hy : evo L y = some (str q)) : Yld X o L fs own (.bool (!(blt p q || decide (p = q)))) :=
  Y_bin ho hx hy rfl (fun w => by simp [str, binOp, Op.stringOp, blt, beq_dec])
theorem Y_strleq {T yT : TypeId} {x y : Operand} {p q : Bytes} (ho : o.op = .binOp .leq T x y yT) (hx : evo L x = some (str p)) (hy : evo L y = some (str q)) : Yld X o L fs own (.bool (blt p q || decide (p = q))) :=
  Y_bin ho hx hy rfl (fun w => by simp [str, binOp, Op.stringOp, blt, beq_dec])
/-- A slice literal of one element that is one cell. -/
theorem S_lit1 {α : Type} (E : El α) {f : α → Value} (hE : ∀ y, E.enc y = [f y]) {y : α} {d T e sz by_ : Nat} {z0 : Value} {x : Operand} (ho : o.op = .buildSlice T 1 #[(0, x)]) (hl : live arr L o = some true) (hd : o.dst = some d) (hn : Nat.blt d X.n = true)
    (u : X.P.underlying T = some (.slice e)) (i : TI X.P e sz by_ z0) (he : E.sz = sz) (hz : z0.cells.size = sz) (hx : evo L x = some (f y)) (hc : (f y).cells = #[f y])
    (h : ∀ ad c, S X arr l k ((d, .slice ad [y].length c) :: L) fs (Res.arr E e ad c [y] :: own)) : S X arr (o :: l) k L fs own := by
  refine S_lit (E := E) [y] (parts := [(0, x)]) (vs := [f y]) ho hl hd hn u i he hz rfl (by simp [evl, hx]) (by simp [hc, hE]) ?_ h
  have := E.len y
  rw [hE] at this
  simp at this
  omega
/-- A whole struct stored over a block of its own. -/
theorem S_stS {T b : Nat} {x y : Operand} {cs cs' : Array Value} {T' sz by_ : Nat} {z : Value} {own'} (ho : o.op = .store T x y) (hl : live arr L o = some true) (hd : o.dst = none) (i : TI X.P T sz by_ z)
    (hx : evo L x = some (.pointer (some ⟨b, 0, none⟩))) (hy : evo L y = some (.agg cs')) (hsz : cs'.size = sz) (hv : cs'.toList.all (·.oneCell') = true) (hp : Pick own (Res.blk b (.cells cs T' (0, 0))) own') (hlt : cs.size = cs'.size)
    (h : S X arr l k L fs (Res.blk b (.cells cs' T' (0, 0)) :: own')) : S X arr (o :: l) k L fs own := by
  refine S_eff0 hl hd (fun g a s => ?_) h
  have hb := blk_of s hp
  have hbs : b < g.w.heap.size := by
    rcases Nat.lt_or_ge b g.w.heap.size with h | h
    · exact h
    · rw [Array.getElem?_eq_none h] at hb; cases hb
  have hall : ∀ u ∈ cs'.toList, u.oneCell' = true := by
    intro u hu
    exact List.all_eq_true.1 hv u hu
  have hst := run_storeCells_at X.P b 0 T' cs'.toList 0 cs g.w hb (by simp [hlt]) hall
  simp only [Nat.add_zero, List.take_zero, List.nil_append, Nat.zero_add] at hst
  have hrow : (cs'.toList ++ cs.toList.drop cs'.toList.length).toArray = cs' := by
    apply Array.ext'
    rw [List.drop_of_length_le (by simp [hlt])]
    simp
  rw [hrow] at hst
  obtain ⟨g', hw, s'⟩ := s.turn hp (r' := Res.blk b (.cells cs' T' (0, 0))) (w' := g.w.setRow b cs')
    (fun b' _ hx' => setRow_other g.w b b' cs' (fun e => hx' (by rw [e]; exact .head _))) rfl rfl rfl (by simp) (setRow_heap g.w b cs cs' T' _ hb) (by simp [Res.blk]) (fun b' hb' => by
      have : b' = b := by simpa [Res.blk] using hb'
      subst this; simpa using hbs) (fun b' hb' => .inl hb')
  refine ⟨g', ?_, s'⟩
  rw [hw]
  simp only [execOp, ho, s.kn.eval hx, s.kn.eval hy]
  simp only [Instr.storeAt, Instr.sureAddr, storeVar, Sem.run_bind, Sem.run_pure, Result.andThen_ok, run_sizeOf i, Value.cells]
  simp only [hsz, ne_eq, not_true_eq_false, if_false, hst]
  rfl
/-- A block's cells said otherwise. -/
theorem St.blkAs {g a} {b : Nat} {cs cs' : Array Value} {T : Nat} {fr} {own'} (hr : Pick own (Res.blk b (.cells cs T fr)) own') (e : cs = cs') (s : St X L fs own g a) : St X L fs (Res.blk b (.cells cs' T fr) :: own') g a := by
  subst e
  exact ⟨s.kn, s.all, s.own.perm hr.perm, s.ext, fun x hx => s.new x ((blks_perm hr.perm).symm.subset hx)⟩
theorem C_blkAs {b : Nat} {cs cs' : Array Value} {T : Nat} {fr} {own'} (hr : Pick own (Res.blk b (.cells cs T fr)) own') (e : cs = cs') (h : C X k L fs (Res.blk b (.cells cs' T fr) :: own')) : C X k L fs own :=
  fun g a s => h g a (s.blkAs hr e)
theorem S_blkAs {b : Nat} {cs cs' : Array Value} {T : Nat} {fr} {own'} (hr : Pick own (Res.blk b (.cells cs T fr)) own') (e : cs = cs') (h : S X arr l k L fs (Res.blk b (.cells cs' T fr) :: own')) : S X arr l k L fs own :=
  fun g a s => h g a (s.blkAs hr e)
/-- What is owned becomes a persistent fact. -/
theorem St.freeze {g a} {b : Nat} {cs : Array Value} {T : Nat} {fr} {own'} (hr : Pick own (Res.blk b (.cells cs T fr)) own') (s : St X L fs own g a) :
    ∃ g', g'.w = g.w ∧ St X L (PtM b 0 cs.toList :: fs) own' g' a := by
  have hp := hr.perm
  have ho := s.own.perm hp
  have hown : g.w.heap[b]? = some (.cells cs T fr) := ho.p _ (.head _)
  have hnew := s.new b ((blks_perm hp).symm.subset (by simp [Res.blk]))
  let g' : GW := ⟨g.w, fun x => g.fz x ∨ x = b, fun x hx => hx.elim (g.lt x) (fun h => by subst h; exact ho.lt x (by simp [Res.blk]))⟩
  have hF : FExt g g' := ⟨rfl, rfl, rfl, Nat.le_refl _, fun _ h => .inl h, fun _ _ => rfl⟩
  have hnd : (b :: blks own').Nodup := ho.nodup
  refine ⟨g', rfl, s.kn, All.cons ⟨.inr rfl, fun j x hx => ?_⟩ (s.all.mono hF), ?_, ?_, fun x hx => s.new x ((blks_perm hp).symm.subset (by simp [hx]))⟩
  · show g.w.cell? _ = _
    simp only [World.cell?, hown, Nat.zero_add]
    simpa using hx
  · exact ⟨fun r hr' => ho.p r (.tail _ hr'), (List.nodup_cons.1 hnd).2, fun x hx => ho.lt x (by simp [hx]), fun x hx hf => hf.elim (ho.nfz x (by simp [hx])) (fun e => (List.nodup_cons.1 hnd).1 (e ▸ hx))⟩
  · refine ⟨s.ext.toFExt.trans hF, s.ext.keep, fun x hx hn hf => ?_⟩
    rcases hf with hf | hf
    · exact s.ext.nofz x hx hn hf
    · subst hf
      rcases hnew with h1 | h1
      · exact (hn h1).elim
      · omega
theorem C_frz {b : Nat} {cs : Array Value} {T : Nat} {fr} {own'} (hr : Pick own (Res.blk b (.cells cs T fr)) own') (h : C X k L (PtM b 0 cs.toList :: fs) own') : C X k L fs own :=
  C_ghost (fun _ _ s => s.freeze hr) h
theorem S_frz {b : Nat} {cs : Array Value} {T : Nat} {fr} {own'} (hr : Pick own (Res.blk b (.cells cs T fr)) own') (h : S X arr l k L (PtM b 0 cs.toList :: fs) own') : S X arr l k L fs own :=
  S_ghost (fun _ _ s => s.freeze hr) h
/-- The address of an element of an array behind a pointer. -/
theorem Y_ixArr {T e n sz by_ : Nat} {z0 : Value} {x ix : Operand} {b oo : Nat} {kk : IntKind} {z : Int} (ho : o.op = .indexAddr T x ix) (u : X.P.underlying T = some (.array n e)) (i : TI X.P e sz by_ z0)
    (hx : evo L x = some (.pointer (some ⟨b, oo, none⟩))) (hi : evo L ix = some (.int kk z)) (h0 : 0 ≤ z) (h1 : z < n) : Yld X o L fs own (.pointer (some ⟨b, oo + z.toNat * sz, none⟩)) := by
  intro g a s
  simp only [execOp, ho, s.kn.eval hx, s.kn.eval hi]
  simp only [Instr.indexAt, asIntOf, Sem.run_bind, Sem.run_pure, Result.andThen_ok, run_underlying u, Instr.sureAddr]
  rw [if_pos ⟨h0, h1⟩]
  simp only [Sem.run_bind, run_sizeOf i, Result.andThen_ok, Sem.run_pure, addr_add]
/-- arr[lo:], arr behind a pointer, its cells frozen. -/
theorem Y_slArr {α : Type} {E : El α} (ys : List α) {T e n sz by_ : Nat} {z0 : Value} {x : Operand} {lo : Option Operand} {b : Nat} {cs : List Value} {zl : Int} (ho : o.op = .slice T x lo none none) (u : X.P.underlying T = some (.array n e)) (i : TI X.P e sz by_ z0) (he : E.sz = sz)
    (hx : evo L x = some (.pointer (some ⟨b, 0, none⟩))) (hf : Has fs (PtM b 0 cs)) (hcs : cs = flat E ys) (hn : ys.length = n) (hm : n ≤ 9223372036854775807) (hlo : bnd L lo 0 zl) (h0 : 0 ≤ zl) (h1 : zl ≤ n) :
    YX X o L fs own (fun v fs' => ∃ ad' c', v = .slice ad' (ys.drop zl.toNat).length c' ∧ fs' = [SlM E ad' c' (ys.drop zl.toNat)]) := by
  intro g a s
  subst he hcs
  obtain ⟨hfz, hc⟩ := s.all _ hf.mem
  have hb := run_sliceBounds (P := X.P) (w := g.w) s.kn (hi := none) (zh := n) false n n hlo rfl h0 h1 (Int.le_refl _)
  have hln : (ys.drop zl.toNat).length = n - zl.toNat := by simp; omega
  refine ⟨_, _, ⟨some (if n = zl.toNat then ⟨b, 0, none⟩ else (⟨b, 0, none⟩ : Addr).add (zl.toNat * E.sz)), n - zl.toNat, rfl, rfl⟩, ?_, ?_⟩
  · simp only [execOp, ho, s.kn.eval hx]
    rw [hln]
    simp only [Option.map_none] at hb
    simp only [Instr.sliceAt, Instr.sureAddr, Sem.run_bind, run_underlying u, Result.andThen_ok, Option.map_none, hb, run_sizeOf i, Sem.run_pure, Int.toNat_natCast]
  · refine All.cons ⟨by rw [hln]; simp only [maxLen]; omega, by rw [hln]; omega, fun hne => ?_⟩ (fun f hf => by cases hf)
    have hlt : zl.toNat < n := by
      rcases Nat.lt_or_ge zl.toNat n with h | h
      · exact h
      · exfalso; apply hne; rw [List.eq_nil_iff_length_eq_zero, hln]; omega
    rw [if_neg (by omega)]
    refine ⟨b, 0 + zl.toNat * E.sz, by rw [addr_add], hfz, fun j x hx' => ?_⟩
    rw [← flat_drop, List.getElem?_drop] at hx'
    have := hc _ x hx'
    rwa [← Nat.add_assoc] at this
end
end Go.KX

/- Regions that draw their order: one operation may be taken first; or every ready one is tried. No program in sight. -/
namespace Go.KX
section
variable {P : Program} {ops : Array Oper}
theorem opN_op {m : Option Nat} {Q : Exit → Act → World → Prop} {i : Nat} {K K' : Act → World → Prop} {a : Act} {w : World} (hK : ∀ a w, K a w → K' a w) (h : opN P ops i K a w) : wpOpIn (fen m) 0 P ops Q i K' a w := by
  unfold opN at h
  unfold wpOpIn
  split
  · rename_i ho; simp only [ho] at h; exact hK _ _ h
  · rename_i o ho
    simp only [ho] at h
    split
    · rename_i hw; simp only [hw, if_true] at h; exact wn_wp hK h
    · rename_i hw; simp only [hw] at h; exact ⟨fun _ _ => trivial, hK _ _ h⟩
theorem opN_mono {i : Nat} {K K' : Act → World → Prop} {a : Act} {w : World} (hK : ∀ a w, K a w → K' a w) (h : opN P ops i K a w) : opN P ops i K' a w := by
  unfold opN at h ⊢
  split
  · rename_i ho; simp only [ho] at h; exact hK _ _ h
  · rename_i o ho
    simp only [ho] at h
    split
    · rename_i hw; simp only [hw, if_true] at h; exact wn_mono hK h
    · rename_i hw; simp only [hw] at h; exact hK _ _ h
theorem anyN_any {m : Option Nat} {Q : Exit → Act → World → Prop} : ∀ (f : Nat) (listed : Array Bool) (a : Act) (w : World), anyN P ops (Q .normal) f listed a w → wpAnyIn (fen m) 0 P .any ops Q f listed a w
  | 0, _, _, _, h => h
  | f + 1, _, _, _, h => ⟨h.1, fun i hi => opN_op (fun a w h => anyN_any f _ a w h) (h.2 i hi)⟩

/-! ### Operations that leave the world alone -/
def dead {α : Type} : Sem α → Prop
  | .pure _ => False
  | .load _ _ k => ∀ v, dead (k v)
  | .store .. => False
  | .new .. => False
  | .shape _ k => ∀ s, dead (k s)
  | .freeze .. => False
  | .frozen _ k => ∀ b, dead (k b)
  | .getObj _ k => ∀ o, dead (k o)
  | .setObj .. => False
  | .choose _ k => ∀ n, dead (k n)
  | .sys .. => False
  | .program k => ∀ p, dead (k p)
  | .mark _ k => dead k
  | .halt _ => True
def calmS {α : Type} : Sem α → Prop
  | .pure _ => True
  | .load _ _ k => ∀ v, calmS (k v)
  | .store .. => False
  | .new .. => False
  | .shape _ k => ∀ s, calmS (k s)
  | .freeze .. => False
  | .frozen _ k => ∀ b, calmS (k b)
  | .getObj _ k => ∀ o, calmS (k o)
  | .setObj .. => False
  | .choose _ k => ∀ n, dead (k n)
  | .sys .. => False
  | .program k => ∀ p, calmS (k p)
  | .mark _ k => calmS k
  | .halt _ => True
theorem dead_run {α : Type} : ∀ (s : Sem α) (w : World), dead s → ∀ v w', s.run P w ≠ .ok v w'
  | .pure _, _, h => h.elim
  | .load _ _ k, w, h => fun v w' => by
    simp only [Sem.run]
    split
    · exact dead_run _ w (h _) v w'
    · split
      · exact dead_run _ w (h _) v w'
      · simp
  | .store .., _, h => h.elim
  | .new .., _, h => h.elim
  | .shape _ k, w, h => fun v w' => dead_run (k _) w (h _) v w'
  | .freeze .., _, h => h.elim
  | .frozen _ k, w, h => fun v w' => dead_run (k _) w (h _) v w'
  | .getObj _ k, w, h => fun v w' => by
    simp only [Sem.run]
    split
    · simp
    · exact dead_run _ w (h _) v w'
    · simp
  | .setObj .., _, h => h.elim
  | .choose _ k, w, h => fun v w' => by
    simp only [Sem.run]
    split
    · exact dead_run _ _ (h _) v w'
    · exact dead_run _ _ (h _) v w'
  | .sys .., _, h => h.elim
  | .program k, w, h => fun v w' => dead_run (k P) w (h _) v w'
  | .mark _ k, w, h => fun v w' => dead_run k w h v w'
  | .halt _, w, _ => fun v w' => by simp [Sem.run]
theorem calm_run {α : Type} : ∀ (s : Sem α) (w : World), calmS s → ∀ v w', s.run P w = .ok v w' → w' = w
  | .pure _, _, _ => fun v w' h => by simp [Sem.run] at h; exact h.2.symm
  | .load _ _ k, w, h => fun v w' hr => by
    simp only [Sem.run] at hr
    split at hr
    · exact calm_run _ w (h _) v w' hr
    · split at hr
      · exact calm_run _ w (h _) v w' hr
      · simp at hr
  | .store .., _, h => h.elim
  | .new .., _, h => h.elim
  | .shape _ k, w, h => fun v w' hr => calm_run (k _) w (h _) v w' hr
  | .freeze .., _, h => h.elim
  | .frozen _ k, w, h => fun v w' hr => calm_run (k _) w (h _) v w' hr
  | .getObj _ k, w, h => fun v w' hr => by
    simp only [Sem.run] at hr
    split at hr
    · simp at hr
    · exact calm_run _ w (h _) v w' hr
    · simp at hr
  | .setObj .., _, h => h.elim
  | .choose _ k, w, h => fun v w' hr => by
    simp only [Sem.run] at hr
    split at hr
    · exact (dead_run _ _ (h _) v w' hr).elim
    · exact (dead_run _ _ (h _) v w' hr).elim
  | .sys .., _, h => h.elim
  | .program k, w, h => fun v w' hr => calm_run (k P) w (h _) v w' hr
  | .mark _ k, w, h => fun v w' hr => calm_run k w h v w' hr
  | .halt _, w, _ => fun v w' hr => by simp [Sem.run] at hr
theorem dead_bind {α β : Type} {f : α → Sem β} : ∀ {s : Sem α}, dead s → dead (s >>= f)
  | .pure _, h => h.elim
  | .load _ _ _, h => fun v => dead_bind (h v)
  | .store .., h => h.elim
  | .new .., h => h.elim
  | .shape _ _, h => fun v => dead_bind (h v)
  | .freeze .., h => h.elim
  | .frozen _ _, h => fun v => dead_bind (h v)
  | .getObj _ _, h => fun v => dead_bind (h v)
  | .setObj .., h => h.elim
  | .choose _ _, h => fun v => dead_bind (h v)
  | .sys .., h => h.elim
  | .program _, h => fun v => dead_bind (h v)
  | .mark _ k, h => dead_bind (s := k) h
  | .halt _, _ => trivial
theorem calm_bind {α β : Type} {f : α → Sem β} (hf : ∀ a, calmS (f a)) : ∀ {s : Sem α}, calmS s → calmS (s >>= f)
  | .pure a, _ => hf a
  | .load _ _ _, h => fun v => calm_bind hf (h v)
  | .store .., h => h.elim
  | .new .., h => h.elim
  | .shape _ _, h => fun v => calm_bind hf (h v)
  | .freeze .., h => h.elim
  | .frozen _ _, h => fun v => calm_bind hf (h v)
  | .getObj _ _, h => fun v => calm_bind hf (h v)
  | .setObj .., h => h.elim
  | .choose _ _, h => fun v => dead_bind (h v)
  | .sys .., h => h.elim
  | .program _, h => fun v => calm_bind hf (h v)
  | .mark _ k, h => calm_bind hf (s := k) h
  | .halt _, _ => trivial
theorem calm_pure {α : Type} (a : α) : calmS (pure a : Sem α) := trivial
theorem calm_stuck {α : Type} (s : String) : calmS (stuck s : Sem α) := trivial
theorem calm_unsup {α : Type} (u : Unsupported) : calmS (unsupported u : Sem α) := trivial
theorem dead_panic {α : Type} (v : Value) : dead (goPanic v : Sem α) := trivial
theorem calm_under (t : TypeId) : calmS (underlying t) := fun p => by
  show calmS (match p.underlying t with | some d => pure d | none => stuck "no such type" : Sem TypeDesc)
  cases p.underlying t <;> trivial
theorem calm_info (t : TypeId) : calmS (typeInfo t) := fun p => by
  show calmS (match p.info? t with | some d => pure d | none => stuck "no such type" : Sem TypeInfo)
  cases p.info? t <;> trivial
theorem calm_prog : calmS program := fun _ => trivial
theorem calm_shape (r : Nat) : calmS (shape r) := fun _ => trivial
theorem calm_getObj (r : Nat) : calmS (getObj r) := fun _ => trivial
theorem calm_size (t : TypeId) : calmS (sizeOf t) := calm_bind (fun _ => calm_pure _) (calm_info t)
theorem calm_agg (t : TypeId) : calmS (isAgg t) := calm_bind (fun d => by cases d <;> trivial) (calm_under t)
theorem calm_load (a : Addr) : calmS (load a) := fun _ => trivial
theorem calm_loadFrom (a : Addr) : ∀ (n i : Nat) (acc : Array Value), calmS (loadCellsFrom a i n acc)
  | 0, _, acc => calm_pure acc
  | n + 1, _, _ => calm_bind (fun _ => calm_loadFrom a n _ _) (calm_load _)
theorem calm_loadVar (t : TypeId) (a : Addr) : calmS (loadVar t a) :=
  calm_bind (fun b => by cases b <;> first | exact calm_load a | exact calm_bind (fun _ => calm_bind (fun _ => calm_pure _) (calm_loadFrom a _ _ _)) (calm_size t)) (calm_agg t)
theorem calm_viewAt (r : Nat) : calmS (viewAt r) := by
  unfold viewAt
  refine calm_bind (fun s => ?_) (calm_shape r)
  split
  · trivial
  · refine calm_bind (fun ob => ?_) (calm_getObj r)
    cases ob <;> trivial
theorem calm_noView (a : Addr) : calmS (noView a) := by
  unfold noView
  refine calm_bind (fun b => ?_) (calm_viewAt _)
  split <;> trivial
theorem calm_byteOf (a : Addr) : calmS (byteOf a) := by
  unfold byteOf
  split
  · trivial
  · refine calm_bind (fun p => calm_bind (fun _ => calm_bind (fun s => ?_) (calm_shape _)) (calm_noView a)) calm_prog
    cases s with
    | none => trivial
    | some s =>
      dsimp only
      split
      · trivial
      · split <;> trivial
theorem calm_partAt (a : Addr) (c b : Nat) : calmS (partAt a c b) :=
  calm_bind (fun _ => calm_bind (fun _ => calm_pure _) (calm_byteOf _)) (calm_byteOf a)
theorem calm_fieldPlace (a : Addr) (f : Field) : calmS (fieldPlace a f) :=
  calm_bind (fun n => by show calmS (if n = 0 then _ else _); split; exact calm_partAt _ _ _; exact calm_pure _) (calm_size _)
theorem calm_sure (v : Value) : calmS (Instr.sureAddr v) := by
  cases v with
  | pointer a => cases a <;> trivial
  | _ => trivial
theorem calm_fieldAt (s : TypeId) (v : Value) (f : Nat) : calmS (Instr.fieldAt s v f) := by
  unfold Instr.fieldAt
  refine calm_bind (fun d => ?_) (calm_under s)
  cases d <;> try trivial
  dsimp only
  split
  · exact calm_bind (fun a => calm_bind (fun _ => calm_pure _) (calm_fieldPlace a _)) (calm_sure v)
  · trivial
theorem calm_len (ts : Array TypeId) (ty : TypeId) (args : Array Value) : calmS (Builtin.len_ ts ty args) := by
  unfold Builtin.len_
  split
  · refine calm_bind (fun d => ?_) (calm_under _)
    split <;> try trivial
    · refine calm_bind (fun d => ?_) (calm_under _)
      cases d <;> trivial
    · refine calm_bind (fun ob => ?_) (calm_getObj _); cases ob <;> trivial
    · refine calm_bind (fun ob => ?_) (calm_getObj _); cases ob <;> trivial
  · trivial
theorem dead_rt {α : Type} (x y : Int) (b : Bool) (c : BoundsCode) : dead (runtimePanic (.bounds x y b c) : Sem α) := fun _ => trivial
theorem calm_rtb {α : Type} (x y : Int) (b : Bool) (c : BoundsCode) : calmS (runtimePanic (.bounds x y b c) : Sem α) := fun _ => trivial
theorem calm_rtn {α : Type} : calmS (runtimePanic .nilDeref : Sem α) := fun _ => trivial
theorem calm_bounds {α : Type} (k : IntKind) (x y : Int) (c : BoundsCode) : calmS (boundsPanic k x y c : Sem α) := by
  unfold boundsPanic
  split
  · exact fun n => dead_rt _ _ _ _
  · exact calm_bind (fun b => calm_rtb _ _ _ _) (calm_pure _)
theorem calm_int (v : Value) : calmS (asIntOf v) := by
  cases v with
  | pointer a => cases a <;> trivial
  | _ => trivial
theorem calm_sliceBound (v : Value) (y : Nat) (c : BoundsCode) : calmS (Instr.sliceBound v y c) := by
  unfold Instr.sliceBound
  refine calm_bind (fun x => ?_) (calm_int v)
  obtain ⟨k, i⟩ := x
  dsimp only
  split
  · trivial
  · exact calm_bounds _ _ _ _
theorem calm_sliceBounds (b : Bool) (l c : Nat) (lo hi mx : Option Value) : calmS (Instr.sliceBounds b l c lo hi mx) := by
  unfold Instr.sliceBounds
  cases mx <;> cases hi <;> cases lo <;> dsimp only <;>
    (refine calm_bind (fun m => ?_) (by first | exact calm_sliceBound _ _ _ | exact calm_pure _ | exact calm_stuck _); (try dsimp only); refine calm_bind (fun h => ?_) (by first | exact calm_sliceBound _ _ _ | exact calm_pure _ | exact calm_stuck _); (try dsimp only); refine calm_bind (fun l => ?_) (by first | exact calm_sliceBound _ _ _ | exact calm_pure _ | exact calm_stuck _); exact calm_pure _)
theorem calm_asAddr (v : Value) : calmS (asAddr v) := by
  cases v with
  | pointer a =>
    cases a
    · exact calm_rtn
    · trivial
  | _ => trivial
theorem calm_slice (t : TypeId) (v : Value) (lo hi mx : Option Value) : calmS (Instr.slice t v lo hi mx) := by
  unfold Instr.slice
  refine calm_bind (fun d => ?_) (calm_under t)
  split
  · split
    · trivial
    · exact calm_bind (fun x => calm_pure _) (calm_sliceBounds _ _ _ _ _ _)
  · exact calm_bind (fun x => calm_bind (fun _ => calm_pure _) (calm_size _)) (calm_sliceBounds _ _ _ _ _ _)
  · refine calm_bind (fun a => calm_bind (fun d => ?_) (calm_under _)) (calm_asAddr _)
    split
    · exact calm_bind (fun x => calm_bind (fun _ => calm_pure _) (calm_size _)) (calm_sliceBounds _ _ _ _ _ _)
    · trivial
  · trivial
theorem calm_sliceAt (t : TypeId) (v : Value) (lo hi mx : Option Value) : calmS (Instr.sliceAt t v lo hi mx) := by
  unfold Instr.sliceAt
  refine calm_bind (fun d => ?_) (calm_under t)
  split
  · exact calm_bind (fun a => calm_bind (fun x => calm_bind (fun _ => calm_pure _) (calm_size _)) (calm_sliceBounds _ _ _ _ _ _)) (calm_sure _)
  · exact calm_slice _ _ _ _ _
theorem calm_indexAt (t : TypeId) (v ix : Value) : calmS (Instr.indexAt t v ix) := by
  unfold Instr.indexAt
  refine calm_bind (fun x => ?_) (calm_int ix)
  obtain ⟨k, i⟩ := x
  have hfin : ∀ (base : Option Addr) (len elem : Nat) (tiny : Bool), calmS (match base with
    | some a => if 0 ≤ i ∧ i < len then (do pure (Value.pointer (some (a.add (i.toNat * (← sizeOf elem)))))) else if tiny then unsupported (.noEntry "op/indexAddr.an index out of range at an array of length 0 or 1 (ledger 616)") else boundsPanic k i len .index
    | none => boundsPanic k i 0 .index : Sem Value) := by
    intro base len elem tiny
    cases base with
    | none => exact calm_bounds _ _ _ _
    | some a =>
      dsimp only
      split
      · exact calm_bind (fun _ => calm_pure _) (calm_size _)
      · split
        · trivial
        · exact calm_bounds _ _ _ _
  refine calm_bind (fun d => ?_) (calm_under t)
  split
  · refine calm_bind (fun a => ?_) (calm_sure _)
    refine calm_bind (fun r => ?_) (calm_pure _)
    obtain ⟨base, len, elem⟩ := r
    refine calm_bind (fun d => ?_) (calm_under t)
    exact hfin _ _ _ _
  · refine calm_bind (fun r => ?_) (calm_pure _)
    obtain ⟨base, len, elem⟩ := r
    refine calm_bind (fun d => ?_) (calm_under t)
    exact hfin _ _ _ _
  · trivial
def calmOp : Op → Bool
  | .move _ => true
  | .assign _ => true
  | .extract .. => true
  | .load .. => true
  | .fieldAddr .. => true
  | .unOp .not _ _ => true
  | .makeFunc .. => true
  | .pick .. => true
  | .call ⟨.builtin .len, _, _⟩ => true
  | .slice .. => true
  | .indexAddr .. => true
  | _ => false
theorem val_run {P : Program} {s : Sem Value} {w w' : World} {n : Next} (hs : calmS s) (h : (do pure (.value (← s)) : Sem Next).run P w = .ok n w') : ∃ v, n = .value v ∧ w' = w := by
  rw [Sem.run_bind] at h
  cases hr : s.run P w with
  | halt => rw [hr] at h; simp at h
  | ok v w1 =>
    rw [hr] at h
    simp at h
    exact ⟨v, h.1.symm, by rw [← h.2]; exact calm_run s w hs v w1 hr⟩
theorem calm_op {P : Program} {o : Oper} {ρ : Operand → Value} {w w' : World} {n : Next} (hc : calmOp o.op = true) (h : (execOp ρ o).run P w = .ok n w') : ∃ v, n = .value v ∧ w' = w := by
  unfold calmOp at hc
  split at hc <;> rename_i ho <;> (try cases hc) <;> simp only [execOp, ho] at h
  · simp at h; exact ⟨_, h.1.symm, h.2.symm⟩
  · simp at h; exact ⟨_, h.1.symm, h.2.symm⟩
  · refine val_run ?_ h
    unfold Instr.extract
    split
    · split <;> trivial
    · trivial
  · exact val_run (calm_bind (fun a => calm_loadVar _ a) (calm_sure _)) h
  · exact val_run (calm_fieldAt _ _ _) h
  · refine val_run ?_ h
    unfold Op.unary
    generalize ρ _ = v
    cases v <;> trivial
  · exact val_run (s := Instr.makeFunc _ _ _) (calm_pure _) h
  · refine val_run (s := do pure (if ← asBool (ρ _) then ρ _ else ρ _)) ?_ (by simpa using h)
    generalize ρ _ = v
    cases v <;> trivial
  · simp [resolve, invoke, builtin] at h
    exact val_run (calm_len _ _ _) (by simpa using h)
  · exact val_run (calm_sliceAt _ _ _ _ _) h
  · exact val_run (calm_indexAt _ _ _) h
/-! ### One operation first -/
/-- W tells who waits for i: each of them waits for i itself, or for one ahead of it that does. -/
def waitOK (ops : Array Oper) (i W : Nat) : Bool := (List.range ops.size).all fun j => !W.testBit j || match ops[j]? with
  | none => false
  | some o => o.after.any fun e => Region.binds .any e && (e.on == i || (Nat.blt e.on j && W.testBit e.on))
def WaitOK (ops : Array Oper) (i W : Nat) : Prop := ∀ (j : Nat) oj, ops[j]? = some oj → W.testBit j = true → ∃ e ∈ oj.after, Region.binds .any e = true ∧ (e.on = i ∨ (e.on < j ∧ W.testBit e.on = true))
theorem waitOK_spec {i W : Nat} (h : waitOK ops i W = true) : WaitOK ops i W := by
  intro j oj hj hb
  have h1 := List.all_eq_true.1 h j (List.mem_range.2 (Array.getElem?_eq_some_iff.1 hj).1)
  rw [hb, hj] at h1
  simp only [Bool.not_true, Bool.false_or] at h1
  obtain ⟨e, he, hx⟩ := Array.any_eq_true'.1 h1
  simp only [Bool.and_eq_true, Bool.or_eq_true, beq_iff_eq] at hx
  exact ⟨e, he, hx.1, hx.2.imp id (fun h => ⟨by simpa [Nat.blt_eq] using h.1, h.2⟩)⟩
def Closed (ops : Array Oper) (listed : Array Bool) : Prop :=
  listed.size = ops.size ∧ ∀ (j : Nat) oj, ops[j]? = some oj → listed.getD j false = true → ∀ e ∈ oj.after, Region.binds .any e = true → listed.getD e.on false = true
def closedB (ops : Array Oper) (listed : Array Bool) : Bool :=
  listed.size == ops.size && (List.range ops.size).all fun j => !listed.getD j false || match ops[j]? with | none => true | some o => o.after.all fun e => !Region.binds .any e || listed.getD e.on false
theorem closedB_spec {listed : Array Bool} (h : closedB ops listed = true) : Closed ops listed := by
  simp only [closedB, Bool.and_eq_true, beq_iff_eq, List.all_eq_true, List.mem_range] at h
  refine ⟨h.1, fun j oj hj hl e he hb => ?_⟩
  have h1 := h.2 j (Array.getElem?_eq_some_iff.1 hj).1
  rw [hl, hj] at h1
  simp only [Bool.not_true, Bool.false_or] at h1
  have h2 := Array.all_eq_true_iff_forall_mem.1 h1 e he
  rw [hb] at h2
  simpa using h2
theorem Closed.set {listed : Array Bool} (hc : Closed ops listed) {i : Nat} (hi : i ∈ Region.ready .any ops listed) : Closed ops (listed.setIfInBounds i true) := by
  obtain ⟨_, oi, hoi, hall⟩ := mem_ready.1 hi
  refine ⟨by simp [hc.1], fun j oj hj hl e he hb => ?_⟩
  by_cases hij : i = j
  · subst hij
    have : oj = oi := Option.some.inj (hj.symm.trans hoi)
    subst this
    exact getD_set_true (hall e he hb)
  · rw [getD_set_ne false hij] at hl
    exact getD_set_true (hc.2 j oj hj hl e he hb)
theorem waits_listed {listed : Array Bool} (hc : Closed ops listed) {i W : Nat} (hW : WaitOK ops i W) (j : Nat) : ∀ oj, ops[j]? = some oj → (∀ e ∈ oj.after, Region.binds .any e = true → listed.getD e.on false = true) → W.testBit j = true → listed.getD i false = true := by
  induction j using Nat.strongRecOn with
  | _ j ih =>
    intro oj hj hall h
    obtain ⟨e, he, hb, h1 | ⟨hlt, h1⟩⟩ := hW j oj hj h
    · rw [← h1]; exact hall e he hb
    · have hl := hall e he hb
      cases ho : ops[e.on]? with
      | none =>
        have hs : e.on < ops.size := by
          rcases Nat.lt_or_ge e.on listed.size with h | h
          · rw [hc.1] at h; exact h
          · simp [Array.getElem?_eq_none h] at hl
        rw [Array.getElem?_eq_none_iff] at ho
        omega
      | some o => exact ih e.on hlt o ho (hc.2 e.on o ho hl) h1
/-- Whoever may still come ahead of i does not touch what i looks at or writes, and (calm) leaves the world alone. -/
def Free (ops : Array Oper) (calm : Bool) (listed : Array Bool) (i W : Nat) (oi : Oper) : Prop :=
  ∀ (j : Nat) oj, ops[j]? = some oj → j ≠ i → listed.getD j true = false → W.testBit j = false → oi.apart ops oj = true ∧ (calm = true → calmOp oj.op = true)
def firstB (ops : Array Oper) (calm : Bool) (listed : Array Bool) (i W : Nat) : Bool :=
  Region.noSelect ops && closedB ops listed && waitOK ops i W && (Region.ready .any ops listed).contains i && match ops[i]? with
    | none => false
    | some oi => (List.range ops.size).all fun j => j == i || listed.getD j true || W.testBit j || match ops[j]? with
      | none => true
      | some oj => oi.apart ops oj && (!calm || calmOp oj.op)
theorem firstB_spec {calm : Bool} {listed : Array Bool} {i W : Nat} (h : firstB ops calm listed i W = true) :
    Region.noSelect ops = true ∧ (Closed ops listed ∧ WaitOK ops i W) ∧ i ∈ Region.ready .any ops listed ∧ ∀ oi, ops[i]? = some oi → Free ops calm listed i W oi := by
  simp only [firstB, Bool.and_eq_true] at h
  obtain ⟨⟨⟨⟨h1, h2⟩, h2'⟩, h3⟩, h4⟩ := h
  refine ⟨h1, ⟨closedB_spec h2, waitOK_spec h2'⟩, by simpa using h3, fun oi hoi j oj hj hne hun hw => ?_⟩
  rw [hoi] at h4
  have h5 := List.all_eq_true.1 h4 j (List.mem_range.2 (Array.getElem?_eq_some_iff.1 hj).1)
  simp only [hj, hun, hw, Bool.or_false, Bool.or_eq_true, beq_iff_eq, hne, false_or, Bool.and_eq_true, Bool.not_eq_true'] at h5
  exact ⟨h5.1, fun hc => h5.2.resolve_left (by simp [hc])⟩
/-- What i yields: in this world (calm), or in whatever world. -/
def Ylds (P : Program) (ops : Array Oper) (calm : Bool) (o : Oper) (v : Value) (a : Act) (w : World) : Prop :=
  (Region.wanted o (yielded ops a.tmps) = true ∧ ∀ w', (calm = true → w' = w) → (execOp a.eval o).run P w' = .ok (.value v) w') ∨ (Region.wanted o (yielded ops a.tmps) = false ∧ v = undef)
theorem Ylds.opN {calm : Bool} {i : Nat} {o : Oper} {v : Value} {a : Act} {w : World} (hi : ops[i]? = some o) (hy : Ylds P ops calm o v a w) {K : Act → World → Prop} (h : K (a.put o.dst v) w) : opN P ops i K a w := by
  unfold Go.KX.opN
  simp only [hi]
  rcases hy with ⟨hw, hv⟩ | ⟨hw, rfl⟩
  · simp only [hw, if_true, wn, hv w (fun _ => rfl)]; exact h
  · simp only [hw, Bool.false_eq_true, if_false]; exact h
theorem opN_put {calm : Bool} {j : Nat} {oi oj : Oper} {v : Value} (hj : ops[j]? = some oj) (hap : oi.apart ops oj = true) (hcj : calm = true → calmOp oj.op = true)
    (hsi : ∀ cs b, oi.op ≠ .select cs b) (hsj : ∀ cs b, oj.op ≠ .select cs b) {K : Act → World → Prop} {a : Act} {w : World}
    (hy : Ylds P ops calm oi v a w) (h : opN P ops j K (a.put oi.dst v) w) : opN P ops j (fun a' w' => Ylds P ops calm oi v a' w' ∧ K (a'.put oi.dst v) w') a w := by
  obtain ⟨h1, h2, h3⟩ := Oper.apart_spec hap
  have keep : ∀ u w', (calm = true → w' = w) → Ylds P ops calm oi v (a.put oj.dst u) w' := fun u w' hw' => by
    have e1 := execOp_put oi hsi a oj.dst u h3
    have e2 := wanted_put oi a oj.dst u h3
    unfold Ylds at hy ⊢
    rw [e1, e2]
    rcases hy with ⟨hw, hv⟩ | hy
    · exact .inl ⟨hw, fun w2 hc => hv w2 (fun c => (hc c).trans (hw' c))⟩
    · exact .inr hy
  unfold opN at h ⊢
  simp only [hj] at h ⊢
  rw [wanted_put oj a oi.dst v h1] at h
  split
  · rename_i hw
    simp only [hw, if_true] at h
    unfold wn at h ⊢
    rw [execOp_put oj hsj a oi.dst v h1] at h
    have hcalm : calm = true → ∀ n w', (execOp a.eval oj).run P w = .ok n w' → ∃ u, n = .value u ∧ w' = w := fun hc n w' hr => calm_op (hcj hc) hr
    generalize (execOp a.eval oj).run P w = r at h hcalm ⊢
    cases r with
    | halt => exact h.elim
    | ok n w' =>
      cases n
      case value u => exact ⟨keep u w' (fun hc => by obtain ⟨_, _, e⟩ := hcalm hc _ _ rfl; exact e), by rw [← Act.put_comm a v u h2]; exact h⟩
      case skip => exact ⟨keep undef w' (fun hc => by obtain ⟨_, _, e⟩ := hcalm hc _ _ rfl; exact e), by rw [← Act.put_comm a v undef h2]; exact h⟩
      case enter f args =>
        refine h.mono fun e w'' ⟨u, he, hx⟩ => ⟨u, he, keep u w'' (fun hc => ?_), by rw [← Act.put_comm a v u h2]; exact hx⟩
        obtain ⟨_, e, _⟩ := hcalm hc _ _ rfl
        cases e
      case round l f tmps assign body =>
        refine h.mono fun e w'' ⟨u, he, hx⟩ => ⟨u, he, keep u w'' (fun hc => ?_), by rw [← Act.put_comm a v u h2]; exact hx⟩
        obtain ⟨_, e, _⟩ := hcalm hc _ _ rfl
        cases e
      all_goals exact h.elim
  · rename_i hw
    simp only [hw] at h
    exact ⟨keep undef w (fun _ => rfl), by rw [← Act.put_comm a v undef h2]; exact h⟩
theorem anyN_first {calm : Bool} {i W : Nat} {oi : Oper} {v : Value} {Q : Act → World → Prop} (hi : ops[i]? = some oi) (hsel : Region.noSelect ops = true) (hW : WaitOK ops i W) : ∀ (f : Nat) (listed : Array Bool) (a : Act) (w : World),
    Closed ops listed → Free ops calm listed i W oi → i ∈ Region.ready .any ops listed → Ylds P ops calm oi v a w → anyN P ops Q f (listed.setIfInBounds i true) (a.put oi.dst v) w → anyN P ops Q (f + 1) listed a w := by
  intro f
  induction f with
  | zero =>
    intro listed a w _ _ hr hy H
    refine ⟨fun h => (by rw [h] at hr; cases hr), fun j hj => ?_⟩
    by_cases hji : j = i
    · subst hji; exact hy.opN hi H
    · have := ready_mono hj hji
      rw [H.1] at this
      cases this
  | succ f ih =>
    intro listed a w hcl hfree hr hy H
    refine ⟨fun h => (by rw [h] at hr; cases hr), fun j hj => ?_⟩
    by_cases hji : j = i
    · subst hji; exact hy.opN hi H
    · have h1 := H.2 j (ready_mono hj hji)
      obtain ⟨hjun, oj, hoj, hall⟩ := mem_ready.1 hj
      have hiun := (mem_ready.1 hr).1
      have hnw : W.testBit j = false := by
        cases hw : W.testBit j with
        | false => rfl
        | true =>
          have := waits_listed hcl hW j oj hoj hall hw
          have hlt : i < listed.size := by
            rcases Nat.lt_or_ge i listed.size with h | h
            · exact h
            · simp [Array.getElem?_eq_none h] at hiun
          simp [hlt] at this hiun
          rw [this] at hiun; cases hiun
      obtain ⟨hap, hcj⟩ := hfree j oj hoj hji hjun hnw
      have h2 := opN_put hoj hap hcj (fun cs b => Region.noSelect_spec hsel i oi cs b hi) (fun cs b => Region.noSelect_spec hsel j oj cs b hoj) hy h1
      refine opN_mono (fun a' w' h3 => ih (listed.setIfInBounds j true) a' w' (hcl.set hj) (fun k ok hk hki hun hw => hfree k ok hk hki ?_ hw) (ready_mono hr (Ne.symm hji)) h3.1 ?_) h2
      · by_cases hjk : j = k
        · subst hjk; exact hjun
        · rw [getD_set_ne true hjk] at hun; exact hun
      · rw [Array.setIfInBounds_comm _ _ hji]
        exact h3.2
end
section
variable {X : Cx} {k : List It} {L : LL} {fs : List MF} {own : List Res} {arr : Array Oper} {o : Oper}
theorem C_draw {id : Nat} {l : List Oper} (hm : X.P.follows .mixedOrders = true) (h : C X (.da l.toArray l.length (Array.replicate l.length false) :: k) L fs own) : C X (.code (.region id l.toArray true) :: k) L fs own := by
  intro g a s
  refine wpIn_region_any hm ?_
  have e : FExt g ⟨{ g.w with drawn := g.w.drawn + 1 }, g.fz, g.lt⟩ := ⟨rfl, rfl, rfl, Nat.le_refl _, fun _ h => h, fun _ _ => rfl⟩
  have := h ⟨{ g.w with drawn := g.w.drawn + 1 }, g.fz, g.lt⟩ a ⟨s.kn, s.all.mono e, ⟨fun r hr => r.loc (w := g.w) (fun _ _ => rfl) (s.own.p r hr), s.own.nodup, s.own.lt, s.own.nfz⟩, ⟨s.ext.toFExt.trans e, s.ext.keep, s.ext.nofz⟩, s.new⟩
  simpa using anyN_any _ _ _ _ this
/-- Operation i may be taken first: it reads, and whoever might come ahead of it leaves the world alone. -/
theorem C_first {f i d W : Nat} {listed : Array Bool} {v : Value} (hB : firstB arr true listed i W = true) (hi : arr[i]? = some o) (hl : live arr L o = some true) (hd : o.dst = some d) (hn : Nat.blt d X.n = true) (hy : Yld X o L fs own v)
    (h : C X (.da arr f (listed.setIfInBounds i true) :: k) ((d, v) :: L) fs own) : C X (.da arr (f + 1) listed :: k) L fs own := by
  intro g a s
  obtain ⟨h1, h2, h3, h4⟩ := firstB_spec hB
  refine anyN_first (calm := true) (v := v) hi h1 h2.2 f listed a g.w h2.1 (h4 o hi) h3 (.inl ⟨live_wanted s.kn hl, fun w' hw => by rw [hw rfl]; exact hy g a s⟩) ?_
  rw [hd]
  exact h g _ (s.put hn v)
theorem C_firstx {f i d W : Nat} {listed : Array Bool} {K} (hB : firstB arr true listed i W = true) (hi : arr[i]? = some o) (hl : live arr L o = some true) (hd : o.dst = some d) (hn : Nat.blt d X.n = true) (hy : YX X o L fs own K)
    (h : ∀ v fs', K v fs' → C X (.da arr f (listed.setIfInBounds i true) :: k) ((d, v) :: L) (fs' ++ fs) own) : C X (.da arr (f + 1) listed :: k) L fs own := by
  intro g a s
  obtain ⟨h1, h2, h3, h4⟩ := firstB_spec hB
  obtain ⟨v, fs', hK, hr, hA⟩ := hy g a s
  refine anyN_first (calm := true) (v := v) hi h1 h2.2 f listed a g.w h2.1 (h4 o hi) h3 (.inl ⟨live_wanted s.kn hl, fun w' hw => by rw [hw rfl]; exact hr⟩) ?_
  rw [hd]
  exact h v fs' hK g _ (St.put ⟨s.kn, hA.append s.all, s.own, s.ext, s.new⟩ hn v)
theorem C_firstw {f i d W : Nat} {listed : Array Bool} {K} (hB : firstB arr false listed i W = true) (hi : arr[i]? = some o) (hl : live arr L o = some true) (hd : o.dst = some d) (hn : Nat.blt d X.n = true) (hy : YXW X o L fs own K)
    (h : ∀ v fs', K v fs' → C X (.da arr f (listed.setIfInBounds i true) :: k) ((d, v) :: L) (fs' ++ fs) own) : C X (.da arr (f + 1) listed :: k) L fs own := by
  intro g a s
  obtain ⟨h1, h2, h3, h4⟩ := firstB_spec hB
  obtain ⟨v, fs', hK, hr, hA⟩ := hy g a s
  refine anyN_first (calm := false) (v := v) hi h1 h2.2 f listed a g.w h2.1 (h4 o hi) h3 (.inl ⟨live_wanted s.kn hl, fun w' _ => hr w'⟩) ?_
  rw [hd]
  exact h v fs' hK g _ (St.put ⟨s.kn, hA.append s.all, s.own, s.ext, s.new⟩ hn v)
/-- What is yielded in whatever world. -/
def YldW (X : Cx) (o : Oper) (L : LL) (fs : List MF) (own : List Res) (v : Value) : Prop :=
  ∀ g a, St X L fs own g a → ∀ w', (execOp a.eval o).run X.P w' = .ok (.value v) w'
theorem Y_binW {op : BinOp} {T yT : TypeId} {x y : Operand} {vx vy v : Value} (ho : o.op = .binOp op T x y yT) (hx : evo L x = some vx) (hy : evo L y = some vy) (hg : eqGuard op T x y vx vy = pure ())
    (hb : ∀ w, (binOp op T vx vy).run X.P w = .ok v w) : YldW X o L fs own v := by
  intro g a s w'
  simp only [execOp, ho, s.kn.eval hx, s.kn.eval hy, hg]
  simp [hb]
theorem Y_addiW {T yT : TypeId} {x y : Operand} {p q : Int} (ho : o.op = .binOp .add T x y yT) (hx : evo L x = some (.int .i64 p)) (hy : evo L y = some (.int .i64 q)) (h1 : -9223372036854775808 ≤ p + q) (h2 : p + q ≤ 9223372036854775807) : YldW X o L fs own (.int .i64 (p + q)) :=
  Y_binW ho hx hy rfl (fun w => by rw [← wrap_i64 h1 h2]; rfl)
theorem Y_subiW {T yT : TypeId} {x y : Operand} {p q : Int} (ho : o.op = .binOp .sub T x y yT) (hx : evo L x = some (.int .i64 p)) (hy : evo L y = some (.int .i64 q)) (h1 : -9223372036854775808 ≤ p - q) (h2 : p - q ≤ 9223372036854775807) : YldW X o L fs own (.int .i64 (p - q)) :=
  Y_binW ho hx hy rfl (fun w => by rw [← wrap_i64 h1 h2]; rfl)
theorem C_firstb {f i d W : Nat} {listed : Array Bool} {v : Value} (hB : firstB arr false listed i W = true) (hi : arr[i]? = some o) (hl : live arr L o = some true) (hd : o.dst = some d) (hn : Nat.blt d X.n = true) (hy : YldW X o L fs own v)
    (h : C X (.da arr f (listed.setIfInBounds i true) :: k) ((d, v) :: L) fs own) : C X (.da arr (f + 1) listed :: k) L fs own := by
  intro g a s
  obtain ⟨h1, h2, h3, h4⟩ := firstB_spec hB
  refine anyN_first (calm := false) (v := v) hi h1 h2.2 f listed a g.w h2.1 (h4 o hi) h3 (.inl ⟨live_wanted s.kn hl, fun w' _ => hy g a s w'⟩) ?_
  rw [hd]
  exact h g _ (s.put hn v)
theorem C_firstoff {f i d W : Nat} {listed : Array Bool} (hB : firstB arr false listed i W = true) (hi : arr[i]? = some o) (hl : live arr L o = some false) (hd : o.dst = some d) (hn : Nat.blt d X.n = true)
    (h : C X (.da arr f (listed.setIfInBounds i true) :: k) ((d, undef) :: L) fs own) : C X (.da arr (f + 1) listed :: k) L fs own := by
  intro g a s
  obtain ⟨h1, h2, h3, h4⟩ := firstB_spec hB
  refine anyN_first (calm := false) (v := undef) hi h1 h2.2 f listed a g.w h2.1 (h4 o hi) h3 (.inr ⟨live_wanted s.kn hl, rfl⟩) ?_
  rw [hd]
  exact h g _ (s.put hn undef)
/-- A pure operation may be taken first whoever else is to come. -/
theorem C_firstp {f i d W : Nat} {listed : Array Bool} {v : Value} (hB : firstB arr false listed i W = true) (hi : arr[i]? = some o) (hl : live arr L o = some true) (hd : o.dst = some d) (hn : Nat.blt d X.n = true) (hy : pureV L o.op = some v)
    (h : C X (.da arr f (listed.setIfInBounds i true) :: k) ((d, v) :: L) fs own) : C X (.da arr (f + 1) listed :: k) L fs own := by
  intro g a s
  obtain ⟨h1, h2, h3, h4⟩ := firstB_spec hB
  refine anyN_first (calm := false) (v := v) hi h1 h2.2 f listed a g.w h2.1 (h4 o hi) h3 (.inl ⟨live_wanted s.kn hl, fun w' _ => pureV_run s.kn hy⟩) ?_
  rw [hd]
  exact h g _ (s.put hn v)
theorem C_firstf {f i d W T fi b oo off sz : Nat} {ag : Bool} {x : Operand} {pl : List (Nat × Nat × Bool)} {listed : Array Bool} (hB : firstB arr false listed i W = true) (hi : arr[i]? = some o) (hl : live arr L o = some true) (hd : o.dst = some d) (hn : Nat.blt d X.n = true)
    (ly : LY X.P T pl) (hf : pl[fi]? = some (off, sz, ag)) (ho : o.op = .fieldAddr T x fi) (hx : evo L x = some (.pointer (some ⟨b, oo, none⟩)))
    (h : C X (.da arr f (listed.setIfInBounds i true) :: k) ((d, .pointer (some ⟨b, oo + off, none⟩)) :: L) fs own) : C X (.da arr (f + 1) listed :: k) L fs own := by
  intro g a s
  obtain ⟨h1, h2, h3, h4⟩ := firstB_spec hB
  refine anyN_first (calm := false) (v := .pointer (some ⟨b, oo + off, none⟩)) hi h1 h2.2 f listed a g.w h2.1 (h4 o hi) h3 (.inl ⟨live_wanted s.kn hl, fun w' _ => ?_⟩) ?_
  · obtain ⟨fields, u, _, hh⟩ := ly
    obtain ⟨hsz, fd, d', e1, e2, e3, e4, i', e5, e6⟩ := hh fi off sz ag hf
    simp only [execOp, ho, s.kn.eval hx]
    simp [Instr.fieldAt, run_underlying u, e1, Instr.sureAddr, fieldPlace, sizeOf, typeInfo, e5, e6, hsz, addr_add, e2]
  · rw [hd]
    exact h g _ (s.put hn _)
theorem C_bool (i : Nat) {b : Bool} (hi : lk L i = some (.bool b)) (ht : b = true → C X k ((i, .bool true) :: L) fs own) (hf : b = false → C X k ((i, .bool false) :: L) fs own) : C X k L fs own := by
  intro g a s
  cases b with
  | true => exact ht rfl g a (s.subL (lk_sub_same hi))
  | false => exact hf rfl g a (s.subL (lk_sub_same hi))
theorem C_prop (i : Nat) {p : Prop} [Decidable p] (hi : lk L i = some (.bool (decide p))) (ht : p → C X k ((i, .bool true) :: L) fs own) (hf : ¬ p → C X k ((i, .bool false) :: L) fs own) : C X k L fs own :=
  C_bool i hi (fun h => ht (of_decide_eq_true h)) (fun h => hf (of_decide_eq_false h))
/-- Just one is ready. -/
theorem C_one {f i : Nat} {listed : Array Bool} (hB : Region.ready .any arr listed = [i]) (hi : arr[i]? = some o) (h : S X arr [o] (.da arr f (listed.setIfInBounds i true) :: k) L fs own) : C X (.da arr (f + 1) listed :: k) L fs own := by
  intro g a s
  refine ⟨fun h0 => (by rw [hB] at h0; cases h0), fun j hj => ?_⟩
  rw [hB] at hj
  have : j = i := by simpa using hj
  subst this
  have h1 := h g a s
  simp only [wl] at h1
  unfold opN
  simp only [hi]
  exact h1
theorem C_two {f i j : Nat} {o2 : Oper} {listed : Array Bool} (hB : Region.ready .any arr listed = [i, j]) (hi : arr[i]? = some o) (hj : arr[j]? = some o2)
    (h : S X arr [o] (.da arr f (listed.setIfInBounds i true) :: k) L fs own) (h' : S X arr [o2] (.da arr f (listed.setIfInBounds j true) :: k) L fs own) : C X (.da arr (f + 1) listed :: k) L fs own := by
  intro g a s
  refine ⟨fun h0 => (by rw [hB] at h0; cases h0), fun m hm => ?_⟩
  rw [hB] at hm
  rcases List.mem_cons.1 hm with rfl | hm
  · have h1 := h g a s
    simp only [wl] at h1
    unfold opN
    simp only [hi]
    exact h1
  · have : m = j := by simpa using hm
    subst this
    have h1 := h' g a s
    simp only [wl] at h1
    unfold opN
    simp only [hj]
    exact h1
theorem C_some {f : Nat} {listed : Array Bool} {is : List Nat} (hB : Region.ready .any arr listed = is) (hne : is ≠ []) (h : ∀ m ∈ is, ∃ o, arr[m]? = some o ∧ S X arr [o] (.da arr f (listed.setIfInBounds m true) :: k) L fs own) : C X (.da arr (f + 1) listed :: k) L fs own := by
  intro g a s
  refine ⟨fun h0 => absurd (by rw [← hB, h0]) hne, fun m hm => ?_⟩
  rw [hB] at hm
  obtain ⟨o, hi, h'⟩ := h m hm
  have h1 := h' g a s
  simp only [wl] at h1
  unfold opN
  simp only [hi]
  exact h1
theorem C_three {f i j l : Nat} {o2 o3 : Oper} {listed : Array Bool} (hB : Region.ready .any arr listed = [i, j, l]) (hi : arr[i]? = some o) (hj : arr[j]? = some o2) (hl : arr[l]? = some o3)
    (h : S X arr [o] (.da arr f (listed.setIfInBounds i true) :: k) L fs own) (h' : S X arr [o2] (.da arr f (listed.setIfInBounds j true) :: k) L fs own) (h3 : S X arr [o3] (.da arr f (listed.setIfInBounds l true) :: k) L fs own) : C X (.da arr (f + 1) listed :: k) L fs own := by
  refine C_some hB (by simp) (fun m hm => ?_)
  simp only [List.mem_cons, List.not_mem_nil, or_false] at hm
  rcases hm with rfl | rfl | rfl
  · exact ⟨_, hi, h⟩
  · exact ⟨_, hj, h'⟩
  · exact ⟨_, hl, h3⟩
theorem C_done {f : Nat} {listed : Array Bool} (hB : Region.ready .any arr listed = []) (h : C X k L fs own) : C X (.da arr f listed :: k) L fs own := by
  intro g a s
  cases f with
  | zero => exact ⟨hB, h g a s⟩
  | succ f => exact ⟨fun _ => h g a s, fun j hj => by rw [hB] at hj; cases hj⟩
/-! Short words for the steps that are met most. -/
theorem c_p (i W : Nat) {f d : Nat} {listed : Array Bool} {v : Value} (h : C X (.da arr f (listed.setIfInBounds i true) :: k) ((d, v) :: L) fs own) (hB : firstB arr false listed i W = true := by kernel_rfl) (hi : arr[i]? = some o := by rfl) (hl : live arr L o = some true := by rfl) (hd : o.dst = some d := by rfl) (hn : Nat.blt d X.n = true := by rfl) (hy : pureV L o.op = some v := by rfl) : C X (.da arr (f + 1) listed :: k) L fs own :=
  C_firstp hB hi hl hd hn hy h
theorem c_f (i W : Nat) {f d T fi b oo off sz : Nat} {ag : Bool} {x : Operand} {pl : List (Nat × Nat × Bool)} {listed : Array Bool} (ly : LY X.P T pl) (h : C X (.da arr f (listed.setIfInBounds i true) :: k) ((d, .pointer (some ⟨b, oo + off, none⟩)) :: L) fs own) (hB : firstB arr false listed i W = true := by kernel_rfl) (hi : arr[i]? = some o := by rfl) (hl : live arr L o = some true := by rfl) (hd : o.dst = some d := by rfl) (hn : Nat.blt d X.n = true := by rfl)
    (ho : o.op = .fieldAddr T x fi := by rfl) (hx : evo L x = some (.pointer (some ⟨b, oo, none⟩)) := by rfl) (hf : pl[fi]? = some (off, sz, ag) := by rfl) : C X (.da arr (f + 1) listed :: k) L fs own :=
  C_firstf hB hi hl hd hn ly hf ho hx h
theorem c_r (i W : Nat) {f d : Nat} {listed : Array Bool} {v : Value} (hB : firstB arr true listed i W = true) (hi : arr[i]? = some o) (hl : live arr L o = some true) (hd : o.dst = some d) (hn : Nat.blt d X.n = true) (hy : Yld X o L fs own v) (h : C X (.da arr f (listed.setIfInBounds i true) :: k) ((d, v) :: L) fs own) : C X (.da arr (f + 1) listed :: k) L fs own :=
  C_first hB hi hl hd hn hy h
theorem c_d {f : Nat} {listed : Array Bool} (h : C X k L fs own) (hB : Region.ready .any arr listed = [] := by kernel_rfl) : C X (.da arr f listed :: k) L fs own := C_done hB h
end
end Go.KX
