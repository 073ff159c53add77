/- BaseJ BaseK BaseL BaseM BaseN BaseO BaseP BaseT BaseW. -/
import Derived.Test.YtomkgfdigldhcaaGreatDoorMA
import Derived.Lib.ConvBytes
import Derived.Laws.StructEq
import Derived.Lib.AppendZeros
import Derived.Maps.RangeRun
/- Comparisons with nil, results that lie in memory, structs compared. No program in sight. -/
namespace Go.KX
section
variable {X : Cx} {k : List It} {L : LL} {fs : List MF} {own : List Res} {arr : Array Oper} {l : List Oper} {o : Oper}
def eq1 (d : TypeDesc) (x y : Value) : Option Bool :=
  match d, x, y with
    | .pointer _, .pointer none, .pointer p => some p.isNone
    | .pointer _, .pointer (some _), .pointer none => some false
    | .interface _, .nilIface, .iface _ _ => some false
    | .interface _, .iface _ _, .nilIface => some false
    | .interface _, .nilIface, .nilIface => some true
    | .slice _, .slice none _ _, .slice p _ _ => some p.isNone
    | .slice _, .slice (some _) _ _, .slice none _ _ => some false
    | .map _ _, .map none, .map p => some p.isNone
    | .map _ _, .map (some _), .map none => some false
    | .bool, .bool p, .bool q => some (p == q)
    | _, _, _ => none
theorem run_eq1 {P : Program} {w : World} {T : Nat} {d : TypeDesc} {x y : Value} {b : Bool} (u : P.underlying T = some d) (h : eq1 d x y = some b) : (Op.equal T x y).run P w = .ok b w := by
  simp only [Op.equal, Op.maxDepth]
  unfold Op.equalIn
  simp only [Sem.run_bind, run_underlying u, Result.andThen_ok]
  unfold eq1 at h
  split at h <;> first | (cases h; done) | (simp only [Option.some.injEq] at h; subst h; rfl)
theorem Y_eql1 {T yT : Nat} {d : TypeDesc} {x y : Operand} {vx vy : Value} {b : Bool} (ho : o.op = .binOp .eql T x y yT) (hx : evo L x = some vx) (hy : evo L y = some vy) (u : X.P.underlying T = some d)
    (hg : eqGuard .eql T x y vx vy = pure ()) (hb : ∀ w, (binOp .eql T vx vy).run X.P w = (do pure (.bool (← Op.equal T vx vy)) : Sem Value).run X.P w) (h : eq1 d vx vy = some b) : Yld X o L fs own (.bool b) :=
  Y_bin ho hx hy hg (fun w => by rw [hb w, Sem.run_bind, run_eq1 u h]; rfl)
theorem Y_neq1 {T yT : Nat} {d : TypeDesc} {x y : Operand} {vx vy : Value} {b : Bool} (ho : o.op = .binOp .neq T x y yT) (hx : evo L x = some vx) (hy : evo L y = some vy) (u : X.P.underlying T = some d)
    (hg : eqGuard .neq T x y vx vy = pure ()) (hb : ∀ w, (binOp .neq T vx vy).run X.P w = (do pure (.bool (!(← Op.equal T vx vy))) : Sem Value).run X.P w) (h : eq1 d vx vy = some b) : Yld X o L fs own (.bool (!b)) :=
  Y_bin ho hx hy hg (fun w => by rw [hb w, Sem.run_bind, run_eq1 u h]; rfl)
/-- A result that lies in a block of its own: a struct, or one cell. -/
theorem Res_cellS {fn : Func} {a T b sz by_ : Nat} {z : Value} {d} {cs : Array Value} {T' : Nat} {fr} {own'} (hr : fn.results = #[.cell a T]) (u : X.P.underlying T = some d) (hag : aggD d = true) (i : TI X.P T sz by_ z)
    (ha : lk L a = some (.pointer (some ⟨b, 0, none⟩))) (hp : Pick own (Res.blk b (.cells cs T' fr)) own') (hsz : cs.size = sz) : ResOK X fn L fs own (.agg cs) := by
  intro g ac s
  have h : ∀ (j : Nat) v, cs.toList[j]? = some v → g.w.cell? ⟨b, 0 + j, none⟩ = some v := fun j v hv => by
    have : cs[j]? = some v := by simpa using hv
    simp [World.cell?, blk_of s hp, this]
  have hl := run_loadS (P := X.P) (w := g.w) u hag i (by simpa using hsz) h
  have hv : (loadVar T ⟨b, 0, none⟩).run X.P g.w = .ok (.agg cs) g.w := by simpa [Instr.loadAt, Instr.sureAddr] using hl
  have hk := s.kn.val _ _ ha
  unfold results
  rw [hr]
  simp [asAddr, hv, hk]
theorem Res_cell1 {fn : Func} {a T b : Nat} {d} {cs : Array Value} {T' : Nat} {fr} {v : Value} {own'} (hr : fn.results = #[.cell a T]) (u : X.P.underlying T = some d) (hag : aggD d = false)
    (ha : lk L a = some (.pointer (some ⟨b, 0, none⟩))) (hp : Pick own (Res.blk b (.cells cs T' fr)) own') (hv0 : cs[0]? = some v) : ResOK X fn L fs own v := by
  intro g ac s
  have hc : g.w.cell? ⟨b, 0, none⟩ = some v := by simp [World.cell?, blk_of s hp, hv0]
  have hl := run_load1 (P := X.P) (w := g.w) u hag hc
  have hv : (loadVar T ⟨b, 0, none⟩).run X.P g.w = .ok v g.w := by simpa [Instr.loadAt, Instr.sureAddr] using hl
  have hk := s.kn.val _ _ ha
  unfold results
  rw [hr]
  simp [asAddr, hv, hk]
/-! ### Loads, wherever it lies -/
inductive LdAt (fs : List MF) (own : List Res) (b oo : Nat) (v : Value) : Prop
  | o {cs : Array Value} {T' : Nat} {fr} {own'} (hp : Pick own (Res.blk b (.cells cs T' fr)) own') (hj : cs[oo]? = some v)
  | p {o0 j : Nat} {cs : List Value} (e : oo = o0 + j) (hf : Has fs (PtM b o0 cs)) (hj : cs[j]? = some v)
  | q {cs : List Value} (hf : Has fs (PtM b oo cs)) (hj : cs[0]? = some v)
theorem Y_ld {T : Nat} {d} {x : Operand} {b oo : Nat} {v : Value} (u : X.P.underlying T = some d) (hd : aggD d = false) (ho : o.op = .load T x) (hx : evo L x = some (.pointer (some ⟨b, oo, none⟩)))
    (h : LdAt fs own b oo v := by first | exact .o (by repeat constructor) rfl | exact .p rfl (by repeat constructor) rfl | exact .q (by repeat constructor) rfl) : Yld X o L fs own v := by
  cases h with
  | o hp hj => exact Y_ldO u hd ho hx hp hj
  | p e hf hj => subst e; exact Y_ldP u hd ho hx hf hj
  | q hf hj => exact Y_ldP0 u hd ho hx hf hj
inductive LdAtS (fs : List MF) (own : List Res) (b oo sz : Nat) (cs : List Value) : Prop
  | o {T' : Nat} {fr} {own'} (e : oo = 0) (hp : Pick own (Res.blk b (.cells cs.toArray T' fr)) own') (hl : cs.length = sz)
  | p (hf : Has fs (PtM b oo cs)) (hl : cs.length = sz)
theorem Y_ldS {T : Nat} {d sz by_ z} {x : Operand} {b oo : Nat} {cs : List Value} (u : X.P.underlying T = some d) (hd : aggD d = true) (i : TI X.P T sz by_ z) (ho : o.op = .load T x) (hx : evo L x = some (.pointer (some ⟨b, oo, none⟩)))
    (h : LdAtS fs own b oo sz cs := by first | exact .o rfl (by repeat constructor) rfl | exact .p (by repeat constructor) (by first | rfl | simp)) : Yld X o L fs own (.agg cs.toArray) := by
  cases h with
  | o e hp hl => subst e; exact Y_ldOS u hd i ho hx hp hl
  | p hf hl => exact Y_ldPS u hd i ho hx hf hl
end
end Go.KX

/- Maps with numbers or texts as keys, in a block of their own; strings to bytes. No program in sight. -/
namespace Go.KX
/-- How keys of a type are told apart. -/
structure KeyT {α : Type} [DecidableEq α] (P : Program) (T : Nat) (K : α → Value) : Prop where
  ex : ∃ d, P.underlying T = some d ∧ (∀ a b, Instr.sameNow d (K a) (K b) = some (decide (a = b))) ∧ (∀ a e w, (Instr.checkKey e 10000 T (K a)).run P w = .ok () w) ∧ (∀ a, Instr.sameBits 10000 (K a) (K a) = true)
theorem run_checkKey {P : Program} {w : World} {T : Nat} {d : TypeDesc} {v : Value} (u : P.underlying T = some d) (hd : (match d with | .int _ => true | .string => true | .bool => true | _ => false) = true) (e : Bool) (n : Nat) :
    (Instr.checkKey e (n + 1) T v).run P w = .ok () w := by
  simp only [Instr.checkKey, Sem.run_bind, run_underlying u, Result.andThen_ok]
  cases d <;> first | (cases hd; done) | rfl
theorem keyInt {P : Program} {T : Nat} {kk : IntKind} (u : P.underlying T = some (.int kk)) : KeyT P T (fun n : Int => .int kk n) :=
  ⟨.int kk, u, fun a b => by simp [Instr.sameNow, beq_dec], fun a e w => run_checkKey u rfl e 9999, fun a => by simp [Instr.sameBits]⟩
theorem bytes_beq (a b : Bytes) : ((⟨a.toArray⟩ : ByteArray) == ⟨b.toArray⟩) = decide (a = b) := by
  show (a.toArray == b.toArray) = _
  rw [beq_dec, Bool.eq_iff_iff]; simp
theorem keyStr {P : Program} {T : Nat} (u : P.underlying T = some .string) : KeyT P T str :=
  ⟨.string, u, fun a b => by simp only [Instr.sameNow, str, bytes_beq], fun a e w => run_checkKey u rfl e 9999, fun a => by simp [Instr.sameBits, str, bytes_beq]⟩
section
variable {α β : Type} [DecidableEq α]
def mget : List (α × β) → α → Option β
  | [], _ => none
  | p :: r, k => if k = p.1 then some p.2 else mget r k
def mset : List (α × β) → α → β → List (α × β)
  | [], k, v => [(k, v)]
  | p :: r, k, v => if k = p.1 then (k, v) :: r else p :: mset r k v
def mdel : List (α × β) → α → List (α × β)
  | [], _ => []
  | p :: r, k => if k = p.1 then r else p :: mdel r k
def enc2 (K : α → Value) (V : β → Value) (m : List (α × β)) : List (Value × Value) := m.map fun p => (K p.1, V p.2)
def ents (es : List MapEntry) : List (Value × Value) := es.map fun e => (e.key, e.val)
/-- A map in a block of its own. -/
def Res.mp (K : α → Value) (V : β → Value) (b : Nat) (m : List (α × β)) : Res where
  bs := [b]
  p w := ∃ es clk, w.heap[b]? = some (.map es clk) ∧ ents es.toList = enc2 K V m ∧ (es.toList.map (·.born)).Nodup ∧ ∀ e ∈ es.toList, e.born < clk
  loc := by
    intro w w' h ⟨es, clk, h1, h2⟩
    exact ⟨es, clk, by rw [h b (.head _)]; exact h1, h2⟩
/-- What looking for a key finds. -/
def Found (K : α → Value) (V : β → Value) (es : List MapEntry) (m : List (α × β)) (k : α) : Option (Nat × Value) → Prop
  | none => mget m k = none ∧ (∀ x, mset m k x = m ++ [(k, x)]) ∧ mdel m k = m
  | some (i, v) => (∃ x, mget m k = some x ∧ v = V x) ∧ (es[i]?).map (·.key) = some (K k) ∧ (∀ x, ents (es.modify i fun e => { e with key := K k, val := V x }) = enc2 K V (mset m k x)) ∧ ents (es.eraseIdx i) = enc2 K V (mdel m k)
theorem find_get {P : Program} {T : Nat} {K : α → Value} {V : β → Value} (kt : KeyT P T K) (k : α) (w : World) {es : List MapEntry} {m : List (α × β)} (h : ents es = enc2 K V m) :
    ∃ r, (Instr.findKey T (K k) es).run P w = .ok r w ∧ Found K V es m k r := by
  obtain ⟨d, u, hs, _, _⟩ := kt
  have key : ∀ (es : List MapEntry) (m : List (α × β)) (j : Nat), ents es = enc2 K V m → ∃ r, Instr.findNow d (K k) es j = some (r.map fun q => (q.1 + j, q.2)) ∧ Found K V es m k r := by
    intro es
    induction es with
    | nil =>
      intro m j h
      have : m = [] := by cases m with | nil => rfl | cons p r => simp [ents, enc2] at h
      subst this
      exact ⟨none, rfl, rfl, fun x => rfl, rfl⟩
    | cons e es ih =>
      intro m j h
      cases m with
      | nil => simp [ents, enc2] at h
      | cons p r =>
        simp only [ents, enc2, List.map_cons, List.cons.injEq, Prod.mk.injEq] at h
        obtain ⟨⟨h1, h2⟩, h3⟩ := h
        simp only [Instr.findNow, h1, hs k p.1]
        by_cases hk : k = p.1
        · subst hk
          refine ⟨some (0, e.val), by simp, ⟨p.2, by simp [mget], h2⟩, by simp [h1], fun x => ?_, ?_⟩
          · have h3' : ents es = enc2 K V r := h3
            simp only [ents, enc2] at h3'
            simp [ents, enc2, mset, h3']
          · have h3' : ents es = enc2 K V r := h3
            simpa [mdel] using h3'
        · obtain ⟨r', hr, hm⟩ := ih r (j + 1) h3
          refine ⟨r'.map fun q => (q.1 + 1, q.2), ?_, ?_⟩
          · simp only [hk, decide_false, hr, Option.map_map]
            congr 1
            cases r' with
            | none => rfl
            | some q => simp; omega
          · cases r' with
            | none =>
              obtain ⟨m1, m2, m3⟩ := hm
              exact ⟨by simpa [mget, hk] using m1, fun x => by simp [mset, hk, m2], by simp [mdel, hk, m3]⟩
            | some q =>
              obtain ⟨i, v⟩ := q
              obtain ⟨⟨x, hx, hv⟩, hkk, hmod, hdel⟩ := hm
              refine ⟨⟨x, by simpa [mget, hk] using hx, hv⟩, by simpa using hkk, fun y => ?_, ?_⟩
              · have := hmod y
                simp only [ents, enc2] at this
                simp [ents, enc2, mset, hk, this, h1, h2]
              · simp only [ents, enc2] at hdel
                simp [ents, enc2, mdel, hk, hdel, h1, h2]
  obtain ⟨r, hr, hm⟩ := key es m 0 h
  refine ⟨r, ?_, hm⟩
  have : (r.map fun q => (q.1 + 0, q.2)) = r := by cases r <;> rfl
  rw [this] at hr
  simp [Instr.findKey, run_underlying u, hr]
omit [DecidableEq α] in
theorem mget_enc {K : α → Value} {V : β → Value} {es : List MapEntry} {m : List (α × β)} (h : ents es = enc2 K V m) : es.length = m.length := by
  have := congrArg List.length h
  simpa [ents, enc2] using this
end
section
variable {α β : Type} [DecidableEq α] {K : α → Value} {V : β → Value}
variable {X : Cx} {k : List It} {L : LL} {fs : List MF} {own : List Res} {arr : Array Oper} {l : List Oper} {o : Oper}
omit [DecidableEq α] in
theorem mp_of {g a} (s : St X L fs own g a) {b m own'} (hp : Pick own (Res.mp K V b m) own') : (Res.mp K V b m).p g.w := s.own.p _ (hp.perm.symm.subset (.head _))
theorem run_getObj_map {P : Program} {w : World} {b : Nat} {es clk} (h : w.heap[b]? = some (.map es clk)) : (getObj b).run P w = .ok (.map es clk) w := by
  simp [getObj, Sem.run, h]
theorem run_lookup {P : Program} {w : World} {T Tk Te sz by_ b : Nat} {z : Value} {m : List (α × β)} (u : P.underlying T = some (.map Tk Te)) (kt : KeyT P Tk K) (i : TI P Te sz by_ z) (hm : (Res.mp K V b m).p w) (q : α) (ck : Bool) :
    (Instr.lookup T (.map (some b)) (K q) ck).run P w = .ok (if ck then .tuple #[((mget m q).map V).getD z, .bool (mget m q).isSome] else ((mget m q).map V).getD z) w := by
  obtain ⟨es, clk, hh, he, _⟩ := hm
  obtain ⟨r, hr, hf⟩ := find_get kt q w he
  obtain ⟨d, _, _, hck, _⟩ := kt.ex
  have hz := run_zeroValue (w := w) i
  simp only [Instr.lookup, Sem.run_bind, run_underlying u, Result.andThen_ok, run_getObj_map hh, hck, hr, Sem.run_pure]
  cases r with
  | none =>
    obtain ⟨h1, _⟩ := hf
    simp only [hz, Result.andThen_ok, Sem.run_pure, Sem.run_bind, h1]
    cases ck <;> rfl
  | some p =>
    obtain ⟨j, v⟩ := p
    obtain ⟨⟨x, hx, hv⟩, _⟩ := hf
    simp only [hx, hv]
    cases ck <;> rfl
theorem Y_lk {T Tk Te sz by_ b : Nat} {z : Value} {x y : Operand} {m : List (α × β)} {own'} {q : α} (ho : o.op = .lookup T x y false) (hx : evo L x = some (.map (some b))) (hy : evo L y = some (K q)) (u : X.P.underlying T = some (.map Tk Te)) (kt : KeyT X.P Tk K) (i : TI X.P Te sz by_ z)
    (hp : Pick own (Res.mp K V b m) own') : Yld X o L fs own (((mget m q).map V).getD z) := by
  intro g a s
  simp only [execOp, ho, s.kn.eval hx, s.kn.eval hy]
  simp [run_lookup u kt i (mp_of s hp) q false]
theorem Y_lk2 {T Tk Te sz by_ b : Nat} {z : Value} {x y : Operand} {m : List (α × β)} {own'} {q : α} (ho : o.op = .lookup T x y true) (hx : evo L x = some (.map (some b))) (hy : evo L y = some (K q)) (u : X.P.underlying T = some (.map Tk Te)) (kt : KeyT X.P Tk K) (i : TI X.P Te sz by_ z)
    (hp : Pick own (Res.mp K V b m) own') : Yld X o L fs own (.tuple #[((mget m q).map V).getD z, .bool (mget m q).isSome]) := by
  intro g a s
  simp only [execOp, ho, s.kn.eval hx, s.kn.eval hy]
  simp [run_lookup u kt i (mp_of s hp) q true]
omit [DecidableEq α] in
theorem Y_mlen {T Tk Te b : Nat} {x : Operand} {m : List (α × β)} {own'} (ho : o.op = .call ⟨.builtin .len, #[x], #[T]⟩) (hx : evo L x = some (.map (some b))) (u : X.P.underlying T = some (.map Tk Te)) (hp : Pick own (Res.mp K V b m) own') : Yld X o L fs own (.int .i64 m.length) := by
  intro g a s
  obtain ⟨es, clk, hh, he, _⟩ := mp_of s hp
  have hl := mget_enc he
  simp only [execOp, ho, resolve]
  have hl' : es.size = m.length := by simpa using hl
  simp [s.kn.eval hx, invoke, builtin, Builtin.len_, run_underlying u, run_getObj_map hh, goInt, hl']
omit [DecidableEq α] in
theorem S_mkmap {d T : Nat} (K : α → Value) (V : β → Value) (ho : o.op = .makeMap T none) (hl : live arr L o = some true) (hd : o.dst = some d) (hn : Nat.blt d X.n = true)
    (h : ∀ b, S X arr l k ((d, .map (some b)) :: L) fs (Res.mp K V b [] :: own)) : S X arr (o :: l) k L fs own := by
  intro g a s
  have s' := s.alloc (.map #[] 0)
  have hr : (execOp a.eval o).run X.P g.w = .ok (.value (.map (some g.w.heap.size))) (g.w.alloc (.map #[] 0)) := by
    simp only [execOp, ho]
    simp [Instr.makeMap]
  simp only [wl, live_wanted s.kn hl, if_true, wn, hr, hd]
  have s2 : St X L fs (Res.mp K V g.w.heap.size [] :: own) ⟨g.w.alloc (.map #[] 0), g.fz, fun b hb => by have := g.lt b hb; rw [size_alloc]; omega⟩ a := by
    refine ⟨s'.kn, s'.all, ⟨fun r hr' => ?_, s'.own.nodup, s'.own.lt, s'.own.nfz⟩, s'.ext, s'.new⟩
    cases hr' with
    | head => exact ⟨#[], 0, s'.own.p _ (.head _), rfl, by simp, by simp⟩
    | tail _ hm => exact s'.own.p r (.tail _ hm)
  exact h g.w.heap.size _ _ (s2.put hn _)
theorem run_setObj_map {P : Program} {w : World} {b : Nat} {es clk ob} (h : w.heap[b]? = some (.map es clk)) : (setObj b ob).run P w = .ok () { w with heap := w.heap.setIfInBounds b ob } := by
  simp [setObj, Sem.run, h]
omit [DecidableEq α] in
theorem St.setMap {g a} {b : Nat} {m m' : List (α × β)} {own' es clk es' clk'} (s : St X L fs own g a) (hp : Pick own (Res.mp K V b m) own') (hh : g.w.heap[b]? = some (.map es clk))
    (h1 : ents es'.toList = enc2 K V m') (h2 : (es'.toList.map (·.born)).Nodup) (h3 : ∀ e ∈ es'.toList, e.born < clk') :
    ∃ g', g'.w = { g.w with heap := g.w.heap.setIfInBounds b (.map es' clk') } ∧ St X L fs (Res.mp K V b m' :: own') g' a := by
  have hb : b < g.w.heap.size := (Array.getElem?_eq_some_iff.1 hh).1
  refine s.turn hp (r' := Res.mp K V b m') (w' := { g.w with heap := g.w.heap.setIfInBounds b (.map es' clk') }) (fun b' _ hx => ?_) rfl rfl rfl (by simp) ⟨es', clk', ?_, h1, h2, h3⟩ (by simp [Res.mp]) (fun b' hb' => ?_) (fun b' hb' => .inl hb')
  · have : b ≠ b' := fun e => hx (by rw [e]; exact .head _)
    simp [Array.getElem?_setIfInBounds_ne this]
  · simp [hb]
  · have : b' = b := by simpa [Res.mp] using hb'
    subst this; simpa using hb
theorem S_mset {T Tk Te b : Nat} {x y z : Operand} {m : List (α × β)} {own'} {q : α} {v : β} (ho : o.op = .mapUpdate T x y z) (hl : live arr L o = some true) (hd : o.dst = none) (hx : evo L x = some (.map (some b))) (hy : evo L y = some (K q)) (hz : evo L z = some (V v))
    (u : X.P.underlying T = some (.map Tk Te)) (kt : KeyT X.P Tk K) (hp : Pick own (Res.mp K V b m) own') (h : S X arr l k L fs (Res.mp K V b (mset m q v) :: own')) : S X arr (o :: l) k L fs own := by
  refine S_eff0 hl hd (fun g a s => ?_) h
  obtain ⟨es, clk, hh, he, hn, hlt⟩ := mp_of s hp
  obtain ⟨r, hr, hf⟩ := find_get kt q g.w he
  obtain ⟨d, _, _, hck, hsb⟩ := kt.ex
  simp only [execOp, ho, s.kn.eval hx, s.kn.eval hy, s.kn.eval hz]
  simp only [Instr.mapUpdate, Sem.run_bind, run_underlying u, Result.andThen_ok, run_getObj_map hh, hck, hr]
  cases r with
  | none =>
    obtain ⟨_, h2, _⟩ := hf
    obtain ⟨g', hw, s'⟩ := s.setMap hp hh (es' := es.push { key := K q, val := V v, born := clk }) (clk' := clk + 1) (m' := mset m q v) (by rw [h2 v]; simp only [ents] at he; simp [ents, enc2, he]) (by
      simp only [Array.toList_push, List.map_append, List.map_cons, List.map_nil]
      refine List.nodup_append.2 ⟨hn, by simp, fun a ha b hb hab => ?_⟩
      simp at hb
      obtain ⟨e, he', rfl⟩ := List.mem_map.1 ha
      have := hlt e he'
      omega) (fun e he' => by
      simp only [Array.toList_push, List.mem_append, List.mem_singleton] at he'
      rcases he' with h | rfl
      · have := hlt e h; omega
      · exact Nat.lt_succ_self _)
    refine ⟨g', ?_, s'⟩
    rw [hw]
    simp [run_setObj_map hh]
  | some p =>
    obtain ⟨i, w0⟩ := p
    obtain ⟨_, hkk, hmod, _⟩ := hf
    have hkk' : (es[i]?.map (·.key)).getD (K q) = K q := by
      have : es.toList[i]? = es[i]? := by simp
      rw [← this, hkk]; rfl
    obtain ⟨g', hw, s'⟩ := s.setMap hp hh (es' := es.modify i fun e => { e with key := K q, val := V v }) (clk' := clk) (m' := mset m q v) (by
      have := hmod v
      simpa using this) (by
      have : ((es.modify i fun e => { e with key := K q, val := V v }).toList.map (·.born)) = es.toList.map (·.born) := by
        rw [Array.toList_modify]
        apply List.ext_getElem?
        intro j
        simp only [List.getElem?_map, List.getElem?_modify]
        split <;> cases es.toList[j]? <;> rfl
      rw [this]; exact hn) (fun e he' => by
      rw [Array.toList_modify] at he'
      obtain ⟨j, hj⟩ := List.mem_iff_getElem?.1 he'
      rw [List.getElem?_modify] at hj
      cases hjj : es.toList[j]? with
      | none => rw [hjj] at hj; simp at hj
      | some e0 =>
        rw [hjj] at hj
        have := hlt e0 (List.mem_of_getElem? hjj)
        split at hj <;> (simp at hj; subst hj; exact this))
    refine ⟨g', ?_, s'⟩
    rw [hw]
    simp only [hkk', Instr.keyThatStays, hsb q, if_true, Sem.run_bind, Sem.run_pure, Result.andThen_ok, run_setObj_map hh]
theorem S_eff0' {fs' own'} (hl : live arr L o = some true) (hd : o.dst = none)
    (he : ∀ g a, St X L fs own g a → ∃ g' v, (execOp a.eval o).run X.P g.w = .ok (.value v) g'.w ∧ St X L fs' own' g' a) (h : S X arr l k L fs' own') : S X arr (o :: l) k L fs own := by
  intro g a s
  obtain ⟨g', v, hr, s'⟩ := he g a s
  simp only [wl, live_wanted s.kn hl, if_true, wn, hr, hd]
  exact h g' _ s'
theorem S_mdel {T Tk Te b : Nat} {x y : Operand} {m : List (α × β)} {own'} {q : α} (ho : o.op = .call ⟨.builtin .delete, #[x, y], #[T, Tk]⟩) (hl : live arr L o = some true) (hd : o.dst = none) (hx : evo L x = some (.map (some b))) (hy : evo L y = some (K q))
    (u : X.P.underlying T = some (.map Tk Te)) (kt : KeyT X.P Tk K) (hp : Pick own (Res.mp K V b m) own') (h : S X arr l k L fs (Res.mp K V b (mdel m q) :: own')) : S X arr (o :: l) k L fs own := by
  refine S_eff0' hl hd (fun g a s => ?_) h
  obtain ⟨es, clk, hh, he, hn, hlt⟩ := mp_of s hp
  obtain ⟨r, hr, hf⟩ := find_get kt q g.w he
  obtain ⟨d, _, _, hck, hsb⟩ := kt.ex
  have hbi : ∀ ty, (builtin .delete #[T, Tk] ty #[false, false] #[.map (some b), K q]) = (do pure (.value (← Builtin.delete_ #[T, Tk] ty #[.map (some b), K q])) : Sem Next) := fun _ => rfl
  have hrun : ∃ g', (Builtin.delete_ #[T, Tk] o.type #[.map (some b), K q]).run X.P g.w = .ok (.tuple #[]) g'.w ∧ St X L fs (Res.mp K V b (mdel m q) :: own') g' a := by
    simp only [Builtin.delete_]
    have e0 : (#[T, Tk] : Array TypeId)[0]? = some T := rfl
    have e1 : (#[Value.map (some b), K q] : Array Value)[0]? = some (.map (some b)) := rfl
    have e2 : (#[Value.map (some b), K q] : Array Value)[1]? = some (K q) := rfl
    simp only [e0, e1, e2, Sem.run_bind, run_underlying u, Result.andThen_ok, run_getObj_map hh, hck, hr]
    cases r with
    | none =>
      obtain ⟨_, _, h3⟩ := hf
      obtain ⟨g', hw, s'⟩ := s.setMap hp hh (es' := es) (clk' := clk) (m' := mdel m q) (by rw [h3]; exact he) hn hlt
      refine ⟨g', ?_, s'⟩
      rw [hw]
      simp [run_setObj_map hh]
    | some p =>
      obtain ⟨i, w0⟩ := p
      obtain ⟨_, _, _, hdel⟩ := hf
      have hte : (es.eraseIdxIfInBounds i).toList = es.toList.eraseIdx i := by
        unfold Array.eraseIdxIfInBounds
        split
        · simp
        · rename_i hge
          rw [List.eraseIdx_of_length_le (by simpa using hge)]
      obtain ⟨g', hw, s'⟩ := s.setMap hp hh (es' := es.eraseIdxIfInBounds i) (clk' := clk) (m' := mdel m q) (by rw [hte]; exact hdel) (by
        rw [hte]
        exact hn.sublist ((List.eraseIdx_sublist _ _).map _)) (fun e he' => by
        rw [hte] at he'
        exact hlt e ((List.eraseIdx_sublist _ _).subset he'))
      refine ⟨g', ?_, s'⟩
      rw [hw]
      simp [run_setObj_map hh]
  obtain ⟨g', h1, s'⟩ := hrun
  refine ⟨g', .tuple #[], ?_, s'⟩
  simp only [execOp, ho, resolve]
  simp only [List.map_toArray, List.map_cons, List.map_nil, s.kn.eval hx, s.kn.eval hy]
  show (do pure (.value (← Builtin.delete_ #[T, Tk] o.type #[.map (some b), K q])) : Sem Next).run X.P g.w = _
  rw [Sem.run_bind, h1]
  rfl
omit [DecidableEq α] in
/-- A new block. -/
theorem St.fresh {g a} (s : St X L fs own g a) {w' : World} {ob : Obj} (hold : ∀ b, b < g.w.heap.size → w'.heap[b]? = g.w.heap[b]?) (hos : w'.os = g.w.os) (ht : w'.tape = g.w.tape) (hout : w'.output = g.w.output)
    (hsz : w'.heap.size = g.w.heap.size + 1) (hnew : w'.heap[g.w.heap.size]? = some ob) : ∃ g', g'.w = w' ∧ St X L fs (Res.blk g.w.heap.size ob :: own) g' a := by
  have s0 : St X L fs (Res.arr elB 0 none 0 [] :: own) g a := ⟨s.kn, s.all, s.own.arr_nil elB 0, s.ext, s.new⟩
  refine s0.turn .head (r' := Res.blk g.w.heap.size ob) (w' := w') (fun b hb _ => hold b hb) hos ht hout (by omega) hnew (by simp [Res.blk]) (fun b hb => ?_) (fun b hb => .inr ?_)
  · have : b = g.w.heap.size := by simpa [Res.blk] using hb
    omega
  · have : b = g.w.heap.size := by simpa [Res.blk] using hb
    omega
omit [DecidableEq α] in
/-- []byte(s). -/
theorem S_s2b {d sT dT e : Nat} {x : Operand} {p : Bytes} (ho : o.op = .convert sT dT x) (hl : live arr L o = some true) (hd : o.dst = some d) (hn : Nat.blt d X.n = true) (hx : evo L x = some (str p))
    (us : X.P.underlying sT = some .string) (ud : X.P.underlying dT = some (.slice e)) (ue : X.P.underlying e = some (.int .u8)) (hlen : p.length ≤ 9223372036854775807)
    (h : ∀ ad c, S X arr l k ((d, .slice ad p.length c) :: L) (SlM elB ad c p :: fs) own) : S X arr (o :: l) k L fs own := by
  intro g a s
  have hr : (execOp a.eval o).run X.P g.w = .ok (.value (.slice (some ⟨g.w.heap.size, 0, none⟩) (⟨p.toArray⟩ : ByteArray).size (grownCap g.w (⟨p.toArray⟩ : ByteArray).size 0 e))) (Lib.bytesWorld g.w e ⟨p.toArray⟩) := by
    simp only [execOp, ho, s.kn.eval hx, str]
    simp [Lib.run_convert_string_bytes g.w sT dT e _ us ud ue]
  obtain ⟨g1, hw1, s1⟩ := s.fresh (Lib.bytesWorld_at_old g.w e ⟨p.toArray⟩) rfl rfl rfl (Lib.bytesWorld_size _ _ _) (Lib.bytesWorld_at_new g.w e ⟨p.toArray⟩)
  obtain ⟨g2, hw2, s2⟩ := s1.freeze .head
  have hsz : (⟨p.toArray⟩ : ByteArray).size = p.length := by show p.toArray.size = _; simp
  simp only [wl, live_wanted s.kn hl, if_true, wn, hr, hd]
  rw [hsz, ← hw1, ← hw2]
  refine h _ _ _ _ (St.put (X := X) ⟨s2.kn, All.cons ?_ (fun f hf => s2.all f (.tail _ hf)), s2.own, s2.ext, s2.new⟩ hn _)
  have hc := s2.all _ (.head _)
  refine ⟨hlen, ?_, fun _ => ⟨_, 0, rfl, hc.1, fun j x hj => ?_⟩⟩
  · show p.length ≤ (Question.appendCap p.length 0 e).cut _
    simp only [Question.cut]; omega
  · refine hc.2 j x ?_
    have : flat elB p = p.map fun b => Value.int .u8 b.toNat := by
      exact List.map_eq_flatMap.symm
    rw [this] at hj
    simp only [Lib.bytesCells, Array.toList_append, Array.toList_map]
    rw [List.getElem?_append_left (by
      have := (List.getElem?_eq_some_iff.1 hj).1
      simpa using this)]
    exact hj
end
end Go.KX

/- Reading in a slice that is owned; facts that are no more than propositions. No program in sight. -/
namespace Go.KX
section
variable {X : Cx} {k : List It} {L : LL} {fs : List MF} {own : List Res} {arr : Array Oper} {l : List Oper} {o : Oper}
/-- A proposition, as a fact. -/
def PF (φ : Prop) : MF where
  p _ := φ
  mono _ h := h
theorem arr_cell {α : Type} {E : El α} {T : Nat} {ad : Option Addr} {c : Nat} {ys : List α} {w : World} (h : (Res.arr E T ad c ys).p w) {i : Nat} {y : α} (hy : ys[i]? = some y) :
    ∃ b, ad = some ⟨b, 0, none⟩ ∧ ∀ (j : Nat) v, (E.enc y)[j]? = some v → w.cell? ⟨b, i * E.sz + j, none⟩ = some v := by
  have hlt : i < ys.length := by
    rcases Nat.lt_or_ge i ys.length with h | h
    · exact h
    · rw [List.getElem?_eq_none h] at hy; cases hy
  obtain ⟨h1, h2⟩ := h
  rcases h2 with ⟨hv, hn⟩ | ⟨gg, cap, cur, hv, hb, hh, hnc, hcm, hcs, htk⟩
  · omega
  · injection hv with e1 e2 e3
    refine ⟨gg, e1, fun j v hv => ?_⟩
    have hg := flat_get E ys i j y v hy hv
    rw [← htk, List.getElem?_take] at hg
    split at hg
    · have : cur[i * E.sz + j]? = some v := by simpa using hg
      simp [World.cell?, hh, this]
    · cases hg
theorem Y_ixO {α : Type} {E : El α} {T e sz by_ : Nat} {z0 : Value} {x ix : Operand} {ad : Option Addr} {n c : Nat} {ys : List α} {kk : IntKind} {z : Int} {own'} (ho : o.op = .indexAddr T x ix) (u : X.P.underlying T = some (.slice e)) (i : TI X.P e sz by_ z0) (he : E.sz = sz)
    (hx : evo L x = some (.slice ad n c)) (hi : evo L ix = some (.int kk z)) (hp : Pick own (Res.arr E e ad c ys) own') (hlen : n = ys.length) (h0 : 0 ≤ z) (h1 : z.toNat < ys.length) :
    YX X o L fs own (fun v fs' => ∃ b, v = .pointer (some ⟨b, z.toNat * sz, none⟩) ∧ fs' = [PF (ad = some ⟨b, 0, none⟩)]) := by
  intro g a s
  subst he
  have hown := s.own.p _ (hp.perm.symm.subset (.head _))
  obtain ⟨b, hb, _⟩ := arr_cell hown (List.getElem?_eq_getElem h1)
  refine ⟨_, _, ⟨b, rfl, rfl⟩, ?_, All.cons hb (fun f hf => by cases hf)⟩
  have hb' : 0 ≤ z ∧ z < (n : Int) := ⟨h0, by omega⟩
  simp only [execOp, ho, s.kn.eval hx, s.kn.eval hi]
  simp only [Instr.indexAt, asIntOf, Sem.run_bind, Sem.run_pure, Result.andThen_ok, run_underlying u, hb]
  rw [if_pos hb']
  simp only [Sem.run_bind, run_sizeOf i, Result.andThen_ok, Sem.run_pure, addr_add]
  simp
theorem Y_ldA {α : Type} {E : El α} {T Te b oo i j : Nat} {d} {x : Operand} {ad : Option Addr} {c : Nat} {ys : List α} {y : α} {v : Value} {own'} (u : X.P.underlying T = some d) (hd : aggD d = false) (ho : o.op = .load T x) (hx : evo L x = some (.pointer (some ⟨b, oo, none⟩)))
    (hb : Has fs (PF (ad = some ⟨b, 0, none⟩))) (hp : Pick own (Res.arr E Te ad c ys) own') (hoo : oo = i * E.sz + j) (hy : ys[i]? = some y) (hj : (E.enc y)[j]? = some v) : Yld X o L fs own v := by
  intro g a s
  have had : ad = some ⟨b, 0, none⟩ := s.all _ hb.mem
  obtain ⟨b', hb', hc⟩ := arr_cell (s.own.p _ (hp.perm.symm.subset (.head _))) hy
  rw [had] at hb'
  injection hb' with hb'
  injection hb' with hb'
  subst hb' hoo
  have h := hc j v hj
  simp only [execOp, ho, s.kn.eval hx]
  simp [run_load1 u hd h]
theorem Y_ldAS {α : Type} {E : El α} {T Te b oo i sz by_ : Nat} {z} {d} {x : Operand} {ad : Option Addr} {c : Nat} {ys : List α} {y : α} {own'} (u : X.P.underlying T = some d) (hd : aggD d = true) (ti : TI X.P T sz by_ z) (ho : o.op = .load T x) (hx : evo L x = some (.pointer (some ⟨b, oo, none⟩)))
    (hb : Has fs (PF (ad = some ⟨b, 0, none⟩))) (hp : Pick own (Res.arr E Te ad c ys) own') (hoo : oo = i * E.sz) (hy : ys[i]? = some y) (hsz : E.sz = sz) : Yld X o L fs own (.agg (E.enc y).toArray) := by
  intro g a s
  have had : ad = some ⟨b, 0, none⟩ := s.all _ hb.mem
  obtain ⟨b', hb', hc⟩ := arr_cell (s.own.p _ (hp.perm.symm.subset (.head _))) hy
  rw [had] at hb'
  injection hb' with hb'
  injection hb' with hb'
  subst hb' hoo
  simp only [execOp, ho, s.kn.eval hx]
  simp [run_loadS u hd ti (by rw [E.len, hsz]) hc]
theorem flat_set1 {α : Type} {E : El α} (h1 : E.sz = 1) {y : α} {v : Value} (hy : E.enc y = [v]) : ∀ (ys : List α) (i : Nat), flat E (ys.set i y) = (flat E ys).set i v
  | [], i => by simp [flat]
  | x :: xs, i => by
    obtain ⟨u, hu⟩ : ∃ u, E.enc x = [u] := by
      have := E.len x
      rw [h1] at this
      exact List.length_eq_one_iff.1 this
    cases i with
    | zero => simp [flat, hu, hy]
    | succ i =>
      have ih := flat_set1 h1 hy xs i
      simp only [flat] at ih
      simp [flat, hu, ih]
/-- A store into a slice that is owned, of elements of one cell. -/
theorem S_stA {α : Type} {E : El α} (y : α) {T Te b oo i c : Nat} {x z : Operand} {v : Value} {ad : Option Addr} {ys : List α} {own'} (ho : o.op = .store T x z) (hl : live arr L o = some true) (hd : o.dst = none) {by_ : Nat} {zz : Value} (ti : TI X.P T 1 by_ zz) (h1 : E.sz = 1)
    (hx : evo L x = some (.pointer (some ⟨b, oo, none⟩))) (hz : evo L z = some v) (hv : v.oneCell' = true) (hb : Has fs (PF (ad = some ⟨b, 0, none⟩))) (hp : Pick own (Res.arr E Te ad c ys) own') (hoo : oo = i) (hi : i < ys.length) (hy : E.enc y = [v])
    (h : S X arr l k L fs (Res.arr E Te ad c (ys.set i y) :: own')) : S X arr (o :: l) k L fs own := by
  refine S_eff0 hl hd (fun g a s => ?_) h
  subst hoo
  have had : ad = some ⟨b, 0, none⟩ := s.all _ hb.mem
  subst had
  have hown := s.own.p _ (hp.perm.symm.subset (.head _))
  obtain ⟨hn1, h2⟩ := hown
  rcases h2 with ⟨hv0, _⟩ | ⟨gg, cap, cur, hv0, hbb, hh, hnc, hcm, hcs, htk⟩
  · cases hv0
  · injection hv0 with e1 e2 e3
    injection e1 with e1
    injection e1 with e1
    subst e1 e3
    have hlt' : oo < cur.size := by rw [hcs, h1]; omega
    have hc : g.w.cell? ⟨b, oo, none⟩ = some cur[oo] := by simp [World.cell?, hh, hlt']
    have hfz : g.w.frozen? ⟨b, oo, none⟩ = false := by simp [World.frozen?, hh]
    have hsc : v.cells = #[v] := by cases v <;> first | rfl | simp [Value.oneCell'] at hv
    have hbs : b < g.w.heap.size := by
      rcases Nat.lt_or_ge b g.w.heap.size with h | h
      · exact h
      · rw [Array.getElem?_eq_none h] at hh; cases hh
    have hset : (g.w.setCell ⟨b, oo, none⟩ v).heap[b]? = some (.cells (cur.setIfInBounds oo v) Te (0, 0)) := by
      simp only [World.setCell, Array.getElem?_modify, if_true, hh, Option.map_some]
      rfl
    have hrow : (Res.arr E Te (some ⟨b, 0, none⟩) c (ys.set oo y)).p (g.w.setCell ⟨b, oo, none⟩ v) := by
      refine ⟨by rw [flat_len], .inr ⟨b, c, cur.setIfInBounds oo v, rfl, Nat.zero_le _, hset, by simpa using hnc, hcm, by simpa using hcs, ?_⟩⟩
      rw [flat_set1 h1 hy, ← htk]
      simp [List.take_set]
    obtain ⟨g', hw, s'⟩ := s.turn hp (r' := Res.arr E Te (some ⟨b, 0, none⟩) c (ys.set oo y)) (w' := g.w.setCell ⟨b, oo, none⟩ v)
      (fun b' hb' hx' => by simp only [World.setCell, Array.getElem?_modify]; rw [if_neg (fun e => hx' (by rw [← e]; simp [Res.arr, vbs]))]) rfl rfl rfl (by simp [World.setCell]) hrow (by simp [Res.arr, vbs]) (fun b' hb' => by
        have : b' = b := by simpa [Res.arr, vbs] using hb'
        subst this; simpa [World.setCell] using hbs) (fun b' hb' => .inl hb')
    refine ⟨g', ?_, s'⟩
    rw [hw]
    have hst := run_store X.P g.w ⟨b, oo, none⟩ v .plain hv
    rw [hc] at hst
    simp only [hfz] at hst
    simp only [execOp, ho, s.kn.eval hx, s.kn.eval hz]
    simp [Instr.storeAt, Instr.sureAddr, storeVar, run_sizeOf ti, hsc, storeCells, hst, Addr.add]
/-- append(nil, make([]T, n)...): a new block; nothing of it is looked at. -/
theorem S_app0 {α : Type} (E : El α) {T Tn Te sz by_ d n : Nat} {kn : IntKind} {z0 : Value} {x y : Operand} (ho : o.op = .call ⟨.builtin .append, #[x, y], #[T, Tn]⟩) (hl : live arr L o = some true) (hd : o.dst = some d) (hn : Nat.blt d X.n = true)
    (u : X.P.underlying T = some (.slice Te)) (un : X.P.underlying Tn = some (.int kn)) (i : TI X.P Te sz by_ z0) (he : E.sz = sz) (hz : z0.cells.size = sz) (hx : evo L x = some (.slice none 0 0)) (hy : evo L y = some (.int .i64 (n : Int)))
    (h0 : 0 < n) (h63 : n ≤ 9223372036854775807) (hb : n * by_ ≤ 281474976710656)
    (h : ∀ ad c, n ≤ c → S X arr l k ((d, .slice ad n c) :: L) fs (Res.arr E Te ad c ([] : List α) :: own)) : S X arr (o :: l) k L fs own := by
  intro g a s
  subst he
  obtain ⟨i0, hi, hsz, hby, hz0⟩ := i
  have hpos : 0 < i0.size := by rw [hsz]; exact E.pos
  have hrun := Lib.run_append_nil_zeros (P := X.P) g.w T Tn o.type Te i0 z0 .i64 kn u un hi hz0 n h0 hpos (by omega) (by rw [hby]; exact hb)
  have hge := grownCap_ge g.w n 0 Te
  have hcm := grownCap_le_maxLen g.w n 0 Te (by simp only [maxLen]; omega)
  have hr : (execOp a.eval o).run X.P g.w = .ok (.value (.slice (some ⟨g.w.heap.size, 0, none⟩) n (grownCap g.w n 0 Te))) (g.w.drew.alloc (.cells (Builtin.zeroCells z0.cells n ++ Builtin.zeroCells z0.cells (grownCap g.w n 0 Te - n)) Te)) := by
    simp only [execOp, ho, resolve, List.map_toArray, List.map_cons, List.map_nil, s.kn.eval hx, s.kn.eval hy, invoke, builtin, Sem.run_bind, hrun, Result.andThen_ok, Sem.run_pure]
  simp only [wl, live_wanted s.kn hl, if_true, wn, hr, hd]
  obtain ⟨g1, hw1, s1⟩ := s.fresh (w' := g.w.drew.alloc (.cells (Builtin.zeroCells z0.cells n ++ Builtin.zeroCells z0.cells (grownCap g.w n 0 Te - n)) Te)) (ob := .cells (Builtin.zeroCells z0.cells n ++ Builtin.zeroCells z0.cells (grownCap g.w n 0 Te - n)) Te)
    (fun b hb => heap_alloc_old g.w.drew _ hb) rfl rfl rfl (by rw [size_alloc]; rfl) (heap_alloc_new g.w.drew _)
  have s2 : St X L fs (Res.arr E Te (some ⟨g.w.heap.size, 0, none⟩) (grownCap g.w n 0 Te) ([] : List α) :: own) g1 a := by
    refine ⟨s1.kn, s1.all, ⟨fun r hr' => ?_, s1.own.nodup, s1.own.lt, s1.own.nfz⟩, s1.ext, s1.new⟩
    cases hr' with
    | head =>
      refine ⟨by simp, .inr ⟨g.w.heap.size, _, _, rfl, Nat.zero_le _, s1.own.p _ (.head _), Nat.zero_le _, hcm, ?_, by simp⟩⟩
      rw [Array.size_append, size_zeroCells, size_zeroCells, hz, ← Nat.add_mul]
      congr 1; omega
    | tail _ hm => exact s1.own.p r (.tail _ hm)
  rw [← hw1]
  exact h _ _ hge _ _ (s2.put hn _)
/-- x[:hi], its elements not looked at. -/
theorem Y_cut {T e sz by_ : Nat} {z0 : Value} {x hi : Operand} {ad : Option Addr} {n c : Nat} {kk : IntKind} {z : Int} (ho : o.op = .slice T x none (some hi) none) (u : X.P.underlying T = some (.slice e)) (i : TI X.P e sz by_ z0)
    (hx : evo L x = some (.slice ad n c)) (hz : evo L hi = some (.int kk z)) (h0 : 0 ≤ z) (h1 : z ≤ c) : Yld X o L fs own (.slice ad z.toNat c) := by
  intro g a s
  have hb := run_sliceBounds (P := X.P) (w := g.w) (L := L) (lo := none) (hi := some hi) (zl := 0) (zh := z) s.kn true n c rfl ⟨kk, hz⟩ (Int.le_refl 0) h0 h1
  simp only [execOp, ho, Option.map_none, Option.map_some, s.kn.eval hx, s.kn.eval hz] at hb ⊢
  have hs : (Instr.sliceAt T (.slice ad n c) none (some (.int kk z)) none).run X.P g.w = .ok (.slice ad z.toNat c) g.w := by
    unfold Instr.sliceAt
    simp only [Sem.run_bind, run_underlying u, Result.andThen_ok, Instr.slice, hb, run_sizeOf i, Sem.run_pure]
    simp [Addr.add]
  simp [hs]
theorem Y_cap {T e : Nat} {x : Operand} {ad : Option Addr} {n c : Nat} (ho : o.op = .call ⟨.builtin .cap, #[x], #[T]⟩) (hx : evo L x = some (.slice ad n c)) (u : X.P.underlying T = some (.slice e)) : Yld X o L fs own (.int .i64 c) := by
  intro g a s
  simp only [execOp, ho, resolve]
  simp [s.kn.eval hx, invoke, builtin, Builtin.cap_, run_underlying u, goInt]
/-- Two facts as one. -/
def MF2 (f f2 : MF) : MF where
  p g := f.p g ∧ f2.p g
  mono e h := ⟨f.mono e h.1, f2.mono e h.2⟩
theorem S_both {f f2 : MF} (h1 : Has fs f) (h2 : Has fs f2) (h : S X arr l k L (MF2 f f2 :: fs) own) : S X arr l k L fs own :=
  fun g a s => h g a ⟨s.kn, All.cons ⟨s.all _ h1.mem, s.all _ h2.mem⟩ s.all, s.own, s.ext, s.new⟩
theorem C_both {f f2 : MF} (h1 : Has fs (MF2 f f2)) (h : C X k L (f :: f2 :: fs) own) : C X k L fs own :=
  fun g a s => h g a ⟨s.kn, All.cons (s.all _ h1.mem).1 (All.cons (s.all _ h1.mem).2 s.all), s.own, s.ext, s.new⟩
theorem run_part1 {P : Program} {w : World} {t : Nat} {d : TypeDesc} {cs : Array Value} {off : Nat} {v : Value} (u : P.underlying t = some d) (hd : aggD d = false) (hv : cs[off]? = some v) : (part t cs off).run P w = .ok v w := by
  have hag := run_isAgg (P := P) (w := w) u
  rw [hd] at hag
  simp [part, hag, hv]
theorem Y_eqlS {T yT : Nat} {x y : Operand} {xs ys : Array Value} {b : Bool} {fl : Array Field} (ho : o.op = .binOp .eql T x y yT) (hx : evo L x = some (.agg xs)) (hy : evo L y = some (.agg ys)) (hu : X.P.underlying T = some (.struct fl)) (hp : X.P.stoodInHeld T = false)
    (hm : ∀ w, (eqGuard .eql T x y (.agg xs) (.agg ys)).run X.P w = .ok () w) (hr : ∀ w, (Op.eqFields 9999 xs ys fl.toList).run X.P w = .ok b w) : Yld X o L fs own (.bool b) := by
  intro g a s
  have hf : X.P.fieldsOf T = fl := by simp [Program.fieldsOf, hu]
  have := run_equalIn_struct g.w 9999 T xs ys (by rw [hf]; exact hu) hp
  rw [hf, hr] at this
  simp only [execOp, ho, s.kn.eval hx, s.kn.eval hy]
  simp [hm, run_eql_struct, this]
theorem Y_neqS {T yT : Nat} {x y : Operand} {xs ys : Array Value} {b : Bool} {fl : Array Field} (ho : o.op = .binOp .neq T x y yT) (hx : evo L x = some (.agg xs)) (hy : evo L y = some (.agg ys)) (hu : X.P.underlying T = some (.struct fl)) (hp : X.P.stoodInHeld T = false)
    (hm : ∀ w, (eqGuard .neq T x y (.agg xs) (.agg ys)).run X.P w = .ok () w) (hr : ∀ w, (Op.eqFields 9999 xs ys fl.toList).run X.P w = .ok b w) : Yld X o L fs own (.bool (!b)) := by
  intro g a s
  have hf : X.P.fieldsOf T = fl := by simp [Program.fieldsOf, hu]
  have := run_equalIn_struct g.w 9999 T xs ys (by rw [hf]; exact hu) hp
  rw [hf, hr] at this
  simp only [execOp, ho, s.kn.eval hx, s.kn.eval hy]
  simp [hm, run_neq_struct, this]
theorem eqF_int {P : Program} {w : World} {d : Nat} {xs ys : Array Value} {f : Field} {r : List Field} {kk : IntKind} {p q : Int} (hn : f.name ≠ "_") (u : P.underlying f.type = some (.int kk)) (hx : xs[f.offset]? = some (.int kk p)) (hy : ys[f.offset]? = some (.int kk q)) :
    (Op.eqFields (d + 1) xs ys (f :: r)).run P w = if p = q then (Op.eqFields (d + 1) xs ys r).run P w else .ok false w := by
  simp only [Op.eqFields, hn, if_true, ne_eq, not_false_eq_true, Sem.run_bind, run_part1 u rfl hx, run_part1 u rfl hy, Result.andThen_ok, run_equalIn_int w d f.type kk kk p q u]
  by_cases h : p = q <;> simp [h]
theorem eqF_str {P : Program} {w : World} {d : Nat} {xs ys : Array Value} {f : Field} {r : List Field} {p q : Bytes} (hn : f.name ≠ "_") (u : P.underlying f.type = some .string) (hx : xs[f.offset]? = some (str p)) (hy : ys[f.offset]? = some (str q)) :
    (Op.eqFields (d + 1) xs ys (f :: r)).run P w = if p = q then (Op.eqFields (d + 1) xs ys r).run P w else .ok false w := by
  have he : (Op.equalIn (d + 1) f.type (str p) (str q)).run P w = .ok (decide (p = q)) w := by
    simp only [str, Op.equalIn, Sem.run_bind, run_underlying u, Result.andThen_ok, Sem.run_pure, bytes_beq]
  simp only [Op.eqFields, hn, if_true, ne_eq, not_false_eq_true, Sem.run_bind, run_part1 u rfl hx, run_part1 u rfl hy, Result.andThen_ok, he]
  by_cases h : p = q <;> simp [h]
end
end Go.KX

/- Taking elements out of a slice that is owned, in place. No program in sight. -/
namespace Go.KX
section
variable {X : Cx} {k : List It} {L : LL} {fs : List MF} {own : List Res} {arr : Array Oper} {l : List Oper} {o : Oper}
theorem arr_cap {α : Type} {E : El α} {T : Nat} {ad : Option Addr} {c : Nat} {ys : List α} (w : World) (h : (Res.arr E T ad c ys).p w) : ys.length ≤ c ∧ c ≤ 9223372036854775807 := by
  obtain ⟨h1, h2⟩ := h
  rcases h2 with ⟨hv, hn⟩ | ⟨gg, cap, cur, hv, hb, hh, hnc, hcm, hcs, htk⟩
  · injection hv with e1 e2 e3
    subst e3; omega
  · injection hv with e1 e2 e3
    subst e3
    exact ⟨hnc, hcm⟩
/-- x[lo:], its elements not looked at. -/
theorem Y_tail {T e sz by_ : Nat} {z0 : Value} {x lo : Operand} {ad : Option Addr} {n c : Nat} {kk : IntKind} {z : Int} (ho : o.op = .slice T x (some lo) none none) (u : X.P.underlying T = some (.slice e)) (i : TI X.P e sz by_ z0)
    (hx : evo L x = some (.slice ad n c)) (hz : evo L lo = some (.int kk z)) (h0 : 0 ≤ z) (h1 : z ≤ n) (h2 : n ≤ c) : Yld X o L fs own (.slice (if c = z.toNat then ad else ad.map (·.add (z.toNat * sz))) (n - z.toNat) (c - z.toNat)) := by
  intro g a s
  have hb := run_sliceBounds (P := X.P) (w := g.w) (L := L) (lo := some lo) (hi := none) (zl := z) (zh := n) s.kn true n c ⟨kk, hz⟩ rfl h0 h1 (by omega)
  simp only [execOp, ho, Option.map_none, Option.map_some, s.kn.eval hx, s.kn.eval hz] at hb ⊢
  have hs : (Instr.sliceAt T (.slice ad n c) (some (.int kk z)) none none).run X.P g.w = .ok (.slice (if c = z.toNat then ad else ad.map (·.add (z.toNat * sz))) (n - z.toNat) (c - z.toNat)) g.w := by
    unfold Instr.sliceAt
    simp only [Sem.run_bind, run_underlying u, Result.andThen_ok, Instr.slice, hb, run_sizeOf i, Sem.run_pure]
    rfl
  simp [hs]
/-- x[lo:hi]. -/
theorem Y_mid {T e sz by_ : Nat} {z0 : Value} {x lo hi : Operand} {ad : Option Addr} {n c : Nat} {k1 k2 : IntKind} {z y : Int} (ho : o.op = .slice T x (some lo) (some hi) none) (u : X.P.underlying T = some (.slice e)) (i : TI X.P e sz by_ z0)
    (hx : evo L x = some (.slice ad n c)) (hz : evo L lo = some (.int k1 z)) (hy : evo L hi = some (.int k2 y)) (h0 : 0 ≤ z) (h1 : z ≤ y) (h2 : y ≤ c) : Yld X o L fs own (.slice (if c = z.toNat then ad else ad.map (·.add (z.toNat * sz))) (y.toNat - z.toNat) (c - z.toNat)) := by
  intro g a s
  have hb := run_sliceBounds (P := X.P) (w := g.w) (L := L) (lo := some lo) (hi := some hi) (zl := z) (zh := y) s.kn true n c ⟨k1, hz⟩ ⟨k2, hy⟩ h0 h1 h2
  simp only [execOp, ho, Option.map_none, Option.map_some, s.kn.eval hx, s.kn.eval hz, s.kn.eval hy] at hb ⊢
  have hs : (Instr.sliceAt T (.slice ad n c) (some (.int k1 z)) (some (.int k2 y)) none).run X.P g.w = .ok (.slice (if c = z.toNat then ad else ad.map (·.add (z.toNat * sz))) (y.toNat - z.toNat) (c - z.toNat)) g.w := by
    unfold Instr.sliceAt
    simp only [Sem.run_bind, run_underlying u, Result.andThen_ok, Instr.slice, hb, run_sizeOf i, Sem.run_pure]
  simp [hs]
/-- append(x[:k], x[j:]...), x owned: in place. -/
theorem S_delA {α : Type} {E : El α} {T Te sz by_ d p j m : Nat} {z0 : Value} {x y : Operand} {ad : Option Addr} {c : Nat} {ys : List α} {own'} (ho : o.op = .call ⟨.builtin .append, #[x, y], #[T, T]⟩) (hl : live arr L o = some true) (hd : o.dst = some d) (hn : Nat.blt d X.n = true)
    (u : X.P.underlying T = some (.slice Te)) (i : TI X.P Te sz by_ z0) (he : E.sz = sz) (hx : evo L x = some (.slice ad p c)) (hy : evo L y = some (.slice (if c = j then ad else ad.map (·.add (j * sz))) m (c - j)))
    (hp : Pick own (Res.arr E Te ad c ys) own') (hpj : p ≤ j) (hjm : j + m = ys.length) (hpos : 0 < ys.length)
    (h : S X arr l k ((d, .slice ad (p + m) c) :: L) fs (Res.arr E Te ad c (ys.take p ++ ys.drop j) :: own')) : S X arr (o :: l) k L fs own := by
  intro g a s
  subst he
  have hown := s.own.p _ (hp.perm.symm.subset (.head _))
  obtain ⟨i0, hi, hsz, hby, hz0⟩ := i
  obtain ⟨hfl, h2⟩ := hown
  rcases h2 with ⟨hv, hn0⟩ | ⟨gg, cap, cur, hv, hb, hh, hnc, hcm, hcs, htk⟩
  · omega
  · injection hv with e1 e2 e3
    subst e1 e3
    have hlen : (ys.take p ++ ys.drop j).length = p + m := by rw [List.length_append, List.length_take, List.length_drop]; omega
    have hnl : (flat E (ys.drop j)).length = m * E.sz := by rw [flat_len, List.length_drop]; congr 1; omega
    have htk' : cur.toList.take (p * E.sz) = flat E (ys.take p) := by
      rw [← flat_take, ← htk, List.take_take]
      congr 1
      exact (Nat.min_eq_left (Nat.mul_le_mul_right _ (by omega))).symm
    have hnews : ∀ (t : Nat) u, (flat E (ys.drop j))[t]? = some u → g.w.cell? ((if c = j then (⟨gg, 0, none⟩ : Addr) else ⟨gg, j * E.sz, none⟩).add t) = some u := by
      intro t u ht
      have hm0 : 0 < m := by
        rcases Nat.eq_zero_or_pos m with h0 | h0
        · subst h0; rw [List.getElem?_eq_none (by omega)] at ht; cases ht
        · exact h0
      rw [if_neg (by omega), addr_add]
      rw [← flat_drop, List.getElem?_drop, ← htk, List.getElem?_take] at ht
      split at ht
      · have : cur[j * E.sz + t]? = some u := by simpa using ht
        simp [World.cell?, hh, this]
      · cases ht
    have hone : ∀ u ∈ flat E (ys.drop j), u.oneCell' = true := fun u hu => by
      obtain ⟨a, _, hu⟩ := List.mem_flatMap.1 hu
      exact E.one a u hu
    have hroom : p + m ≤ c := by omega
    have hfit : p * i0.size + (flat E (ys.drop j)).length ≤ cur.size := by rw [hnl, hsz, hcs, ← Nat.add_mul]; exact Nat.mul_le_mul_right _ hroom
    have hrun := run_append_room (P := X.P) g.w T o.type Te i0 u hi gg p c cur hh (if c = j then (⟨gg, 0, none⟩ : Addr) else ⟨gg, j * E.sz, none⟩) m (c - j) (flat E (ys.drop j)) (by rw [hnl, hsz]) hnews hone hroom hfit
    have hyv : (if c = j then some (⟨gg, 0, none⟩ : Addr) else (some (⟨gg, 0, none⟩ : Addr)).map (·.add (j * E.sz))) = some (if c = j then (⟨gg, 0, none⟩ : Addr) else ⟨gg, j * E.sz, none⟩) := by
      split
      · rfl
      · simp [addr_add]
    rw [hyv] at hy
    have hok := appOK_room (w := g.w) (Te := Te) (sz := E.sz) (m := m) hh hcm hcs htk' (by rw [flat_len, List.length_take]; congr 1; omega) hnl hroom
    rw [hsz] at hrun
    have hr : (execOp a.eval o).run X.P g.w = .ok (.value (.slice (some ⟨gg, 0, none⟩) (p + m) c)) (g.w.setRow gg (cur.toList.take (p * E.sz) ++ flat E (ys.drop j) ++ cur.toList.drop (p * E.sz + (flat E (ys.drop j)).length)).toArray) := by
      simp only [execOp, ho, resolve, List.map_toArray, List.map_cons, List.map_nil, s.kn.eval hx, s.kn.eval hy, invoke, builtin, Sem.run_bind, hrun, Result.andThen_ok, Sem.run_pure]
    simp only [wl, live_wanted s.kn hl, if_true, wn, hr, hd]
    rw [← flat_append, ← hlen] at hok
    obtain ⟨ad', c', g', hv', hw', s'⟩ := s.grown (c := c) hp hok.1 hok.2.1 (.inr (fun b hb => by
      have : b = gg := by simpa [Value.ownBlock] using hb.symm
      subst this; left; simp [vbs]))
    rw [hlen] at hv'
    injection hv' with e1 _ e3
    subst e1 e3
    rw [← hw']
    exact h _ _ (s'.put hn _)
/-- x[lo:hi:max], for its bounds alone. -/
theorem Y_s3 {T e sz by_ : Nat} {z0 : Value} {x lo hi mx : Operand} {ad : Option Addr} {n c : Nat} {k1 k2 k3 : IntKind} {z y q : Int} (ho : o.op = .slice T x (some lo) (some hi) (some mx)) (u : X.P.underlying T = some (.slice e)) (i : TI X.P e sz by_ z0)
    (hx : evo L x = some (.slice ad n c)) (hz : evo L lo = some (.int k1 z)) (hy : evo L hi = some (.int k2 y)) (hq : evo L mx = some (.int k3 q)) (h0 : 0 ≤ z) (h1 : z ≤ y) (h2 : y ≤ q) (h3 : q ≤ c) :
    Yld X o L fs own (.slice (if q.toNat = z.toNat then ad else ad.map (·.add (z.toNat * sz))) (y.toNat - z.toNat) (q.toNat - z.toNat)) := by
  intro g a s
  simp only [execOp, ho, Option.map_some, s.kn.eval hx, s.kn.eval hz, s.kn.eval hy, s.kn.eval hq]
  have hb : (Instr.sliceBounds true n c (some (.int k1 z)) (some (.int k2 y)) (some (.int k3 q))).run X.P g.w = .ok (z.toNat, y.toNat, q.toNat) g.w := by
    unfold Instr.sliceBounds
    simp only [Instr.sliceBound, asIntOf, Sem.run_bind, Sem.run_pure, Result.andThen_ok, Sem.run_ite]
    rw [if_pos (by omega)]
    simp only [Result.andThen_ok]
    rw [if_pos (by omega)]
    simp only [Result.andThen_ok]
    rw [if_pos (by omega)]
    simp only [Result.andThen_ok]
  have hs : (Instr.sliceAt T (.slice ad n c) (some (.int k1 z)) (some (.int k2 y)) (some (.int k3 q))).run X.P g.w = .ok (.slice (if q.toNat = z.toNat then ad else ad.map (·.add (z.toNat * sz))) (y.toNat - z.toNat) (q.toNat - z.toNat)) g.w := by
    unfold Instr.sliceAt
    simp only [Sem.run_bind, run_underlying u, Result.andThen_ok, Instr.slice, hb, run_sizeOf i, Sem.run_pure]
  simp [hs]
/-- clear(x[p:q]) behind what is owned of x. -/
theorem S_clearA {α : Type} {E : El α} {T Te sz by_ p m c2 : Nat} {z0 : Value} {x : Operand} {ad : Option Addr} {c : Nat} {ys : List α} {own'} (ho : o.op = .call ⟨.builtin .clear, #[x], #[T]⟩) (hl : live arr L o = some true) (hd : o.dst = none)
    (u : X.P.underlying T = some (.slice Te)) (i : TI X.P Te sz by_ z0) (he : E.sz = sz) (hz : z0.cells.size = sz) (hzo : ∀ v ∈ z0.cells.toList, v.oneCell' = true) (hx : evo L x = some (.slice (if c = p then ad else ad.map (·.add (p * sz))) m c2))
    (hp : Pick own (Res.arr E Te ad c ys) own') (hpl : p = ys.length) (hpm : p + m ≤ c) (h : S X arr l k L fs (Res.arr E Te ad c ys :: own')) : S X arr (o :: l) k L fs own := by
  refine S_eff0' hl hd (fun g a s => ?_) h
  subst he hpl
  have hown := s.own.p _ (hp.perm.symm.subset (.head _))
  have hown0 := hown
  have keep : ∀ v', (Builtin.clear_ #[T] o.type #[v']).run X.P g.w = .ok (.tuple #[]) g.w → evo L x = some v' → ∃ g' v, (execOp a.eval o).run X.P g.w = .ok (.value v) g'.w ∧ St X L fs (Res.arr E Te ad c ys :: own') g' a := by
    intro v' hr hv
    refine ⟨g, .tuple #[], ?_, ⟨s.kn, s.all, s.own.perm hp.perm, s.ext, fun b hb => s.new b ((blks_perm hp.perm).symm.subset hb)⟩⟩
    simp only [execOp, ho, resolve, List.map_toArray, List.map_cons, List.map_nil, s.kn.eval hv, invoke, builtin, Sem.run_bind, hr, Result.andThen_ok, Sem.run_pure]
  obtain ⟨hfl, h2⟩ := hown
  rcases Nat.eq_zero_or_pos m with hm0 | hm0
  · subst hm0
    generalize (if c = ys.length then ad else ad.map (·.add (ys.length * E.sz))) = a2 at hx
    refine keep _ ?_ hx
    cases a2 <;> simp [Builtin.clear_, run_underlying u]
  rcases h2 with ⟨hv, hn0⟩ | ⟨gg, cap, cur, hv, hb, hh, hnc, hcm, hcs, htk⟩
  · injection hv with e1 e2 e3
    omega
  · injection hv with e1 e2 e3
    subst e1 e3
    rw [if_neg (by omega)] at hx
    have hx' : evo L x = some (.slice (some ⟨gg, ys.length * E.sz, none⟩) m c2) := by rw [hx]; simp [addr_add]
    have hzl : (Builtin.zeroCells z0.cells m).toList.length = m * E.sz := by rw [Array.length_toList, size_zeroCells, hz]
    have hones : ∀ v ∈ (Builtin.zeroCells z0.cells m).toList, v.oneCell' = true := by
      intro v hv
      have hp0 : 0 < z0.cells.size := by rw [hz]; exact E.pos
      simp only [Builtin.zeroCells, Array.toList_map, List.mem_map] at hv
      obtain ⟨t, _, rfl⟩ := hv
      have hlt : t % z0.cells.size < z0.cells.size := Nat.mod_lt _ hp0
      rw [getElem!_pos z0.cells _ hlt]
      exact hzo _ (by simp)
    have hfit : ys.length * E.sz + 0 + (Builtin.zeroCells z0.cells m).toList.length ≤ cur.size := by rw [hzl, hcs, Nat.add_zero, ← Nat.add_mul]; exact Nat.mul_le_mul_right _ hpm
    have hst := run_storeCells_at X.P gg (ys.length * E.sz) Te (Builtin.zeroCells z0.cells m).toList 0 cur g.w hh hfit hones
    simp only [Nat.add_zero] at hst
    have hrun : (Builtin.clear_ #[T] o.type #[.slice (some ⟨gg, ys.length * E.sz, none⟩) m c2]).run X.P g.w = .ok (.tuple #[]) (g.w.setRow gg (cur.toList.take (ys.length * E.sz) ++ (Builtin.zeroCells z0.cells m).toList ++ cur.toList.drop (ys.length * E.sz + (Builtin.zeroCells z0.cells m).toList.length)).toArray) := by
      obtain ⟨m', rfl⟩ : ∃ k, m = k + 1 := ⟨m - 1, by omega⟩
      simp only [Builtin.clear_]
      have e0 : (#[T] : Array TypeId)[0]? = some T := rfl
      have e1 : (#[Value.slice (some ⟨gg, ys.length * E.sz, none⟩) (m' + 1) c2] : Array Value)[0]? = some (.slice (some ⟨gg, ys.length * E.sz, none⟩) (m' + 1) c2) := rfl
      simp only [e0, e1, Sem.run_bind, run_underlying u, Result.andThen_ok, run_zeroValue i, hst, Sem.run_pure]
    have hnew := setRow_heap g.w gg cur (cur.toList.take (ys.length * E.sz) ++ (Builtin.zeroCells z0.cells m).toList ++ cur.toList.drop (ys.length * E.sz + (Builtin.zeroCells z0.cells m).toList.length)).toArray Te (0, 0) hh
    have htl : (cur.toList.take (ys.length * E.sz)).length = ys.length * E.sz := by rw [htk, hfl]
    have hbs : gg < g.w.heap.size := by
      rcases Nat.lt_or_ge gg g.w.heap.size with h | h
      · exact h
      · rw [Array.getElem?_eq_none h] at hh; cases hh
    obtain ⟨g', hw, s'⟩ := s.turn hp (r' := Res.arr E Te (some ⟨gg, 0, none⟩) c ys) (w' := g.w.setRow gg (cur.toList.take (ys.length * E.sz) ++ (Builtin.zeroCells z0.cells m).toList ++ cur.toList.drop (ys.length * E.sz + (Builtin.zeroCells z0.cells m).toList.length)).toArray)
      (fun b' hb' hx' => setRow_other g.w gg b' _ (fun e => hx' (by rw [e]; simp [Res.arr, vbs]))) rfl rfl rfl (by simp) (by
        refine ⟨hfl, .inr ⟨gg, c, _, rfl, Nat.zero_le _, hnew, hnc, hcm, ?_, ?_⟩⟩
        · simp only [List.size_toArray, List.length_append, List.length_drop, Array.length_toList, htl]
          rw [Nat.add_zero, ← Array.length_toList] at hfit
          simp only [Array.length_toList] at hfit ⊢
          omega
        · show List.take (ys.length * E.sz) (cur.toList.take (ys.length * E.sz) ++ (Builtin.zeroCells z0.cells m).toList ++ cur.toList.drop _) = _
          rw [List.append_assoc, List.take_append_of_le_length (by rw [htl]; exact Nat.le_refl _), List.take_of_length_le (by rw [htl]; exact Nat.le_refl _), htk]) (by simp [Res.arr, vbs]) (fun b' hb' => by
        have : b' = gg := by simpa [Res.arr, vbs] using hb'
        subst this; simpa using hbs) (fun b' hb' => .inl hb')
    refine ⟨g', .tuple #[], ?_, s'⟩
    rw [hw]
    simp only [execOp, ho, resolve, List.map_toArray, List.map_cons, List.map_nil, s.kn.eval hx', invoke, builtin, Sem.run_bind, hrun, Result.andThen_ok, Sem.run_pure]
end
end Go.KX

/- Ranging over a map that is owned: the order is the tape's. No program in sight. -/
namespace Go.KX
open Go.ChangeMaps (setBlock)
section
variable {α β : Type}
/-- The map m in block b is being ranged over by the iterator in block r: the entries at the places js have come out. -/
def Res.it (K : α → Value) (V : β → Value) (b r : Nat) (m : List (α × β)) (js : List Nat) : Res where
  bs := [b, r]
  p w := js.Nodup ∧ (∀ j ∈ js, j < m.length) ∧ ∃ es clk since ss c0, w.heap[b]? = some (.map es clk) ∧ ents es.toList = enc2 K V m ∧ (es.toList.map (·.born)).Nodup ∧ (∀ e ∈ es.toList, e.born < clk) ∧
    w.heap[r]? = some (.mapIter (some b) since ss c0) ∧ (∀ e ∈ es.toList, e.born < since) ∧ since ≤ c0 ∧ since ≤ clk ∧ (js ≠ [] → c0 = clk) ∧ ss.toList.map some = js.map (fun j => (es.toList[j]?).map (·.born))
  loc := by
    intro w w' h ⟨h0, h1, es, clk, since, ss, c0, h2, h3, h4, h5, h6, h7⟩
    exact ⟨h0, h1, es, clk, since, ss, c0, by rw [h b (.head _)]; exact h2, h3, h4, h5, by rw [h r (.tail _ (.head _))]; exact h6, h7⟩
end
section
variable {α β : Type} {K : α → Value} {V : β → Value}
variable {X : Cx} {k : List It} {L : LL} {fs : List MF} {own : List Res} {arr : Array Oper} {l : List Oper} {o : Oper}
theorem S_range {d T Tk Te b : Nat} {x : Operand} {m : List (α × β)} {own'} (ho : o.op = .range T x) (hl : live arr L o = some true) (hd : o.dst = some d) (hn : Nat.blt d X.n = true) (hx : evo L x = some (.map (some b)))
    (u : X.P.underlying T = some (.map Tk Te)) (hp : Pick own (Res.mp K V b m) own') (h : ∀ r, S X arr l k ((d, .pointer (some ⟨r, 0, none⟩)) :: L) fs (Res.it K V b r m [] :: own')) : S X arr (o :: l) k L fs own := by
  intro g a s
  have s0 : St X L fs (Res.mp K V b m :: own') g a := ⟨s.kn, s.all, s.own.perm hp.perm, s.ext, fun x hx => s.new x ((blks_perm hp.perm).symm.subset hx)⟩
  obtain ⟨es, clk, hh, he, hnd, hlt⟩ := s0.own.p _ (.head _)
  have s' := s0.alloc (.mapIter (some b) clk #[] clk)
  have hr : (execOp a.eval o).run X.P g.w = .ok (.value (.pointer (some ⟨g.w.heap.size, 0, none⟩))) (g.w.alloc (.mapIter (some b) clk #[] clk)) := by
    simp only [execOp, ho, s.kn.eval hx]
    simp [run_range_map g.w T Tk Te b es clk u hh]
  simp only [wl, live_wanted s.kn hl, if_true, wn, hr, hd]
  have hb : b < g.w.heap.size := (Array.getElem?_eq_some_iff.1 hh).1
  have hpm : (blks (Res.blk g.w.heap.size (.mapIter (some b) clk #[] clk) :: Res.mp K V b m :: own')).Perm (blks (Res.it K V b g.w.heap.size m [] :: own')) := List.Perm.swap _ _ _
  have s2 : St X L fs (Res.it K V b g.w.heap.size m [] :: own') ⟨g.w.alloc (.mapIter (some b) clk #[] clk), g.fz, fun b hb => by have := g.lt b hb; rw [size_alloc]; omega⟩ a := by
    refine ⟨s'.kn, s'.all, ⟨fun r hr' => ?_, hpm.nodup_iff.1 s'.own.nodup, fun x hx => s'.own.lt x (hpm.symm.subset hx), fun x hx => s'.own.nfz x (hpm.symm.subset hx)⟩, s'.ext, fun x hx => s'.new x (hpm.symm.subset hx)⟩
    cases hr' with
    | head => exact ⟨List.nodup_nil, (fun j hj => nomatch hj), es, clk, clk, #[], clk, (heap_alloc_old g.w _ hb).trans hh, he, hnd, hlt, heap_alloc_new g.w _, hlt, Nat.le_refl _, Nat.le_refl _, fun h => (h rfl).elim, rfl⟩
    | tail _ hm => exact s'.own.p r (.tail _ (.tail _ hm))
  exact h g.w.heap.size _ _ (s2.put hn _)
theorem all_in {js : List Nat} {n : Nat} (h : ∀ j, j < n → j ∈ js) (h2 : ∀ j ∈ js, j < n) (hn : js.Nodup) : js.Perm (List.range n) :=
  (List.perm_ext_iff_of_nodup hn List.nodup_range).2 fun j => ⟨fun hj => List.mem_range.2 (h2 j hj), fun hj => h j (List.mem_range.1 hj)⟩
theorem S_next {d b r : Nat} {x : Operand} {m : List (α × β)} {js : List Nat} {own'} (ho : o.op = .next x false) (hl : live arr L o = some true) (hd : o.dst = some d) (hn : Nat.blt d X.n = true) (hx : evo L x = some (.pointer (some ⟨r, 0, none⟩)))
    (hp : Pick own (Res.it K V b r m js) own')
    (hend : js.Perm (List.range m.length) → S X arr l k ((d, .tuple #[.bool false]) :: L) fs own)
    (hstep : ∀ j y, j ∉ js → m[j]? = some y → S X arr l k ((d, .tuple #[.bool true, K y.1, V y.2]) :: L) fs (Res.it K V b r m (js ++ [j]) :: own')) : S X arr (o :: l) k L fs own := by
  intro g a s
  obtain ⟨hnd, hjl, es, clk, since, ss, c0, hb, he, hbn, hbc, hr, hbs, hsc, hsk, hcl, hss⟩ := s.own.p _ (hp.perm.symm.subset (.head _))
  have hlen : es.toList.length = m.length := by
    have := congrArg List.length he
    simpa [ents, enc2] using this
  have hbr : b ≠ r := by
    intro e
    have := s.own.perm hp.perm
    have h2 := this.nodup
    simp only [blks_cons, Res.it] at h2
    have h3 := (List.nodup_append.1 h2).1
    simp [e] at h3
  simp only [wl, live_wanted s.kn hl, if_true]
  rcases run_next_at (P := X.P) g.w o.type r b since c0 ss es clk hr hb hbs hsc with ⟨h0, hrun⟩ | ⟨e, hem, w1, hw1, hrun⟩
  · have hr' : (execOp a.eval o).run X.P g.w = .ok (.value (.tuple #[.bool false])) g.w := by
      simp only [execOp, ho, s.kn.eval hx]
      simp [hrun]
    simp only [wn, hr', hd]
    refine hend (all_in (fun j hj => ?_) hjl hnd) _ _ (s.put hn _)
    have hje : es.toList[j]? = some (es.toList[j]'(by omega)) := List.getElem?_eq_getElem _
    have hall := all_seen es ss h0 _ (List.mem_of_getElem? hje)
    have hmem : (es.toList[j]'(by omega)).born ∈ ss.toList := by simpa using hall
    have : some (es.toList[j]'(by omega)).born ∈ js.map (fun j => (es.toList[j]?).map (·.born)) := by rw [← hss]; exact List.mem_map.2 ⟨_, hmem, rfl⟩
    obtain ⟨i, hi, hie⟩ := List.mem_map.1 this
    have hil := hjl i hi
    rw [List.getElem?_eq_getElem (by omega)] at hie
    simp only [Option.map_some, Option.some.injEq] at hie
    have hnn := (List.getElem_inj (h₀ := (by simpa using (show i < es.toList.length by omega))) (h₁ := (by simpa using (show j < es.toList.length by omega))) hbn (i := i) (j := j)).1 (by simpa using hie)
    exact hnn ▸ hi
  · obtain ⟨hee, hns⟩ := mem_left hem
    obtain ⟨j, hj⟩ := List.mem_iff_getElem?.1 hee
    have hjlt : j < es.toList.length := (List.getElem?_eq_some_iff.1 hj).1
    obtain ⟨y, hy⟩ : ∃ y, m[j]? = some y := ⟨_, List.getElem?_eq_getElem (by omega)⟩
    have hkv : e.key = K y.1 ∧ e.val = V y.2 := by
      have := congrArg (fun q => q[j]?) he
      simp only [ents, enc2, List.getElem?_map, hj, hy, Option.map_some, Option.some.injEq, Prod.mk.injEq] at this
      exact this
    have hjn : j ∉ js := by
      intro hjm
      have : (es.toList[j]?).map (·.born) ∈ ss.toList.map some := by rw [hss]; exact List.mem_map.2 ⟨j, hjm, rfl⟩
      rw [hj] at this
      obtain ⟨q, hq, hqe⟩ := List.mem_map.1 this
      simp only [Option.map_some, Option.some.injEq] at hqe
      subst hqe
      have hcc : ss.contains e.born = true := by simpa using hq
      rw [hcc] at hns; cases hns
    have hr' : (execOp a.eval o).run X.P g.w = .ok (.value (.tuple #[.bool true, K y.1, V y.2])) (setBlock w1 r (.mapIter (some b) since (ss.push e.born) clk)) := by
      simp only [execOp, ho, s.kn.eval hx]
      simp [hrun, hkv.1, hkv.2]
    have hwh : w1.heap = g.w.heap ∧ w1.os = g.w.os ∧ w1.tape = g.w.tape ∧ w1.output = g.w.output := by rcases hw1 with rfl | rfl <;> exact ⟨rfl, rfl, rfl, rfl⟩
    have hr1 : w1.heap[r]? = some (.mapIter (some b) since ss c0) := by rw [hwh.1]; exact hr
    have hset : (setBlock w1 r (.mapIter (some b) since (ss.push e.born) clk)).heap[r]? = some (.mapIter (some b) since (ss.push e.born) clk) ∧ ∀ r', r' ≠ r → (setBlock w1 r (.mapIter (some b) since (ss.push e.born) clk)).heap[r']? = w1.heap[r']? := Go.MapKept.heap_set (o' := .mapIter (some b) since (ss.push e.born) clk) hr1
    obtain ⟨g', hw, s'⟩ := s.turn hp (r' := Res.it K V b r m (js ++ [j])) (w' := setBlock w1 r (.mapIter (some b) since (ss.push e.born) clk))
      (fun b' hb' hx' => by
        have hne : b' ≠ r := fun e => hx' (by rw [e]; exact .tail _ (.head _))
        rw [hset.2 b' hne, hwh.1])
      (by rw [← hwh.2.1]; rfl) (by rw [← hwh.2.2.1]; rfl) (by rw [← hwh.2.2.2]; rfl) (by rw [← hwh.1]; simp [setBlock])
      (by
        refine ⟨?_, ?_, es, clk, since, ss.push e.born, clk, ?_, he, hbn, hbc, hset.1, hbs, hsk, hsk, fun _ => rfl, ?_⟩
        · exact List.nodup_append.2 ⟨hnd, by simp, fun x hx y hy => by simp at hy; subst hy; exact fun e => hjn (e ▸ hx)⟩
        · intro i hi
          rcases List.mem_append.1 hi with h | h
          · exact hjl i h
          · simp at h; omega
        · rw [hset.2 b hbr, hwh.1]; exact hb
        · simp only [Array.toList_push, List.map_append, hss, List.map_cons, List.map_nil, hj, Option.map_some])
      (by
        have h2 := (s.own.perm hp.perm).nodup
        exact (List.nodup_append.1 h2).1)
      (fun b' hb' => by
        have hlt := (s.own.perm hp.perm).lt b' (by simp only [blks_cons]; exact List.mem_append_left _ hb')
        rw [show (setBlock w1 r (.mapIter (some b) since (ss.push e.born) clk)).heap.size = g.w.heap.size by rw [← hwh.1]; simp [setBlock]]
        exact hlt)
      (fun b' hb' => .inl hb')
    simp only [wn, hr', hd]
    rw [← hw]
    exact hstep j y hjn hy _ _ (s'.put hn _)
theorem Y_entry {b r j : Nat} {x : Operand} {m : List (α × β)} {js : List Nat} {y : α × β} {own'} (ho : o.op = .entry x) (hx : evo L x = some (.pointer (some ⟨r, 0, none⟩))) (hp : Pick own (Res.it K V b r m (js ++ [j])) own') (hy : m[j]? = some y) :
    Yld X o L fs own (.tuple #[K y.1, V y.2]) := by
  intro g a s
  obtain ⟨hnd, hjl, es, clk, since, ss, c0, hb, he, hbn, hbc, hr, hbs, hsc, hsk, hcl, hss⟩ := s.own.p _ (hp.perm.symm.subset (.head _))
  have hlen : es.toList.length = m.length := by
    have := congrArg List.length he
    simpa [ents, enc2] using this
  have hjlt := hjl j (by simp)
  obtain ⟨e, hj⟩ : ∃ e, es.toList[j]? = some e := ⟨_, List.getElem?_eq_getElem (by omega)⟩
  have hkv : e.key = K y.1 ∧ e.val = V y.2 := by
    have := congrArg (fun q => q[j]?) he
    simp only [ents, enc2, List.getElem?_map, hj, hy, Option.map_some, Option.some.injEq, Prod.mk.injEq] at this
    exact this
  have hback : ∃ s0 : Array Nat, ss = s0.push e.born := by
    simp only [List.map_append, List.map_cons, List.map_nil, hj, Option.map_some] at hss
    have hne : ss.toList ≠ [] := fun h => by rw [h] at hss; simp at hss
    refine ⟨ss.toList.dropLast.toArray, Array.ext' ?_⟩
    simp only [Array.toList_push]
    have h1 := List.dropLast_concat_getLast hne
    have h2 : some (ss.toList.getLast hne) = some e.born := by
      have := congrArg List.getLast? hss
      rw [List.getLast?_map, List.getLast?_eq_some_getLast hne] at this
      simpa using this
    have h3 := Option.some.inj h2
    rw [← h3]
    exact h1.symm
  obtain ⟨s0, rfl⟩ := hback
  have hcl' : c0 = clk := hcl (by simp)
  subst hcl'
  have hrun := run_entry_at (P := X.P) g.w r b since s0 es c0 e hr hb (List.mem_of_getElem? hj) hbn
  simp only [execOp, ho, s.kn.eval hx]
  simp [hrun, hkv.1, hkv.2]
/-- Behind the loop. -/
theorem C_itend {b r : Nat} {m : List (α × β)} {js : List Nat} {own'} (hp : Pick own (Res.it K V b r m js) own') (h : C X k L fs (Res.mp K V b m :: own')) : C X k L fs own := by
  intro g a s
  have ho := s.own.perm hp.perm
  obtain ⟨_, _, es, clk, since, ss, c0, hb, he, hbn, hbc, _⟩ := ho.p _ (.head _)
  have hsub : ∀ x ∈ blks (Res.mp K V b m :: own'), x ∈ blks (Res.it K V b r m js :: own') := by
    intro x hx
    simp only [blks_cons, Res.mp, Res.it, List.cons_append, List.nil_append, List.mem_cons] at hx ⊢
    exact hx.imp id .inr
  refine h g a ⟨s.kn, s.all, ⟨fun r hr => ?_, ?_, fun x hx => ho.lt x (hsub x hx), fun x hx => ho.nfz x (hsub x hx)⟩, s.ext, fun x hx => s.new x ((blks_perm hp.perm).symm.subset (hsub x hx))⟩
  · cases hr with
    | head => exact ⟨es, clk, hb, he, hbn, hbc⟩
    | tail _ hm => exact ho.p r (.tail _ hm)
  · have := ho.nodup
    refine this.sublist ?_
    simp only [blks_cons, Res.mp, Res.it, List.cons_append, List.nil_append]
    exact List.Sublist.cons_cons _ (List.sublist_cons_self _ _)
end
end Go.KX

/- Results of which the first lies in memory; a resource that is two. No program in sight. -/
namespace Go.KX
section
variable {X : Cx} {k : List It} {L : LL} {fs : List MF} {own : List Res} {arr : Array Oper} {l : List Oper} {o : Oper}
/-- What lies behind a block's address reads as v. -/
def LdV (X : Cx) (L : LL) (fs : List MF) (own : List Res) (T b : Nat) (v : Value) : Prop := ∀ g a, St X L fs own g a → (loadVar T ⟨b, 0, none⟩).run X.P g.w = .ok v g.w
theorem LdV_S {T b sz by_ : Nat} {z : Value} {d} {cs : Array Value} {T' : Nat} {fr} {own'} (u : X.P.underlying T = some d) (hag : aggD d = true) (i : TI X.P T sz by_ z) (hp : Pick own (Res.blk b (.cells cs T' fr)) own') (hsz : cs.size = sz) : LdV X L fs own T b (.agg cs) := by
  intro g ac s
  have h : ∀ (j : Nat) v, cs.toList[j]? = some v → g.w.cell? ⟨b, 0 + j, none⟩ = some v := fun j v hv => by
    have : cs[j]? = some v := by simpa using hv
    simp [World.cell?, blk_of s hp, this]
  have hl := run_loadS (P := X.P) (w := g.w) u hag i (by simpa using hsz) h
  simpa [Instr.loadAt, Instr.sureAddr] using hl
theorem LdV_1 {T b : Nat} {d} {cs : Array Value} {T' : Nat} {fr} {v : Value} {own'} (u : X.P.underlying T = some d) (hag : aggD d = false) (hp : Pick own (Res.blk b (.cells cs T' fr)) own') (hv0 : cs[0]? = some v) : LdV X L fs own T b v := by
  intro g ac s
  have hc : g.w.cell? ⟨b, 0, none⟩ = some v := by simp [World.cell?, blk_of s hp, hv0]
  have hl := run_load1 (P := X.P) (w := g.w) u hag hc
  simpa [Instr.loadAt, Instr.sureAddr] using hl
theorem Res_c2 {fn : Func} {a T b t : Nat} {v0 v1 : Value} (hr : fn.results = #[.cell a T, .tmp t]) (ha : lk L a = some (.pointer (some ⟨b, 0, none⟩))) (hl : LdV X L fs own T b v0) (h1 : lk L t = some v1) : ResOK X fn L fs own (.tuple #[v0, v1]) := by
  intro g ac s
  have hk := s.kn.val _ _ ha
  have hk1 := s.kn.val _ _ h1
  have hv := hl g ac s
  unfold results
  rw [hr]
  simp [asAddr, hv, hk, hk1]
theorem Res_c3 {fn : Func} {a T b t t' : Nat} {v0 v1 v2 : Value} (hr : fn.results = #[.cell a T, .tmp t, .tmp t']) (ha : lk L a = some (.pointer (some ⟨b, 0, none⟩))) (hl : LdV X L fs own T b v0) (h1 : lk L t = some v1) (h2 : lk L t' = some v2) : ResOK X fn L fs own (.tuple #[v0, v1, v2]) := by
  intro g ac s
  have hk := s.kn.val _ _ ha
  have hk1 := s.kn.val _ _ h1
  have hk2 := s.kn.val _ _ h2
  have hv := hl g ac s
  unfold results
  rw [hr]
  simp [asAddr, hv, hk, hk1, hk2]
theorem S_itend {α β : Type} {K : α → Value} {V : β → Value} {b r : Nat} {m : List (α × β)} {js : List Nat} {own'} (hp : Pick own (Res.it K V b r m js) own') (h : S X arr l k L fs (Res.mp K V b m :: own')) : S X arr l k L fs own := by
  intro g a s
  have ho := s.own.perm hp.perm
  obtain ⟨_, _, es, clk, since, ss, c0, hb, he, hbn, hbc, _⟩ := ho.p _ (.head _)
  have hsub : ∀ x ∈ blks (Res.mp K V b m :: own'), x ∈ blks (Res.it K V b r m js :: own') := by
    intro x hx
    simp only [blks_cons, Res.mp, Res.it, List.cons_append, List.nil_append, List.mem_cons] at hx ⊢
    exact hx.imp id .inr
  refine h g a ⟨s.kn, s.all, ⟨fun r hr => ?_, ?_, fun x hx => ho.lt x (hsub x hx), fun x hx => ho.nfz x (hsub x hx)⟩, s.ext, fun x hx => s.new x ((blks_perm hp.perm).symm.subset (hsub x hx))⟩
  · cases hr with
    | head => exact ⟨es, clk, hb, he, hbn, hbc⟩
    | tail _ hm => exact ho.p r (.tail _ hm)
  · have := ho.nodup
    refine this.sublist ?_
    simp only [blks_cons, Res.mp, Res.it, List.cons_append, List.nil_append]
    exact List.Sublist.cons_cons _ (List.sublist_cons_self _ _)
end
end Go.KX

/- Contracts weakened. No program in sight. -/
namespace Go.KX
theorem Spx.sub {P : Program} {f args fs fs0 own} {R : Value → List MF → List Res → Prop} (h : Spx P f args fs own R) (hF : Subs fs0 fs) : Spx P f args fs0 own R := ⟨h.1, fun g ha ho => h.2 g (hF.all ha) ho⟩
theorem Spx.absurd {P : Program} {f args fs own} {R : Value → List MF → List Res → Prop} (hc : Callable P f) (hF : ∀ g, All fs g → False) : Spx P f args fs own R := ⟨hc, fun g ha _ => (hF g ha).elim⟩
end Go.KX

/- Plain: slices of slices. No program in sight. -/
namespace Go.KX
theorem take_succ_snoc {α : Type} {ls : List α} {i : Nat} {y : α} (h : ls[i]? = some y) : ls.take (i + 1) = ls.take i ++ [y] := by
  rw [List.take_add_one, h]; rfl
theorem drop_cons {α : Type} {ls : List α} {i : Nat} {y : α} (h : ls[i]? = some y) : ls.drop i = y :: ls.drop (i + 1) := by
  have hlt : i < ls.length := by
    rcases Nat.lt_or_ge i ls.length with h' | h'
    · exact h'
    · rw [List.getElem?_eq_none h'] at h; cases h
  rw [List.drop_eq_getElem_cons hlt]
  rw [List.getElem?_eq_getElem hlt] at h
  cases h; rfl
/-- A slice as an element: where it lies, its capacity, its elements. -/
abbrev SlE (α : Type) := Option Addr × Nat × List α
def elSl (α : Type) : El (SlE α) := ⟨1, fun x => [.slice x.1 x.2.2.length x.2.1], fun _ => rfl, by decide, fun _ u h => by simp at h; subst h; rfl⟩
/-- Each of these is a frozen slice. -/
def AllSl {α : Type} (E : El α) (xs : List (SlE α)) : MF where
  p g := ∀ x ∈ xs, (SlM E x.1 x.2.1 x.2.2).p g
  mono e h x hx := (SlM E x.1 x.2.1 x.2.2).mono e (h x hx)
def catS {α : Type} (xs : List (SlE α)) : List α := xs.flatMap fun x => x.2.2
theorem catS_snoc {α : Type} (xs : List (SlE α)) (x : SlE α) : catS (xs ++ [x]) = catS xs ++ x.2.2 := by simp [catS]
theorem catS_take {α : Type} {xs : List (SlE α)} {i : Nat} {y : SlE α} (h : xs[i]? = some y) : (catS (xs.take i)).length + y.2.2.length ≤ (catS xs).length := by
  have h1 : xs = xs.take (i + 1) ++ xs.drop (i + 1) := (List.take_append_drop _ _).symm
  have h2 := congrArg (fun l => (catS l).length) h1
  simp only [take_succ_snoc h, catS, List.flatMap_append, List.length_append, List.flatMap_cons, List.flatMap_nil, List.append_nil] at h2 ⊢
  omega
theorem AllSl.nil {α : Type} (E : El α) (g : GW) : (AllSl E []).p g := fun x hx => by cases hx
section
variable {X : Cx} {k : List It} {L : LL} {fs : List MF} {own : List Res} {arr : Array Oper} {l : List Oper} {o : Oper}
theorem S_sl {α : Type} {E : El α} {xs : List (SlE α)} {i : Nat} {y : SlE α} (hf : Has fs (AllSl E xs)) (hy : xs[i]? = some y) (h : S X arr l k L (SlM E y.1 y.2.1 y.2.2 :: fs) own) : S X arr l k L fs own :=
  S_fact (fun _ hA => hA _ hf.mem y (List.mem_of_getElem? hy)) h
theorem S_sls {α : Type} {E : El α} {xs : List (SlE α)} {a : Option Addr} {c : Nat} {ys : List α} (hf : Has fs (SlM E a c ys)) (hx : Has fs (AllSl E xs)) (h : S X arr l k L (AllSl E ((a, c, ys) :: xs) :: fs) own) : S X arr l k L fs own :=
  S_fact (fun _ hA x hm => by
    rcases List.mem_cons.1 hm with rfl | hm
    · exact hA _ hf.mem
    · exact hA _ hx.mem x hm) h
theorem S_sls0 {α : Type} (E : El α) (h : S X arr l k L (AllSl E [] :: fs) own) : S X arr l k L fs own := S_fact (fun g _ => AllSl.nil E g) h
end
end Go.KX

/- Short words for the steps that are met most; code that is laid aside in one stroke; pure calls. No program in sight. -/
namespace Go.KX
/-- What stands next: sequences, blocks, empty code and n tests that are known laid aside. -/
def norm (L : LL) : Nat → Nat → List It → List It
  | 0, _, k => k
  | f + 1, n, .code (.seq x y) :: k => norm L f n (.code x :: .code y :: k)
  | f + 1, n, .code .skip :: k => norm L f n k
  | f + 1, n, .code (.block id c) :: k => norm L f n (.code c :: .blk id :: k)
  | f + 1, n, .blk _ :: k => norm L f n k
  | f + 1, n, .code (.exit id) :: k => match popTo id k with
    | some k' => norm L f n k'
    | none => .code (.exit id) :: k
  | f + 1, n + 1, .code (.cond c x y) :: k => match evo L c with
    | some (.bool true) => norm L f n (.code x :: k)
    | some (.bool false) => norm L f n (.code y :: k)
    | _ => .code (.cond c x y) :: k
  | _ + 1, _, k => k
section
variable {X : Cx} {k : List It} {L : LL} {fs : List MF} {own : List Res} {arr : Array Oper} {l : List Oper} {o : Oper}
theorem norm_C : ∀ (f n : Nat) {k : List It}, C X (norm L f n k) L fs own → C X k L fs own
  | 0, _, _, h => h
  | f + 1, n, k, h => by
    unfold norm at h
    split at h
    · cases ‹_ + 1 = _›
    · obtain ⟨rfl⟩ := Nat.succ.inj ‹_›; exact C_seq (norm_C f _ h)
    · obtain ⟨rfl⟩ := Nat.succ.inj ‹_›; exact C_skip (norm_C f _ h)
    · obtain ⟨rfl⟩ := Nat.succ.inj ‹_›; exact C_block (norm_C f _ h)
    · obtain ⟨rfl⟩ := Nat.succ.inj ‹_›; exact C_blk (norm_C f _ h)
    · obtain ⟨rfl⟩ := Nat.succ.inj ‹_›
      split at h
      · exact C_exit ‹_› (norm_C f _ h)
      · exact h
    · obtain ⟨rfl⟩ := Nat.succ.inj ‹_›
      split at h
      · exact C_cond_t ‹_› (norm_C f _ h)
      · exact C_cond_f ‹_› (norm_C f _ h)
      · exact h
    · exact h
/-- On to the next region, and m operations of it. -/
theorem cx (n m : Nat) {id : Nat} {k' : List It} {l l' : List Oper} {L' : LL} (h : S X l.toArray l' k' L' fs own) (hk : norm L 64 n k = .code (.region id l.toArray false) :: k' := by rfl) (hr : runN X.n l.toArray m l L = some (l', L') := by rfl) : C X k L fs own :=
  norm_C 64 n (hk ▸ C_region (S_run m hr h))
theorem nx (n m : Nat) {id : Nat} {k' : List It} {l l' : List Oper} {L' : LL} (h : S X l.toArray l' k' L' fs own) (hk : norm L 64 n k = .code (.region id l.toArray false) :: k' := by rfl) (hr : runN X.n l.toArray m l L = some (l', L') := by rfl) : S X arr [] k L fs own :=
  S_nil (cx n m h hk hr)
/-- On to what stands next. -/
theorem cn (n : Nat) {k' : List It} (h : C X k' L fs own) (hk : norm L 64 n k = k' := by rfl) : C X k L fs own := norm_C 64 n (hk ▸ h)
theorem nn (n : Nat) {k' : List It} (h : C X k' L fs own) (hk : norm L 64 n k = k' := by rfl) : S X arr [] k L fs own := S_nil (cn n h hk)
theorem cif (n : Nat) {k' : List It} {c : Operand} {x y : Code} {p : Prop} [Decidable p] (hk : norm L 64 n k = .code (.cond c x y) :: k') (hc : evo L c = some (.bool (decide p))) (ht : p → C X (.code x :: k') L fs own) (hf : ¬ p → C X (.code y :: k') L fs own) : C X k L fs own := norm_C 64 n (hk ▸ C_if hc ht hf)
theorem cfi (n : Nat) {k' : List It} {c : Operand} {x y : Code} {p : Prop} [Decidable p] (hk : norm L 64 n k = .code (.cond c x y) :: k') (hc : evo L c = some (.bool (!decide p))) (ht : ¬ p → C X (.code x :: k') L fs own) (hf : p → C X (.code y :: k') L fs own) : C X k L fs own := norm_C 64 n (hk ▸ C_ifn hc ht hf)
theorem cib (n : Nat) {k' : List It} {c : Operand} {x y : Code} {b : Bool} (hk : norm L 64 n k = .code (.cond c x y) :: k') (hc : evo L c = some (.bool b)) (ht : b = true → C X (.code x :: k') L fs own) (hf : b = false → C X (.code y :: k') L fs own) : C X k L fs own := norm_C 64 n (hk ▸ C_cond hc ht hf)
theorem nif (n : Nat) {k' : List It} {c : Operand} {x y : Code} {p : Prop} [Decidable p] (hk : norm L 64 n k = .code (.cond c x y) :: k') (hc : evo L c = some (.bool (decide p))) (ht : p → C X (.code x :: k') L fs own) (hf : ¬ p → C X (.code y :: k') L fs own) : S X arr [] k L fs own := S_nil (cif n hk hc ht hf)
theorem nfi (n : Nat) {k' : List It} {c : Operand} {x y : Code} {p : Prop} [Decidable p] (hk : norm L 64 n k = .code (.cond c x y) :: k') (hc : evo L c = some (.bool (!decide p))) (ht : ¬ p → C X (.code x :: k') L fs own) (hf : p → C X (.code y :: k') L fs own) : S X arr [] k L fs own := S_nil (cfi n hk hc ht hf)
theorem nib (n : Nat) {k' : List It} {c : Operand} {x y : Code} {b : Bool} (hk : norm L 64 n k = .code (.cond c x y) :: k') (hc : evo L c = some (.bool b)) (ht : b = true → C X (.code x :: k') L fs own) (hf : b = false → C X (.code y :: k') L fs own) : S X arr [] k L fs own := S_nil (cib n hk hc ht hf)
/-! Each: the step, and m operations behind it. -/
theorem rn (m : Nat) {l' : List Oper} {L' : LL} (h : S X arr l' k L' fs own) (hr : runN X.n arr m l L = some (l', L') := by rfl) : S X arr l k L fs own := S_run m hr h
theorem wy (m : Nat) {d : Nat} {v : Value} {l' : List Oper} {L' : LL} (hy : Yld X o L fs own v) (h : S X arr l' k L' fs own) (hl : live arr L o = some true := by rfl) (hd : o.dst = some d := by rfl) (hn : Nat.blt d X.n = true := by rfl) (hr : runN X.n arr m l ((d, v) :: L) = some (l', L') := by rfl) : S X arr (o :: l) k L fs own :=
  S_y hl hd hn hy (S_run m hr h)
/-- A call that computes a value, and no more. -/
def PSpx (P : Program) (f : FuncId) (args : Array Value) (v : Value) : Prop := Spx P f args [] [] (fun v' fs' own' => v' = v ∧ fs' = [] ∧ own' = [])
theorem wc (m : Nat) {d : Nat} {f : FuncId} {args : Array Value} {v : Value} {l' : List Oper} {L' : LL} (hs : PSpx X.P f args v) (h : S X arr l' k L' fs own) (he : Ent X o L fs own f args := by exact E_fn rfl rfl) (hl : live arr L o = some true := by rfl) (hd : o.dst = some d := by rfl) (hn : Nat.blt d X.n = true := by rfl) (hr : runN X.n arr m l ((d, v) :: L) = some (l', L') := by rfl) : S X arr (o :: l) k L fs own :=
  S_enter hl hd hn he hs (by rintro _ _ _ ⟨rfl, rfl, rfl⟩; exact S_run m hr h) .nil .nil
theorem we {d : Nat} {f : FuncId} {args : Array Value} {fsc : List MF} {ownc r : List Res} {R : Value → List MF → List Res → Prop} (hs : Spx X.P f args fsc ownc R) (h : ∀ v fs' own', R v fs' own' → S X arr l k ((d, v) :: L) (fs' ++ fs) (own' ++ r)) (he : Ent X o L fs own f args := by exact E_fn rfl rfl) (hl : live arr L o = some true := by rfl) (hd : o.dst = some d := by rfl) (hn : Nat.blt d X.n = true := by rfl)
    (hF : Subs fs fsc := by repeat constructor) (hO : Split own ownc r := by repeat constructor) : S X arr (o :: l) k L fs own := S_enter hl hd hn he hs h hF hO
end
end Go.KX
/- Symbolic values: what a slot holds, without addresses; what lies frozen is part of the value. No program in sight. -/
namespace Go.KX
/-- Where a local thing lies. -/
structure Lc where
  b : Nat
  ad : Option Addr
  c : Nat
inductive SV where
  | v (x : Value)
  | str (s : Bytes)
  | s (sz : Nat) (rows : List (List SV))
  | p (cs : List SV)
  | l (i off : Nat)
  | a (cs : List SV)
  | f (fn : FuncId) (fi ca : List SV)
  | t (vs : List SV)
  | g (b : Bool) (x : SV)
  | o (i n : Nat)
  | e (i off : Nat)
  | fm (es : List (Bytes × SV))
  | mp (i : Nat)
  | ni
abbrev SL := List (Nat × SV)
/-- A symbolic value stands for a value. -/
inductive Den (g : GW) : (Nat → Lc) → SV → Value → Prop
  | v {ρ x} : Den g ρ (.v x) x
  | str {ρ s} : Den g ρ (.str s) (str s)
  | s {ρ sz rows ad c} (xs : List Value) (h1 : rows.length ≤ maxLen) (h2 : rows.length ≤ c) (hl : xs.length = rows.length * sz) (hr : ∀ r ∈ rows, r.length = sz)
      (ho : (∀ u ∈ xs, u.oneCell' = true) ∧ (sz = 0 → ad = none ∧ c = 0))
      (hne : rows ≠ [] → ∃ b o, ad = some ⟨b, o, none⟩ ∧ g.fz b ∧ ∀ (k : Nat) x, xs[k]? = some x → g.w.cell? ⟨b, o + k, none⟩ = some x)
      (hd : ∀ (ρ' : Nat → Lc) (i j : Nat) r sv x, rows[i]? = some r → r[j]? = some sv → xs[i * sz + j]? = some x → Den g ρ' sv x) : Den g ρ (.s sz rows) (.slice ad rows.length c)
  | p {ρ cs b o} (xs : List Value) (hl : xs.length = cs.length) (hf : g.fz b) (hc : ∀ (k : Nat) x, xs[k]? = some x → g.w.cell? ⟨b, o + k, none⟩ = some x)
      (hd : ∀ (ρ' : Nat → Lc) (j : Nat) sv x, cs[j]? = some sv → xs[j]? = some x → Den g ρ' sv x) : Den g ρ (.p cs) (.pointer (some ⟨b, o, none⟩))
  | l {ρ i off} : Den g ρ (.l i off) (.pointer (some ⟨(ρ i).b, off, none⟩))
  | a {ρ cs} (xs : List Value) (hl : xs.length = cs.length) (hd : ∀ (j : Nat) sv x, cs[j]? = some sv → xs[j]? = some x → Den g ρ sv x) : Den g ρ (.a cs) (.agg xs.toArray)
  | f {ρ fn fi ca} (xs ys : List Value) (hl : xs.length = fi.length) (hd : ∀ (j : Nat) sv x, fi[j]? = some sv → xs[j]? = some x → Den g ρ sv x)
      (hl2 : ys.length = ca.length) (hd2 : ∀ (j : Nat) sv x, ca[j]? = some sv → ys[j]? = some x → Den g ρ sv x) : Den g ρ (.f fn fi ca) (.func (.func fn) xs.toArray ys.toArray)
  | t {ρ vs} (xs : List Value) (hl : xs.length = vs.length) (hd : ∀ (j : Nat) sv x, vs[j]? = some sv → xs[j]? = some x → Den g ρ sv x) : Den g ρ (.t vs) (.tuple xs.toArray)
  | gt {ρ x y} (h : Den g ρ x y) : Den g ρ (.g true x) y
  | gf {ρ x} : Den g ρ (.g false x) undef
  | o {ρ i n} : Den g ρ (.o i n) (.slice (ρ i).ad n (ρ i).c)
  | e {ρ i off b o0} (h : (ρ i).ad = some ⟨b, o0, none⟩) : Den g ρ (.e i off) (.pointer (some ⟨b, o0 + off, none⟩))
  | fm {ρ es b} (raw : List (Bytes × Value)) (ms : Array MapEntry) (clk : Nat) (hf : g.fz b) (hh : g.w.heap[b]? = some (.map ms clk)) (he : ents ms.toList = enc2 str (fun v : Value => v) raw) (hk : raw.map (·.1) = es.map (·.1))
      (hd : ∀ (ρ' : Nat → Lc) (j : Nat) k sv x, es[j]? = some (k, sv) → raw[j]? = some (k, x) → Den g ρ' sv x) : Den g ρ (.fm es) (.map (some b))
  | mp {ρ i} : Den g ρ (.mp i) (.map (some (ρ i).b))
  | ni {ρ T v} : Den g ρ .ni (.iface T v)
theorem Den.mono {g g' : GW} (e : FExt g g') {ρ sv x} (h : Den g ρ sv x) : Den g' ρ sv x := by
  induction h with
  | v => exact .v
  | str => exact .str
  | s xs h1 h2 hl hr ho hne _ ih =>
    refine .s xs h1 h2 hl hr ho (fun hn => ?_) ih
    obtain ⟨b, o, h3, h4, h5⟩ := hne hn
    exact ⟨b, o, h3, e.fz b h4, fun k x hx => by rw [cell_same (e.same b h4)]; exact h5 k x hx⟩
  | p xs hl hf hc _ ih => exact .p xs hl (e.fz _ hf) (fun k x hx => by rw [cell_same (e.same _ hf)]; exact hc k x hx) ih
  | l => exact .l
  | a xs hl _ ih => exact .a xs hl ih
  | f xs ys hl _ hl2 _ ih ih2 => exact .f xs ys hl ih hl2 ih2
  | t xs hl _ ih => exact .t xs hl ih
  | gt _ ih => exact .gt ih
  | gf => exact .gf
  | o => exact .o
  | e h => exact .e h
  | fm raw ms clk hf hh he hk _ ih => exact .fm raw ms clk (e.fz _ hf) (by rw [e.same _ hf]; exact hh) he hk ih
  | mp => exact .mp
  | ni => exact .ni
/-- Likewise, of lists. -/
def DenL (g : GW) (ρ : Nat → Lc) (svs : List SV) (xs : List Value) : Prop := xs.length = svs.length ∧ ∀ (j : Nat) sv x, svs[j]? = some sv → xs[j]? = some x → Den g ρ sv x
theorem DenL.mono {g g' : GW} (e : FExt g g') {ρ svs xs} (h : DenL g ρ svs xs) : DenL g' ρ svs xs := ⟨h.1, fun j sv x h1 h2 => (h.2 j sv x h1 h2).mono e⟩
theorem DenL.nil {g ρ} : DenL g ρ [] [] := ⟨rfl, fun j sv x h => by simp at h⟩
theorem DenL.cons {g ρ sv x svs xs} (h : Den g ρ sv x) (t : DenL g ρ svs xs) : DenL g ρ (sv :: svs) (x :: xs) :=
  ⟨by simp [t.1], fun j s y h1 h2 => by
    cases j with
    | zero => simp at h1 h2; exact h1 ▸ h2 ▸ h
    | succ j => exact t.2 j s y (by simpa using h1) (by simpa using h2)⟩
theorem DenL.uncons {g ρ sv svs xs} (h : DenL g ρ (sv :: svs) xs) : ∃ x r, xs = x :: r ∧ Den g ρ sv x ∧ DenL g ρ svs r := by
  cases xs with
  | nil => simp [DenL] at h
  | cons x r => exact ⟨x, r, rfl, h.2 0 sv x rfl rfl, by simpa using h.1, fun j s y h1 h2 => h.2 (j + 1) s y (by simpa using h1) (by simpa using h2)⟩
theorem DenL.unnil {g ρ xs} (h : DenL g ρ [] xs) : xs = [] := List.eq_nil_of_length_eq_zero (by simpa using h.1)
theorem DenL.get {g ρ svs xs} (h : DenL g ρ svs xs) {j : Nat} {sv} (hj : svs[j]? = some sv) : ∃ x, xs[j]? = some x ∧ Den g ρ sv x := by
  have hlt : j < xs.length := by
    rcases Nat.lt_or_ge j svs.length with h' | h'
    · rw [h.1]; exact h'
    · rw [List.getElem?_eq_none h'] at hj; cases hj
  exact ⟨xs[j], List.getElem?_eq_getElem hlt, h.2 j sv _ hj (List.getElem?_eq_getElem hlt)⟩
theorem DenL.drop {g ρ svs xs} (h : DenL g ρ svs xs) (n : Nat) : DenL g ρ (svs.drop n) (xs.drop n) :=
  ⟨by simp [h.1], fun j sv x h1 h2 => h.2 (n + j) sv x (by simpa using h1) (by simpa using h2)⟩
theorem DenL.take {g ρ svs xs} (h : DenL g ρ svs xs) (n : Nat) : DenL g ρ (svs.take n) (xs.take n) :=
  ⟨by simp [h.1], fun j sv x h1 h2 => by
    rw [List.getElem?_take] at h1 h2
    split at h1
    · rename_i hj; rw [if_pos hj] at h2; exact h.2 j sv x h1 h2
    · cases h1⟩
theorem DenL.append {g ρ svs xs sws ys} (h : DenL g ρ svs xs) (h' : DenL g ρ sws ys) : DenL g ρ (svs ++ sws) (xs ++ ys) :=
  ⟨by simp [h.1, h'.1], fun j sv x h1 h2 => by
    rw [List.getElem?_append] at h1 h2
    rw [h.1] at h2
    split at h1
    · rename_i hj; rw [if_pos hj] at h2; exact h.2 j sv x h1 h2
    · rename_i hj; rw [if_neg hj] at h2; exact h'.2 _ sv x h1 h2⟩
/-- Nothing local in it. -/
def Clo (sv : SV) : Prop := ∀ g ρ ρ' x, Den g ρ sv x → Den g ρ' sv x
mutual
/-- Is the local thing i met in it? -/
def occ (i : Nat) : SV → Bool
  | .l j _ => Nat.beq i j
  | .o j _ => Nat.beq i j
  | .e j _ => Nat.beq i j
  | .mp j => Nat.beq i j
  | .fm _ => false
  | .ni => false
  | .a cs => occL i cs
  | .f _ x y => occL i x || occL i y
  | .t vs => occL i vs
  | .g _ x => occ i x
  | .v _ => false
  | .str _ => false
  | .s _ _ => false
  | .p _ => false
def occL (i : Nat) : List SV → Bool
  | [] => false
  | x :: r => occ i x || occL i r
end
mutual
def clo : SV → Bool
  | .l _ _ => false
  | .o _ _ => false
  | .e _ _ => false
  | .mp _ => false
  | .fm _ => true
  | .ni => true
  | .a cs => cloL cs
  | .f _ x y => cloL x && cloL y
  | .t vs => cloL vs
  | .g _ x => clo x
  | .v _ => true
  | .str _ => true
  | .s _ _ => true
  | .p _ => true
def cloL : List SV → Bool
  | [] => true
  | x :: r => clo x && cloL r
end
theorem cloL_get : ∀ {l : List SV}, cloL l = true → ∀ (j : Nat) sv, l[j]? = some sv → clo sv = true
  | [], _, j, sv, h => by simp at h
  | x :: r, hc, j, sv, h => by
    simp only [cloL, Bool.and_eq_true] at hc
    cases j with
    | zero => simp at h; exact h ▸ hc.1
    | succ j => exact cloL_get hc.2 j sv (by simpa using h)
theorem occL_get {i : Nat} : ∀ {l : List SV}, occL i l = false → ∀ (j : Nat) sv, l[j]? = some sv → occ i sv = false
  | [], _, j, sv, h => by simp at h
  | x :: r, hc, j, sv, h => by
    simp only [occL, Bool.or_eq_false_iff] at hc
    cases j with
    | zero => simp at h; exact h ▸ hc.1
    | succ j => exact occL_get hc.2 j sv (by simpa using h)
theorem Den.swap {g : GW} {ρ sv x} (h : Den g ρ sv x) : clo sv = true → ∀ ρ', Den g ρ' sv x := by
  induction h with
  | v => exact fun _ _ => .v
  | str => exact fun _ _ => .str
  | s xs h1 h2 hl hr ho hne hd _ => exact fun _ _ => .s xs h1 h2 hl hr ho hne hd
  | p xs hl hf hc hd _ => exact fun _ _ => .p xs hl hf hc hd
  | l => intro h; cases h
  | a xs hl _ ih => exact fun hc ρ' => .a xs hl (fun j sv x h1 h2 => ih j sv x h1 h2 (cloL_get hc j sv h1) ρ')
  | f xs ys hl _ hl2 _ ih ih2 =>
    intro hc ρ'
    simp only [clo, Bool.and_eq_true] at hc
    exact .f xs ys hl (fun j sv x h1 h2 => ih j sv x h1 h2 (cloL_get hc.1 j sv h1) ρ') hl2 (fun j sv x h1 h2 => ih2 j sv x h1 h2 (cloL_get hc.2 j sv h1) ρ')
  | t xs hl _ ih => exact fun hc ρ' => .t xs hl (fun j sv x h1 h2 => ih j sv x h1 h2 (cloL_get hc j sv h1) ρ')
  | gt _ ih => exact fun hc ρ' => .gt (ih hc ρ')
  | gf => exact fun _ _ => .gf
  | o => intro h; cases h
  | e h => intro h; cases h
  | fm raw ms clk hf hh he hk hd _ => exact fun _ _ => .fm raw ms clk hf hh he hk hd
  | mp => intro h; cases h
  | ni => exact fun _ _ => .ni
theorem Clo.of {sv : SV} (h : clo sv = true) : Clo sv := fun _ _ ρ' _ hd => hd.swap h ρ'
theorem Den.upd {g : GW} {ρ sv x} (h : Den g ρ sv x) {i : Nat} {y : Lc} : occ i sv = false → Den g (fun j => if j = i then y else ρ j) sv x := by
  have key : ∀ {i j : Nat}, Nat.beq i j = false → j ≠ i := by intro i j h e; subst e; rw [Nat.beq_refl] at h; cases h
  induction h with
  | v => exact fun _ => .v
  | str => exact fun _ => .str
  | s xs h1 h2 hl hr ho hne hd _ => exact fun _ => .s xs h1 h2 hl hr ho hne hd
  | p xs hl hf hc hd _ => exact fun _ => .p xs hl hf hc hd
  | @l ρ j off =>
    intro h
    have := key h
    have e : (ρ j).b = ((fun k => if k = i then y else ρ k) j).b := by simp [this]
    rw [e]; exact .l
  | a xs hl _ ih => exact fun hc => .a xs hl (fun j sv x h1 h2 => ih j sv x h1 h2 (occL_get hc j sv h1))
  | f xs ys hl _ hl2 _ ih ih2 =>
    intro hc
    simp only [occ, Bool.or_eq_false_iff] at hc
    exact .f xs ys hl (fun j sv x h1 h2 => ih j sv x h1 h2 (occL_get hc.1 j sv h1)) hl2 (fun j sv x h1 h2 => ih2 j sv x h1 h2 (occL_get hc.2 j sv h1))
  | t xs hl _ ih => exact fun hc => .t xs hl (fun j sv x h1 h2 => ih j sv x h1 h2 (occL_get hc j sv h1))
  | gt _ ih => exact fun hc => .gt (ih hc)
  | gf => exact fun _ => .gf
  | @o ρ j n =>
    intro h
    have := key h
    have e : ρ j = (fun k => if k = i then y else ρ k) j := by simp [this]
    rw [e]; exact .o
  | @e ρ j off b o0 h' => exact fun h => .e (by simp [key h, h'])
  | fm raw ms clk hf hh he hk hd _ => exact fun _ => .fm raw ms clk hf hh he hk hd
  | ni => exact fun _ => .ni
  | @mp ρ j =>
    intro h
    have := key h
    have e : (ρ j).b = ((fun k => if k = i then y else ρ k) j).b := by simp [this]
    rw [e]; exact .mp

/-! ### What is owned: blocks of cells, rows of elements -/
abbrev Row (sz : Nat) : Type := { r : List Value // r.length = sz ∧ ∀ u ∈ r, u.oneCell' = true }
def elRow (sz : Nat) (h : 0 < sz) : El (Row sz) := ⟨sz, fun r => r.1, fun r => r.2.1, h, fun r => r.2.2⟩
/-- Rows in an array of its own, that need not begin where the array does. -/
def Res.que {α : Type} (E : El α) (T : TypeId) (a : Option Addr) (c : Nat) (ys : List α) : Res where
  bs := vbs a
  p w := (a = none ∧ c = 0 ∧ ys = []) ∨ ∃ gg off cur, a = some ⟨gg, off, none⟩ ∧ w.heap[gg]? = some (.cells cur T (0, 0)) ∧ ys.length ≤ c ∧ c ≤ maxLen ∧ off + c * E.sz ≤ cur.size ∧ (cur.toList.drop off).take (ys.length * E.sz) = flat E ys
  loc := by
    intro w w' h hp
    rcases hp with hp | ⟨gg, off, cur, e, hh, r⟩
    · exact .inl hp
    · subst e
      exact .inr ⟨gg, off, cur, rfl, by rw [h gg (by simp [vbs])]; exact hh, r⟩
inductive MB where
  | c (T : Nat) (cs : List SV)
  | r (T sz : Nat) (rows : List (List SV))
  | m (es : List (Bytes × SV))
  | it (i : Nat) (es : List (Bytes × SV)) (js : List Nat)
  | q (T sz : Nat) (rows : List (List SV))
abbrev SM := List (Nat × MB)
inductive DenB (g : GW) (ρ : Nat → Lc) : Nat → MB → Res → Prop
  | c {i T cs} (xs : List Value) (h : DenL g ρ cs xs) (h1 : ∀ u ∈ xs, u.oneCell' = true) : DenB g ρ i (.c T cs) (Res.blk (ρ i).b (.cells xs.toArray T (0, 0)))
  | r {i T sz rows} (hz : 0 < sz) (xs : List (Row sz)) (hl : xs.length = rows.length) (h : ∀ (ρ' : Nat → Lc) (k : Nat) x r, xs[k]? = some x → rows[k]? = some r → DenL g ρ' r x.1) : DenB g ρ i (.r T sz rows) (Res.arr (elRow sz hz) T (ρ i).ad (ρ i).c xs)
  | m {i es} (raw : List (Bytes × Value)) (hk : raw.map (·.1) = es.map (·.1)) (hd : ∀ (ρ' : Nat → Lc) (j : Nat) k sv x, es[j]? = some (k, sv) → raw[j]? = some (k, x) → Den g ρ' sv x) : DenB g ρ i (.m es) (Res.mp str (fun v : Value => v) (ρ i).b raw)
  | it {j i es js} (raw : List (Bytes × Value)) (hk : raw.map (·.1) = es.map (·.1)) (hd : ∀ (ρ' : Nat → Lc) (j : Nat) k sv x, es[j]? = some (k, sv) → raw[j]? = some (k, x) → Den g ρ' sv x) : DenB g ρ j (.it i es js) (Res.it str (fun v : Value => v) (ρ i).b (ρ j).b raw js)
  | q {i T sz rows} (hz : 0 < sz) (xs : List (Row sz)) (hl : xs.length = rows.length) (h : ∀ (ρ' : Nat → Lc) (k : Nat) x r, xs[k]? = some x → rows[k]? = some r → DenL g ρ' r x.1) : DenB g ρ i (.q T sz rows) (Res.que (elRow sz hz) T (ρ i).ad (ρ i).c xs)
inductive DenM (g : GW) (ρ : Nat → Lc) : SM → List Res → Prop
  | nil : DenM g ρ [] []
  | cons {i mb M r ms} (h : DenB g ρ i mb r) (t : DenM g ρ M ms) : DenM g ρ ((i, mb) :: M) (r :: ms)
theorem DenB.mono {g g' : GW} (e : FExt g g') {ρ i mb r} (h : DenB g ρ i mb r) : DenB g' ρ i mb r := by
  cases h with
  | c xs h h1 => exact .c xs (h.mono e) h1
  | r hz xs hl h => exact .r hz xs hl (fun ρ' k x r h1 h2 => (h ρ' k x r h1 h2).mono e)
  | m raw hk hd => exact .m raw hk (fun ρ' j k sv x h1 h2 => (hd ρ' j k sv x h1 h2).mono e)
  | q hz xs hl h => exact .q hz xs hl (fun ρ' k x r h1 h2 => (h ρ' k x r h1 h2).mono e)
  | it raw hk hd => exact .it raw hk (fun ρ' j k sv x h1 h2 => (hd ρ' j k sv x h1 h2).mono e)
theorem DenM.mono {g g' : GW} (e : FExt g g') {ρ M ms} (h : DenM g ρ M ms) : DenM g' ρ M ms := by
  induction h with
  | nil => exact .nil
  | cons h _ ih => exact .cons (h.mono e) ih
def occM (i : Nat) : SM → Bool
  | [] => false
  | (j, .c _ cs) :: r => Nat.beq i j || occL i cs || occM i r
  | (j, .r _ _ _) :: r => Nat.beq i j || occM i r
  | (j, .m _) :: r => Nat.beq i j || occM i r
  | (j, .q _ _ _) :: r => Nat.beq i j || occM i r
  | (j, .it k _ _) :: r => Nat.beq i j || Nat.beq i k || occM i r
def occSL (i : Nat) : SL → Bool
  | [] => false
  | (_, sv) :: r => occ i sv || occSL i r
/-- A number that is no local thing's. -/
def fresh : SM → Nat
  | [] => 0
  | (j, _) :: r => max (j + 1) (fresh r)
def lkS : SL → Nat → Option SV
  | [], _ => none
  | (j, v) :: r, i => match Nat.beq i j with | true => some v | false => lkS r i
theorem lkS_same (L : SL) (i : Nat) (v : SV) : lkS ((i, v) :: L) i = some v := by simp [lkS]
theorem lkS_ne (L : SL) {i j : Nat} (v : SV) (h : i ≠ j) : lkS ((j, v) :: L) i = lkS L i := by
  have : Nat.beq i j = false := by cases hb : Nat.beq i j with | false => rfl | true => exact absurd (Nat.eq_of_beq_eq_true hb) h
  simp [lkS, this]
end Go.KX
/- Symbolic states; what is known of types, in a tree; operations that read, reckoned. No program in sight. -/
namespace Go.KX
def inj1 : Value → SV
  | .slice none 0 0 => .s 0 []
  | .string b => .str b.data.toList
  | x => .v x
def inj : Value → SV
  | .agg cs => .a (cs.toList.map inj1)
  | x => inj1 x
theorem den_inj1 (g : GW) (ρ : Nat → Lc) (x : Value) : Den g ρ (inj1 x) x := by
  unfold inj1
  split
  · exact .s [] (by decide) (Nat.le_refl _) rfl (fun r hr => by cases hr) ⟨fun u hu => (by cases hu), fun _ => ⟨rfl, rfl⟩⟩ (fun h => absurd rfl h) (fun ρ' i j r sv x h => by simp at h)
  · rename_i b
    have : Den g ρ (.str b.data.toList) (str b.data.toList) := .str
    have e : str b.data.toList = .string b := by unfold str; rw [Go.Lib.mk_data]
    rwa [e] at this
  · exact .v
theorem den_inj (g : GW) (ρ : Nat → Lc) (x : Value) : Den g ρ (inj x) x := by
  unfold inj
  split
  · rename_i cs
    have : Den g ρ (.a (cs.toList.map inj1)) (.agg cs.toList.toArray) := .a _ (by simp) (fun j sv x h1 h2 => by
      simp only [List.getElem?_map, h2, Option.map_some, Option.some.injEq] at h1
      exact h1 ▸ den_inj1 g ρ x)
    simpa using this
  · exact den_inj1 g ρ _
def evS (e : Nat → Option SV) : Operand → Option SV
  | .tmp t => e t
  | .const (.int k n) => some (.v (.int k n))
  | .const (.bool b) => some (.v (.bool b))
  | .const v => some (inj v)
  | .global g => some (.v (.pointer (some ⟨g, 0, none⟩)))
  | .func f => some (.f f [] [])
def evs (e : Nat → Option SV) : List Operand → Option (List SV)
  | [] => some []
  | x :: r => match evS e x with
    | some v => match evs e r with
      | some vs => some (v :: vs)
      | none => none
    | none => none

/-! ### Types -/
inductive KD where
  | int (k : IntKind) | bool | str | sl (e : Nat) | arr (n e : Nat) | st (lay : List (Nat × Nat × Bool)) | mp (k e : Nat) | ptr (e : Nat) | oth
structure TD where
  sz : Nat
  by_ : Nat
  z : Value
  kd : KD
def KDok (P : Program) (T : Nat) (z : Value) : KD → Prop
  | .int k => P.underlying T = some (.int k)
  | .bool => P.underlying T = some .bool
  | .str => P.underlying T = some .string
  | .sl e => P.underlying T = some (.slice e)
  | .arr n e => P.underlying T = some (.array n e)
  | .st lay => LY P T lay ∧ ∃ zs, z = .agg zs.toArray ∧ BT P T (lay.map fun p => (p.1, p.2.1)) zs
  | .mp k e => P.underlying T = some (.map k e)
  | .ptr e => P.underlying T = some (.pointer e)
  | .oth => ∃ d, P.underlying T = some d ∧ aggD d = false
structure TDok (P : Program) (T : Nat) (d : TD) : Prop where
  ti : TI P T d.sz d.by_ d.z
  kd : KDok P T d.z d.kd
theorem TDst {P : Program} {T sz by_ : Nat} {zs : List Value} {fields : List Field} {lay : List (Nat × Nat × Bool)} (ti : TI P T sz by_ (.agg zs.toArray)) (u : P.underlying T = some (.struct fields.toArray)) (h : lyB P fields = some lay) : TDok P T ⟨sz, by_, .agg zs.toArray, .st lay⟩ :=
  ⟨ti, LY_of u h, zs, rfl, BT_of u h ti⟩
inductive TT where
  | nil
  | node (l : TT) (k : Nat) (d : TD) (r : TT)
def TT.get : TT → Nat → Option TD
  | .nil, _ => none
  | .node l k d r, t => match Nat.beq t k with
    | true => some d
    | false => match Nat.blt t k with
      | true => l.get t
      | false => r.get t
def TT.Ok (P : Program) : TT → Prop
  | .nil => True
  | .node l k d r => l.Ok P ∧ TDok P k d ∧ r.Ok P
theorem TT.get_ok {P : Program} : ∀ {tb : TT}, tb.Ok P → ∀ {t d}, tb.get t = some d → TDok P t d
  | .nil, _, t, d, h => by cases h
  | .node l k d' r, ⟨h1, h2, h3⟩, t, d, h => by
    unfold TT.get at h
    split at h
    · rename_i hb
      have := Nat.eq_of_beq_eq_true hb
      subst this; cases h; exact h2
    · split at h
      · exact TT.get_ok h1 h
      · exact TT.get_ok h3 h
def KD.ag : KD → Bool
  | .st _ => true
  | .arr _ _ => true
  | _ => false
theorem KDok.und {P : Program} {T z kd} (h : KDok P T z kd) : ∃ d, P.underlying T = some d ∧ aggD d = kd.ag := by
  cases kd with
  | st lay => obtain ⟨⟨fields, u, _⟩, _⟩ := h; exact ⟨_, u, rfl⟩
  | oth => exact h
  | int k => exact ⟨_, h, rfl⟩
  | bool => exact ⟨_, h, rfl⟩
  | str => exact ⟨_, h, rfl⟩
  | sl e => exact ⟨_, h, rfl⟩
  | arr n e => exact ⟨_, h, rfl⟩
  | mp k e => exact ⟨_, h, rfl⟩
  | ptr e => exact ⟨_, h, rfl⟩

/-! ### States -/
structure Kx extends Cx where
  ρ0 : Nat → Lc
/-- What the slots hold; what was handed in lies where it lay. -/
structure Sl (X : Kx) (ρ : Nat → Lc) (L : SL) (a : Act) (g : GW) : Prop where
  pin : ∀ i, 1000 ≤ i → ρ i = X.ρ0 i
  val : ∀ t sv, lkS L t = some sv → ∃ x, a.tmps[t]? = some x ∧ Den g ρ sv x
structure ESt (X : Kx) (L : SL) (M : SM) (fs : List MF) (own : List Res) (g : GW) (a : Act) : Prop where
  ex : ∃ ρ ms, St X.toCx [] fs (ms ++ own) g a ∧ DenM g ρ M ms ∧ Sl X ρ L a g
/-- A slot's place in the list has no part. -/
theorem ESt.sub {X : Kx} {L L' M fs own g a} (h : ESt X L M fs own g a) (hs : ∀ t sv, lkS L' t = some sv → lkS L t = some sv) : ESt X L' M fs own g a := by
  obtain ⟨ρ, ms, h1, h2, h3⟩ := h
  exact ⟨ρ, ms, h1, h2, h3.pin, fun t sv ht => h3.val t sv (hs t sv ht)⟩
theorem eval_den {a : Act} {g : GW} {ρ : Nat → Lc} {e : Nat → Option SV} (he : ∀ t sv, e t = some sv → ∃ x, a.tmps[t]? = some x ∧ Den g ρ sv x) {o : Operand} {sv : SV} (h : evS e o = some sv) : Den g ρ sv (a.eval o) := by
  cases o with
  | tmp t =>
    obtain ⟨x, hx, hd⟩ := he t sv h
    have : a.eval (.tmp t) = x := by show a.tmps.getD t undef = x; simp [Array.getD_eq_getD_getElem?, hx]
    rw [this]; exact hd
  | const v => cases v <;> cases h <;> first | exact .v | exact den_inj g ρ _
  | global i => cases h; exact .v
  | func f => cases h; exact .f [] [] rfl (fun j sv x h => by simp at h) rfl (fun j sv x h => by simp at h)
theorem evals_den {a : Act} {g : GW} {ρ : Nat → Lc} {e : Nat → Option SV} (he : ∀ t sv, e t = some sv → ∃ x, a.tmps[t]? = some x ∧ Den g ρ sv x) : ∀ {os : List Operand} {svs : List SV}, evs e os = some svs → DenL g ρ svs (os.map a.eval)
  | [], svs, h => by cases h; exact DenL.nil
  | x :: r, svs, h => by
    unfold evs at h
    split at h
    · split at h
      · cases h; exact DenL.cons (eval_den he ‹_›) (evals_den he ‹_›)
      · cases h
    · cases h
end Go.KX
