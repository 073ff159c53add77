/- BY XA XB XC XD XE. -/
import Derived.Test.YtomkgfdigldhcaaGreatDoorLEA
import Derived.Lib.ConvBytes
import Derived.Laws.StructEq
import Derived.Lib.AppendZeros
import Derived.Maps.RangeRun
namespace Go.KX
section
variable {X : Cx} {k : List It} {L : LL} {fs : List MF} {own : List Res} {arr : Array Oper} {l : List Oper} {o : Oper}
def eq1 (d : TypeDesc) (x y : Value) : Option Bool :=
  match d, x, y with
    | .pointer _, .pointer none, .pointer p => some p.isNone
    | .pointer _, .pointer (some _), .pointer none => some false
    | .interface _, .nilIface, .iface _ _ => some false
    | .interface _, .iface _ _, .nilIface => some false
    | .interface _, .nilIface, .nilIface => some true
    | .slice _, .slice none _ _, .slice p _ _ => some p.isNone
    | .slice _, .slice (some _) _ _, .slice none _ _ => some false
    | .map _ _, .map none, .map p => some p.isNone
    | .map _ _, .map (some _), .map none => some false
    | .bool, .bool p, .bool q => some (p == q)
    | _, _, _ => none
theorem run_eq1 {P : Program} {w : World} {T : Nat} {d : TypeDesc} {x y : Value} {b : Bool} (u : P.underlying T = some d) (h : eq1 d x y = some b) : (Op.equal T x y).run P w = .ok b w := by
  simp only [Op.equal, Op.maxDepth]
  unfold Op.equalIn
  simp only [Sem.run_bind, run_underlying u, Result.andThen_ok]
  unfold eq1 at h
  split at h <;> first | (cases h; done) | (simp only [Option.some.injEq] at h; subst h; rfl)
theorem Y_eql1 {T yT : Nat} {d : TypeDesc} {x y : Operand} {vx vy : Value} {b : Bool} (ho : o.op = .binOp .eql T x y yT) (hx : evo L x = some vx) (hy : evo L y = some vy) (u : X.P.underlying T = some d)
    (hg : eqGuard .eql T x y vx vy = pure ()) (hb : ∀ w, (binOp .eql T vx vy).run X.P w = (do pure (.bool (← Op.equal T vx vy)) : Sem Value).run X.P w) (h : eq1 d vx vy = some b) : Yld X o L fs own (.bool b) :=
  Y_bin ho hx hy hg (fun w => by rw [hb w, Sem.run_bind, run_eq1 u h]; rfl)
theorem Y_neq1 {T yT : Nat} {d : TypeDesc} {x y : Operand} {vx vy : Value} {b : Bool} (ho : o.op = .binOp .neq T x y yT) (hx : evo L x = some vx) (hy : evo L y = some vy) (u : X.P.underlying T = some d)
    (hg : eqGuard .neq T x y vx vy = pure ()) (hb : ∀ w, (binOp .neq T vx vy).run X.P w = (do pure (.bool (!(← Op.equal T vx vy))) : Sem Value).run X.P w) (h : eq1 d vx vy = some b) : Yld X o L fs own (.bool (!b)) :=
  Y_bin ho hx hy hg (fun w => by rw [hb w, Sem.run_bind, run_eq1 u h]; rfl)
inductive LdAt (fs : List MF) (own : List Res) (b oo : Nat) (v : Value) : Prop
  | o {cs : Array Value} {T' : Nat} {fr} {own'} (hp : Pick own (Res.blk b (.cells cs T' fr)) own') (hj : cs[oo]? = some v)
  | p {o0 j : Nat} {cs : List Value} (e : oo = o0 + j) (hf : Has fs (PtM b o0 cs)) (hj : cs[j]? = some v)
  | q {cs : List Value} (hf : Has fs (PtM b oo cs)) (hj : cs[0]? = some v)
inductive LdAtS (fs : List MF) (own : List Res) (b oo sz : Nat) (cs : List Value) : Prop
  | o {T' : Nat} {fr} {own'} (e : oo = 0) (hp : Pick own (Res.blk b (.cells cs.toArray T' fr)) own') (hl : cs.length = sz)
  | p (hf : Has fs (PtM b oo cs)) (hl : cs.length = sz)
end
end Go.KX
namespace Go.KX
/-- How keys of a type are told apart. -/
structure KeyT {α : Type} [DecidableEq α] (P : Program) (T : Nat) (K : α → Value) : Prop where
  ex : ∃ d, P.underlying T = some d ∧ (∀ a b, Instr.sameNow d (K a) (K b) = some (decide (a = b))) ∧ (∀ a e w, (Instr.checkKey e 10000 T (K a)).run P w = .ok () w) ∧ (∀ a, Instr.sameBits 10000 (K a) (K a) = true)
theorem run_checkKey {P : Program} {w : World} {T : Nat} {d : TypeDesc} {v : Value} (u : P.underlying T = some d) (hd : (match d with | .int _ => true | .string => true | .bool => true | _ => false) = true) (e : Bool) (n : Nat) :
    (Instr.checkKey e (n + 1) T v).run P w = .ok () w := by
  simp only [Instr.checkKey, Sem.run_bind, run_underlying u, Result.andThen_ok]
  cases d <;> first | (cases hd; done) | rfl
theorem bytes_beq (a b : Bytes) : ((⟨a.toArray⟩ : ByteArray) == ⟨b.toArray⟩) = decide (a = b) := by
  show (a.toArray == b.toArray) = _
  rw [beq_dec, Bool.eq_iff_iff]; simp
theorem keyStr {P : Program} {T : Nat} (u : P.underlying T = some .string) : KeyT P T str :=
  ⟨.string, u, fun a b => by simp only [Instr.sameNow, str, bytes_beq], fun a e w => run_checkKey u rfl e 9999, fun a => by simp [Instr.sameBits, str, bytes_beq]⟩
section
variable {α β : Type} [DecidableEq α]
def mget : List (α × β) → α → Option β
  | [], _ => none
  | p :: r, k => if k = p.1 then some p.2 else mget r k
def mset : List (α × β) → α → β → List (α × β)
  | [], k, v => [(k, v)]
  | p :: r, k, v => if k = p.1 then (k, v) :: r else p :: mset r k v
def mdel : List (α × β) → α → List (α × β)
  | [], _ => []
  | p :: r, k => if k = p.1 then r else p :: mdel r k
def enc2 (K : α → Value) (V : β → Value) (m : List (α × β)) : List (Value × Value) := m.map fun p => (K p.1, V p.2)
def ents (es : List MapEntry) : List (Value × Value) := es.map fun e => (e.key, e.val)
/-- A map in a block of its own. -/
def Res.mp (K : α → Value) (V : β → Value) (b : Nat) (m : List (α × β)) : Res where
  bs := [b]
  p w := ∃ es clk, w.heap[b]? = some (.map es clk) ∧ ents es.toList = enc2 K V m ∧ (es.toList.map (·.born)).Nodup ∧ ∀ e ∈ es.toList, e.born < clk
  loc := by
    intro w w' h ⟨es, clk, h1, h2⟩
    exact ⟨es, clk, by rw [h b (.head _)]; exact h1, h2⟩
/-- What looking for a key finds. -/
def Found (K : α → Value) (V : β → Value) (es : List MapEntry) (m : List (α × β)) (k : α) : Option (Nat × Value) → Prop
  | none => mget m k = none ∧ (∀ x, mset m k x = m ++ [(k, x)]) ∧ mdel m k = m
  | some (i, v) => (∃ x, mget m k = some x ∧ v = V x) ∧ (es[i]?).map (·.key) = some (K k) ∧ (∀ x, ents (es.modify i fun e => { e with key := K k, val := V x }) = enc2 K V (mset m k x)) ∧ ents (es.eraseIdx i) = enc2 K V (mdel m k)
theorem find_get {P : Program} {T : Nat} {K : α → Value} {V : β → Value} (kt : KeyT P T K) (k : α) (w : World) {es : List MapEntry} {m : List (α × β)} (h : ents es = enc2 K V m) :
    ∃ r, (Instr.findKey T (K k) es).run P w = .ok r w ∧ Found K V es m k r := by
  obtain ⟨d, u, hs, _, _⟩ := kt
  have key : ∀ (es : List MapEntry) (m : List (α × β)) (j : Nat), ents es = enc2 K V m → ∃ r, Instr.findNow d (K k) es j = some (r.map fun q => (q.1 + j, q.2)) ∧ Found K V es m k r := by
    intro es
    induction es with
    | nil =>
      intro m j h
      have : m = [] := by cases m with | nil => rfl | cons p r => simp [ents, enc2] at h
      subst this
      exact ⟨none, rfl, rfl, fun x => rfl, rfl⟩
    | cons e es ih =>
      intro m j h
      cases m with
      | nil => simp [ents, enc2] at h
      | cons p r =>
        simp only [ents, enc2, List.map_cons, List.cons.injEq, Prod.mk.injEq] at h
        obtain ⟨⟨h1, h2⟩, h3⟩ := h
        simp only [Instr.findNow, h1, hs k p.1]
        by_cases hk : k = p.1
        · subst hk
          refine ⟨some (0, e.val), by simp, ⟨p.2, by simp [mget], h2⟩, by simp [h1], fun x => ?_, ?_⟩
          · have h3' : ents es = enc2 K V r := h3
            simp only [ents, enc2] at h3'
            simp [ents, enc2, mset, h3']
          · have h3' : ents es = enc2 K V r := h3
            simpa [mdel] using h3'
        · obtain ⟨r', hr, hm⟩ := ih r (j + 1) h3
          refine ⟨r'.map fun q => (q.1 + 1, q.2), ?_, ?_⟩
          · simp only [hk, decide_false, hr, Option.map_map]
            congr 1
            cases r' with
            | none => rfl
            | some q => simp; omega
          · cases r' with
            | none =>
              obtain ⟨m1, m2, m3⟩ := hm
              exact ⟨by simpa [mget, hk] using m1, fun x => by simp [mset, hk, m2], by simp [mdel, hk, m3]⟩
            | some q =>
              obtain ⟨i, v⟩ := q
              obtain ⟨⟨x, hx, hv⟩, hkk, hmod, hdel⟩ := hm
              refine ⟨⟨x, by simpa [mget, hk] using hx, hv⟩, by simpa using hkk, fun y => ?_, ?_⟩
              · have := hmod y
                simp only [ents, enc2] at this
                simp [ents, enc2, mset, hk, this, h1, h2]
              · simp only [ents, enc2] at hdel
                simp [ents, enc2, mdel, hk, hdel, h1, h2]
  obtain ⟨r, hr, hm⟩ := key es m 0 h
  refine ⟨r, ?_, hm⟩
  have : (r.map fun q => (q.1 + 0, q.2)) = r := by cases r <;> rfl
  rw [this] at hr
  simp [Instr.findKey, run_underlying u, hr]
omit [DecidableEq α] in
theorem mget_enc {K : α → Value} {V : β → Value} {es : List MapEntry} {m : List (α × β)} (h : ents es = enc2 K V m) : es.length = m.length := by
  have := congrArg List.length h
  simpa [ents, enc2] using this
end
section
variable {α β : Type} [DecidableEq α] {K : α → Value} {V : β → Value}
variable {X : Cx} {k : List It} {L : LL} {fs : List MF} {own : List Res} {arr : Array Oper} {l : List Oper} {o : Oper}
omit [DecidableEq α] in
theorem mp_of {g a} (s : St X L fs own g a) {b m own'} (hp : Pick own (Res.mp K V b m) own') : (Res.mp K V b m).p g.w := s.own.p _ (hp.perm.symm.subset (.head _))
theorem run_getObj_map {P : Program} {w : World} {b : Nat} {es clk} (h : w.heap[b]? = some (.map es clk)) : (getObj b).run P w = .ok (.map es clk) w := by
  simp [getObj, Sem.run, h]
theorem run_lookup {P : Program} {w : World} {T Tk Te sz by_ b : Nat} {z : Value} {m : List (α × β)} (u : P.underlying T = some (.map Tk Te)) (kt : KeyT P Tk K) (i : TI P Te sz by_ z) (hm : (Res.mp K V b m).p w) (q : α) (ck : Bool) :
    (Instr.lookup T (.map (some b)) (K q) ck).run P w = .ok (if ck then .tuple #[((mget m q).map V).getD z, .bool (mget m q).isSome] else ((mget m q).map V).getD z) w := by
  obtain ⟨es, clk, hh, he, _⟩ := hm
  obtain ⟨r, hr, hf⟩ := find_get kt q w he
  obtain ⟨d, _, _, hck, _⟩ := kt.ex
  have hz := run_zeroValue (w := w) i
  simp only [Instr.lookup, Sem.run_bind, run_underlying u, Result.andThen_ok, run_getObj_map hh, hck, hr, Sem.run_pure]
  cases r with
  | none =>
    obtain ⟨h1, _⟩ := hf
    simp only [hz, Result.andThen_ok, Sem.run_pure, Sem.run_bind, h1]
    cases ck <;> rfl
  | some p =>
    obtain ⟨j, v⟩ := p
    obtain ⟨⟨x, hx, hv⟩, _⟩ := hf
    simp only [hx, hv]
    cases ck <;> rfl
omit [DecidableEq α] in
theorem Y_mlen {T Tk Te b : Nat} {x : Operand} {m : List (α × β)} {own'} (ho : o.op = .call ⟨.builtin .len, #[x], #[T]⟩) (hx : evo L x = some (.map (some b))) (u : X.P.underlying T = some (.map Tk Te)) (hp : Pick own (Res.mp K V b m) own') : Yld X o L fs own (.int .i64 m.length) := by
  intro g a s
  obtain ⟨es, clk, hh, he, _⟩ := mp_of s hp
  have hl := mget_enc he
  simp only [execOp, ho, resolve]
  have hl' : es.size = m.length := by simpa using hl
  simp [s.kn.eval hx, invoke, builtin, Builtin.len_, run_underlying u, run_getObj_map hh, goInt, hl']
omit [DecidableEq α] in
theorem run_setObj_map {P : Program} {w : World} {b : Nat} {es clk ob} (h : w.heap[b]? = some (.map es clk)) : (setObj b ob).run P w = .ok () { w with heap := w.heap.setIfInBounds b ob } := by
  simp [setObj, Sem.run, h]
omit [DecidableEq α] in
theorem St.setMap {g a} {b : Nat} {m m' : List (α × β)} {own' es clk es' clk'} (s : St X L fs own g a) (hp : Pick own (Res.mp K V b m) own') (hh : g.w.heap[b]? = some (.map es clk))
    (h1 : ents es'.toList = enc2 K V m') (h2 : (es'.toList.map (·.born)).Nodup) (h3 : ∀ e ∈ es'.toList, e.born < clk') :
    ∃ g', g'.w = { g.w with heap := g.w.heap.setIfInBounds b (.map es' clk') } ∧ St X L fs (Res.mp K V b m' :: own') g' a := by
  have hb : b < g.w.heap.size := (Array.getElem?_eq_some_iff.1 hh).1
  refine s.turn hp (r' := Res.mp K V b m') (w' := { g.w with heap := g.w.heap.setIfInBounds b (.map es' clk') }) (fun b' _ hx => ?_) rfl rfl rfl (by simp) ⟨es', clk', ?_, h1, h2, h3⟩ (by simp [Res.mp]) (fun b' hb' => ?_) (fun b' hb' => .inl hb')
  · have : b ≠ b' := fun e => hx (by rw [e]; exact .head _)
    simp [Array.getElem?_setIfInBounds_ne this]
  · simp [hb]
  · have : b' = b := by simpa [Res.mp] using hb'
    subst this; simpa using hb
theorem S_mset {T Tk Te b : Nat} {x y z : Operand} {m : List (α × β)} {own'} {q : α} {v : β} (ho : o.op = .mapUpdate T x y z) (hl : live arr L o = some true) (hd : o.dst = none) (hx : evo L x = some (.map (some b))) (hy : evo L y = some (K q)) (hz : evo L z = some (V v))
    (u : X.P.underlying T = some (.map Tk Te)) (kt : KeyT X.P Tk K) (hp : Pick own (Res.mp K V b m) own') (h : S X arr l k L fs (Res.mp K V b (mset m q v) :: own')) : S X arr (o :: l) k L fs own := by
  refine S_eff0 hl hd (fun g a s => ?_) h
  obtain ⟨es, clk, hh, he, hn, hlt⟩ := mp_of s hp
  obtain ⟨r, hr, hf⟩ := find_get kt q g.w he
  obtain ⟨d, _, _, hck, hsb⟩ := kt.ex
  simp only [execOp, ho, s.kn.eval hx, s.kn.eval hy, s.kn.eval hz]
  simp only [Instr.mapUpdate, Sem.run_bind, run_underlying u, Result.andThen_ok, run_getObj_map hh, hck, hr]
  cases r with
  | none =>
    obtain ⟨_, h2, _⟩ := hf
    obtain ⟨g', hw, s'⟩ := s.setMap hp hh (es' := es.push { key := K q, val := V v, born := clk }) (clk' := clk + 1) (m' := mset m q v) (by rw [h2 v]; simp only [ents] at he; simp [ents, enc2, he]) (by
      simp only [Array.toList_push, List.map_append, List.map_cons, List.map_nil]
      refine List.nodup_append.2 ⟨hn, by simp, fun a ha b hb hab => ?_⟩
      simp at hb
      obtain ⟨e, he', rfl⟩ := List.mem_map.1 ha
      have := hlt e he'
      omega) (fun e he' => by
      simp only [Array.toList_push, List.mem_append, List.mem_singleton] at he'
      rcases he' with h | rfl
      · have := hlt e h; omega
      · exact Nat.lt_succ_self _)
    refine ⟨g', ?_, s'⟩
    rw [hw]
    simp [run_setObj_map hh]
  | some p =>
    obtain ⟨i, w0⟩ := p
    obtain ⟨_, hkk, hmod, _⟩ := hf
    have hkk' : (es[i]?.map (·.key)).getD (K q) = K q := by
      have : es.toList[i]? = es[i]? := by simp
      rw [← this, hkk]; rfl
    obtain ⟨g', hw, s'⟩ := s.setMap hp hh (es' := es.modify i fun e => { e with key := K q, val := V v }) (clk' := clk) (m' := mset m q v) (by
      have := hmod v
      simpa using this) (by
      have : ((es.modify i fun e => { e with key := K q, val := V v }).toList.map (·.born)) = es.toList.map (·.born) := by
        rw [Array.toList_modify]
        apply List.ext_getElem?
        intro j
        simp only [List.getElem?_map, List.getElem?_modify]
        split <;> cases es.toList[j]? <;> rfl
      rw [this]; exact hn) (fun e he' => by
      rw [Array.toList_modify] at he'
      obtain ⟨j, hj⟩ := List.mem_iff_getElem?.1 he'
      rw [List.getElem?_modify] at hj
      cases hjj : es.toList[j]? with
      | none => rw [hjj] at hj; simp at hj
      | some e0 =>
        rw [hjj] at hj
        have := hlt e0 (List.mem_of_getElem? hjj)
        split at hj <;> (simp at hj; subst hj; exact this))
    refine ⟨g', ?_, s'⟩
    rw [hw]
    simp only [hkk', Instr.keyThatStays, hsb q, if_true, Sem.run_bind, Sem.run_pure, Result.andThen_ok, run_setObj_map hh]
theorem S_eff0' {fs' own'} (hl : live arr L o = some true) (hd : o.dst = none)
    (he : ∀ g a, St X L fs own g a → ∃ g' v, (execOp a.eval o).run X.P g.w = .ok (.value v) g'.w ∧ St X L fs' own' g' a) (h : S X arr l k L fs' own') : S X arr (o :: l) k L fs own := by
  intro g a s
  obtain ⟨g', v, hr, s'⟩ := he g a s
  simp only [wl, live_wanted s.kn hl, if_true, wn, hr, hd]
  exact h g' _ s'
theorem S_mdel {T Tk Te b : Nat} {x y : Operand} {m : List (α × β)} {own'} {q : α} (ho : o.op = .call ⟨.builtin .delete, #[x, y], #[T, Tk]⟩) (hl : live arr L o = some true) (hd : o.dst = none) (hx : evo L x = some (.map (some b))) (hy : evo L y = some (K q))
    (u : X.P.underlying T = some (.map Tk Te)) (kt : KeyT X.P Tk K) (hp : Pick own (Res.mp K V b m) own') (h : S X arr l k L fs (Res.mp K V b (mdel m q) :: own')) : S X arr (o :: l) k L fs own := by
  refine S_eff0' hl hd (fun g a s => ?_) h
  obtain ⟨es, clk, hh, he, hn, hlt⟩ := mp_of s hp
  obtain ⟨r, hr, hf⟩ := find_get kt q g.w he
  obtain ⟨d, _, _, hck, hsb⟩ := kt.ex
  have hbi : ∀ ty, (builtin .delete #[T, Tk] ty #[false, false] #[.map (some b), K q]) = (do pure (.value (← Builtin.delete_ #[T, Tk] ty #[.map (some b), K q])) : Sem Next) := fun _ => rfl
  have hrun : ∃ g', (Builtin.delete_ #[T, Tk] o.type #[.map (some b), K q]).run X.P g.w = .ok (.tuple #[]) g'.w ∧ St X L fs (Res.mp K V b (mdel m q) :: own') g' a := by
    simp only [Builtin.delete_]
    have e0 : (#[T, Tk] : Array TypeId)[0]? = some T := rfl
    have e1 : (#[Value.map (some b), K q] : Array Value)[0]? = some (.map (some b)) := rfl
    have e2 : (#[Value.map (some b), K q] : Array Value)[1]? = some (K q) := rfl
    simp only [e0, e1, e2, Sem.run_bind, run_underlying u, Result.andThen_ok, run_getObj_map hh, hck, hr]
    cases r with
    | none =>
      obtain ⟨_, _, h3⟩ := hf
      obtain ⟨g', hw, s'⟩ := s.setMap hp hh (es' := es) (clk' := clk) (m' := mdel m q) (by rw [h3]; exact he) hn hlt
      refine ⟨g', ?_, s'⟩
      rw [hw]
      simp [run_setObj_map hh]
    | some p =>
      obtain ⟨i, w0⟩ := p
      obtain ⟨_, _, _, hdel⟩ := hf
      have hte : (es.eraseIdxIfInBounds i).toList = es.toList.eraseIdx i := by
        unfold Array.eraseIdxIfInBounds
        split
        · simp
        · rename_i hge
          rw [List.eraseIdx_of_length_le (by simpa using hge)]
      obtain ⟨g', hw, s'⟩ := s.setMap hp hh (es' := es.eraseIdxIfInBounds i) (clk' := clk) (m' := mdel m q) (by rw [hte]; exact hdel) (by
        rw [hte]
        exact hn.sublist ((List.eraseIdx_sublist _ _).map _)) (fun e he' => by
        rw [hte] at he'
        exact hlt e ((List.eraseIdx_sublist _ _).subset he'))
      refine ⟨g', ?_, s'⟩
      rw [hw]
      simp [run_setObj_map hh]
  obtain ⟨g', h1, s'⟩ := hrun
  refine ⟨g', .tuple #[], ?_, s'⟩
  simp only [execOp, ho, resolve]
  simp only [List.map_toArray, List.map_cons, List.map_nil, s.kn.eval hx, s.kn.eval hy]
  show (do pure (.value (← Builtin.delete_ #[T, Tk] o.type #[.map (some b), K q])) : Sem Next).run X.P g.w = _
  rw [Sem.run_bind, h1]
  rfl
omit [DecidableEq α] in
/-- A new block. -/
theorem St.fresh {g a} (s : St X L fs own g a) {w' : World} {ob : Obj} (hold : ∀ b, b < g.w.heap.size → w'.heap[b]? = g.w.heap[b]?) (hos : w'.os = g.w.os) (ht : w'.tape = g.w.tape) (hout : w'.output = g.w.output)
    (hsz : w'.heap.size = g.w.heap.size + 1) (hnew : w'.heap[g.w.heap.size]? = some ob) : ∃ g', g'.w = w' ∧ St X L fs (Res.blk g.w.heap.size ob :: own) g' a := by
  have s0 : St X L fs (Res.arr elB 0 none 0 [] :: own) g a := ⟨s.kn, s.all, s.own.arr_nil elB 0, s.ext, s.new⟩
  refine s0.turn .head (r' := Res.blk g.w.heap.size ob) (w' := w') (fun b hb _ => hold b hb) hos ht hout (by omega) hnew (by simp [Res.blk]) (fun b hb => ?_) (fun b hb => .inr ?_)
  · have : b = g.w.heap.size := by simpa [Res.blk] using hb
    omega
  · have : b = g.w.heap.size := by simpa [Res.blk] using hb
    omega
omit [DecidableEq α] in
end
end Go.KX
namespace Go.KX
section
variable {X : Cx} {k : List It} {L : LL} {fs : List MF} {own : List Res} {arr : Array Oper} {l : List Oper} {o : Oper}
theorem run_part1 {P : Program} {w : World} {t : Nat} {d : TypeDesc} {cs : Array Value} {off : Nat} {v : Value} (u : P.underlying t = some d) (hd : aggD d = false) (hv : cs[off]? = some v) : (part t cs off).run P w = .ok v w := by
  have hag := run_isAgg (P := P) (w := w) u
  rw [hd] at hag
  simp [part, hag, hv]
theorem eqF_int {P : Program} {w : World} {d : Nat} {xs ys : Array Value} {f : Field} {r : List Field} {kk : IntKind} {p q : Int} (hn : f.name ≠ "_") (u : P.underlying f.type = some (.int kk)) (hx : xs[f.offset]? = some (.int kk p)) (hy : ys[f.offset]? = some (.int kk q)) :
    (Op.eqFields (d + 1) xs ys (f :: r)).run P w = if p = q then (Op.eqFields (d + 1) xs ys r).run P w else .ok false w := by
  simp only [Op.eqFields, hn, if_true, ne_eq, not_false_eq_true, Sem.run_bind, run_part1 u rfl hx, run_part1 u rfl hy, Result.andThen_ok, run_equalIn_int w d f.type kk kk p q u]
  by_cases h : p = q <;> simp [h]
theorem eqF_str {P : Program} {w : World} {d : Nat} {xs ys : Array Value} {f : Field} {r : List Field} {p q : Bytes} (hn : f.name ≠ "_") (u : P.underlying f.type = some .string) (hx : xs[f.offset]? = some (str p)) (hy : ys[f.offset]? = some (str q)) :
    (Op.eqFields (d + 1) xs ys (f :: r)).run P w = if p = q then (Op.eqFields (d + 1) xs ys r).run P w else .ok false w := by
  have he : (Op.equalIn (d + 1) f.type (str p) (str q)).run P w = .ok (decide (p = q)) w := by
    simp only [str, Op.equalIn, Sem.run_bind, run_underlying u, Result.andThen_ok, Sem.run_pure, bytes_beq]
  simp only [Op.eqFields, hn, if_true, ne_eq, not_false_eq_true, Sem.run_bind, run_part1 u rfl hx, run_part1 u rfl hy, Result.andThen_ok, he]
  by_cases h : p = q <;> simp [h]
end
end Go.KX
namespace Go.KX
end Go.KX
namespace Go.KX
open Go.ChangeMaps (setBlock)
section
variable {α β : Type}
/-- The map m in block b is being ranged over by the iterator in block r: the entries at the places js have come out. -/
def Res.it (K : α → Value) (V : β → Value) (b r : Nat) (m : List (α × β)) (js : List Nat) : Res where
  bs := [b, r]
  p w := js.Nodup ∧ (∀ j ∈ js, j < m.length) ∧ ∃ es clk since ss c0, w.heap[b]? = some (.map es clk) ∧ ents es.toList = enc2 K V m ∧ (es.toList.map (·.born)).Nodup ∧ (∀ e ∈ es.toList, e.born < clk) ∧
    w.heap[r]? = some (.mapIter (some b) since ss c0) ∧ (∀ e ∈ es.toList, e.born < since) ∧ since ≤ c0 ∧ since ≤ clk ∧ (js ≠ [] → c0 = clk) ∧ ss.toList.map some = js.map (fun j => (es.toList[j]?).map (·.born))
  loc := by
    intro w w' h ⟨h0, h1, es, clk, since, ss, c0, h2, h3, h4, h5, h6, h7⟩
    exact ⟨h0, h1, es, clk, since, ss, c0, by rw [h b (.head _)]; exact h2, h3, h4, h5, by rw [h r (.tail _ (.head _))]; exact h6, h7⟩
end
section
variable {α β : Type} {K : α → Value} {V : β → Value}
variable {X : Cx} {k : List It} {L : LL} {fs : List MF} {own : List Res} {arr : Array Oper} {l : List Oper} {o : Oper}
theorem S_range {d T Tk Te b : Nat} {x : Operand} {m : List (α × β)} {own'} (ho : o.op = .range T x) (hl : live arr L o = some true) (hd : o.dst = some d) (hn : Nat.blt d X.n = true) (hx : evo L x = some (.map (some b)))
    (u : X.P.underlying T = some (.map Tk Te)) (hp : Pick own (Res.mp K V b m) own') (h : ∀ r, S X arr l k ((d, .pointer (some ⟨r, 0, none⟩)) :: L) fs (Res.it K V b r m [] :: own')) : S X arr (o :: l) k L fs own := by
  intro g a s
  have s0 : St X L fs (Res.mp K V b m :: own') g a := ⟨s.kn, s.all, s.own.perm hp.perm, s.ext, fun x hx => s.new x ((blks_perm hp.perm).symm.subset hx)⟩
  obtain ⟨es, clk, hh, he, hnd, hlt⟩ := s0.own.p _ (.head _)
  have s' := s0.alloc (.mapIter (some b) clk #[] clk)
  have hr : (execOp a.eval o).run X.P g.w = .ok (.value (.pointer (some ⟨g.w.heap.size, 0, none⟩))) (g.w.alloc (.mapIter (some b) clk #[] clk)) := by
    simp only [execOp, ho, s.kn.eval hx]
    simp [run_range_map g.w T Tk Te b es clk u hh]
  simp only [wl, live_wanted s.kn hl, if_true, wn, hr, hd]
  have hb : b < g.w.heap.size := (Array.getElem?_eq_some_iff.1 hh).1
  have hpm : (blks (Res.blk g.w.heap.size (.mapIter (some b) clk #[] clk) :: Res.mp K V b m :: own')).Perm (blks (Res.it K V b g.w.heap.size m [] :: own')) := List.Perm.swap _ _ _
  have s2 : St X L fs (Res.it K V b g.w.heap.size m [] :: own') ⟨g.w.alloc (.mapIter (some b) clk #[] clk), g.fz, fun b hb => by have := g.lt b hb; rw [size_alloc]; omega⟩ a := by
    refine ⟨s'.kn, s'.all, ⟨fun r hr' => ?_, hpm.nodup_iff.1 s'.own.nodup, fun x hx => s'.own.lt x (hpm.symm.subset hx), fun x hx => s'.own.nfz x (hpm.symm.subset hx)⟩, s'.ext, fun x hx => s'.new x (hpm.symm.subset hx)⟩
    cases hr' with
    | head => exact ⟨List.nodup_nil, (fun j hj => nomatch hj), es, clk, clk, #[], clk, (heap_alloc_old g.w _ hb).trans hh, he, hnd, hlt, heap_alloc_new g.w _, hlt, Nat.le_refl _, Nat.le_refl _, fun h => (h rfl).elim, rfl⟩
    | tail _ hm => exact s'.own.p r (.tail _ (.tail _ hm))
  exact h g.w.heap.size _ _ (s2.put hn _)
theorem all_in {js : List Nat} {n : Nat} (h : ∀ j, j < n → j ∈ js) (h2 : ∀ j ∈ js, j < n) (hn : js.Nodup) : js.Perm (List.range n) :=
  (List.perm_ext_iff_of_nodup hn List.nodup_range).2 fun j => ⟨fun hj => List.mem_range.2 (h2 j hj), fun hj => h j (List.mem_range.1 hj)⟩
theorem S_next {d b r : Nat} {x : Operand} {m : List (α × β)} {js : List Nat} {own'} (ho : o.op = .next x false) (hl : live arr L o = some true) (hd : o.dst = some d) (hn : Nat.blt d X.n = true) (hx : evo L x = some (.pointer (some ⟨r, 0, none⟩)))
    (hp : Pick own (Res.it K V b r m js) own')
    (hend : js.Perm (List.range m.length) → S X arr l k ((d, .tuple #[.bool false]) :: L) fs own)
    (hstep : ∀ j y, j ∉ js → m[j]? = some y → S X arr l k ((d, .tuple #[.bool true, K y.1, V y.2]) :: L) fs (Res.it K V b r m (js ++ [j]) :: own')) : S X arr (o :: l) k L fs own := by
  intro g a s
  obtain ⟨hnd, hjl, es, clk, since, ss, c0, hb, he, hbn, hbc, hr, hbs, hsc, hsk, hcl, hss⟩ := s.own.p _ (hp.perm.symm.subset (.head _))
  have hlen : es.toList.length = m.length := by
    have := congrArg List.length he
    simpa [ents, enc2] using this
  have hbr : b ≠ r := by
    intro e
    have := s.own.perm hp.perm
    have h2 := this.nodup
    simp only [blks_cons, Res.it] at h2
    have h3 := (List.nodup_append.1 h2).1
    simp [e] at h3
  simp only [wl, live_wanted s.kn hl, if_true]
  rcases run_next_at (P := X.P) g.w o.type r b since c0 ss es clk hr hb hbs hsc with ⟨h0, hrun⟩ | ⟨e, hem, w1, hw1, hrun⟩
  · have hr' : (execOp a.eval o).run X.P g.w = .ok (.value (.tuple #[.bool false])) g.w := by
      simp only [execOp, ho, s.kn.eval hx]
      simp [hrun]
    simp only [wn, hr', hd]
    refine hend (all_in (fun j hj => ?_) hjl hnd) _ _ (s.put hn _)
    have hje : es.toList[j]? = some (es.toList[j]'(by omega)) := List.getElem?_eq_getElem _
    have hall := all_seen es ss h0 _ (List.mem_of_getElem? hje)
    have hmem : (es.toList[j]'(by omega)).born ∈ ss.toList := by simpa using hall
    have : some (es.toList[j]'(by omega)).born ∈ js.map (fun j => (es.toList[j]?).map (·.born)) := by rw [← hss]; exact List.mem_map.2 ⟨_, hmem, rfl⟩
    obtain ⟨i, hi, hie⟩ := List.mem_map.1 this
    have hil := hjl i hi
    rw [List.getElem?_eq_getElem (by omega)] at hie
    simp only [Option.map_some, Option.some.injEq] at hie
    have hnn := (List.getElem_inj (h₀ := (by simpa using (show i < es.toList.length by omega))) (h₁ := (by simpa using (show j < es.toList.length by omega))) hbn (i := i) (j := j)).1 (by simpa using hie)
    exact hnn ▸ hi
  · obtain ⟨hee, hns⟩ := mem_left hem
    obtain ⟨j, hj⟩ := List.mem_iff_getElem?.1 hee
    have hjlt : j < es.toList.length := (List.getElem?_eq_some_iff.1 hj).1
    obtain ⟨y, hy⟩ : ∃ y, m[j]? = some y := ⟨_, List.getElem?_eq_getElem (by omega)⟩
    have hkv : e.key = K y.1 ∧ e.val = V y.2 := by
      have := congrArg (fun q => q[j]?) he
      simp only [ents, enc2, List.getElem?_map, hj, hy, Option.map_some, Option.some.injEq, Prod.mk.injEq] at this
      exact this
    have hjn : j ∉ js := by
      intro hjm
      have : (es.toList[j]?).map (·.born) ∈ ss.toList.map some := by rw [hss]; exact List.mem_map.2 ⟨j, hjm, rfl⟩
      rw [hj] at this
      obtain ⟨q, hq, hqe⟩ := List.mem_map.1 this
      simp only [Option.map_some, Option.some.injEq] at hqe
      subst hqe
      have hcc : ss.contains e.born = true := by simpa using hq
      rw [hcc] at hns; cases hns
    have hr' : (execOp a.eval o).run X.P g.w = .ok (.value (.tuple #[.bool true, K y.1, V y.2])) (setBlock w1 r (.mapIter (some b) since (ss.push e.born) clk)) := by
      simp only [execOp, ho, s.kn.eval hx]
      simp [hrun, hkv.1, hkv.2]
    have hwh : w1.heap = g.w.heap ∧ w1.os = g.w.os ∧ w1.tape = g.w.tape ∧ w1.output = g.w.output := by rcases hw1 with rfl | rfl <;> exact ⟨rfl, rfl, rfl, rfl⟩
    have hr1 : w1.heap[r]? = some (.mapIter (some b) since ss c0) := by rw [hwh.1]; exact hr
    have hset : (setBlock w1 r (.mapIter (some b) since (ss.push e.born) clk)).heap[r]? = some (.mapIter (some b) since (ss.push e.born) clk) ∧ ∀ r', r' ≠ r → (setBlock w1 r (.mapIter (some b) since (ss.push e.born) clk)).heap[r']? = w1.heap[r']? := Go.MapKept.heap_set (o' := .mapIter (some b) since (ss.push e.born) clk) hr1
    obtain ⟨g', hw, s'⟩ := s.turn hp (r' := Res.it K V b r m (js ++ [j])) (w' := setBlock w1 r (.mapIter (some b) since (ss.push e.born) clk))
      (fun b' hb' hx' => by
        have hne : b' ≠ r := fun e => hx' (by rw [e]; exact .tail _ (.head _))
        rw [hset.2 b' hne, hwh.1])
      (by rw [← hwh.2.1]; rfl) (by rw [← hwh.2.2.1]; rfl) (by rw [← hwh.2.2.2]; rfl) (by rw [← hwh.1]; simp [setBlock])
      (by
        refine ⟨?_, ?_, es, clk, since, ss.push e.born, clk, ?_, he, hbn, hbc, hset.1, hbs, hsk, hsk, fun _ => rfl, ?_⟩
        · exact List.nodup_append.2 ⟨hnd, by simp, fun x hx y hy => by simp at hy; subst hy; exact fun e => hjn (e ▸ hx)⟩
        · intro i hi
          rcases List.mem_append.1 hi with h | h
          · exact hjl i h
          · simp at h; omega
        · rw [hset.2 b hbr, hwh.1]; exact hb
        · simp only [Array.toList_push, List.map_append, hss, List.map_cons, List.map_nil, hj, Option.map_some])
      (by
        have h2 := (s.own.perm hp.perm).nodup
        exact (List.nodup_append.1 h2).1)
      (fun b' hb' => by
        have hlt := (s.own.perm hp.perm).lt b' (by simp only [blks_cons]; exact List.mem_append_left _ hb')
        rw [show (setBlock w1 r (.mapIter (some b) since (ss.push e.born) clk)).heap.size = g.w.heap.size by rw [← hwh.1]; simp [setBlock]]
        exact hlt)
      (fun b' hb' => .inl hb')
    simp only [wn, hr', hd]
    rw [← hw]
    exact hstep j y hjn hy _ _ (s'.put hn _)
theorem Y_entry {b r j : Nat} {x : Operand} {m : List (α × β)} {js : List Nat} {y : α × β} {own'} (ho : o.op = .entry x) (hx : evo L x = some (.pointer (some ⟨r, 0, none⟩))) (hp : Pick own (Res.it K V b r m (js ++ [j])) own') (hy : m[j]? = some y) :
    Yld X o L fs own (.tuple #[K y.1, V y.2]) := by
  intro g a s
  obtain ⟨hnd, hjl, es, clk, since, ss, c0, hb, he, hbn, hbc, hr, hbs, hsc, hsk, hcl, hss⟩ := s.own.p _ (hp.perm.symm.subset (.head _))
  have hlen : es.toList.length = m.length := by
    have := congrArg List.length he
    simpa [ents, enc2] using this
  have hjlt := hjl j (by simp)
  obtain ⟨e, hj⟩ : ∃ e, es.toList[j]? = some e := ⟨_, List.getElem?_eq_getElem (by omega)⟩
  have hkv : e.key = K y.1 ∧ e.val = V y.2 := by
    have := congrArg (fun q => q[j]?) he
    simp only [ents, enc2, List.getElem?_map, hj, hy, Option.map_some, Option.some.injEq, Prod.mk.injEq] at this
    exact this
  have hback : ∃ s0 : Array Nat, ss = s0.push e.born := by
    simp only [List.map_append, List.map_cons, List.map_nil, hj, Option.map_some] at hss
    have hne : ss.toList ≠ [] := fun h => by rw [h] at hss; simp at hss
    refine ⟨ss.toList.dropLast.toArray, Array.ext' ?_⟩
    simp only [Array.toList_push]
    have h1 := List.dropLast_concat_getLast hne
    have h2 : some (ss.toList.getLast hne) = some e.born := by
      have := congrArg List.getLast? hss
      rw [List.getLast?_map, List.getLast?_eq_some_getLast hne] at this
      simpa using this
    have h3 := Option.some.inj h2
    rw [← h3]
    exact h1.symm
  obtain ⟨s0, rfl⟩ := hback
  have hcl' : c0 = clk := hcl (by simp)
  subst hcl'
  have hrun := run_entry_at (P := X.P) g.w r b since s0 es c0 e hr hb (List.mem_of_getElem? hj) hbn
  simp only [execOp, ho, s.kn.eval hx]
  simp [hrun, hkv.1, hkv.2]
end
end Go.KX
namespace Go.KX
end Go.KX
namespace Go.KX
theorem Spx.sub {P : Program} {f args fs fs0 own} {R : Value → List MF → List Res → Prop} (h : Spx P f args fs own R) (hF : Subs fs0 fs) : Spx P f args fs0 own R := ⟨h.1, fun g ha ho => h.2 g (hF.all ha) ho⟩
theorem Spx.absurd {P : Program} {f args fs own} {R : Value → List MF → List Res → Prop} (hc : Callable P f) (hF : ∀ g, All fs g → False) : Spx P f args fs own R := ⟨hc, fun g ha _ => (hF g ha).elim⟩
end Go.KX
namespace Go.KX
/-- A slice as an element: where it lies, its capacity, its elements. -/
abbrev SlE (α : Type) := Option Addr × Nat × List α
def elSl (α : Type) : El (SlE α) := ⟨1, fun x => [.slice x.1 x.2.2.length x.2.1], fun _ => rfl, by decide, fun _ u h => by simp at h; subst h; rfl⟩
/-- Each of these is a frozen slice. -/
def AllSl {α : Type} (E : El α) (xs : List (SlE α)) : MF where
  p g := ∀ x ∈ xs, (SlM E x.1 x.2.1 x.2.2).p g
  mono e h x hx := (SlM E x.1 x.2.1 x.2.2).mono e (h x hx)
theorem AllSl.nil {α : Type} (E : El α) (g : GW) : (AllSl E []).p g := fun x hx => by cases hx
end Go.KX
namespace Go.KX
section
variable {X : Cx} {k : List It} {L : LL} {fs : List MF} {own : List Res} {arr : Array Oper} {l : List Oper} {o : Oper}
theorem rn (m : Nat) {l' : List Oper} {L' : LL} (h : S X arr l' k L' fs own) (hr : runN X.n arr m l L = some (l', L') := by rfl) : S X arr l k L fs own := S_run m hr h
end
end Go.KX
namespace Go.KX
/-- Where a local thing lies. -/
structure Lc where
  b : Nat
  ad : Option Addr
  c : Nat
inductive SV where
  | v (x : Value)
  | str (s : Bytes)
  | s (sz : Nat) (rows : List (List SV))
  | p (cs : List SV)
  | l (i off : Nat)
  | a (cs : List SV)
  | f (fn : FuncId) (fi ca : List SV)
  | t (vs : List SV)
  | g (b : Bool) (x : SV)
  | o (i n : Nat)
  | e (i off : Nat)
  | fm (es : List (Bytes × SV))
  | mp (i : Nat)
  | ni
abbrev SL := List (Nat × SV)
/-- A symbolic value stands for a value. -/
inductive Den (g : GW) : (Nat → Lc) → SV → Value → Prop
  | v {ρ x} : Den g ρ (.v x) x
  | str {ρ s} : Den g ρ (.str s) (str s)
  | s {ρ sz rows ad c} (xs : List Value) (h1 : rows.length ≤ maxLen) (h2 : rows.length ≤ c) (hl : xs.length = rows.length * sz) (hr : ∀ r ∈ rows, r.length = sz)
      (ho : (∀ u ∈ xs, u.oneCell' = true) ∧ (sz = 0 → ad = none ∧ c = 0))
      (hne : rows ≠ [] → ∃ b o, ad = some ⟨b, o, none⟩ ∧ g.fz b ∧ ∀ (k : Nat) x, xs[k]? = some x → g.w.cell? ⟨b, o + k, none⟩ = some x)
      (hd : ∀ (ρ' : Nat → Lc) (i j : Nat) r sv x, rows[i]? = some r → r[j]? = some sv → xs[i * sz + j]? = some x → Den g ρ' sv x) : Den g ρ (.s sz rows) (.slice ad rows.length c)
  | p {ρ cs b o} (xs : List Value) (hl : xs.length = cs.length) (hf : g.fz b) (hc : ∀ (k : Nat) x, xs[k]? = some x → g.w.cell? ⟨b, o + k, none⟩ = some x)
      (hd : ∀ (ρ' : Nat → Lc) (j : Nat) sv x, cs[j]? = some sv → xs[j]? = some x → Den g ρ' sv x) : Den g ρ (.p cs) (.pointer (some ⟨b, o, none⟩))
  | l {ρ i off} : Den g ρ (.l i off) (.pointer (some ⟨(ρ i).b, off, none⟩))
  | a {ρ cs} (xs : List Value) (hl : xs.length = cs.length) (hd : ∀ (j : Nat) sv x, cs[j]? = some sv → xs[j]? = some x → Den g ρ sv x) : Den g ρ (.a cs) (.agg xs.toArray)
  | f {ρ fn fi ca} (xs ys : List Value) (hl : xs.length = fi.length) (hd : ∀ (j : Nat) sv x, fi[j]? = some sv → xs[j]? = some x → Den g ρ sv x)
      (hl2 : ys.length = ca.length) (hd2 : ∀ (j : Nat) sv x, ca[j]? = some sv → ys[j]? = some x → Den g ρ sv x) : Den g ρ (.f fn fi ca) (.func (.func fn) xs.toArray ys.toArray)
  | t {ρ vs} (xs : List Value) (hl : xs.length = vs.length) (hd : ∀ (j : Nat) sv x, vs[j]? = some sv → xs[j]? = some x → Den g ρ sv x) : Den g ρ (.t vs) (.tuple xs.toArray)
  | gt {ρ x y} (h : Den g ρ x y) : Den g ρ (.g true x) y
  | gf {ρ x} : Den g ρ (.g false x) undef
  | o {ρ i n} : Den g ρ (.o i n) (.slice (ρ i).ad n (ρ i).c)
  | e {ρ i off b o0} (h : (ρ i).ad = some ⟨b, o0, none⟩) : Den g ρ (.e i off) (.pointer (some ⟨b, o0 + off, none⟩))
  | fm {ρ es b} (raw : List (Bytes × Value)) (ms : Array MapEntry) (clk : Nat) (hf : g.fz b) (hh : g.w.heap[b]? = some (.map ms clk)) (he : ents ms.toList = enc2 str (fun v : Value => v) raw) (hk : raw.map (·.1) = es.map (·.1))
      (hd : ∀ (ρ' : Nat → Lc) (j : Nat) k sv x, es[j]? = some (k, sv) → raw[j]? = some (k, x) → Den g ρ' sv x) : Den g ρ (.fm es) (.map (some b))
  | mp {ρ i} : Den g ρ (.mp i) (.map (some (ρ i).b))
  | ni {ρ T v} : Den g ρ .ni (.iface T v)
theorem Den.mono {g g' : GW} (e : FExt g g') {ρ sv x} (h : Den g ρ sv x) : Den g' ρ sv x := by
  induction h with
  | v => exact .v
  | str => exact .str
  | s xs h1 h2 hl hr ho hne _ ih =>
    refine .s xs h1 h2 hl hr ho (fun hn => ?_) ih
    obtain ⟨b, o, h3, h4, h5⟩ := hne hn
    exact ⟨b, o, h3, e.fz b h4, fun k x hx => by rw [cell_same (e.same b h4)]; exact h5 k x hx⟩
  | p xs hl hf hc _ ih => exact .p xs hl (e.fz _ hf) (fun k x hx => by rw [cell_same (e.same _ hf)]; exact hc k x hx) ih
  | l => exact .l
  | a xs hl _ ih => exact .a xs hl ih
  | f xs ys hl _ hl2 _ ih ih2 => exact .f xs ys hl ih hl2 ih2
  | t xs hl _ ih => exact .t xs hl ih
  | gt _ ih => exact .gt ih
  | gf => exact .gf
  | o => exact .o
  | e h => exact .e h
  | fm raw ms clk hf hh he hk _ ih => exact .fm raw ms clk (e.fz _ hf) (by rw [e.same _ hf]; exact hh) he hk ih
  | mp => exact .mp
  | ni => exact .ni
/-- Likewise, of lists. -/
def DenL (g : GW) (ρ : Nat → Lc) (svs : List SV) (xs : List Value) : Prop := xs.length = svs.length ∧ ∀ (j : Nat) sv x, svs[j]? = some sv → xs[j]? = some x → Den g ρ sv x
theorem DenL.mono {g g' : GW} (e : FExt g g') {ρ svs xs} (h : DenL g ρ svs xs) : DenL g' ρ svs xs := ⟨h.1, fun j sv x h1 h2 => (h.2 j sv x h1 h2).mono e⟩
theorem DenL.nil {g ρ} : DenL g ρ [] [] := ⟨rfl, fun j sv x h => by simp at h⟩
theorem DenL.cons {g ρ sv x svs xs} (h : Den g ρ sv x) (t : DenL g ρ svs xs) : DenL g ρ (sv :: svs) (x :: xs) :=
  ⟨by simp [t.1], fun j s y h1 h2 => by
    cases j with
    | zero => simp at h1 h2; exact h1 ▸ h2 ▸ h
    | succ j => exact t.2 j s y (by simpa using h1) (by simpa using h2)⟩
theorem DenL.uncons {g ρ sv svs xs} (h : DenL g ρ (sv :: svs) xs) : ∃ x r, xs = x :: r ∧ Den g ρ sv x ∧ DenL g ρ svs r := by
  cases xs with
  | nil => simp [DenL] at h
  | cons x r => exact ⟨x, r, rfl, h.2 0 sv x rfl rfl, by simpa using h.1, fun j s y h1 h2 => h.2 (j + 1) s y (by simpa using h1) (by simpa using h2)⟩
theorem DenL.unnil {g ρ xs} (h : DenL g ρ [] xs) : xs = [] := List.eq_nil_of_length_eq_zero (by simpa using h.1)
theorem DenL.get {g ρ svs xs} (h : DenL g ρ svs xs) {j : Nat} {sv} (hj : svs[j]? = some sv) : ∃ x, xs[j]? = some x ∧ Den g ρ sv x := by
  have hlt : j < xs.length := by
    rcases Nat.lt_or_ge j svs.length with h' | h'
    · rw [h.1]; exact h'
    · rw [List.getElem?_eq_none h'] at hj; cases hj
  exact ⟨xs[j], List.getElem?_eq_getElem hlt, h.2 j sv _ hj (List.getElem?_eq_getElem hlt)⟩
theorem DenL.drop {g ρ svs xs} (h : DenL g ρ svs xs) (n : Nat) : DenL g ρ (svs.drop n) (xs.drop n) :=
  ⟨by simp [h.1], fun j sv x h1 h2 => h.2 (n + j) sv x (by simpa using h1) (by simpa using h2)⟩
theorem DenL.take {g ρ svs xs} (h : DenL g ρ svs xs) (n : Nat) : DenL g ρ (svs.take n) (xs.take n) :=
  ⟨by simp [h.1], fun j sv x h1 h2 => by
    rw [List.getElem?_take] at h1 h2
    split at h1
    · rename_i hj; rw [if_pos hj] at h2; exact h.2 j sv x h1 h2
    · cases h1⟩
theorem DenL.append {g ρ svs xs sws ys} (h : DenL g ρ svs xs) (h' : DenL g ρ sws ys) : DenL g ρ (svs ++ sws) (xs ++ ys) :=
  ⟨by simp [h.1, h'.1], fun j sv x h1 h2 => by
    rw [List.getElem?_append] at h1 h2
    rw [h.1] at h2
    split at h1
    · rename_i hj; rw [if_pos hj] at h2; exact h.2 j sv x h1 h2
    · rename_i hj; rw [if_neg hj] at h2; exact h'.2 _ sv x h1 h2⟩
/-- Nothing local in it. -/
def Clo (sv : SV) : Prop := ∀ g ρ ρ' x, Den g ρ sv x → Den g ρ' sv x
mutual
/-- Is the local thing i met in it? -/
def occ (i : Nat) : SV → Bool
  | .l j _ => Nat.beq i j
  | .o j _ => Nat.beq i j
  | .e j _ => Nat.beq i j
  | .mp j => Nat.beq i j
  | .fm _ => false
  | .ni => false
  | .a cs => occL i cs
  | .f _ x y => occL i x || occL i y
  | .t vs => occL i vs
  | .g _ x => occ i x
  | .v _ => false
  | .str _ => false
  | .s _ _ => false
  | .p _ => false
def occL (i : Nat) : List SV → Bool
  | [] => false
  | x :: r => occ i x || occL i r
end
mutual
def clo : SV → Bool
  | .l _ _ => false
  | .o _ _ => false
  | .e _ _ => false
  | .mp _ => false
  | .fm _ => true
  | .ni => true
  | .a cs => cloL cs
  | .f _ x y => cloL x && cloL y
  | .t vs => cloL vs
  | .g _ x => clo x
  | .v _ => true
  | .str _ => true
  | .s _ _ => true
  | .p _ => true
def cloL : List SV → Bool
  | [] => true
  | x :: r => clo x && cloL r
end
theorem cloL_get : ∀ {l : List SV}, cloL l = true → ∀ (j : Nat) sv, l[j]? = some sv → clo sv = true
  | [], _, j, sv, h => by simp at h
  | x :: r, hc, j, sv, h => by
    simp only [cloL, Bool.and_eq_true] at hc
    cases j with
    | zero => simp at h; exact h ▸ hc.1
    | succ j => exact cloL_get hc.2 j sv (by simpa using h)
theorem occL_get {i : Nat} : ∀ {l : List SV}, occL i l = false → ∀ (j : Nat) sv, l[j]? = some sv → occ i sv = false
  | [], _, j, sv, h => by simp at h
  | x :: r, hc, j, sv, h => by
    simp only [occL, Bool.or_eq_false_iff] at hc
    cases j with
    | zero => simp at h; exact h ▸ hc.1
    | succ j => exact occL_get hc.2 j sv (by simpa using h)
theorem Den.swap {g : GW} {ρ sv x} (h : Den g ρ sv x) : clo sv = true → ∀ ρ', Den g ρ' sv x := by
  induction h with
  | v => exact fun _ _ => .v
  | str => exact fun _ _ => .str
  | s xs h1 h2 hl hr ho hne hd _ => exact fun _ _ => .s xs h1 h2 hl hr ho hne hd
  | p xs hl hf hc hd _ => exact fun _ _ => .p xs hl hf hc hd
  | l => intro h; cases h
  | a xs hl _ ih => exact fun hc ρ' => .a xs hl (fun j sv x h1 h2 => ih j sv x h1 h2 (cloL_get hc j sv h1) ρ')
  | f xs ys hl _ hl2 _ ih ih2 =>
    intro hc ρ'
    simp only [clo, Bool.and_eq_true] at hc
    exact .f xs ys hl (fun j sv x h1 h2 => ih j sv x h1 h2 (cloL_get hc.1 j sv h1) ρ') hl2 (fun j sv x h1 h2 => ih2 j sv x h1 h2 (cloL_get hc.2 j sv h1) ρ')
  | t xs hl _ ih => exact fun hc ρ' => .t xs hl (fun j sv x h1 h2 => ih j sv x h1 h2 (cloL_get hc j sv h1) ρ')
  | gt _ ih => exact fun hc ρ' => .gt (ih hc ρ')
  | gf => exact fun _ _ => .gf
  | o => intro h; cases h
  | e h => intro h; cases h
  | fm raw ms clk hf hh he hk hd _ => exact fun _ _ => .fm raw ms clk hf hh he hk hd
  | mp => intro h; cases h
  | ni => exact fun _ _ => .ni
theorem Clo.of {sv : SV} (h : clo sv = true) : Clo sv := fun _ _ ρ' _ hd => hd.swap h ρ'
theorem Den.upd {g : GW} {ρ sv x} (h : Den g ρ sv x) {i : Nat} {y : Lc} : occ i sv = false → Den g (fun j => if j = i then y else ρ j) sv x := by
  have key : ∀ {i j : Nat}, Nat.beq i j = false → j ≠ i := by intro i j h e; subst e; rw [Nat.beq_refl] at h; cases h
  induction h with
  | v => exact fun _ => .v
  | str => exact fun _ => .str
  | s xs h1 h2 hl hr ho hne hd _ => exact fun _ => .s xs h1 h2 hl hr ho hne hd
  | p xs hl hf hc hd _ => exact fun _ => .p xs hl hf hc hd
  | @l ρ j off =>
    intro h
    have := key h
    have e : (ρ j).b = ((fun k => if k = i then y else ρ k) j).b := by simp [this]
    rw [e]; exact .l
  | a xs hl _ ih => exact fun hc => .a xs hl (fun j sv x h1 h2 => ih j sv x h1 h2 (occL_get hc j sv h1))
  | f xs ys hl _ hl2 _ ih ih2 =>
    intro hc
    simp only [occ, Bool.or_eq_false_iff] at hc
    exact .f xs ys hl (fun j sv x h1 h2 => ih j sv x h1 h2 (occL_get hc.1 j sv h1)) hl2 (fun j sv x h1 h2 => ih2 j sv x h1 h2 (occL_get hc.2 j sv h1))
  | t xs hl _ ih => exact fun hc => .t xs hl (fun j sv x h1 h2 => ih j sv x h1 h2 (occL_get hc j sv h1))
  | gt _ ih => exact fun hc => .gt (ih hc)
  | gf => exact fun _ => .gf
  | @o ρ j n =>
    intro h
    have := key h
    have e : ρ j = (fun k => if k = i then y else ρ k) j := by simp [this]
    rw [e]; exact .o
  | @e ρ j off b o0 h' => exact fun h => .e (by simp [key h, h'])
  | fm raw ms clk hf hh he hk hd _ => exact fun _ => .fm raw ms clk hf hh he hk hd
  | ni => exact fun _ => .ni
  | @mp ρ j =>
    intro h
    have := key h
    have e : (ρ j).b = ((fun k => if k = i then y else ρ k) j).b := by simp [this]
    rw [e]; exact .mp
abbrev Row (sz : Nat) : Type := { r : List Value // r.length = sz ∧ ∀ u ∈ r, u.oneCell' = true }
def elRow (sz : Nat) (h : 0 < sz) : El (Row sz) := ⟨sz, fun r => r.1, fun r => r.2.1, h, fun r => r.2.2⟩
/-- Rows in an array of its own, that need not begin where the array does. -/
def Res.que {α : Type} (E : El α) (T : TypeId) (a : Option Addr) (c : Nat) (ys : List α) : Res where
  bs := vbs a
  p w := (a = none ∧ c = 0 ∧ ys = []) ∨ ∃ gg off cur, a = some ⟨gg, off, none⟩ ∧ w.heap[gg]? = some (.cells cur T (0, 0)) ∧ ys.length ≤ c ∧ c ≤ maxLen ∧ off + c * E.sz ≤ cur.size ∧ (cur.toList.drop off).take (ys.length * E.sz) = flat E ys
  loc := by
    intro w w' h hp
    rcases hp with hp | ⟨gg, off, cur, e, hh, r⟩
    · exact .inl hp
    · subst e
      exact .inr ⟨gg, off, cur, rfl, by rw [h gg (by simp [vbs])]; exact hh, r⟩
inductive MB where
  | c (T : Nat) (cs : List SV)
  | r (T sz : Nat) (rows : List (List SV))
  | m (es : List (Bytes × SV))
  | it (i : Nat) (es : List (Bytes × SV)) (js : List Nat)
  | q (T sz : Nat) (rows : List (List SV))
abbrev SM := List (Nat × MB)
inductive DenB (g : GW) (ρ : Nat → Lc) : Nat → MB → Res → Prop
  | c {i T cs} (xs : List Value) (h : DenL g ρ cs xs) (h1 : ∀ u ∈ xs, u.oneCell' = true) : DenB g ρ i (.c T cs) (Res.blk (ρ i).b (.cells xs.toArray T (0, 0)))
  | r {i T sz rows} (hz : 0 < sz) (xs : List (Row sz)) (hl : xs.length = rows.length) (h : ∀ (ρ' : Nat → Lc) (k : Nat) x r, xs[k]? = some x → rows[k]? = some r → DenL g ρ' r x.1) : DenB g ρ i (.r T sz rows) (Res.arr (elRow sz hz) T (ρ i).ad (ρ i).c xs)
  | m {i es} (raw : List (Bytes × Value)) (hk : raw.map (·.1) = es.map (·.1)) (hd : ∀ (ρ' : Nat → Lc) (j : Nat) k sv x, es[j]? = some (k, sv) → raw[j]? = some (k, x) → Den g ρ' sv x) : DenB g ρ i (.m es) (Res.mp str (fun v : Value => v) (ρ i).b raw)
  | it {j i es js} (raw : List (Bytes × Value)) (hk : raw.map (·.1) = es.map (·.1)) (hd : ∀ (ρ' : Nat → Lc) (j : Nat) k sv x, es[j]? = some (k, sv) → raw[j]? = some (k, x) → Den g ρ' sv x) : DenB g ρ j (.it i es js) (Res.it str (fun v : Value => v) (ρ i).b (ρ j).b raw js)
  | q {i T sz rows} (hz : 0 < sz) (xs : List (Row sz)) (hl : xs.length = rows.length) (h : ∀ (ρ' : Nat → Lc) (k : Nat) x r, xs[k]? = some x → rows[k]? = some r → DenL g ρ' r x.1) : DenB g ρ i (.q T sz rows) (Res.que (elRow sz hz) T (ρ i).ad (ρ i).c xs)
inductive DenM (g : GW) (ρ : Nat → Lc) : SM → List Res → Prop
  | nil : DenM g ρ [] []
  | cons {i mb M r ms} (h : DenB g ρ i mb r) (t : DenM g ρ M ms) : DenM g ρ ((i, mb) :: M) (r :: ms)
theorem DenB.mono {g g' : GW} (e : FExt g g') {ρ i mb r} (h : DenB g ρ i mb r) : DenB g' ρ i mb r := by
  cases h with
  | c xs h h1 => exact .c xs (h.mono e) h1
  | r hz xs hl h => exact .r hz xs hl (fun ρ' k x r h1 h2 => (h ρ' k x r h1 h2).mono e)
  | m raw hk hd => exact .m raw hk (fun ρ' j k sv x h1 h2 => (hd ρ' j k sv x h1 h2).mono e)
  | q hz xs hl h => exact .q hz xs hl (fun ρ' k x r h1 h2 => (h ρ' k x r h1 h2).mono e)
  | it raw hk hd => exact .it raw hk (fun ρ' j k sv x h1 h2 => (hd ρ' j k sv x h1 h2).mono e)
theorem DenM.mono {g g' : GW} (e : FExt g g') {ρ M ms} (h : DenM g ρ M ms) : DenM g' ρ M ms := by
  induction h with
  | nil => exact .nil
  | cons h _ ih => exact .cons (h.mono e) ih
def occM (i : Nat) : SM → Bool
  | [] => false
  | (j, .c _ cs) :: r => Nat.beq i j || occL i cs || occM i r
  | (j, .r _ _ _) :: r => Nat.beq i j || occM i r
  | (j, .m _) :: r => Nat.beq i j || occM i r
  | (j, .q _ _ _) :: r => Nat.beq i j || occM i r
  | (j, .it k _ _) :: r => Nat.beq i j || Nat.beq i k || occM i r
def occSL (i : Nat) : SL → Bool
  | [] => false
  | (_, sv) :: r => occ i sv || occSL i r
/-- A number that is no local thing's. -/
def fresh : SM → Nat
  | [] => 0
  | (j, _) :: r => max (j + 1) (fresh r)
def lkS : SL → Nat → Option SV
  | [], _ => none
  | (j, v) :: r, i => match Nat.beq i j with | true => some v | false => lkS r i
theorem lkS_same (L : SL) (i : Nat) (v : SV) : lkS ((i, v) :: L) i = some v := by simp [lkS]
theorem lkS_ne (L : SL) {i j : Nat} (v : SV) (h : i ≠ j) : lkS ((j, v) :: L) i = lkS L i := by
  have : Nat.beq i j = false := by cases hb : Nat.beq i j with | false => rfl | true => exact absurd (Nat.eq_of_beq_eq_true hb) h
  simp [lkS, this]
end Go.KX
namespace Go.KX
def inj1 : Value → SV
  | .slice none 0 0 => .s 0 []
  | .string b => .str b.data.toList
  | x => .v x
def inj : Value → SV
  | .agg cs => .a (cs.toList.map inj1)
  | x => inj1 x
theorem den_inj1 (g : GW) (ρ : Nat → Lc) (x : Value) : Den g ρ (inj1 x) x := by
  unfold inj1
  split
  · exact .s [] (by decide) (Nat.le_refl _) rfl (fun r hr => by cases hr) ⟨fun u hu => (by cases hu), fun _ => ⟨rfl, rfl⟩⟩ (fun h => absurd rfl h) (fun ρ' i j r sv x h => by simp at h)
  · rename_i b
    have : Den g ρ (.str b.data.toList) (str b.data.toList) := .str
    have e : str b.data.toList = .string b := by unfold str; rw [Go.Lib.mk_data]
    rwa [e] at this
  · exact .v
theorem den_inj (g : GW) (ρ : Nat → Lc) (x : Value) : Den g ρ (inj x) x := by
  unfold inj
  split
  · rename_i cs
    have : Den g ρ (.a (cs.toList.map inj1)) (.agg cs.toList.toArray) := .a _ (by simp) (fun j sv x h1 h2 => by
      simp only [List.getElem?_map, h2, Option.map_some, Option.some.injEq] at h1
      exact h1 ▸ den_inj1 g ρ x)
    simpa using this
  · exact den_inj1 g ρ _
def evS (e : Nat → Option SV) : Operand → Option SV
  | .tmp t => e t
  | .const (.int k n) => some (.v (.int k n))
  | .const (.bool b) => some (.v (.bool b))
  | .const v => some (inj v)
  | .global g => some (.v (.pointer (some ⟨g, 0, none⟩)))
  | .func f => some (.f f [] [])
def evs (e : Nat → Option SV) : List Operand → Option (List SV)
  | [] => some []
  | x :: r => match evS e x with
    | some v => match evs e r with
      | some vs => some (v :: vs)
      | none => none
    | none => none
inductive KD where
  | int (k : IntKind) | bool | str | sl (e : Nat) | arr (n e : Nat) | st (lay : List (Nat × Nat × Bool)) | mp (k e : Nat) | ptr (e : Nat) | oth
structure TD where
  sz : Nat
  by_ : Nat
  z : Value
  kd : KD
def KDok (P : Program) (T : Nat) (z : Value) : KD → Prop
  | .int k => P.underlying T = some (.int k)
  | .bool => P.underlying T = some .bool
  | .str => P.underlying T = some .string
  | .sl e => P.underlying T = some (.slice e)
  | .arr n e => P.underlying T = some (.array n e)
  | .st lay => LY P T lay ∧ ∃ zs, z = .agg zs.toArray ∧ BT P T (lay.map fun p => (p.1, p.2.1)) zs
  | .mp k e => P.underlying T = some (.map k e)
  | .ptr e => P.underlying T = some (.pointer e)
  | .oth => ∃ d, P.underlying T = some d ∧ aggD d = false
structure TDok (P : Program) (T : Nat) (d : TD) : Prop where
  ti : TI P T d.sz d.by_ d.z
  kd : KDok P T d.z d.kd
theorem TDst {P : Program} {T sz by_ : Nat} {zs : List Value} {fields : List Field} {lay : List (Nat × Nat × Bool)} (ti : TI P T sz by_ (.agg zs.toArray)) (u : P.underlying T = some (.struct fields.toArray)) (h : lyB P fields = some lay) : TDok P T ⟨sz, by_, .agg zs.toArray, .st lay⟩ :=
  ⟨ti, LY_of u h, zs, rfl, BT_of u h ti⟩
inductive TT where
  | nil
  | node (l : TT) (k : Nat) (d : TD) (r : TT)
def TT.get : TT → Nat → Option TD
  | .nil, _ => none
  | .node l k d r, t => match Nat.beq t k with
    | true => some d
    | false => match Nat.blt t k with
      | true => l.get t
      | false => r.get t
def TT.Ok (P : Program) : TT → Prop
  | .nil => True
  | .node l k d r => l.Ok P ∧ TDok P k d ∧ r.Ok P
theorem TT.get_ok {P : Program} : ∀ {tb : TT}, tb.Ok P → ∀ {t d}, tb.get t = some d → TDok P t d
  | .nil, _, t, d, h => by cases h
  | .node l k d' r, ⟨h1, h2, h3⟩, t, d, h => by
    unfold TT.get at h
    split at h
    · rename_i hb
      have := Nat.eq_of_beq_eq_true hb
      subst this; cases h; exact h2
    · split at h
      · exact TT.get_ok h1 h
      · exact TT.get_ok h3 h
def KD.ag : KD → Bool
  | .st _ => true
  | .arr _ _ => true
  | _ => false
theorem KDok.und {P : Program} {T z kd} (h : KDok P T z kd) : ∃ d, P.underlying T = some d ∧ aggD d = kd.ag := by
  cases kd with
  | st lay => obtain ⟨⟨fields, u, _⟩, _⟩ := h; exact ⟨_, u, rfl⟩
  | oth => exact h
  | int k => exact ⟨_, h, rfl⟩
  | bool => exact ⟨_, h, rfl⟩
  | str => exact ⟨_, h, rfl⟩
  | sl e => exact ⟨_, h, rfl⟩
  | arr n e => exact ⟨_, h, rfl⟩
  | mp k e => exact ⟨_, h, rfl⟩
  | ptr e => exact ⟨_, h, rfl⟩
structure Kx extends Cx where
  ρ0 : Nat → Lc
/-- What the slots hold; what was handed in lies where it lay. -/
structure Sl (X : Kx) (ρ : Nat → Lc) (L : SL) (a : Act) (g : GW) : Prop where
  pin : ∀ i, 1000 ≤ i → ρ i = X.ρ0 i
  val : ∀ t sv, lkS L t = some sv → ∃ x, a.tmps[t]? = some x ∧ Den g ρ sv x
structure ESt (X : Kx) (L : SL) (M : SM) (fs : List MF) (own : List Res) (g : GW) (a : Act) : Prop where
  ex : ∃ ρ ms, St X.toCx [] fs (ms ++ own) g a ∧ DenM g ρ M ms ∧ Sl X ρ L a g
/-- A slot's place in the list has no part. -/
theorem ESt.sub {X : Kx} {L L' M fs own g a} (h : ESt X L M fs own g a) (hs : ∀ t sv, lkS L' t = some sv → lkS L t = some sv) : ESt X L' M fs own g a := by
  obtain ⟨ρ, ms, h1, h2, h3⟩ := h
  exact ⟨ρ, ms, h1, h2, h3.pin, fun t sv ht => h3.val t sv (hs t sv ht)⟩
theorem eval_den {a : Act} {g : GW} {ρ : Nat → Lc} {e : Nat → Option SV} (he : ∀ t sv, e t = some sv → ∃ x, a.tmps[t]? = some x ∧ Den g ρ sv x) {o : Operand} {sv : SV} (h : evS e o = some sv) : Den g ρ sv (a.eval o) := by
  cases o with
  | tmp t =>
    obtain ⟨x, hx, hd⟩ := he t sv h
    have : a.eval (.tmp t) = x := by show a.tmps.getD t undef = x; simp [Array.getD_eq_getD_getElem?, hx]
    rw [this]; exact hd
  | const v => cases v <;> cases h <;> first | exact .v | exact den_inj g ρ _
  | global i => cases h; exact .v
  | func f => cases h; exact .f [] [] rfl (fun j sv x h => by simp at h) rfl (fun j sv x h => by simp at h)
theorem evals_den {a : Act} {g : GW} {ρ : Nat → Lc} {e : Nat → Option SV} (he : ∀ t sv, e t = some sv → ∃ x, a.tmps[t]? = some x ∧ Den g ρ sv x) : ∀ {os : List Operand} {svs : List SV}, evs e os = some svs → DenL g ρ svs (os.map a.eval)
  | [], svs, h => by cases h; exact DenL.nil
  | x :: r, svs, h => by
    unfold evs at h
    split at h
    · split at h
      · cases h; exact DenL.cons (eval_den he ‹_›) (evals_den he ‹_›)
      · cases h
    · cases h
end Go.KX
namespace Go.KX
abbrev i64ok (x : Int) : Prop := -9223372036854775808 ≤ x ∧ x ≤ 9223372036854775807
/-- A number's result: exact where the kind is int. -/
def numR (k : IntKind) (x : Int) : SV × List Prop := match k with
  | .i64 => (.v (.int .i64 x), [i64ok x])
  | k => (.v (.int k (k.wrap x)), [])
def lkM : SM → Nat → Option MB
  | [], _ => none
  | (j, m) :: r, i => match Nat.beq i j with | true => some m | false => lkM r i
/-- The cells from a pointer on. -/
def cellsAt (M : SM) : SV → Option (List SV)
  | .l i off => match lkM M i with
    | some (.c _ cs) => some (cs.drop off)
    | _ => none
  | .p cs => some cs
  | _ => none
def xbin (op : BinOp) (k : KD) : SV → SV → Option (SV × List Prop)
  | .v (.int k1 x), .v (.int k2 y) => match op with
    | .lss => match decide (k1 = k2) with | true => some (.v (.bool (decide (x < y))), []) | false => none
    | .leq => match decide (k1 = k2) with | true => some (.v (.bool (decide (x ≤ y))), []) | false => none
    | .gtr => match decide (k1 = k2) with | true => some (.v (.bool (decide (y < x))), []) | false => none
    | .geq => match decide (k1 = k2) with | true => some (.v (.bool (decide (y ≤ x))), []) | false => none
    | .eql => match decide (k1 = k2) with | true => some (.v (.bool (decide (x = y))), []) | false => none
    | .neq => match decide (k1 = k2) with | true => some (.v (.bool (decide (¬ x = y))), []) | false => none
    | .add => match decide (k1 = k2) with | true => some (numR k1 (x + y)) | false => none
    | .sub => match decide (k1 = k2) with | true => some (numR k1 (x - y)) | false => none
    | .mul => match decide (k1 = k2) with | true => some (numR k1 (x * y)) | false => none
    | .quo => match decide (k1 = k2) with | true => some (.v (.int k1 (k1.wrap (x.tdiv y))), [y ≠ 0]) | false => none
    | .rem => match decide (k1 = k2) with | true => some (.v (.int k1 (x.tmod y)), [y ≠ 0]) | false => none
    | .and => match decide (k1 = k2) with | true => some (.v (.int k1 (bits .and k1 x y)), []) | false => none
    | .or => match decide (k1 = k2) with | true => some (.v (.int k1 (bits .or k1 x y)), []) | false => none
    | .shl => match decide (k1 = .u64) with | true => some (.v (.int .u64 (IntKind.wrap .u64 (x * 2 ^ y.toNat))), [0 ≤ y ∧ y ≤ 64]) | false => none
    | .shr => match decide (k1 = .u64) with | true => some (.v (.int .u64 (x / 2 ^ y.toNat)), [0 ≤ y ∧ y ≤ 64]) | false => none
    | _ => none
  | .str p, .str q => match op with
    | .eql => some (.v (.bool (decide (p = q))), [])
    | .neq => some (.v (.bool (decide (¬ p = q))), [])
    | .lss => some (.v (.bool (blt p q)), [])
    | .leq => some (.v (.bool (blt p q || decide (p = q))), [])
    | .gtr => some (.v (.bool (!(blt p q || decide (p = q)))), [])
    | .geq => some (.v (.bool (!blt p q)), [])
    | .add => some (.str (p ++ q), [p.length + q.length ≤ 9223372036854775807])
    | _ => none
  | .v (.bool p), .v (.bool q) => match op, k with
    | .eql, .bool => some (.v (.bool (p == q)), [])
    | .neq, .bool => some (.v (.bool (!(p == q))), [])
    | _, _ => none
  | _, _ => none
def xExtract (i : Nat) : List SV → Option (SV × List Prop)
  | [.t vs] => match vs[i]? with | some v => some (v, []) | none => none
  | _ => none
def xNot : List SV → Option (SV × List Prop)
  | [.v (.bool b)] => some (.v (.bool !b), [])
  | _ => none
def xNeg : List SV → Option (SV × List Prop)
  | [.v (.int k x)] => some (numR k (0 - x))
  | _ => none
def xNil : List SV → Option (SV × List Prop)
  | [.p cs] => some (.p cs, [])
  | [.l i off] => some (.l i off, [])
  | [.e i off] => some (.e i off, [])
  | [.f fn fi ca] => some (.f fn fi ca, [])
  | _ => none
def xBin (tb : TT) (op : BinOp) (T : Nat) : List SV → Option (SV × List Prop)
  | [x, y] => match tb.get T with
    | some d => xbin op d.kd x y
    | none => none
  | _ => none
def xConv (tb : TT) (sT dT : Nat) : List SV → Option (SV × List Prop)
  | [.v (.int k x)] => match tb.get sT, tb.get dT with
    | some ds, some dd => match ds.kd, dd.kd with
      | .int ks, .int kd => match decide (k = ks) with | true => some (numR kd x) | false => none
      | _, _ => none
    | _, _ => none
  | _ => none
def fOf (tb : TT) (T f : Nat) : Option (Nat × Nat × Bool) := match tb.get T with
  | some d => match d.kd with
    | .st lay => lay[f]?
    | _ => none
  | none => none
def xFa (tb : TT) (T f : Nat) : List SV → Option (SV × List Prop)
  | [x] => match fOf tb T f with
    | some (off, _, _) => match x with
      | .l i o => some (.l i (o + off), [])
      | .p cs => some (.p (cs.drop off), [])
      | .e i o => some (.e i (o + off), [])
      | _ => none
    | none => none
  | _ => none
def xField (tb : TT) (T f : Nat) : List SV → Option (SV × List Prop)
  | [.a cs] => match fOf tb T f with
    | some (off, _, false) => match cs[off]? with | some v => some (v, []) | none => none
    | some (off, sz, true) => some (.a ((cs.drop off).take sz), [])
    | none => none
  | _ => none
def xLoad (tb : TT) (M : SM) (T : Nat) : List SV → Option (SV × List Prop)
  | [x] => match tb.get T with
    | some d => match cellsAt M x with
      | some cs => match d.kd.ag with
        | false => match cs with | v :: _ => some (v, []) | [] => none
        | true => match Nat.beq (cs.take d.sz).length d.sz with | true => some (.a (cs.take d.sz), []) | false => none
      | none => none
    | none => none
  | _ => none
def xIndex (tb : TT) (T : Nat) : List SV → Option (SV × List Prop)
  | [.str s, .v (.int _ z)] => match tb.get T with
    | some d => match d.kd with
      | .str => some (.v (.int .u8 (s.getD z.toNat 0).toNat), [0 ≤ z ∧ z < s.length])
      | _ => none
    | none => none
  | _ => none
def xSlice (tb : TT) (T : Nat) (lo hi mx : Option Operand) (svs : List SV) : Option (SV × List Prop) := match tb.get T with
  | some d => match d.kd, mx with
    | .str, none => match lo, hi, svs with
      | some _, some _, [.str s, .v (.int _ x), .v (.int _ y)] => some (.str ((s.drop x.toNat).take (y.toNat - x.toNat)), [0 ≤ x ∧ x ≤ y ∧ y ≤ s.length])
      | some _, none, [.str s, .v (.int _ x)] => some (.str (s.drop x.toNat), [0 ≤ x ∧ x ≤ s.length])
      | none, some _, [.str s, .v (.int _ y)] => some (.str (s.take y.toNat), [0 ≤ y ∧ y ≤ s.length])
      | _, _, _ => none
    | _, _ => none
  | none => none
def isTy (tb : TT) (ts : Array TypeId) : Option KD := match ts.toList with
  | [T] => match tb.get T with
    | some d => some d.kd
    | none => none
  | _ => none
def xLen (tb : TT) (ts : Array TypeId) : List SV → Option (SV × List Prop)
  | [.str s] => match isTy tb ts with | some .str => some (.v (.int .i64 s.length), []) | _ => none
  | [.s _ rows] => match isTy tb ts with | some (.sl _) => some (.v (.int .i64 rows.length), []) | _ => none
  | [.o _ n] => match isTy tb ts with | some (.sl _) => some (.v (.int .i64 n), []) | _ => none
  | _ => none
def xMM (mx : Bool) : List SV → Option (SV × List Prop)
  | [.v (.int k x), .v (.int k' y)] => match decide (k = k') with
    | true => match mx with | true => some (.v (.int k (max x y)), []) | false => some (.v (.int k (min x y)), [])
    | false => none
  | _ => none
def x1 : List SV → Option (SV × List Prop)
  | [x] => some (x, [])
  | _ => none
def xopv (tb : TT) (M : SM) : Op → List SV → Option (SV × List Prop)
  | .move _, svs => x1 svs
  | .assign _, svs => x1 svs
  | .extract _ i, svs => xExtract i svs
  | .unOp .not _ _, svs => xNot svs
  | .unOp .neg _ _, svs => xNeg svs
  | .nilCheck _, svs => xNil svs
  | .makeFunc (.func fn) first _, svs => some (.f fn (svs.take first.size) (svs.drop first.size), [])
  | .binOp op T _ _ _, svs => xBin tb op T svs
  | .convert sT dT _, svs => xConv tb sT dT svs
  | .fieldAddr T _ f, svs => xFa tb T f svs
  | .field T _ f, svs => xField tb T f svs
  | .load T _, svs => xLoad tb M T svs
  | .index T _ _, svs => xIndex tb T svs
  | .slice T _ lo hi mx, svs => xSlice tb T lo hi mx svs
  | .call ⟨.builtin .len, _, ts⟩, svs => xLen tb ts svs
  | .call ⟨.builtin .max, _, _⟩, svs => xMM true svs
  | .call ⟨.builtin .min, _, _⟩, svs => xMM false svs
  | _, _ => none
theorem evl_cons {L : LL} {x : Operand} {r : List Operand} {vs : List Value} (h : evl L (x :: r) = some vs) : ∃ v vs', vs = v :: vs' ∧ evo L x = some v ∧ evl L r = some vs' := by
  unfold evl at h
  split at h
  · split at h
    · cases h; exact ⟨_, _, rfl, ‹_›, ‹_›⟩
    · cases h
  · cases h
def Reads (X : Cx) (o : Oper) (a : Act) (g : GW) (ρ : Nat → Lc) (r : SV) : Prop := ∃ v, (execOp a.eval o).run X.P g.w = .ok (.value v) g.w ∧ Den g ρ r v
section
variable {X : Cx} {tb : TT} {o : Oper} {L : LL} {fs : List MF} {own : List Res} {g : GW} {a : Act} {ρ : Nat → Lc}
theorem den_int {k z x} (h : Den g ρ (.v (.int k z)) x) : x = .int k z := by cases h; rfl
theorem den_v {y x} (h : Den g ρ (.v y) x) : x = y := by cases h; rfl
theorem den_str {s x} (h : Den g ρ (.str s) x) : x = str s := by cases h; rfl
theorem numR_ok {k : IntKind} {x : Int} {r φ} (h : numR k x = (r, φ)) (hφ : ∀ p ∈ φ, p) : r = .v (.int k (k.wrap x)) := by
  cases k <;> simp only [numR, Prod.mk.injEq] at h <;> obtain ⟨rfl, rfl⟩ := h <;> first | rfl | skip
  have h2 : i64ok x := hφ _ (.head _)
  rw [wrap_i64 h2.1 h2.2]
theorem reads_y (st : St X L fs own g a) {v : Value} {r : SV} (hy : Yld X o L fs own v) (hd : Den g ρ r v) : Reads X o a g ρ r := ⟨v, hy g a st, hd⟩
theorem xbin_ok (hT : tb.Ok X.P) (st : St X L fs own g a) {op : BinOp} {T yT : Nat} {x y : Operand} {vx vy : Value} {sx sy r : SV} {φ : List Prop} {d : TD} (hd : tb.get T = some d) (ho : o.op = .binOp op T x y yT) (hx : evo L x = some vx) (hy : evo L y = some vy)
    (dx : Den g ρ sx vx) (dy : Den g ρ sy vy) (h : xbin op d.kd sx sy = some (r, φ)) (hφ : ∀ p ∈ φ, p) : Reads X o a g ρ r := by
  have hp : ∀ {v : Value}, pureV L o.op = some v → Den g ρ r v → Reads X o a g ρ r := fun hv hd => reads_y st (Y_pure hv) hd
  unfold xbin at h
  split at h
  · rename_i k1 p k2 q
    obtain rfl := den_int dx
    obtain rfl := den_int dy
    have hev : ∀ {v : Value}, pureV L (.binOp op T x y yT) = some v → Den g ρ r v → Reads X o a g ρ r := fun hv hd => hp (ho ▸ hv) hd
    have key : ∀ {b : Bool} {z : SV × List Prop}, (match b with | true => some z | false => none) = some (r, φ) → b = true ∧ z = (r, φ) := by
      intro b z hh; cases b <;> simp at hh; exact ⟨rfl, hh⟩
    split at h
    all_goals first
      | (cases h; done)
      | (obtain ⟨hk, hz⟩ := key h
         have hk := of_decide_eq_true hk
         subst hk
         first
          | (simp only [Prod.mk.injEq] at hz
             obtain ⟨rfl, rfl⟩ := hz
             first
              | exact reads_y st (Y_bin ho hx hy rfl (fun w => by rw [binOp_and]; rfl)) .v
              | exact reads_y st (Y_bin ho hx hy rfl (fun w => by rw [binOp_or]; rfl)) .v
              | exact reads_y st (Y_bin ho hx hy rfl (fun w => by rw [binOp_shl, shift_shl .u64 _ _ _ (hφ _ (.head _)).1 (hφ _ (.head _)).2]; rfl)) .v
              | exact reads_y st (Y_bin ho hx hy rfl (fun w => by rw [binOp_shr, shift_shr .u64 _ _ _ (hφ _ (.head _)).1 (hφ _ (.head _)).2]; rfl)) .v
              | exact reads_y st (Y_quo ho hx hy (hφ _ (.head _))) .v
              | exact reads_y st (Y_rem ho hx hy (hφ _ (.head _))) .v
              | exact hev (by simp [pureV, hx, hy]) .v)
          | (obtain rfl := numR_ok hz hφ
             first
              | exact reads_y st (Y_add ho hx hy) .v
              | exact reads_y st (Y_sub ho hx hy) .v
              | exact reads_y st (Y_mul ho hx hy) .v))
  · obtain rfl := den_str dx
    obtain rfl := den_str dy
    split at h
    all_goals first
      | (cases h; done)
      | (simp only [Option.some.injEq, Prod.mk.injEq] at h
         obtain ⟨rfl, rfl⟩ := h
         first
          | exact reads_y st (Y_streql ho hx hy) .v
          | exact reads_y st (Y_strneq ho hx hy) .v
          | exact reads_y st (Y_strlss ho hx hy) .v
          | exact reads_y st (Y_strleq ho hx hy) .v
          | exact reads_y st (Y_strgtr ho hx hy) .v
          | exact reads_y st (Y_strgeq ho hx hy) .v
          | exact reads_y st (Y_strcat ho hx hy (hφ _ (.head _))) .str)
  · obtain rfl := den_v dx
    obtain rfl := den_v dy
    have hkd := (TT.get_ok hT hd).kd
    split at h
    · rename_i hk
      simp only [Option.some.injEq, Prod.mk.injEq] at h
      obtain ⟨rfl, rfl⟩ := h
      rw [hk] at hkd
      exact reads_y st (Y_eql1 ho hx hy hkd (by rfl) (fun _ => rfl) rfl) .v
    · rename_i hk
      simp only [Option.some.injEq, Prod.mk.injEq] at h
      obtain ⟨rfl, rfl⟩ := h
      rw [hk] at hkd
      exact reads_y st (Y_neq1 ho hx hy hkd (by rfl) (fun _ => rfl) rfl) .v
    · cases h
  · cases h
end
end Go.KX
namespace Go.KX
theorem DenM.get {g : GW} {ρ : Nat → Lc} : ∀ {M : SM} {ms : List Res} {i : Nat} {mb : MB}, DenM g ρ M ms → lkM M i = some mb → ∃ r ∈ ms, DenB g ρ i mb r
  | [], _, _, _, .nil, h => by cases h
  | (j, m) :: M, _, i, mb, .cons hb t, h => by
    unfold lkM at h
    split at h
    · rename_i hij
      cases h
      have := Nat.eq_of_beq_eq_true hij
      subst this
      exact ⟨_, .head _, hb⟩
    · obtain ⟨r, hr, hd⟩ := DenM.get t h
      exact ⟨r, .tail _ hr, hd⟩
section
variable {X : Cx} {tb : TT} {o : Oper} {L : LL} {fs : List MF} {own ms : List Res} {g : GW} {a : Act} {ρ : Nat → Lc} {M : SM}
theorem cellsAt_ok (hM : DenM g ρ M ms) (hp : ∀ r ∈ ms, r.p g.w) {x : SV} {vx : Value} {cs : List SV} (dx : Den g ρ x vx) (h : cellsAt M x = some cs) :
    ∃ b oo xs, vx = .pointer (some ⟨b, oo, none⟩) ∧ DenL g ρ cs xs ∧ ∀ (k : Nat) y, xs[k]? = some y → g.w.cell? ⟨b, oo + k, none⟩ = some y := by
  unfold cellsAt at h
  split at h
  · rename_i i off
    split at h
    · rename_i T cs0 hm
      cases h
      obtain ⟨r, hr, hb⟩ := hM.get hm
      cases hb with
      | c xs hd h1 =>
        have hblk : g.w.heap[(ρ i).b]? = some (.cells xs.toArray T (0, 0)) := hp _ hr
        cases dx
        refine ⟨_, _, xs.drop off, rfl, hd.drop off, fun k y hy => ?_⟩
        rw [List.getElem?_drop] at hy
        simp [World.cell?, hblk, hy]
    · cases h
  · cases h
    cases dx with
    | p xs hl hf hc hd => exact ⟨_, _, xs, rfl, ⟨hl, hd ρ⟩, hc⟩
  · cases h
theorem fOf_ok (hT : tb.Ok X.P) {T f off sz : Nat} {ag : Bool} (h : fOf tb T f = some (off, sz, ag)) : ∃ lay, LY X.P T lay ∧ lay[f]? = some (off, sz, ag) := by
  unfold fOf at h
  split at h
  · rename_i d hd
    split at h
    · rename_i lay hk
      have := (TT.get_ok hT hd).kd
      rw [hk] at this
      exact ⟨lay, this.1, h⟩
    · cases h
  · cases h
theorem xLoad_ok (hT : tb.Ok X.P) (st : St X L fs (ms ++ own) g a) (hM : DenM g ρ M ms) {T : Nat} {x : Operand} {svs : List SV} {vals : List Value} {r : SV} {φ : List Prop} (ho : o.op = .load T x) (hv : evl L [x] = some vals) (hd : DenL g ρ svs vals)
    (h : xLoad tb M T svs = some (r, φ)) : Reads X o a g ρ r := by
  unfold xLoad at h
  split at h
  · rename_i sx
    obtain ⟨vx, _, rfl, dx, _⟩ := hd.uncons
    obtain ⟨_, _, hvv, hx, _⟩ := evl_cons hv
    cases hvv
    split at h
    · rename_i d hdT
      have hok := TT.get_ok hT hdT
      split at h
      · rename_i cs hcs
        obtain ⟨b, oo, xs, rfl, hD, hc⟩ := cellsAt_ok hM (fun r hr => st.own.p r (List.mem_append_left _ hr)) dx hcs
        obtain ⟨td, u, hag⟩ := hok.kd.und
        split at h
        · rename_i hk
          rw [hk] at hag
          split at h
          · cases h
            obtain ⟨v, _, rfl, dv, _⟩ := hD.uncons
            refine ⟨v, ?_, dv⟩
            have := run_load1 (P := X.P) (w := g.w) u hag (by simpa using hc 0 v rfl)
            simp only [execOp, ho, st.kn.eval hx]
            simp [this]
          · cases h
        · rename_i hk
          rw [hk] at hag
          split at h
          · rename_i hlen
            cases h
            have hlen := Nat.eq_of_beq_eq_true hlen
            have hD2 := hD.take d.sz
            refine ⟨.agg (xs.take d.sz).toArray, ?_, .a _ hD2.1 hD2.2⟩
            have := run_loadS (P := X.P) (w := g.w) (b := b) (oo := oo) u hag hok.ti (by rw [hD2.1, hlen]) (fun j v hj => by
              rw [List.getElem?_take] at hj
              split at hj
              · exact hc j v hj
              · cases hj)
            simp only [execOp, ho, st.kn.eval hx]
            simp [this]
          · cases h
      · cases h
    · cases h
  · cases h
theorem xFa_ok (hT : tb.Ok X.P) (st : St X L fs own g a) {T f : Nat} {x : Operand} {svs : List SV} {vals : List Value} {r : SV} {φ : List Prop} (ho : o.op = .fieldAddr T x f) (hv : evl L [x] = some vals) (hd : DenL g ρ svs vals)
    (h : xFa tb T f svs = some (r, φ)) : Reads X o a g ρ r := by
  unfold xFa at h
  split at h
  · obtain ⟨vx, _, rfl, dx, _⟩ := hd.uncons
    obtain ⟨_, _, hvv, hx, _⟩ := evl_cons hv
    cases hvv
    split at h
    · rename_i off sz ag hf
      obtain ⟨lay, ly, hl⟩ := fOf_ok hT hf
      split at h
      · cases h; cases dx; exact reads_y st (Y_fa ly hl ho hx) .l
      · cases h
        cases dx with
        | p xs hl' hfz hc hdd => exact reads_y st (Y_fa ly hl ho hx) (.p (xs.drop off) (by simp [hl']) hfz (fun k y hy => by
            rw [List.getElem?_drop] at hy
            rw [Nat.add_assoc]; exact hc _ y hy) (fun ρ' j sv y h1 h2 => hdd ρ' (off + j) sv y (by simpa using h1) (by simpa using h2)))
      · cases h; cases dx with | e he => exact reads_y st (Y_fa ly hl ho hx) (by rw [Nat.add_assoc]; exact .e he)
      · cases h
    · cases h
  · cases h
theorem xField_ok (hT : tb.Ok X.P) (st : St X L fs own g a) {T f : Nat} {x : Operand} {svs : List SV} {vals : List Value} {r : SV} {φ : List Prop} (ho : o.op = .field T x f) (hv : evl L [x] = some vals) (hd : DenL g ρ svs vals)
    (h : xField tb T f svs = some (r, φ)) : Reads X o a g ρ r := by
  unfold xField at h
  split at h
  · obtain ⟨vx, _, rfl, dx, _⟩ := hd.uncons
    obtain ⟨_, _, hvv, hx, _⟩ := evl_cons hv
    cases hvv
    cases dx with
    | a xs hl' hdd =>
      have hD : DenL g ρ _ xs := ⟨hl', hdd⟩
      split at h
      · rename_i off sz hf
        obtain ⟨lay, ly, hl⟩ := fOf_ok hT hf
        split at h
        · rename_i v hv'
          cases h
          obtain ⟨y, hy, dy⟩ := hD.get hv'
          exact reads_y st (Y_fld ly hl ho hx (by simpa using hy)) dy
        · cases h
      · rename_i off sz hf
        obtain ⟨lay, ly, hl⟩ := fOf_ok hT hf
        cases h
        have hD2 := (hD.drop off).take sz
        have e : xs.toArray.extract off (off + sz) = ((xs.drop off).take sz).toArray := by
          apply Array.ext'
          simp only [Array.toList_extract, List.extract]
          rw [show off + sz - off = sz by omega]
        refine reads_y st (Y_fldS ly hl ho hx) ?_
        rw [e]
        exact .a _ hD2.1 hD2.2
      · cases h
  · cases h
theorem isTy_ok (hT : tb.Ok X.P) {ts : Array TypeId} {kd : KD} (h : isTy tb ts = some kd) : ∃ T z, ts = #[T] ∧ KDok X.P T z kd := by
  unfold isTy at h
  split at h
  · rename_i T hts
    split at h
    · rename_i d hd
      cases h
      exact ⟨T, d.z, by cases ts; simp_all, (TT.get_ok hT hd).kd⟩
    · cases h
  · cases h
theorem xLen_ok (hT : tb.Ok X.P) (st : St X L fs own g a) {az : Array Operand} {ts : Array TypeId} {svs : List SV} {vals : List Value} {r : SV} {φ : List Prop} (ho : o.op = .call ⟨.builtin .len, az, ts⟩) (hv : evl L az.toList = some vals) (hd : DenL g ρ svs vals)
    (h : xLen tb ts svs = some (r, φ)) : Reads X o a g ρ r := by
  have h1 : ∀ {sx}, svs = [sx] → ∃ x vx, az = #[x] ∧ evo L x = some vx ∧ Den g ρ sx vx := by
    intro sx e
    subst e
    obtain ⟨vx, r', rfl, dx, hr⟩ := hd.uncons
    obtain rfl := hr.unnil
    cases has : az.toList with
    | nil => rw [has] at hv; cases hv
    | cons x rest =>
      rw [has] at hv
      obtain ⟨_, _, hvv, hx, hrest⟩ := evl_cons hv
      cases hvv
      have : rest = [] := by
        have := evl_len hrest
        exact List.eq_nil_of_length_eq_zero this.symm
      subst this
      exact ⟨x, vx, by cases az; simp_all, hx, dx⟩
  unfold xLen at h
  split at h
  · obtain ⟨x, vx, rfl, hx, dx⟩ := h1 rfl
    split at h
    · rename_i hk
      cases h
      obtain ⟨T, z, rfl, u⟩ := isTy_ok hT hk
      obtain rfl := den_str dx
      exact reads_y st (Y_strlen ho hx u) .v
    · cases h
  · obtain ⟨x, vx, rfl, hx, dx⟩ := h1 rfl
    split at h
    · rename_i hk
      cases h
      obtain ⟨T, z, rfl, u⟩ := isTy_ok hT hk
      cases dx
      exact reads_y st (Y_slen ho hx u) .v
    · cases h
  · obtain ⟨x, vx, rfl, hx, dx⟩ := h1 rfl
    split at h
    · rename_i hk
      cases h
      obtain ⟨T, z, rfl, u⟩ := isTy_ok hT hk
      cases dx
      exact reads_y st (Y_slen ho hx u) .v
    · cases h
  · cases h
theorem xMM_ok (st : St X L fs own g a) {b : Bool} {az : Array Operand} {ts : Array TypeId} {svs : List SV} {vals : List Value} {r : SV} {φ : List Prop} (ho : o.op = .call ⟨.builtin (if b then .max else .min), az, ts⟩) (hv : evl L az.toList = some vals) (hd : DenL g ρ svs vals)
    (h : xMM b svs = some (r, φ)) : Reads X o a g ρ r := by
  unfold xMM at h
  split at h
  · rename_i k p k' q
    obtain ⟨vx, _, rfl, dx, hr⟩ := hd.uncons
    obtain ⟨vy, _, rfl, dy, hr2⟩ := hr.uncons
    obtain rfl := hr2.unnil
    obtain rfl := den_int dx
    obtain rfl := den_int dy
    split at h
    · rename_i hk
      have hk := of_decide_eq_true hk
      subst hk
      have has : ∃ x y, az = #[x, y] ∧ evo L x = some (.int k p) ∧ evo L y = some (.int k q) := by
        cases hl : az.toList with
        | nil => rw [hl] at hv; cases hv
        | cons x rest =>
          rw [hl] at hv
          obtain ⟨_, _, hvv, hx, hrest⟩ := evl_cons hv
          cases hvv
          cases rest with
          | nil => cases hrest
          | cons y rest2 =>
            obtain ⟨_, _, hvv, hy, hrest2⟩ := evl_cons hrest
            cases hvv
            have : rest2 = [] := List.eq_nil_of_length_eq_zero (evl_len hrest2).symm
            subst this
            exact ⟨x, y, by cases az; simp_all, hx, hy⟩
      obtain ⟨x, y, rfl, hx, hy⟩ := has
      cases b with
      | true => cases h; exact reads_y st (Y_max ho hx hy) .v
      | false => cases h; exact reads_y st (Y_min ho hx hy) .v
    · cases h
  · cases h
theorem xIndex_ok (hT : tb.Ok X.P) (st : St X L fs own g a) {T : Nat} {x ix : Operand} {svs : List SV} {vals : List Value} {r : SV} {φ : List Prop} (ho : o.op = .index T x ix) (hv : evl L [x, ix] = some vals) (hd : DenL g ρ svs vals)
    (h : xIndex tb T svs = some (r, φ)) (hφ : ∀ p ∈ φ, p) : Reads X o a g ρ r := by
  unfold xIndex at h
  split at h
  · rename_i s k z
    obtain ⟨vx, _, rfl, dx, hr⟩ := hd.uncons
    obtain ⟨vy, _, rfl, dy, _⟩ := hr.uncons
    obtain ⟨_, _, hvv, hx, hrest⟩ := evl_cons hv
    cases hvv
    obtain ⟨_, _, hvv, hy, _⟩ := evl_cons hrest
    cases hvv
    obtain rfl := den_str dx
    obtain rfl := den_int dy
    split at h
    · rename_i d hdT
      have hok := (TT.get_ok hT hdT).kd
      split at h
      · rename_i hk
        rw [hk] at hok
        cases h
        have hb := hφ _ (.head _)
        have hlt : z.toNat < s.length := by omega
        refine reads_y st (Y_stridx ho hx hy hok hb.1 (b := s.getD z.toNat 0) ?_) .v
        rw [List.getD_eq_getElem?_getD, List.getElem?_eq_getElem hlt]; rfl
      · cases h
    · cases h
  · cases h
theorem xSlice_ok (hT : tb.Ok X.P) (st : St X L fs own g a) {T : Nat} {x : Operand} {lo hi mx : Option Operand} {svs : List SV} {vals : List Value} {r : SV} {φ : List Prop} (ho : o.op = .slice T x lo hi mx) (hv : evl L (#[x] ++ lo.toArray ++ hi.toArray ++ mx.toArray).toList = some vals) (hd : DenL g ρ svs vals)
    (h : xSlice tb T lo hi mx svs = some (r, φ)) (hφ : ∀ p ∈ φ, p) : Reads X o a g ρ r := by
  unfold xSlice at h
  split at h
  · rename_i d hdT
    have hok := (TT.get_ok hT hdT).kd
    split at h
    · rename_i hk
      rw [hk] at hok
      split at h
      · rename_i lo hi s _ p _ q
        cases h
        have hb := hφ _ (.head _)
        obtain ⟨vx, _, rfl, dx, hr⟩ := hd.uncons
        obtain ⟨vy, _, rfl, dy, hr⟩ := hr.uncons
        obtain ⟨vz, _, rfl, dz, _⟩ := hr.uncons
        have hv : evl L [x, lo, hi] = _ := hv
        obtain ⟨_, _, hvv, hx, hrest⟩ := evl_cons hv
        cases hvv
        obtain ⟨_, _, hvv, hy, hrest⟩ := evl_cons hrest
        cases hvv
        obtain ⟨_, _, hvv, hz, _⟩ := evl_cons hrest
        cases hvv
        obtain rfl := den_str dx
        obtain rfl := den_int dy
        obtain rfl := den_int dz
        exact reads_y st (Y_strslice ho hx hok ⟨_, hy⟩ ⟨_, hz⟩ hb.1 hb.2.1 hb.2.2) .str
      · rename_i lo s _ p
        cases h
        have hb := hφ _ (.head _)
        obtain ⟨vx, _, rfl, dx, hr⟩ := hd.uncons
        obtain ⟨vy, _, rfl, dy, _⟩ := hr.uncons
        have hv : evl L [x, lo] = _ := hv
        obtain ⟨_, _, hvv, hx, hrest⟩ := evl_cons hv
        cases hvv
        obtain ⟨_, _, hvv, hy, _⟩ := evl_cons hrest
        cases hvv
        obtain rfl := den_str dx
        obtain rfl := den_int dy
        have e : (s.drop p.toNat).take ((s.length : Int).toNat - p.toNat) = s.drop p.toNat := List.take_of_length_le (by simp)
        have := reads_y (ρ := ρ) st (Y_strslice ho hx hok ⟨_, hy⟩ rfl hb.1 hb.2 (Int.le_refl _)) .str
        rwa [e] at this
      · rename_i hi s _ q
        cases h
        have hb := hφ _ (.head _)
        obtain ⟨vx, _, rfl, dx, hr⟩ := hd.uncons
        obtain ⟨vy, _, rfl, dy, _⟩ := hr.uncons
        have hv : evl L [x, hi] = _ := hv
        obtain ⟨_, _, hvv, hx, hrest⟩ := evl_cons hv
        cases hvv
        obtain ⟨_, _, hvv, hy, _⟩ := evl_cons hrest
        cases hvv
        obtain rfl := den_str dx
        obtain rfl := den_int dy
        exact reads_y st (Y_strslice (zl := 0) ho hx hok rfl ⟨_, hy⟩ (Int.le_refl _) hb.1 hb.2) .str
      · cases h
    · cases h
  · cases h
theorem evl_append {L : LL} : ∀ {xs ys : List Operand} {vs : List Value}, evl L (xs ++ ys) = some vs → ∃ v1 v2, vs = v1 ++ v2 ∧ evl L xs = some v1 ∧ evl L ys = some v2
  | [], ys, vs, h => ⟨[], vs, rfl, rfl, h⟩
  | x :: xs, ys, vs, h => by
    obtain ⟨v, vs', rfl, hx, hr⟩ := evl_cons h
    obtain ⟨v1, v2, rfl, h1, h2⟩ := evl_append hr
    exact ⟨v :: v1, v2, rfl, by simp [evl, hx, h1], h2⟩
theorem xopv_ok (hT : tb.Ok X.P) (st : St X L fs (ms ++ own) g a) (hM : DenM g ρ M ms) {svs : List SV} {vals : List Value} {r : SV} {φ : List Prop} (hv : evl L o.op.operands.toList = some vals) (hd : DenL g ρ svs vals)
    (h : xopv tb M o.op svs = some (r, φ)) (hφ : ∀ p ∈ φ, p) : Reads X o a g ρ r := by
  have hp : ∀ {v : Value}, pureV L o.op = some v → Den g ρ r v → Reads X o a g ρ r := fun hv hd => reads_y st (Y_pure hv) hd
  have h1 : ∀ {x : Operand} {sx}, evl L [x] = some vals → svs = [sx] → ∃ vx, evo L x = some vx ∧ Den g ρ sx vx := by
    intro x sx he e
    subst e
    obtain ⟨vx, _, rfl, dx, _⟩ := hd.uncons
    obtain ⟨_, _, hvv, hx, _⟩ := evl_cons he
    cases hvv
    exact ⟨vx, hx, dx⟩
  cases ho : o.op
  case move x =>
    rw [ho] at hv h hp
    simp only [xopv] at h
    unfold x1 at h
    split at h
    · cases h; obtain ⟨vx, hx, dx⟩ := h1 hv rfl; exact hp (by simp [pureV, hx]) dx
    · cases h
  case assign x =>
    rw [ho] at hv h hp
    simp only [xopv] at h
    unfold x1 at h
    split at h
    · cases h; obtain ⟨vx, hx, dx⟩ := h1 hv rfl; exact hp (by simp [pureV, hx]) dx
    · cases h
  case extract x i =>
    rw [ho] at hv h hp
    simp only [xopv] at h
    unfold xExtract at h
    split at h
    · split at h
      · rename_i vs v hvv
        cases h
        obtain ⟨vx, hx, dx⟩ := h1 hv rfl
        cases dx with
        | t xs hl hdd =>
          obtain ⟨y, hy, dy⟩ := DenL.get ⟨hl, hdd⟩ hvv
          exact hp (by simp [pureV, hx, hy]) dy
      · cases h
    · cases h
  case unOp u T x =>
    rw [ho] at hv h hp
    cases u <;> simp only [xopv] at h <;> try cases h
    · unfold xNeg at h
      split at h
      · simp only [Option.some.injEq] at h
        obtain ⟨vx, hx, dx⟩ := h1 hv rfl
        obtain rfl := den_int dx
        obtain rfl := numR_ok h hφ
        exact reads_y st (Y_neg ho hx) .v
      · cases h
    · unfold xNot at h
      split at h
      · cases h
        obtain ⟨vx, hx, dx⟩ := h1 hv rfl
        obtain rfl := den_v dx
        exact hp (by simp [pureV, hx]) .v
      · cases h
  case nilCheck x =>
    rw [ho] at hv h hp
    simp only [xopv] at h
    unfold xNil at h
    split at h
    · cases h; obtain ⟨vx, hx, dx⟩ := h1 hv rfl; cases dx with | p xs a b c d => exact hp (by simp [pureV, hx]) (.p xs a b c d)
    · cases h; obtain ⟨vx, hx, dx⟩ := h1 hv rfl; cases dx; exact hp (by simp [pureV, hx]) .l
    · cases h; obtain ⟨vx, hx, dx⟩ := h1 hv rfl; cases dx with | e he => exact hp (by simp [pureV, hx]) (.e he)
    · cases h; obtain ⟨vx, hx, dx⟩ := h1 hv rfl; cases dx with | f xs ys a b c d => exact hp (by simp [pureV, hx]) (.f xs ys a b c d)
    · cases h
  case makeFunc fn first cap =>
    cases fn <;> rw [ho] at h <;> simp only [xopv] at h <;> try (cases h; done)
    rename_i f
    cases h
    rw [ho] at hv hp
    have hv2 : evl L (first.toList ++ cap.toList) = some vals := by simpa [Op.operands] using hv
    obtain ⟨v1, v2, rfl, e1, e2⟩ := evl_append hv2
    have l1 : v1.length = first.size := by rw [evl_len e1]; simp
    have d1 := hd.take first.size
    have d2 := hd.drop first.size
    rw [List.take_left' l1] at d1
    rw [List.drop_left' l1] at d2
    exact hp (by simp [pureV, e1, e2]) (.f v1 v2 d1.1 d1.2 d2.1 d2.2)
  case binOp op T x y yT =>
    rw [ho] at hv h
    simp only [xopv] at h
    unfold xBin at h
    split at h
    · obtain ⟨vx, _, rfl, dx, hr⟩ := hd.uncons
      obtain ⟨vy, _, rfl, dy, _⟩ := hr.uncons
      have hv : evl L [x, y] = _ := hv
      obtain ⟨_, _, hvv, hx, hrest⟩ := evl_cons hv
      cases hvv
      obtain ⟨_, _, hvv, hy, _⟩ := evl_cons hrest
      cases hvv
      split at h
      · exact xbin_ok hT st ‹_› ho hx hy dx dy h hφ
      · cases h
    · cases h
  case convert sT dT x =>
    rw [ho] at hv h
    simp only [xopv] at h
    unfold xConv at h
    split at h
    · split at h
      · rename_i ds dd hs hdd
        have k1 := (TT.get_ok hT hs).kd
        have k2 := (TT.get_ok hT hdd).kd
        split at h
        · rename_i e1 e2
          rw [e1] at k1
          rw [e2] at k2
          split at h
          · rename_i hk
            have hk := of_decide_eq_true hk
            subst hk
            simp only [Option.some.injEq] at h
            obtain ⟨vx, hx, dx⟩ := h1 hv rfl
            obtain rfl := den_int dx
            obtain rfl := numR_ok h hφ
            exact reads_y st (Y_conv ho hx k1 k2) .v
          · cases h
        · cases h
      · cases h
    · cases h
  case fieldAddr T x f => rw [ho] at hv h; exact xFa_ok hT st ho hv hd h
  case field T x f => rw [ho] at hv h; exact xField_ok hT st ho hv hd h
  case load T x => rw [ho] at hv h; exact xLoad_ok hT st hM ho hv hd h
  case index T x ix => rw [ho] at hv h; exact xIndex_ok hT st ho hv hd h hφ
  case slice T x lo hi mx => rw [ho] at hv h; exact xSlice_ok hT st ho hv hd h hφ
  case call c =>
    obtain ⟨callee, az, ts⟩ := c
    cases callee
    case builtin b =>
      cases b <;> rw [ho] at h <;> simp only [xopv] at h <;> try (cases h; done)
      all_goals first
        | exact xLen_ok hT st ho (by rw [ho] at hv; simpa [Op.operands, Call.operands] using hv) hd h
        | exact xMM_ok (b := true) st ho (by rw [ho] at hv; simpa [Op.operands, Call.operands] using hv) hd h
        | exact xMM_ok (b := false) st ho (by rw [ho] at hv; simpa [Op.operands, Call.operands] using hv) hd h
    all_goals (rw [ho] at h; simp only [xopv] at h; cases h)
  all_goals (rw [ho] at h; simp only [xopv] at h; cases h)
end
end Go.KX
namespace Go.KX
def F1 (ρ : Nat → Lc) (M : SM) (ms : List Res) : MF := ⟨fun g => DenM g ρ M ms, fun e h => h.mono e⟩
def F2 (X : Kx) (ρ : Nat → Lc) (L : SL) (a : Act) : MF := ⟨fun g => Sl X ρ L a g, fun e h => ⟨h.pin, fun t sv ht => by
  obtain ⟨x, h1, h2⟩ := h.val t sv ht
  exact ⟨x, h1, h2.mono e⟩⟩⟩
section
variable {X : Kx} {L : SL} {M : SM} {fs : List MF} {own : List Res} {g : GW} {a : Act}
theorem ESt.open (h : ESt X L M fs own g a) : ∃ ρ ms, St X.toCx [] (F1 ρ M ms :: F2 X ρ L a :: fs) (ms ++ own) g a := by
  obtain ⟨ρ, ms, h1, h2, h3⟩ := h
  exact ⟨ρ, ms, h1.kn, All.cons h2 (All.cons h3 h1.all), h1.own, h1.ext, h1.new⟩
theorem ESt.close {ρ ms} (h : St X.toCx [] (F1 ρ M ms :: F2 X ρ L a :: fs) (ms ++ own) g a) : ESt X L M fs own g a :=
  ⟨ρ, ms, ⟨h.kn, fun f hf => h.all f (.tail _ (.tail _ hf)), h.own, h.ext, h.new⟩, h.all _ (.head _), h.all _ (.tail _ (.head _))⟩
theorem St.perm {X : Cx} {L : LL} {fs own own' g a} (s : St X L fs own g a) (hp : own.Perm own') : St X L fs own' g a :=
  ⟨s.kn, s.all, s.own.perm hp, s.ext, fun b hb => s.new b ((blks_perm hp).symm.subset hb)⟩
/-- Known slots, as they stand in the frame. -/
theorem St.slots {os : List Operand} {e : Nat → Option SV} {svs : List SV} (s : St X.toCx [] fs own g a) (he : ∀ t sv, e t = some sv → ∃ x, a.tmps[t]? = some x) (h : evs e os = some svs) : ∃ Lr, St X.toCx Lr fs own g a ∧ evl Lr os = some (os.map a.eval) ∧ ∀ t x, a.tmps[t]? = some x → lk Lr t = some x := by
  have key : ∀ (os : List Operand), (∃ svs, evs e os = some svs) → ∀ (t : Nat), Operand.tmp t ∈ os → ∃ x, a.tmps[t]? = some x := by
    intro os
    induction os with
    | nil => intro _ t ht; cases ht
    | cons o r ih =>
      intro ⟨svs, hs⟩ t ht
      unfold evs at hs
      split at hs
      · rename_i v hv
        split at hs
        · cases ht with
          | head => exact he t v hv
          | tail _ hm => exact ih ⟨_, ‹_›⟩ t hm
        · cases hs
      · cases hs
  have hk := key os ⟨svs, h⟩
  clear h key he
  -- the frame's slots, all of them
  let Lr : LL := (List.range a.tmps.size).map fun t => (t, a.tmps.getD t undef)
  have lkr : ∀ (n : Nat) (k : Nat) (t : Nat), k ≤ t → t < k + n → lk ((List.range' k n).map fun t => (t, a.tmps.getD t undef)) t = some (a.tmps.getD t undef) := by
    intro n
    induction n with
    | zero => intro k t h1 h2; omega
    | succ n ih =>
      intro k t h1 h2
      rw [List.range'_succ]
      simp only [List.map_cons]
      by_cases ht : t = k
      · subst ht; rw [lk_cons_same]
      · rw [lk_cons_ne _ _ ht]; exact ih (k + 1) t (by omega) (by omega)
  have lkr2 : ∀ (n : Nat) (k : Nat) (t : Nat) v, lk ((List.range' k n).map fun t => (t, a.tmps.getD t undef)) t = some v → t < k + n ∧ v = a.tmps.getD t undef := by
    intro n
    induction n with
    | zero => intro k t v h; simp [lk] at h
    | succ n ih =>
      intro k t v h
      rw [List.range'_succ] at h
      simp only [List.map_cons] at h
      by_cases ht : t = k
      · subst ht; rw [lk_cons_same] at h; cases h; exact ⟨by omega, rfl⟩
      · rw [lk_cons_ne _ _ ht] at h
        have := ih (k + 1) t v h
        exact ⟨by omega, this.2⟩
  refine ⟨Lr, ⟨⟨s.kn.size, s.kn.defers, fun i v hv => ?_⟩, s.all, s.own, s.ext, s.new⟩, ?_⟩
  · have := lkr2 a.tmps.size 0 i v (by simpa [Lr, List.range_eq_range'] using hv)
    have hlt : i < a.tmps.size := by have := this.1; omega
    rw [this.2]
    simp [Array.getD_eq_getD_getElem?, hlt]
  · have : ∀ (os : List Operand), (∀ (t : Nat), Operand.tmp t ∈ os → ∃ x, a.tmps[t]? = some x) → evl Lr os = some (os.map a.eval) := by
      intro os
      induction os with
      | nil => intro _; rfl
      | cons o r ih =>
        intro hk
        have hr := ih (fun t ht => hk t (.tail _ ht))
        have ho : evo Lr o = some (a.eval o) := by
          cases o with
          | tmp t =>
            obtain ⟨x, hx⟩ := hk t (.head _)
            have hlt : t < a.tmps.size := by
              rcases Nat.lt_or_ge t a.tmps.size with h | h
              · exact h
              · rw [Array.getElem?_eq_none h] at hx; cases hx
            have := lkr a.tmps.size 0 t (Nat.zero_le _) (by rw [Nat.zero_add]; exact hlt)
            show lk Lr t = some (a.tmps.getD t undef)
            simpa [Lr, List.range_eq_range'] using this
          | const v => rfl
          | global i => rfl
          | func f => rfl
        simp [evl, ho, hr]
    refine ⟨this os hk, fun t x hx => ?_⟩
    have hlt : t < a.tmps.size := by
      rcases Nat.lt_or_ge t a.tmps.size with h | h
      · exact h
      · rw [Array.getElem?_eq_none h] at hx; cases hx
    have h2 := lkr a.tmps.size 0 t (Nat.zero_le _) (by rw [Nat.zero_add]; exact hlt)
    have e : a.tmps.getD t undef = x := by simp [Array.getD_eq_getD_getElem?, hx]
    rw [e] at h2
    simpa [Lr, List.range_eq_range'] using h2
/-- A slot is written. -/
theorem ESt.put {d : Nat} {sv : SV} {x : Value} {ρ ms} (h : St X.toCx [] (F1 ρ M ms :: F2 X ρ L a :: fs) (ms ++ own) g a) (hn : Nat.blt d X.n = true) (hx : Den g ρ sv x) : ESt X ((d, sv) :: L) M fs own g (a.put (some d) x) := by
  have h2 : Sl X ρ L a g := h.all _ (.tail _ (.head _))
  have hd' : d < X.n := by simpa [Nat.blt_eq] using hn
  refine ⟨ρ, ms, ⟨(h.kn.put hn x).sub (fun i v hv => by simp [lk] at hv), fun f hf => h.all f (.tail _ (.tail _ hf)), h.own, h.ext, h.new⟩, h.all _ (.head _), h2.pin, fun t sv' ht => ?_⟩
  by_cases htd : t = d
  · subst htd
    rw [lkS_same] at ht
    cases ht
    exact ⟨x, by simp [Act.put, h.kn.size, hd'], hx⟩
  · rw [lkS_ne _ _ htd] at ht
    obtain ⟨y, hy, dy⟩ := h2.val t sv' ht
    exact ⟨y, by simp [Act.put, Ne.symm htd, hy], dy⟩
end
def st1 : SV → SV
  | .g _ x => x
  | x => x
def cd1 : SV → List Prop
  | .g c _ => [c = true]
  | _ => []
/-- Guarded values laid bare; written out. -/
def stK {β : Type} : List SV → (List SV → Option β) → Option β
  | [], K => K []
  | .g _ x :: r, K => stK r (fun r' => K (x :: r'))
  | x :: r, K => stK r (fun r' => K (x :: r'))
theorem stK_eq {β : Type} : ∀ (svs : List SV) (K : List SV → Option β), stK svs K = K (svs.map st1)
  | [], K => rfl
  | sv :: r, K => by cases sv <;> (simp only [stK, List.map_cons, st1]; exact stK_eq r _)
theorem st1_ok {g ρ sv x} (h : Den g ρ sv x) (hc : ∀ p ∈ cd1 sv, p) : Den g ρ (st1 sv) x := by
  cases sv with
  | g c x =>
    have hc : c = true := hc _ (.head _)
    subst hc
    cases h with | gt h => exact h
  | _ => exact h
theorem sts_ok {g ρ} : ∀ {svs : List SV} {xs : List Value}, DenL g ρ svs xs → (∀ p ∈ svs.flatMap cd1, p) → DenL g ρ (svs.map st1) xs
  | [], xs, h, _ => by rw [h.unnil]; exact DenL.nil
  | sv :: r, xs, h, hc => by
    obtain ⟨x, ys, rfl, hx, hr⟩ := h.uncons
    exact DenL.cons (st1_ok hx (fun p hp => hc p (by simp [hp]))) (sts_ok hr (fun p hp => hc p (by
      simp only [List.flatMap_cons, List.mem_append]; exact .inr hp)))
def gS (arr : Array Oper) (e : Nat → Option SV) (o : Oper) : Option (Option Bool) :=
  match o.guard with
  | none => some none
  | some (j, want) => match arr[j]? with
    | none => none
    | some oj => match oj.dst with
      | none => none
      | some t => match e t with
        | some (.v (.bool b)) => match want with | true => some (some b) | false => some (some !b)
        | some (.g c (.v (.bool b))) => match want with | true => some (some (c && b)) | false => some (some (c && !b))
        | _ => none
def isOn : Option Bool → Bool
  | none => true
  | some b => b
theorem gS_ok {arr : Array Oper} {n : Nat} {a : Act} {g : GW} {ρ : Nat → Lc} {e : Nat → Option SV} {o : Oper} {G : Option Bool} {df : List Deferred} (hk : KN n df [] a) (he : ∀ t sv, e t = some sv → ∃ x, a.tmps[t]? = some x ∧ Den g ρ sv x) (h : gS arr e o = some G) :
    Region.wanted o (yielded arr a.tmps) = isOn G := by
  have hl : ∀ {r t x}, a.tmps[t]? = some x → live arr [(t, x)] o = some r → Region.wanted o (yielded arr a.tmps) = r := by
    intro r t x hx hl
    refine live_wanted (n := n) (L := [(t, x)]) ⟨hk.size, hk.defers, fun i v hv => ?_⟩ hl
    by_cases hi : i = t
    · subst hi; rw [lk_cons_same] at hv; cases hv; exact hx
    · rw [lk_cons_ne _ _ hi] at hv; simp [lk] at hv
  unfold gS at h
  split at h
  · rename_i hg
    cases h
    exact live_wanted (L := []) hk (by unfold live; rw [hg]; rfl)
  · rename_i j want hg
    split at h
    · cases h
    · rename_i oj hj
      split at h
      · cases h
      · rename_i t ht
        split at h
        · rename_i b hb
          obtain ⟨x, hx, dx⟩ := he t _ hb
          obtain rfl := den_v dx
          refine hl hx ?_
          unfold live
          simp only [hg, hj, ht, lk_cons_same]
          cases want <;> cases h <;> cases b <;> rfl
        · rename_i c b hb
          obtain ⟨x, hx, dx⟩ := he t _ hb
          refine hl hx ?_
          unfold live
          simp only [hg, hj, ht, lk_cons_same]
          cases dx with
          | gt h' =>
            obtain rfl := den_v h'
            cases want <;> cases h <;> cases b <;> rfl
          | gf => cases want <;> cases h <;> rfl
        · cases h
def wr : Option Bool → SV → SV
  | none, x => x
  | some b, x => .g b x
def wq : Option Bool → List Prop → List Prop
  | none, φ => φ
  | some b, φ => φ.map fun p => b = true → p
def tmpOf : Operand → Option Nat
  | .tmp t => some t
  | _ => none
def slotsO (arr : Array Oper) (o : Oper) : List Nat := o.op.operands.toList.filterMap tmpOf ++ (match o.guard with
  | none => []
  | some (j, _) => match arr[j]? with
    | none => []
    | some oj => match oj.dst with | none => [] | some t => [t])
def agree (arr : Array Oper) (o : Oper) (L L' : SL) : Prop := ∀ t ∈ slotsO arr o, lkS L' t = lkS L t
def updL (d : Option Nat) (sv : SV) (L : SL) : SL := match d with
  | some d => (d, sv) :: L
  | none => L
def opQ (P : Program) (arr : Array Oper) (o : Oper) (K : Act → World → Prop) (a : Act) (w : World) : Prop :=
  if Region.wanted o (yielded arr a.tmps) then wn P o a w K else K (a.put o.dst undef) w
theorem opQ_mono {P : Program} {arr : Array Oper} {o : Oper} {K K' : Act → World → Prop} (hK : ∀ a w, K a w → K' a w) {a w} (h : opQ P arr o K a w) : opQ P arr o K' a w := by
  unfold opQ at h ⊢
  split
  · rename_i hw; rw [if_pos hw] at h; exact wn_mono hK h
  · rename_i hw; rw [if_neg hw] at h; exact hK _ _ h
/-- The step, whatever else is known. -/
def Stp (X : Kx) (arr : Array Oper) (o : Oper) (L : SL) (M : SM) (fs : List MF) (own : List Res) (sv : SV) (M' : SM) : Prop :=
  ∀ L', agree arr o L L' → ∀ g a, ESt X L' M fs own g a → opQ X.P arr o (fun a' w' => ∃ g', g'.w = w' ∧ ESt X (updL o.dst sv L') M' fs own g' a') a g.w
def ES (X : Kx) (arr : Array Oper) (l : List Oper) (k : List It) (L : SL) (M : SM) (fs : List MF) (own : List Res) : Prop :=
  ∀ g a, ESt X L M fs own g a → wl X.P arr (cont X.P X.rd X.Q k .normal) l a g.w
def E (X : Kx) (k : List It) (L : SL) (M : SM) (fs : List MF) (own : List Res) : Prop :=
  ∀ g a, ESt X L M fs own g a → cont X.P X.rd X.Q k .normal a g.w
section
variable {X : Kx} {k : List It} {L : SL} {M : SM} {fs : List MF} {own : List Res} {arr : Array Oper} {l : List Oper} {o : Oper}
theorem ES_step {sv M'} (hs : Stp X arr o L M fs own sv M') (h : ES X arr l k (updL o.dst sv L) M' fs own) : ES X arr (o :: l) k L M fs own := by
  intro g a s
  have := hs L (fun _ _ => rfl) g a s
  show opQ X.P arr o (wl X.P arr (cont X.P X.rd X.Q k .normal) l) a g.w
  exact opQ_mono (fun a' w' ⟨g', hw, s'⟩ => hw ▸ h g' a' s') this
theorem ES_nil (h : E X k L M fs own) : ES X arr [] k L M fs own := h
theorem evs_agree {e e' : Nat → Option SV} : ∀ {os : List Operand}, (∀ t ∈ os.filterMap tmpOf, e' t = e t) → evs e' os = evs e os
  | [], _ => rfl
  | x :: r, h => by
    have hr := evs_agree (os := r) (e := e) (e' := e') (fun t ht => h t (by
      simp only [List.filterMap_cons]; split <;> simp [ht]))
    have hx : evS e' x = evS e x := by
      cases x with
      | tmp t => exact h t (by simp [tmpOf])
      | const v => cases v <;> rfl
      | _ => rfl
    unfold evs
    rw [hx, hr]
theorem gS_agree {L L' : SL} (h : agree arr o L L') : gS arr (lkS L') o = gS arr (lkS L) o := by
  unfold gS
  split
  · rfl
  · rename_i j want hg
    split
    · rfl
    · rename_i oj hj
      split
      · rfl
      · rename_i t ht
        rw [h t (by simp [slotsO, hg, hj, ht])]
theorem evs_agree' {L L' : SL} (h : agree arr o L L') : evs (lkS L') o.op.operands.toList = evs (lkS L) o.op.operands.toList :=
  evs_agree (fun t ht => h t (by simp [slotsO, ht]))
/-- A step out of what the operation reads. -/
theorem Stp_read {d : Nat} {sv : SV} {G : Option Bool} (hG : gS arr (lkS L) o = some G) (hd : o.dst = some d) (hn : Nat.blt d X.n = true)
    (hr : ∀ L', agree arr o L L' → isOn G = true → ∀ g a ρ ms, St X.toCx [] (F1 ρ M ms :: F2 X ρ L' a :: fs) (ms ++ own) g a → Reads X.toCx o a g ρ sv) : Stp X arr o L M fs own (wr G sv) M := by
  intro L' hL g a hE
  obtain ⟨ρ, ms, st⟩ := hE.open
  have hw := gS_ok st.kn (st.all (F2 X ρ L' a) (.tail _ (.head _))).val ((gS_agree hL).trans hG)
  unfold opQ
  rw [hw]
  by_cases hon : isOn G = true
  · rw [if_pos hon]
    obtain ⟨v, hrun, dv⟩ := hr L' hL hon g a ρ ms st
    simp only [wn, hrun, hd, updL]
    refine ⟨g, rfl, ESt.put st hn ?_⟩
    cases G with
    | none => exact dv
    | some b => have hb : b = true := hon; subst hb; exact .gt dv
  · rw [if_neg hon]
    simp only [hd, updL]
    refine ⟨g, rfl, ESt.put st hn ?_⟩
    cases G with
    | none => exact absurd rfl hon
    | some b =>
      have hb : b = false := by simpa [isOn] using hon
      subst hb; exact .gf
/-- What an operation reads, reckoned; not a choice. -/
def xread (tb : TT) (e : Nat → Option SV) (M : SM) (op : Op) : Option (SV × List Prop) :=
  match evs e op.operands.toList with
  | some svs => stK svs (fun sts => match xopv tb M op sts with
    | some (r, φ) => some (r, svs.flatMap cd1 ++ φ)
    | none => none)
  | none => none
theorem wq_ok {G : Option Bool} {φ : List Prop} (h : ∀ p ∈ wq G φ, p) (hG : isOn G = true) : ∀ p ∈ φ, p := by
  cases G with
  | none => exact h
  | some b =>
    intro p hp
    exact h _ (List.mem_map.2 ⟨p, hp, rfl⟩) hG
theorem Stp_x {tb : TT} (hT : tb.Ok X.P) {d : Nat} {sv : SV} {φ : List Prop} {G : Option Bool} (hG : gS arr (lkS L) o = some G) (hd : o.dst = some d) (hn : Nat.blt d X.n = true) (hx : xread tb (lkS L) M o.op = some (sv, φ)) (hφ : ∀ p ∈ wq G φ, p) :
    Stp X arr o L M fs own (wr G sv) M := by
  refine Stp_read hG hd hn (fun L' hL hon g a ρ ms st => ?_)
  unfold xread at hx
  split at hx
  · rename_i svs hsv
    rw [stK_eq] at hx
    split at hx
    · rename_i r φ' hop
      cases hx
      have hφ2 := wq_ok hφ hon
      have hsv' : evs (lkS L') o.op.operands.toList = some svs := (evs_agree' hL).trans hsv
      have h2 : ∀ t sv, lkS L' t = some sv → ∃ x, a.tmps[t]? = some x ∧ Den g ρ sv x := (st.all (F2 X ρ L' a) (.tail _ (.head _))).val
      obtain ⟨Lr, st', hev, _⟩ := st.slots (fun t sv ht => by obtain ⟨x, hx, _⟩ := h2 t sv ht; exact ⟨x, hx⟩) hsv'
      exact xopv_ok hT st' (st.all _ (.head _)) hev (sts_ok (evals_den h2 hsv') (fun p hp => hφ2 p (by simp only [List.mem_append]; exact .inl hp))) hop (fun p hp => hφ2 p (by simp only [List.mem_append]; exact .inr hp))
    · cases hx
  · cases hx
end
end Go.KX
