/- VC VD VE VG VJ VK VL VM. -/
import Derived.Test.YtomkgfdigldhcaaGreatDoorLIF
import Derived.ArgAppend
import Derived.Laws.MakeOwn
set_option maxRecDepth 100000
namespace Go.KX
def lC (D : Nat) : Deferred := { target := .collected D, args := #[] }
theorem cV.reQ {P : Program} {n : Nat} {g0 : GW} {B0 : List Nat} {Q Q' : Exit → Act → World → Prop} {rd rd' : Option Nat} {df : List Deferred} {ρ0 : Nat → Lc} {L : SL} {M : SM} {fs : List MF} {own : List aH} {g : GW} {a : Act}
 (h : cV ⟨⟨P, n, g0, B0, Q, rd, df⟩, ρ0⟩ L M fs own g a) : cV ⟨⟨P, n, g0, B0, Q', rd', df⟩, ρ0⟩ L M fs own g a := by
 obtain ⟨ρ, ms, s1, s2, s3⟩ := h.ex
 exact ⟨ρ, ms, ⟨s1.kn, s1.all, s1.own, s1.ext, s1.new⟩, s2, s3.pin, s3.val⟩
theorem St.putO {X : Cx} {L : LL} {fs : List MF} {own' : List aH} {g : GW} {a : Act} {b : Nat} {o : Obj} (s : St X L fs (aH.blk b o :: own') g a) (o' : Obj) : ∃ g', g'.w = g.w.putObj b o' ∧ St X L fs (aH.blk b o' :: own') g' a := by
 have hlt : b < g.w.heap.size := s.own.lt b (by simp [aH.blk])
 refine s.turn (r' := aH.blk b o') .head (fun c hc hn => World.putObj_heap_other (by simpa [aH.blk] using hn)) rfl rfl rfl (by rw [World.putObj_size]; exact Nat.le_refl _) (World.putObj_heap_same hlt) (by simp [aH.blk]) (fun c hc => ?_) (fun c hc => .inl hc)
 have : c = b := by simpa [aH.blk] using hc
 rw [this, World.putObj_size]; exact hlt
theorem St.alloc2 {X : Cx} {L : LL} {fs : List MF} {own : List aH} {g : GW} {a : Act} (s : St X L fs own g a) (o1 o2 : Obj) : ∃ g' : GW, g'.w = (g.w.alloc o1).alloc o2 ∧ St X L fs (aH.blk (g.w.heap.size + 1) o2 :: aH.blk g.w.heap.size o1 :: own) g' a := by
 have sL := (s.alloc o1).alloc o2
 have e : (g.w.alloc o1).heap.size = g.w.heap.size + 1 := size_alloc g.w o1
 simp only [e] at sL
 exact ⟨_, rfl, sL⟩
theorem EU (ps : Array Nat) (vs : List Value) (T : Array Value) : (ps.zip vs.toArray).foldl (fun tmps (p : Nat × Value) => tmps.setIfInBounds p.1 p.2) T = (ps.toList.zip vs).foldl (fun t p => t.setIfInBounds p.1 p.2) T := by
 rw [← Array.foldl_toList]
 simp
theorem JM {X : Kx} {k : List It} {L : SL} {M : SM} {fs : List MF} {fo : Operand} {ps : Array Tmp} {assign body : Code} {gf : FuncId} {caps : List SV} {args : List (List SV)} {ι : Type} (Ms : Nat → SM) (Mx : ι → SM) (hit : Itr X.P fs gf caps args)
 (hround : ∀ (j : Nat) a, args[j]? = some a → ∀ (l : Nat) g0 B0 ρ0 Q1 Q2 own1 own2 (J : Act → World → Prop),
  (∀ {L' M'}, E ⟨⟨X.P, X.n, g0, B0, Q2, some l, []⟩, ρ0⟩ [.code body] L' M' fs own2 → E ⟨⟨X.P, X.n, g0, B0, Q1, some l, []⟩, ρ0⟩ [.lp J] L' M' fs own1) →
  (∀ {L' M'}, b9 (Nat.ble 1000) M' = P5 (Ms (j + 1)) → E ⟨⟨X.P, X.n, g0, B0, Q2, some l, []⟩, ρ0⟩ [] L' M' fs own2) →
  (∀ {k' L' M'} (i : ι), b9 (Nat.ble 1000) M' = P5 (Mx i) → E ⟨⟨X.P, X.n, g0, B0, Q2, some l, []⟩, ρ0⟩ (.code .ret :: k') L' M' fs own2) →
  E ⟨⟨X.P, X.n, g0, B0, Q1, some l, []⟩, ρ0⟩ [.code assign, .lp J] (MM ps.toList a (W5 L)) (P5 (Ms j)) fs own1)
 (hk : ∀ D, E { X with df := [lC D] } k L (Ms args.length) fs [aH.blk D (.deferred (some []))])
 (hx : ∀ D i, E { X with df := [lC D] } (.code .ret :: k) L (Mx i) fs [aH.blk D (.deferred (some []))])
 (hcl : ∀ a ∈ args, nC a = true) (hps : ∀ a ∈ args, a.length = ps.size) (hfo : cO (aF L) fo = some (.f gf [] caps) := by rfl) (hpn : ps.toList.all (fun p => Nat.blt p X.n) = true := by rfl) (hM : b9 (vN (Ms 0)) M = Ms 0 := by rfl) (hrd : X.rd = none := by rfl) (hdf : X.df = [] := by rfl) : E X (.code (.rangeFunc fo ps assign body) :: k) L M fs [] := by
 intro g a hE
 obtain ⟨ρ, msl, s1, s2, s3⟩ := hE.ex
 obtain ⟨m1, m2, h4, h5⟩ := s2.keep (vN (Ms 0))
 rw [hM] at h4
 have st0 : St X.toCx [] fs m1 g a := (s1.perm (by simpa using h5)).drop
 have st : St X.toCx [] (F1 ρ (Ms 0) m1 :: F2 X ρ L a :: fs) m1 g a := ⟨st0.kn, dF.cons h4 (dF.cons s3 st0.all), st0.own, st0.ext, st0.new⟩
 have dfo := dJ s3.val hfo
 obtain ⟨xs, ys, hfe, d1, d2⟩ := vK dfo
 obtain rfl := d1.unnil
 show (Code.rangeFunc fo ps assign body).wpIn (N2 X.rd) 0 X.P (jP X.P X.rd X.Q k) a g.w
 refine wpIn_rangeFunc (fun fn _ => ?_)
 have hro : (N2 X.rd).round = none := hrd
 rw [hro]
 obtain ⟨D, hD⟩ : ∃ D, D = g.w.heap.size := ⟨_, rfl⟩
 obtain ⟨rec, hrec⟩ : ∃ rec : LoopState → Option Code → Loop, rec = fun st pe => { state := st, pending := pe, fn, tmps := a.tmps, params := ps, assign, body, defers := D } := ⟨_, rfl⟩
 obtain ⟨gL, hgL, sL⟩ := st.alloc2 (.deferred (some [])) (.loop (rec .ready none))
 rw [← hD] at sL
 have hent := run_enterLoop_outer (P := X.P) (w := g.w) fn a.tmps ps assign body
 rw [← hD, show ({ state := .ready, pending := none, fn, tmps := a.tmps, params := ps, assign, body, defers := D } : Loop) = rec .ready none by rw [hrec], ← hgL] at hent
 have hfe' : a.eval fo = .func (.func gf) #[] ys.toArray := hfe
 refine ⟨D + 1, [lC D], gL.w, { target := .fn (.func gf) ys.toArray, args := #[.func (.yield (D + 1)) #[] #[]] }, gL.w, gf, #[.func (.yield (D + 1)) #[] #[]] ++ ys.toArray, gL.w, hent, ?_, fun _ _ => trivial, ?_, fun h => by simp [Fence.wide] at h, (callsIn_wide (n := 0)).2 ?_⟩
 ·simp only [resolve, hfe']
  simp [go_sem]
 ·simp [invoke, go_sem, mC hit.1]
 have sL2 := sL.perm (own' := (aH.blk (D + 1) (.loop (rec .ready none)) :: m1) ++ [aH.blk D (.deferred (some []))]) (by
  simp only [List.cons_append]
  exact List.Perm.cons _ ((List.perm_append_comm (l₁ := [aH.blk D (.deferred (some []))]) (l₂ := m1))))
 have hF2 : (F2 X ρ L a).p gL := sL2.all _ (.tail _ (.head _))
 have hAL : dF fs gL := fun f hf => sL2.all f (.tail _ (.tail _ hf))
 let R : TM := {
  J := fun j g ms => ∃ mms, ms = aH.blk (D + 1) (.loop (rec .ready none)) :: mms ∧ aR g ρ (Ms j) mms ∧ (F2 X ρ L a).p g ∧ dF fs g
  Jx := fun g ms => ∃ i mms, ms = aH.blk (D + 1) (.loop (rec .done (some .ret))) :: mms ∧ aR g ρ (Mx i) mms ∧ (F2 X ρ L a).p g ∧ dF fs g
  mono := fun e ⟨mms, h1, h2, h3, h4⟩ => ⟨mms, h1, h2.mono e, (F2 X ρ L a).mono e h3, h4.mono e⟩
  monox := fun e ⟨i, mms, h1, h2, h3, h4⟩ => ⟨i, mms, h1, h2.mono e, (F2 X ρ L a).mono e h3, h4.mono e⟩ }
 have hcaps : aI gL ρ caps ys := by
  have dfo' := dJ (Sl.val hF2) hfo
  obtain ⟨_, ys', hfe2, _, d3⟩ := vK dfo'
  rw [hfe] at hfe2
  have : ys = ys' := by
   have := hfe2
   simp only [Value.func.injEq] at this
   exact List.toArray_inj this.2.2
  rw [this]; exact d3
 have hRnd : ET X.P (D + 1) R args := by
  rintro j av hj g1 ms ρa vs ⟨mms, rfl, hM1, hS1, hA1⟩ hO1 hd1
  have hmem : av ∈ args := List.mem_of_getElem? hj
  have hl : g1.w.heap[D + 1]? = some (.loop (rec .ready none)) := hO1.p _ (.head _)
  have hy := run_yield (P := X.P) (args := vs.toArray) hl (by rw [hrec]; simpa using hd1.1.trans (hps av hmem))
  rw [hrec] at hy
  refine ⟨fn, _, assign, body, hy, roundIn_of_wpIn (n := 0) (F := Fence.wide) trivial ?_⟩
  let ms := aH.blk (D + 1) (.loop (rec .ready none)) :: mms
  let ρ0 : Nat → Lc := fun i => ρ (i - 1000)
  have eρ : ∀ i, ρ0 (i + 1000) = ρ i := fun i => by simp [ρ0]
  let RR := RP g1 ms (R.J (j + 1)) R.Jx
  let Q2 := roundPost X.P (D + 1) RR
  let J1 : Act → World → Prop := fun a₁ w₁ => ∃ w₂, (Instr.beginRound (D + 1)).run X.P w₁ = .ok () w₂ ∧ body.wpIn (Fence.wide.inRound (D + 1)) 0 X.P (roundPost X.P (D + 1) RR) a₁ w₂
  have fin : ∀ (stt : LoopState) (pe : Option Code) {L' M' M1 g4 a4}, cV ⟨⟨X.P, X.n, g1, bV ms, Q2, some (D + 1), []⟩, ρ0⟩ L' M' fs [aH.blk (D + 1) (.loop { rec .ready none with state := .busy })] g4 a4 → b9 (Nat.ble 1000) M' = P5 M1 →
   g4.w.heap[D + 1]? = some (.loop { rec .ready none with state := .busy }) ∧ ∃ g' m4, g'.w = g4.w.putObj (D + 1) (.loop (rec stt pe)) ∧ oK (bV ms) g1 g' ∧ Own (aH.blk (D + 1) (.loop (rec stt pe)) :: m4) g' ∧ (∀ b ∈ bV (aH.blk (D + 1) (.loop (rec stt pe)) :: m4), b ∈ bV ms ∨ g1.w.heap.size ≤ b) ∧ aR g' ρ M1 m4 ∧ (F2 X ρ L a).p g' ∧ dF fs g' := by
   intro stt pe L' M' M1 g4 a4 s4 hk4
   obtain ⟨ρ4, ms4, t1, t2, t3⟩ := s4.ex
   obtain ⟨m4, m5, h6, h7⟩ := t2.keep (Nat.ble 1000)
   rw [hk4] at h6
   have e4 : ∀ i, ρ4 (i + 1000) = ρ i := fun i => (t3.pin _ (by omega)).trans (eρ i)
   have t1p := (t1.perm (own' := (aH.blk (D + 1) (.loop { rec .ready none with state := .busy }) :: m4) ++ m5) ((List.perm_append_comm (l₁ := ms4)).trans (List.Perm.cons _ h7))).drop
   have hl4 := t1p.own.p _ (.head _)
   have t5 : St _ [] (F1 ρ4 (P5 M1) m4 :: fs) _ g4 a4 := ⟨t1p.kn, dF.cons h6 t1p.all, t1p.own, t1p.ext, t1p.new⟩
   obtain ⟨g', hw, s'⟩ := t5.putO (.loop (rec stt pe))
   exact ⟨hl4, g', m4, hw, s'.ext, s'.own, s'.new, (show aR g' ρ4 (P5 M1) m4 from s'.all _ (.head _)).dn e4, (F2 X ρ L a).mono s'.ext.toFExt hS1, fun f hf => s'.all f (.tail _ hf)⟩
  have key := hround j av hj (D + 1) g1 (bV ms) ρ0 (fun _ _ _ => False) Q2 [aH.blk (D + 1) (.loop (rec .ready none))] [aH.blk (D + 1) (.loop { rec .ready none with state := .busy })] J1 ?_ ?_ ?_
  ·refine key g1 { tmps := _, defers := [] } ?_
   have hd1' : aI g1 ρ0 av vs := hd1.swap (hcl av hmem) ρ0
   have hsz : a.tmps.size = X.n := st0.kn.size
   obtain ⟨h8, h9⟩ := BJ ps.toList (g := g1) (ρ := ρ0) (svs := av) (xs := vs) (L := W5 L) (T := a.tmps) (by rw [hsz]; exact hpn) hd1' (fun t sv ht => by
    obtain ⟨s0, h10, rfl⟩ := HU ht
    obtain ⟨x, hx, dx⟩ := Sl.val hS1 t s0 h10
    exact ⟨x, hx, dx.up eρ⟩)
   rw [← EU] at h8 h9
   exact ⟨ρ0, mms, ⟨⟨h8.trans hsz, rfl, fun i v hi => by simp [lk] at hi⟩, hA1, hO1.perm (List.perm_append_comm (l₁ := [_])), oK.refl _ g1, fun b hb => .inl ((cX (List.perm_append_comm (l₁ := mms) (l₂ := [_]))).subset hb)⟩, hM1.up eρ, fun _ _ => rfl, h9⟩
  ·intro L' M' hb g2 a2 hs2
   obtain ⟨ρ2, ms2, t2⟩ := hs2.open
   have t3 := t2.perm (List.perm_append_comm (l₂ := [aH.blk (D + 1) (.loop (rec .ready none))]))
   have hl2 : g2.w.heap[D + 1]? = some (.loop (rec .ready none)) := t3.own.p _ (.head _)
   obtain ⟨g3, hw3, t4⟩ := St.putO t3 (.loop { rec .ready none with state := .busy })
   refine ⟨_, run_beginRound hl2 (by rw [hrec]), ?_⟩
   rw [← hw3]
   exact hb g3 a2 (cV.reQ (cV.close (t4.perm (List.perm_append_comm (l₁ := [_]) (l₂ := ms2)))))
  ·intro L' M' hk4 g4 a4 s4
   obtain ⟨hl4, g', m4, hw, q1, q2, q3, q4, q5, q6⟩ := fin .ready none s4 hk4
   have hr := run_endRound (P := X.P) none hl4
   refine ⟨_, _, hr, .bool true, g', aH.blk (D + 1) (.loop (rec .ready none)) :: m4, rfl, ?_, q1, q2, q3, .inl ⟨rfl, m4, rfl, q4, q5, q6⟩⟩
   rw [hw, hrec]; rfl
  ·intro k' L' M' i hk4 g4 a4 s4
   obtain ⟨hl4, g', m4, hw, q1, q2, q3, q4, q5, q6⟩ := fin .done (some .ret) s4 hk4
   refine wpIn_ret ?_
   have hr := run_endRound (P := X.P) (some .ret) hl4
   rw [dU]
   refine ⟨_, _, hr, .bool false, g', aH.blk (D + 1) (.loop (rec .done (some .ret))) :: m4, rfl, ?_, q1, q2, q3, .inr ⟨rfl, i, m4, rfl, q4, q5, q6⟩⟩
   rw [hw, hrec]; rfl
 refine (hit.2 (D + 1) R ρ gL ys _ hAL hcaps hRnd ⟨m1, rfl, sL2.all _ (.head _), hF2, hAL⟩ sL2.own.left).mono ?_
 rintro e w2 ⟨v, g2, ms2, rfl, rfl, hE2, hO2, hN2, hJ2⟩
 have s5 := sL2.frame (fsc := []) (fs' := []) (lI.app _ [aH.blk D (.deferred (some []))]) hE2 (fun f hf => (by cases hf)) hO2 hN2 .nil
 have fin : ∀ (stt : LoopState) (pe : Option Code) mms M1, ms2 = aH.blk (D + 1) (.loop (rec stt pe)) :: mms → aR g2 ρ M1 mms → (F2 X ρ L a).p g2 → dF fs g2 →
  g2.w.heap[D + 1]? = some (.loop (rec stt pe)) ∧ ∃ g3 : GW, g3.w = g2.w.putObj (D + 1) (.loop { rec stt pe with state := .exhausted }) ∧ cV { X with df := [lC D] } L M1 fs [aH.blk D (.deferred (some []))] g3 { a with defers := [lC D] ++ a.defers } := by
  rintro stt pe mms M1 rfl hM3 hS3 hA3
  have s6 : St X.toCx [] (F1 ρ M1 mms :: F2 X ρ L a :: fs) (aH.blk (D + 1) (.loop (rec stt pe)) :: (mms ++ [aH.blk D (.deferred (some []))])) g2 a := ⟨s5.kn, dF.cons hM3 (dF.cons hS3 hA3), s5.own, s5.ext, s5.new⟩
  obtain ⟨g3, hw3, s7⟩ := s6.putO (.loop { rec stt pe with state := .exhausted })
  refine ⟨s6.own.p _ (.head _), g3, hw3, ?_⟩
  have s8 := (s7.perm (List.perm_append_comm (l₁ := [_]))).drop
  have hS4 : Sl X ρ L a g3 := s8.all _ (.tail _ (.head _))
  refine ⟨ρ, mms, ⟨⟨s8.kn.size, ?_, fun i v hi => by simp [lk] at hi⟩, fun f hf => s8.all f (.tail _ (.tail _ hf)), s8.own, s8.ext, s8.new⟩, s8.all _ (.head _), hS4.pin, hS4.val⟩
  show [lC D] ++ a.defers = [lC D]
  rw [s8.kn.defers, hdf]; rfl
 rcases hJ2 with ⟨mms, hms, hM3, hS3, hA3⟩ | ⟨i, mms, hms, hM3, hS3, hA3⟩
 ·obtain ⟨hl2, g3, hw3, hs⟩ := fin _ _ mms _ hms hM3 hS3 hA3
  have hr := run_endLoop (P := X.P) hl2 (by rw [hrec]; simp)
  have hp : (rec .ready none).pending = none := by rw [hrec]
  exact ⟨(rec .ready none).pending, g3.w, by rw [hw3]; exact hr, by rw [hp]; exact hk D g3 _ hs⟩
 ·obtain ⟨hl2, g3, hw3, hs⟩ := fin _ _ mms _ hms hM3 hS3 hA3
  have hr := run_endLoop (P := X.P) hl2 (by rw [hrec]; simp)
  have hp : (rec .done (some .ret)).pending = some .ret := by rw [hrec]
  exact ⟨(rec .done (some .ret)).pending, g3.w, by rw [hw3]; exact hr, by rw [hp]; exact hx D i g3 _ hs⟩
structure Rm (X : Kx) (fs : List MF) (tb : TT) (rs : List ResultVar) (res : SV) (D : Nat) : Prop where
 ret : ∀ {k L M svs}, fV tb L M rs = some svs → t8 (bB svs) = true → bB svs = res → E X (.code .ret :: k) L M fs [aH.blk D (.deferred (some []))]
 fall : ∀ {L M svs}, fV tb L M rs = some svs → t8 (bB svs) = true → bB svs = res → E X [] L M fs [aH.blk D (.deferred (some []))]
theorem fbm {P : Program} {fs : List MF} {tb : TT} (hT : tb.Ok P) {f : FuncId} {fn : Func} {c : Code} {args : List SV} {res : SV} (n : Nat) (rs : List ResultVar)
 (hf : P.funcs[f]? = some fn) (hrs : fn.results = rs.toArray) (h : ∀ g0 B0 Q ρ0, Rt ⟨⟨P, n, g0, B0, Q, none, []⟩, ρ0⟩ fs tb rs (fun sv _ => sv = res) → (∀ D, Rm ⟨⟨P, n, g0, B0, Q, none, [lC D]⟩, ρ0⟩ fs tb rs res D) → E ⟨⟨P, n, g0, B0, Q, none, []⟩, ρ0⟩ [.code c] (mT args 0) [] fs []) (hb : fn.body = some c := by rfl)
 (hname : (fn.name == "runtime.NumGoroutine") = false := by kernel_rfl) (hn : fn.ntmps = n := by rfl) (hle : args.length ≤ n := by exact Nat.le_of_ble_eq_true rfl) : Fc P fs f args res := by
 refine ⟨⟨fn, hf, by simp [hb], hname⟩, fun ρ g vs hfs ha => ?_⟩
 refine (callsIn_wide (n := 0)).1 (callsIn_of_wp_marks hf hb trivial ?_)
 let Post : Ending → World → Prop := fun e w' => ∃ v g', e = .returned v ∧ g'.w = w' ∧ oK [] g g' ∧ bC g' ρ res v
 have hpost0 : ∀ (a : Act) (g' : GW) L M' svs, fV tb L M' rs = some svs → t8 (bB svs) = true → bB svs = res → cV ⟨⟨P, n, g, [], bodyPostM Fence.wide 0 P fn Post, none, []⟩, ρ⟩ L M' fs [] g' a → LeavesInM Fence.wide 0 P fn a.tmps Post a.defers .returning g'.w := by
  intro a g' L M' svs h1 h2 h3 hst
  obtain ⟨ρ', ms', s1, s2, s3⟩ := hst
  obtain ⟨v, hv, dv⟩ := iG (X := ⟨⟨P, n, g, [], _, none, []⟩, ρ⟩) hT s1 s2 s3 hrs h1
  rw [s1.kn.defers]
  exact ⟨v, hv, v, g', rfl, rfl, s1.ext, h3 ▸ dv.hi h2 ρ s3.pin⟩
 have hpost : ∀ D (a : Act) (g' : GW) L M' svs, fV tb L M' rs = some svs → t8 (bB svs) = true → bB svs = res → cV ⟨⟨P, n, g, [], bodyPostM Fence.wide 0 P fn Post, none, [lC D]⟩, ρ⟩ L M' fs [aH.blk D (.deferred (some []))] g' a → LeavesInM Fence.wide 0 P fn a.tmps Post a.defers .returning g'.w := by
  intro D a g' L M' svs h1 h2 h3 hst
  obtain ⟨ρ', ms', st⟩ := hst.open
  have s1 := st.perm (List.perm_append_comm (l₂ := [aH.blk D (.deferred (some []))]))
  have hl : g'.w.heap[D]? = some (.deferred (some [])) := s1.own.p _ (.head _)
  obtain ⟨g2, hw, s2⟩ := St.putO s1 (.deferred none)
  have s3 := s2.perm (List.perm_append_comm (l₁ := [_]) (l₂ := ms'))
  have hS : Sl ⟨⟨P, n, g, [], bodyPostM Fence.wide 0 P fn Post, none, [lC D]⟩, ρ⟩ ρ' L a g2 := s3.all _ (.tail _ (.head _))
  obtain ⟨v, hv, dv⟩ := iG (X := ⟨⟨P, n, g, [], _, none, [lC D]⟩, ρ⟩) hT s3 (s3.all _ (.head _)) hS hrs h1
  rw [s1.kn.defers]
  refine ⟨by simp, .inl ⟨D, g2.w, rfl, by rw [hw]; exact run_takeDeferred hl, v, hv, v, g2, rfl, rfl, s3.ext, h3 ▸ dv.hi h2 ρ hS.pin⟩⟩
 refine h g [] (bodyPostM Fence.wide 0 P fn Post) ρ ⟨?_, ?_, fun _ _ _ h => h⟩ (fun D => ⟨?_, ?_⟩) g _ ?_
 ·intro k L M' svs h1 h2 _ h4 g' a hst
  refine wpIn_ret ?_
  rw [dU]
  exact hpost0 a g' L M' svs h1 h2 h4 hst
 ·intro L M' svs h1 h2 _ h4 g' a hst
  exact hpost0 a g' L M' svs h1 h2 h4 hst
 ·intro k L M' svs h1 h2 h4 g' a hst
  refine wpIn_ret ?_
  rw [dU]
  exact hpost D a g' L M' svs h1 h2 h4 hst
 ·intro L M' svs h1 h2 h4 g' a hst
  exact hpost D a g' L M' svs h1 h2 h4 hst
 ·refine ⟨ρ, [], ⟨⟨by simp [hn, ha.1]; omega, rfl, fun i v hi => by simp [lk] at hi⟩, hfs, ⟨fun r hr => (by cases hr), List.nodup_nil, fun b hb => (by cases hb), fun b hb => (by cases hb)⟩, oK.refl _ g, fun b hb => (by cases hb)⟩, .nil, fun i _ => rfl, fun t sv ht => ?_⟩
  obtain ⟨j, rfl, hj⟩ := lK args 0 t sv ht
  obtain ⟨x, hx, dx⟩ := ha.get hj
  refine ⟨x, ?_, dx⟩
  have hlt : j < vs.length := by
   rcases Nat.lt_or_ge j vs.length with h | h
   ·exact h
   ·rw [List.getElem?_eq_none h] at hx; cases hx
  simp only [Nat.zero_add]
  rw [Array.getElem?_append_left (by simpa using hlt)]
  simpa using hx
section
variable {X : Kx} {k : List It} {L : SL} {M : SM} {fs : List MF} {arr : Array Oper} {l : List Oper} {o : Oper} {tb : TT} {rs : List ResultVar}
theorem erm {res : SV} {svs : List SV} {k' : List It} {D : Nat} (n : Nat) (R : Rm X fs tb rs res D) (he : bB svs = res) (hk : cQ (aF L) 64 n k = .code .ret :: k' := by rfl) (hr : fV tb L M rs = some svs := by rfl) (hh : t8 (bB svs) = true := by rfl) : E X k L M fs [aH.blk D (.deferred (some []))] :=
 dK 64 n (hk ▸ R.ret hr hh he)
theorem srm {res : SV} {svs : List SV} {k' : List It} {D : Nat} (n : Nat) (R : Rm X fs tb rs res D) (he : bB svs = res) (hk : cQ (aF L) 64 n k = .code .ret :: k' := by rfl) (hr : fV tb L M rs = some svs := by rfl) (hh : t8 (bB svs) = true := by rfl) : ES X arr [] k L M fs [aH.blk D (.deferred (some []))] := jI (erm n R he hk hr hh)
end
section
variable {X : Kx} {k : List It} {L : SL} {M : SM} {fs : List MF} {own : List aH} {arr : Array Oper} {l : List Oper} {o : Oper}
theorem X2 {tb : TT} (hT : tb.Ok X.P) {T d : Nat} {t : TD} (hg : o.guard = none) (ho : o.op = .alloc T) (hd : o.dst = some d) (hn : Nat.blt d X.n = true) (ht : tb.get T = some t) (hok : (N3 (inj t.z) && Nat.blt d 1000) = true) (hoc : eM d M = false) (hoL : cU d L = false) : G4 X arr o L M fs own (.l d 0) ((d, .c T (aN (inj t.z))) :: M) := by
 intro L' hL hf g a hE
 have hfr : cU d L' = false := hf d (by unfold O0; rw [ho]; exact hd) hoL
 have hx : vI tb L' M o.dst o.op = some ((d, .l d 0) :: L', (d, .c T (aN (inj t.z))) :: M, []) := by
  rw [hd, ho]
  simp only [vI, ht, hok, hfr, hoc, Bool.or_false]
 have := G2 (l := []) (arr := arr) (k := [.lp fun a' w' => ∃ g', g'.w = w' ∧ cV X ((d, .l d 0) :: L') ((d, .c T (aN (inj t.z))) :: M) fs own g' a']) hT hg (fun d' h => by rw [hd] at h; cases h; exact hn) hx (fun p hp => by cases hp) (fun g' a' h => ⟨g', rfl, h⟩) g a hE
 have h2 : rY X.P arr o (fun a' w' => ∃ g', g'.w = w' ∧ cV X ((d, .l d 0) :: L') ((d, .c T (aN (inj t.z))) :: M) fs own g' a') a g.w := this
 rw [hd]
 exact h2
theorem dal {tb : TT} (hT : tb.Ok X.P) (m : Nat) (H : List (List SV)) {un i d T : Nat} {D r π' : List Nat} {Ms Ms' : List SM} {t : TD} {L' M' φ} (hk : ED X arr k fs own un D π' L' M' Ms') (hi : arr[i]? = some o := by rfl) (hu : un.testBit i = true := by rfl) (hg : o.guard = none := by rfl) (ho : o.op = .alloc T := by rfl) (hd : o.dst = some d := by rfl) (hn : Nat.blt d X.n = true := by rfl) (ht : tb.get T = some t := by rfl) (hok : (N3 (inj t.z) && Nat.blt d 1000) = true := by rfl) (hoc : eM d M = false := by rfl) (hoL : cU d L = false := by rfl)
 (hr : f9 tb X.n arr un D m H r ((d, .l d 0) :: L) ((d, .c T (aN (inj t.z))) :: M) (M :: Ms) [] = some (π', L', M', Ms', φ) := by rfl) (hφ : aE φ := by first | trivial | omega | (simp +contextual [aE]; done)) : ED X arr k fs own un D (i :: r) L M Ms := by
 refine ⟨o, .l d 0, hi, ?_⟩
 rw [hu]
 refine ⟨_, X2 hT hg ho hd hn ht hok hoc hoL, ?_⟩
 rw [hd]
 exact xd hT m H hk hr hφ
def BK (i : Nat) (mb : MB) : List SM → Prop
 | [] => True
 | M :: r => fZ M i = some mb ∧ BK i mb r
theorem jA {i : Nat} {mb : MB} : ∀ {Ms : List SM}, BK i mb Ms → ∀ {q : Nat} {M}, Ms[q]? = some M → fZ M i = some mb
 | [], _, q, M, h => by simp at h
 | M :: Ms, ⟨h1, h2⟩, q, M', h => by
   cases q with
   | zero => simp at h; exact h ▸ h1
   | succ q => exact jA h2 (by simpa using h)
end
def P6 (i j : Nat) (mb : MB) : SM → SM
 | [] => []
 | (k, m) :: r => match Nat.beq i k with
  | true => (j, mb) :: r
  | false => (k, m) :: P6 i j mb r
theorem P7 {j : Nat} {k : Nat} {m : MB} {r : SM} (h : eM j ((k, m) :: r) = false) : eM j [(k, m)] = false ∧ eM j r = false := by
 cases m <;> simp only [eM, Bool.or_eq_false_iff, Bool.or_false] at h ⊢ <;> simp_all
theorem aR.rn {g : GW} {ρ : Nat → Lc} : ∀ {M : SM} {ms : List aH} {i j : Nat} {mb : MB}, eM j M = false → aR g ρ M ms → fZ M i = some mb → ∃ r m1 m2, ms = m1 ++ r :: m2 ∧ bQ g ρ i mb r ∧
 ∀ g' y r' mb', aR g' ρ M (m1 ++ r :: m2) → bQ g' (fun k => if k = j then y else ρ k) j mb' r' → aR g' (fun k => if k = j then y else ρ k) (P6 i j mb' M) (m1 ++ r' :: m2)
 | [], _, _, _, _, _, _, h => by cases h
 | (k, m) :: M, _, i, j, mb, ho, @aR.cons _ _ _ _ _ r0 ms0 hb t, h => by
  obtain ⟨ho1, ho2⟩ := P7 ho
  unfold fZ at h
  cases hij : Nat.beq i k with
  | true =>
    rw [hij] at h
    simp only [Option.some.injEq] at h
    subst h
    obtain rfl := Nat.eq_of_beq_eq_true hij
    refine ⟨r0, [], ms0, rfl, hb, fun g' y r' mb' hM hB => ?_⟩
    simp only [P6, hij]
    cases hM with
    | cons _ t' => exact .cons hB (dH t' ho2)
  | false =>
    rw [hij] at h
    obtain ⟨r, m1, m2, rfl, hB, hu⟩ := aR.rn (M := M) ho2 t h
    refine ⟨r, r0 :: m1, m2, rfl, hB, fun g' y r' mb' hM hB' => ?_⟩
    simp only [P6, hij]
    cases hM with
    | cons hb' t' =>
      have := dH (y := y) (.cons hb' .nil : aR g' ρ [(k, m)] [r0]) ho1
      cases this with
      | cons hb2 _ => exact .cons hb2 (hu g' y r' mb' t' hB')
section
variable {X : Kx} {k : List It} {L : SL} {M : SM} {fs : List MF} {own : List aH} {arr : Array Oper} {l : List Oper} {o : Oper}
theorem eri (t i j : Nat) {n T sz : Nat} {rows : List (List SV)} (h : E X k ((t, .o i n) :: UP i [] L) (P6 j i (.r T sz rows) M) fs own) (ht : aF L t = some (.o j n) := by rfl) (hm : fZ M j = some (.r T sz rows) := by rfl) (hoc : eM i M = false := by rfl) (hlt : Nat.blt i 1000 = true := by rfl) : E X k L M fs own := by
 intro g a s
 obtain ⟨ρ, ms, h1, h2, h3⟩ := s
 have hlt : i < 1000 := by simpa [Nat.blt_eq] using hlt
 obtain ⟨r, m1, m2, rfl, hB, hu⟩ := h2.rn hoc hm
 have hB' : bQ g (fun k => if k = i then ρ j else ρ k) i (.r T sz rows) r := by
  cases hB with
  | r hz ys hl hd =>
    have := bQ.r (g := g) (ρ := fun k => if k = i then ρ j else ρ k) (i := i) (T := T) hz ys hl hd
    simpa using this
 refine h g a ⟨fun k => if k = i then ρ j else ρ k, m1 ++ r :: m2, h1, hu g (ρ j) r _ h2 hB', fun q hq => ?_, fun u sv hu' => ?_⟩
 ·have : q ≠ i := by omega
  simp only [if_neg this]; exact h3.pin q hq
 ·by_cases hut : u = t
  ·subst hut
   rw [bF] at hu'
   cases hu'
   obtain ⟨x, hx, dx⟩ := h3.val u _ ht
   refine ⟨x, hx, ?_⟩
   cases dx with
   | o =>
     have : bC g (fun k => if k = i then ρ j else ρ k) (.o i n) (.slice ((fun k => if k = i then ρ j else ρ k) i).ad n ((fun k => if k = i then ρ j else ρ k) i).c) := .o
     simpa using this
  ·rw [bX _ _ hut] at hu'
   obtain ⟨_, h4, h5⟩ := wI hu'
   obtain ⟨x, hx, dx⟩ := h3.val u sv h4
   exact ⟨x, hx, dx.upd h5⟩
theorem P8 {tb : TT} (hT : tb.Ok X.P) {d T Te i n sz z : Nat} {x y : Operand} {rows rows2 : List (List SV)} {dT de : TD} (hn : n = rows.length) (hz2 : rows2 ≠ [] → z = sz) (hbig : (rows.length + rows2.length) * de.by_ ≤ 140737488355328) (ho : o.op = .call ⟨.builtin .append, #[x, y], #[T, T]⟩) (hg : o.guard = none) (hd : o.dst = some d) (hdn : Nat.blt d X.n = true)
 (hx : cO (aF L) x = some (.o i n)) (hy : cO (aF L) y = some (.s z rows2)) (hm : fZ M i = some (.r Te sz rows)) (hT1 : tb.get T = some dT) (hk1 : dT.kd = .sl Te) (hT2 : tb.get Te = some de) (hsz : de.sz = sz) (hzl : Nat.beq (aN (inj de.z)).length de.sz = true) (hby : 1 ≤ de.by_) (hoL : cU d L = false) (hoM : eM d M = false) (hi1 : Nat.blt d 1000 = true) :
 G4 X arr o L M fs own (.o d (rows ++ rows2).length) (P6 i d (.r Te sz (rows ++ rows2)) M) := by
 subst hsz hn
 intro L' hL hf g a hE
 have hoL' : cU d L' = false := hf d (by unfold O0; rw [ho]; exact hd) hoL
 obtain ⟨ρ, ms, st⟩ := hE.open
 have hSl : Sl X ρ L' a g := st.all _ (.tail _ (.head _))
 have hw : Region.wanted o (yielded arr a.tmps) = true := aX (L := []) st.kn (cA hg)
 unfold rY
 rw [if_pos hw]
 have hi1 : d < 1000 := by simpa [Nat.blt_eq] using hi1
 have hM : aR g ρ M ms := st.all _ (.head _)
 obtain ⟨r, m1, m2, rfl, hB, hup⟩ := hM.rn hoM hm
 have hev : evs (aF L') [x, y] = some [.o i rows.length, .s z rows2] := by
  have := aW hL
  rw [show o.op.operands.toList = [x, y] by rw [ho]; rfl] at this
  rw [this]
  simp only [evs, hx, hy]
 obtain ⟨_, _, e1, dx, hr1⟩ := (aT hSl.val hev).uncons
 obtain ⟨_, _, e2, dy, _⟩ := hr1.uncons
 simp only [List.map_cons, List.cons.injEq] at e1
 obtain ⟨rfl, rfl⟩ := e1
 simp only [List.cons.injEq] at e2
 obtain ⟨rfl, _⟩ := e2
 generalize hvx : a.eval x = vx at dx
 generalize hvy : a.eval y = vy at dy
 have u := (TT.get_ok hT hT1).kd
 rw [hk1] at u
 have hti := (TT.get_ok hT hT2).ti
 have hzs : de.z.cells.size = de.sz := mE (Nat.eq_of_beq_eq_true hzl)
 cases hB with
 | r hz ys hl hdd =>
   cases dx with
   | o =>
     cases dy with
     | s xs h1 h2 hxl hxr hxo hne hxd =>
       rename_i ad2 c2
       have hxl2 : xs.length = rows2.length * de.sz := by
        by_cases he : rows2 = []
        ·rw [he] at hxl ⊢; simpa using hxl
        ·rw [← hz2 he]; exact hxl
       obtain ⟨ys2, hyl2, hyf⟩ := chunks hz rows2.length xs hxl2 hxo.1
       have hp : (m1 ++ aH.arr (aC de.sz hz) Te (ρ i).ad (ρ i).c ys :: m2 ++ own).Perm (aH.arr (aC de.sz hz) Te (ρ i).ad (ρ i).c ys :: (m1 ++ m2 ++ own)) := by
        simp only [List.append_assoc, List.cons_append]
        exact List.perm_middle
       have stp0 := st.perm hp
       have stp : St X.toCx [] (gP ys rows :: gP ys2 rows2 :: F1 ρ M _ :: F2 X ρ L' a :: fs) _ g a := ⟨stp0.kn, dF.cons hdd (dF.cons (fun ρ' k x r hk hr => by
        have hrl : r.length = de.sz := by
         have hne2 : rows2 ≠ [] := by intro e; subst e; simp at hr
         rw [← hz2 hne2]; exact hxr r (List.mem_of_getElem? hr)
        refine ⟨by rw [x.2.1, hrl], fun j sv v hj hv => ?_⟩
        have hf := flat_get (aC de.sz hz) ys2 k j x v hk hv
        rw [hyf] at hf
        have hne2 : rows2 ≠ [] := by intro e; subst e; simp at hr
        exact hxd ρ' k j r sv v hr hj (by rw [hz2 hne2]; exact hf)) stp0.all), stp0.own, stp0.ext, stp0.new⟩
       have hown : g.w.ownsRow 0 Te de.sz (.slice (ρ i).ad ys.length (ρ i).c) ys.length (flat (aC de.sz hz) ys) := stp.own.p _ (.head _)
       have hbig' : (ys.length + rows2.length) * de.by_ ≤ 140737488355328 := by rw [hl]; exact hbig
       have h63 : ys.length + rows2.length ≤ maxLen := by
        have : ys.length + rows2.length ≤ (ys.length + rows2.length) * de.by_ := Nat.le_mul_of_pos_right _ hby
        simp only [maxLen]; omega
       have hrun : ∃ v' w', (Builtin.append_ #[T, T] o.type #[.slice (ρ i).ad ys.length (ρ i).c, .slice ad2 rows2.length c2]).run X.P g.w = .ok v' w' ∧ vA g.w w' Te de.sz (.slice (ρ i).ad ys.length (ρ i).c) v' (ys ++ ys2).length (flat (aC de.sz hz) (ys ++ ys2)) := by
        rw [List.length_append, tP, hyl2, hyf]
        cases ad2 with
        | none =>
          have hr2 : rows2 = [] := by
           rcases rows2 with _ | ⟨q, qs⟩
           ·rfl
           ·obtain ⟨_, _, he, _⟩ := hne (by simp); cases he
          subst hr2
          have hx0 : xs = [] := List.eq_nil_of_length_eq_zero (by simpa using hxl)
          subst hx0
          obtain ⟨i0, hi0, hs0, hb0, hz0⟩ := hti
          refine ⟨.slice (ρ i).ad ys.length (ρ i).c, g.w, ?_, by simpa using hown, ⟨rfl, rfl, rfl, Nat.le_refl _, fun _ _ _ => rfl⟩, fun b hb => .inl hb⟩
          rcases hown.2 with ⟨hv, _⟩ | ⟨gg, cap, cur, hv, _, _, hnc, _⟩
          ·injection hv with e1 e2 e3
           simp [Builtin.append_, run_underlying u, sizeOf, typeInfo, hi0, Builtin.lenOf, Builtin.firstCells, e1, e2, e3]
          ·injection hv with e1 e2 e3
           subst e3
           simp [Builtin.append_, run_underlying u, sizeOf, typeInfo, hi0, Builtin.lenOf, Builtin.firstCells, e1, hnc, storeCells]
        | some ad2 =>
          exact IW u hti hzs hz hown hxl2 (fun j v hv => by
           have hne2 : rows2 ≠ [] := by intro e; subst e; simp at hxl2; subst hxl2; simp at hv
           obtain ⟨b, oo, he, _, hc⟩ := hne hne2
           cases he
           rw [addr_add]
           exact hc j v hv) hxo.1 h63 hbig'
       obtain ⟨v', w', hr0, h1'⟩ := hrun
       obtain ⟨ad', c', g', rfl, rfl, s'⟩ := stp.appd .head h1'
       have hre : (execOp a.eval o).run X.P g.w = .ok (.value (.slice ad' (ys ++ ys2).length c')) g'.w := by
        simp only [execOp, ho, resolve]
        simp only [List.map_toArray, List.map_cons, List.map_nil, hvx, hvy, ← hl]
        simp [invoke, builtin, hr0]
       simp only [wn, hre, hd]
       let y : Lc := ⟨(ρ i).b, ad', c'⟩
       have hd1 : (gP ys rows).p g' := s'.all _ (.head _)
       have hd2 : (gP ys2 rows2).p g' := s'.all _ (.tail _ (.head _))
       have hSl' : Sl X ρ L' a g' := s'.all (F2 X ρ L' a) (.tail _ (.tail _ (.tail _ (.head _))))
       have hM' : aR g' ρ M (m1 ++ _ :: m2) := s'.all (F1 ρ M _) (.tail _ (.tail _ (.head _)))
       have hBn : bQ g' (fun k => if k = d then y else ρ k) d (.r Te de.sz (rows ++ rows2)) (aH.arr (aC de.sz hz) Te ((fun k => if k = d then y else ρ k) d).ad ((fun k => if k = d then y else ρ k) d).c (ys ++ ys2)) := .r hz (ys ++ ys2) (by simp [hl, hyl2]) (fun ρ' k x r hk hr => by
        rw [List.getElem?_append] at hk hr
        rw [hl] at hk
        split at hr
        ·rename_i hlt; rw [if_pos hlt] at hk; exact hd1 ρ' k x r hk hr
        ·rename_i hlt; rw [if_neg hlt] at hk; exact hd2 ρ' _ x r hk hr)
       simp only [if_pos] at hBn
       have hMn := hup g' y _ _ hM' (by simpa using hBn)
       have hp2 : (aH.arr (aC de.sz hz) Te ad' c' (ys ++ ys2) :: (m1 ++ m2 ++ own)).Perm (m1 ++ aH.arr (aC de.sz hz) Te ad' c' (ys ++ ys2) :: m2 ++ own) := by
        simp only [List.append_assoc, List.cons_append]
        exact List.perm_middle.symm
       have s2 := s'.perm hp2
       have s3 : St X.toCx [] (F1 (fun k => if k = d then y else ρ k) (P6 i d (.r Te de.sz (rows ++ rows2)) M) (m1 ++ aH.arr (aC de.sz hz) Te ad' c' (ys ++ ys2) :: m2) :: F2 X (fun k => if k = d then y else ρ k) L' a :: fs) (m1 ++ aH.arr (aC de.sz hz) Te ad' c' (ys ++ ys2) :: m2 ++ own) g' a := ⟨s2.kn, dF.cons hMn (dF.cons ⟨fun q hq => by
        have : q ≠ d := by omega
        simp only [if_neg this]; exact hSl'.pin q hq, fun t sv ht => by
        obtain ⟨x, hx, dx⟩ := hSl'.val t sv ht
        exact ⟨x, hx, dx.upd (c8 hoL' t sv ht)⟩⟩ (fun f hf => s2.all f (.tail _ (.tail _ (.tail _ (.tail _ hf)))))), s2.own, s2.ext, s2.new⟩
       refine ⟨g', rfl, cV.put s3 hdn ?_⟩
       have hlen : (ys ++ ys2).length = (rows ++ rows2).length := by simp [hl, hyl2]
       rw [hlen]
       have : bC g' (fun k => if k = d then y else ρ k) (.o d (rows ++ rows2).length) (.slice ((fun k => if k = d then y else ρ k) d).ad (rows ++ rows2).length ((fun k => if k = d then y else ρ k) d).c) := .o
       simpa [y] using this
theorem dap {tb : TT} (hT : tb.Ok X.P) (m : Nat) (H : List (List SV)) {un q d T Te i n sz z : Nat} {D r π' : List Nat} {Ms Ms' : List SM} {x y : Operand} {rows rows2 : List (List SV)} {dT de : TD} {L' M' φ} (hn : n = rows.length) (hz2 : rows2 ≠ [] → z = sz) (hbig : (rows.length + rows2.length) * de.by_ ≤ 140737488355328) (hk : ED X arr k fs own un D π' L' M' Ms') (hi : arr[q]? = some o := by rfl) (hu : un.testBit q = true := by rfl) (ho : o.op = .call ⟨.builtin .append, #[x, y], #[T, T]⟩ := by rfl) (hg : o.guard = none := by rfl) (hd : o.dst = some d := by rfl) (hdn : Nat.blt d X.n = true := by rfl)
 (hx : cO (aF L) x = some (.o i n) := by rfl) (hy : cO (aF L) y = some (.s z rows2) := by rfl) (hm : fZ M i = some (.r Te sz rows) := by rfl) (hT1 : tb.get T = some dT := by rfl) (hk1 : dT.kd = .sl Te := by rfl) (hT2 : tb.get Te = some de := by rfl) (hsz : de.sz = sz := by rfl) (hzl : Nat.beq (aN (inj de.z)).length de.sz = true := by rfl) (hby : 1 ≤ de.by_ := by decide) (hoL : cU d L = false := by rfl) (hoM : eM d M = false := by rfl) (hi1 : Nat.blt d 1000 = true := by rfl)
 (hr : f9 tb X.n arr un D m H r ((d, .o d (rows ++ rows2).length) :: L) (P6 i d (.r Te sz (rows ++ rows2)) M) (M :: Ms) [] = some (π', L', M', Ms', φ) := by rfl) (hφ : aE φ := by first | trivial | omega | (simp +contextual [aE]; done)) : ED X arr k fs own un D (q :: r) L M Ms := by
 refine ⟨o, .o d (rows ++ rows2).length, hi, ?_⟩
 rw [hu]
 refine ⟨_, P8 hT hn hz2 hbig ho hg hd hdn hx hy hm hT1 hk1 hT2 hsz hzl hby hoL hoM hi1, ?_⟩
 rw [hd]
 exact xd hT m H hk hr hφ
theorem jB {w : World} {sz Te : Nat} {hz : 0 < sz} {ad : Option Addr} {c : Nat} {ys : List (Row sz)} (h : (aH.arr (aC sz hz) Te ad c ys).p w) (hne : 0 < ys.length) : ∃ b, ad = some ⟨b, 0, none⟩ ∧ b < w.heap.size ∧ w.ownsRow 0 Te sz (.slice (some ⟨b, 0, none⟩) ys.length c) ys.length (flat (aC sz hz) ys) := by
 have h' : w.ownsRow 0 Te sz (.slice ad ys.length c) ys.length (flat (aC sz hz) ys) := h
 rcases h'.2 with ⟨_, h0⟩ | ⟨gg, cap, cur, had, _, hg, _⟩
 ·omega
 ·injection had with e1 e2 e3
  subst e1
  exact ⟨gg, rfl, (Array.getElem?_eq_some_iff.1 hg).1, h'⟩
theorem oU {tb : TT} (hT : tb.Ok X.P) {T Te d i n sz j : Nat} {kk : IntKind} {z : Int} {x ix : Operand} {rows : List (List SV)} {dT de : TD} (hzj : z = (j : Int)) (hj : j < rows.length) (hn : n = rows.length) (ho : o.op = .indexAddr T x ix) (hg : o.guard = none) (hd : o.dst = some d) (hdn : Nat.blt d X.n = true) (hx : cO (aF L) x = some (.o i n)) (hy : cO (aF L) ix = some (.v (.int kk z))) (hm : fZ M i = some (.r Te sz rows))
 (hT1 : tb.get T = some dT) (hk1 : dT.kd = .sl Te) (hT2 : tb.get Te = some de) (hsz : de.sz = sz) : Stp X arr o L M fs own (.e i (j * sz)) M := by
 subst hzj hsz
 have hG : gS arr (aF L) o = some none := by unfold gS; rw [hg]
 refine bT (sv := .e i (j * de.sz)) hG hd hdn (fun L' hL hon g a ρ ms st => ?_)
 have hSl : Sl X ρ L' a g := st.all _ (.tail _ (.head _))
 have hM : aR g ρ M ms := st.all _ (.head _)
 have hev : evs (aF L') [x, ix] = some [.o i n, .v (.int kk (j : Int))] := by
  have := aW hL
  rw [show o.op.operands.toList = [x, ix] by rw [ho]; rfl] at this
  rw [this]
  simp only [evs, hx, hy]
 obtain ⟨_, _, e1, dx, hr1⟩ := (aT hSl.val hev).uncons
 obtain ⟨_, _, e2, dy, _⟩ := hr1.uncons
 simp only [List.map_cons, List.cons.injEq] at e1
 obtain ⟨rfl, rfl⟩ := e1
 simp only [List.cons.injEq] at e2
 obtain ⟨rfl, _⟩ := e2
 have hyv := cF dy
 have u := (TT.get_ok hT hT1).kd
 rw [hk1] at u
 have hti := (TT.get_ok hT hT2).ti
 obtain ⟨r, m1, m2, rfl, hB, _⟩ := hM.split hm
 generalize hvx : a.eval x = vx at dx
 cases hB with
 | r hz ys hl hdd =>
   cases dx with
   | o =>
     obtain ⟨b, had, _, _⟩ := jB (st.own.p _ (List.mem_append_left _ (List.mem_append_right _ (.head _)))) (by omega)
     refine ⟨.pointer (some ⟨b, 0 + j * de.sz, none⟩), ?_, .e had⟩
     simp only [execOp, ho, hvx, hyv]
     simp only [Instr.indexAt, asIntOf, Sem.run_bind, Sem.run_pure, Result.andThen_ok, run_underlying u, had]
     rw [if_pos ⟨by omega, by omega⟩]
     simp only [Sem.run_bind, run_sizeOf hti, Result.andThen_ok, Sem.run_pure, addr_add]
     simp
theorem mB {tb : TT} (hT : tb.Ok X.P) (j m : Nat) (H : List (List SV)) {un q d i T Te n sz : Nat} {D r π' : List Nat} {Ms Ms' : List SM} {kk : IntKind} {z : Int} {x ix : Operand} {rows : List (List SV)} {dT de : TD} {L' M' φ} (hzj : z = (j : Int)) (hj : j < rows.length) (hn : n = rows.length) (hk : ED X arr k fs own un D π' L' M' Ms') (hi : arr[q]? = some o := by rfl) (hu : un.testBit q = false := by rfl) (ho : o.op = .indexAddr T x ix := by rfl) (hg : o.guard = none := by rfl) (hd : o.dst = some d := by rfl) (hdn : Nat.blt d X.n = true := by rfl) (hx : cO (aF L) x = some (.o i n) := by rfl) (hy : cO (aF L) ix = some (.v (.int kk z)) := by rfl)
 (hm : fZ M i = some (.r Te sz rows) := by rfl) (hall : BK i (.r Te sz rows) Ms := by repeat (first | exact trivial | refine ⟨rfl, ?_⟩)) (hb : Nat.ble (DY arr.size un D q) Ms.length = true := by rfl) (hT1 : tb.get T = some dT := by rfl) (hk1 : dT.kd = .sl Te := by rfl) (hT2 : tb.get Te = some de := by rfl) (hsz : de.sz = sz := by rfl)
 (hr : f9 tb X.n arr un D m H r ((d, .e i (j * sz)) :: L) M Ms [] = some (π', L', M', Ms', φ) := by rfl) (hφ : aE φ := by first | trivial | omega | (simp +contextual [aE]; done)) : ED X arr k fs own un D (q :: r) L M Ms := by
 refine ⟨o, .e i (j * sz), hi, ?_⟩
 rw [hu]
 refine ⟨.inl ⟨Nat.le_of_ble_eq_true hb, oU hT hzj hj hn ho hg hd hdn hx hy hm hT1 hk1 hT2 hsz, fun q M2 hq _ => oU hT hzj hj hn ho hg hd hdn hx hy (jA hall hq) hT1 hk1 hT2 hsz⟩, ?_⟩
 rw [hd]
 exact xd hT m H hk hr hφ
theorem wM {w : World} {sz Te b c : Nat} {hz : 0 < sz} {ys : List (Row sz)} (h : w.ownsRow 0 Te sz (.slice (some ⟨b, 0, none⟩) ys.length c) ys.length (flat (aC sz hz) ys)) {j f : Nat} {y : Row sz} {v : Value} (hj : ys[j]? = some y) (hf : y.1[f]? = some v) : w.cell? ⟨b, j * sz + f, none⟩ = some v := by
 have hg := flat_get (aC sz hz) ys j f y v hj hf
 have hlt := (List.getElem?_eq_some_iff.1 hg).1
 rw [eN] at hlt
 rw [h.cellAt (j * sz + f) hlt]
 exact hg
theorem JO {tb : TT} (hT : tb.Ok X.P) {T Te d i sz j f off : Nat} {x : Operand} {sv : SV} {row : List SV} {rows : List (List SV)} {de : TD} (hoff : off = j * sz + f) (hrow : rows[j]? = some row) (hsv : row[f]? = some sv) (ho : o.op = .load T x) (hg : o.guard = none) (hd : o.dst = some d) (hdn : Nat.blt d X.n = true) (hx : cO (aF L) x = some (.e i off)) (hm : fZ M i = some (.r Te sz rows)) (hT2 : tb.get T = some de) (hag : de.kd.ag = false) : Stp X arr o L M fs own sv M := by
 subst hoff
 have hG : gS arr (aF L) o = some none := by unfold gS; rw [hg]
 refine bT (sv := sv) hG hd hdn (fun L' hL hon g a ρ ms st => ?_)
 have hSl : Sl X ρ L' a g := st.all _ (.tail _ (.head _))
 have hM : aR g ρ M ms := st.all _ (.head _)
 have hev : evs (aF L') [x] = some [.e i (j * sz + f)] := by
  have := aW hL
  rw [show o.op.operands.toList = [x] by rw [ho]; rfl] at this
  rw [this]
  simp only [evs, hx]
 obtain ⟨_, _, e1, dx, hr1⟩ := (aT hSl.val hev).uncons
 simp only [List.map_cons, List.cons.injEq] at e1
 obtain ⟨rfl, rfl⟩ := e1
 obtain ⟨td, u, hag2⟩ := (TT.get_ok hT hT2).kd.und
 rw [hag] at hag2
 obtain ⟨r, m1, m2, rfl, hB, _⟩ := hM.split hm
 generalize hvx : a.eval x = vx at dx
 cases hB with
 | r hz ys hl hdd =>
   cases dx with
   | e had =>
     have hjl := (List.getElem?_eq_some_iff.1 hrow).1
     have hy := List.getElem?_eq_getElem (l := ys) (i := j) (by omega)
     obtain ⟨b, had2, _, hown⟩ := jB (st.own.p _ (List.mem_append_left _ (List.mem_append_right _ (.head _)))) (by omega)
     rw [had] at had2
     injection had2 with had2
     injection had2 with e3 e4
     subst e3 e4
     obtain ⟨v, hv, dv⟩ := (hdd ρ j _ row hy hrow).get hsv
     refine ⟨v, ?_, dv⟩
     have := yU (P := X.P) (w := g.w) u hag2 (wM hown hy hv)
     simp only [execOp, ho, hvx, Nat.zero_add]
     simp [this]
theorem drl {tb : TT} (hT : tb.Ok X.P) (j f m : Nat) (H : List (List SV)) {un q d i T Te sz off : Nat} {D r π' : List Nat} {Ms Ms' : List SM} {x : Operand} {sv : SV} {row : List SV} {rows : List (List SV)} {de : TD} {L' M' φ} (hrow : rows[j]? = some row) (hsv : row[f]? = some sv) (hk : ED X arr k fs own un D π' L' M' Ms') (hoff : off = j * sz + f := by rfl) (hi : arr[q]? = some o := by rfl) (hu : un.testBit q = false := by rfl) (ho : o.op = .load T x := by rfl) (hg : o.guard = none := by rfl) (hd : o.dst = some d := by rfl) (hdn : Nat.blt d X.n = true := by rfl) (hx : cO (aF L) x = some (.e i off) := by rfl)
 (hm : fZ M i = some (.r Te sz rows) := by rfl) (hall : BK i (.r Te sz rows) Ms := by repeat (first | exact trivial | refine ⟨rfl, ?_⟩)) (hb : Nat.ble (DY arr.size un D q) Ms.length = true := by rfl) (hT2 : tb.get T = some de := by rfl) (hag : de.kd.ag = false := by rfl)
 (hr : f9 tb X.n arr un D m H r ((d, sv) :: L) M Ms [] = some (π', L', M', Ms', φ) := by rfl) (hφ : aE φ := by first | trivial | omega | (simp +contextual [aE]; done)) : ED X arr k fs own un D (q :: r) L M Ms := by
 refine ⟨o, sv, hi, ?_⟩
 rw [hu]
 refine ⟨.inl ⟨Nat.le_of_ble_eq_true hb, JO hT hoff hrow hsv ho hg hd hdn hx hm hT2 hag, fun q M2 hq _ => JO hT hoff hrow hsv ho hg hd hdn hx (jA hall hq) hT2 hag⟩, ?_⟩
 rw [hd]
 exact xd hT m H hk hr hφ
end
section
variable {X : Kx} {k : List It} {L : SL} {M : SM} {fs : List MF} {own : List aH} {arr : Array Oper} {l : List Oper} {o : Oper}
theorem aA6 {tb : TT} (hT : tb.Ok X.P) (i : Nat) {d T Te sz : Nat} {dT de : TD} (ho : o.op = .buildSlice T 0 #[]) (hg : o.guard = none) (hd : o.dst = some d) (hn : Nat.blt d X.n = true)
 (hT1 : tb.get T = some dT) (hk1 : dT.kd = .sl Te) (hT2 : tb.get Te = some de) (hsz : de.sz = sz) (hz0 : 0 < sz) (hzl : Nat.beq (aN (inj de.z)).length de.sz = true) (hoc : (cU i L || eM i M) = false) (hlt : Nat.blt i 1000 = true) :
 ∀ g a, cV X L M fs own g a → rY X.P arr o (fun a' w' => ∃ g', g'.w = w' ∧ cV X ((d, .o i 0) :: L) ((i, .r Te sz []) :: M) fs own g' a') a g.w := by
 intro g a hE
 obtain ⟨ρ, ms, st⟩ := hE.open
 simp only [Bool.or_eq_false_iff] at hoc
 have hlt : i < 1000 := by simpa [Nat.blt_eq] using hlt
 have hSl : Sl X ρ L a g := st.all _ (.tail _ (.head _))
 have u := (TT.get_ok hT hT1).kd
 rw [hk1] at u
 have hti := (TT.get_ok hT hT2).ti
 have hzs : de.z.cells.size = de.sz := mE (Nat.eq_of_beq_eq_true hzl)
 rw [hsz] at hti hzs
 have hev : evs (aF L) [] = some [] := rfl
 obtain ⟨Lr, st', hevl, hfr⟩ := st.slots (fun t sv ht => by obtain ⟨x, hx, _⟩ := hSl.val t sv ht; exact ⟨x, hx⟩) hev
 simp only [List.map_cons, List.map_nil] at hevl
 have key := WU (k := [.lp fun a' w' => ∃ g', g'.w = w' ∧ cV X ((d, .o i 0) :: L) ((i, .r Te sz []) :: M) fs own g' a']) (arr := arr) (l := []) (aC sz hz0) ([] : List (Row sz)) (parts := []) (vs := []) (fs := F1 ρ M ms :: F2 X ρ L a :: fs) ho (cA hg) hd hn u hti rfl hzs rfl hevl rfl (by omega) (fun ad c => S_J (fun g' a' s' => by
  let y : Lc := ⟨0, ad, c⟩
  have hM' : aR g' ρ M ms := s'.all (F1 ρ M ms) (.head _)
  have hS' : Sl X ρ L a g' := s'.all (F2 X ρ L a) (.tail _ (.head _))
  have hB : bQ g' (fun j => if j = i then y else ρ j) i (.r Te sz []) (aH.arr (aC sz hz0) Te ((fun j => if j = i then y else ρ j) i).ad ((fun j => if j = i then y else ρ j) i).c []) := .r hz0 [] rfl (fun ρ' k x r hk hr => by simp at hk)
  simp only [if_pos] at hB
  refine ⟨g', rfl, fun j => if j = i then y else ρ j, aH.arr (aC sz hz0) Te ad c [] :: ms, ⟨⟨s'.kn.size, s'.kn.defers, fun i v hv => by simp [lk] at hv⟩, fun f hf => s'.all f (.tail _ (.tail _ hf)), s'.own, s'.ext, s'.new⟩, .cons hB (dH hM' hoc.2), fun j hj => ?_, fun t sv ht => ?_⟩
  ·have : j ≠ i := by omega
   simp only [if_neg this]; exact hS'.pin j hj
  ·by_cases htd : t = d
   ·subst htd
    rw [bF] at ht
    cases ht
    refine ⟨_, s'.kn.val t _ (dA _ _ _), ?_⟩
    have : bC g' (fun j => if j = i then y else ρ j) (.o i 0) (.slice ((fun j => if j = i then y else ρ j) i).ad 0 ((fun j => if j = i then y else ρ j) i).c) := .o
    simpa [y] using this
   ·rw [bX _ _ htd] at ht
    obtain ⟨x, hx, dx⟩ := hS'.val t sv ht
    exact ⟨x, s'.kn.val t x (by rw [iD _ _ htd]; exact hfr t x hx), dx.upd (c8 hoc.1 t sv ht)⟩)) g a st'
 have hw : Region.wanted o (yielded arr a.tmps) = true := aX (L := []) st.kn (cA hg)
 unfold rY
 rw [if_pos hw]
 simp only [wl, hw, if_true] at key
 exact key
theorem aA7 {tb : TT} (hT : tb.Ok X.P) (i : Nat) {d T Te sz : Nat} {dT de : TD} (h : ES X arr l k ((d, .o i 0) :: L) ((i, .r Te sz []) :: M) fs own) (ho : o.op = .buildSlice T 0 #[] := by rfl) (hg : o.guard = none := by rfl) (hd : o.dst = some d := by rfl) (hn : Nat.blt d X.n = true := by rfl)
 (hT1 : tb.get T = some dT := by rfl) (hk1 : dT.kd = .sl Te := by rfl) (hT2 : tb.get Te = some de := by rfl) (hsz : de.sz = sz := by rfl) (hz0 : 0 < sz := by decide) (hzl : Nat.beq (aN (inj de.z)).length de.sz = true := by rfl) (hoc : (cU i L || eM i M) = false := by rfl) (hlt : Nat.blt i 1000 = true := by rfl) : ES X arr (o :: l) k L M fs own := by
 intro g a s
 show rY X.P arr o (wl X.P arr (jP X.P X.rd X.Q k .normal) l) a g.w
 exact lJ (fun a' w' ⟨g', hw, s'⟩ => hw ▸ h g' a' s') (aA6 hT i ho hg hd hn hT1 hk1 hT2 hsz hz0 hzl hoc hlt g a s)
theorem aA8 {tb : TT} (hT : tb.Ok X.P) (m : Nat) (H : List (List SV)) {un q d T Te sz : Nat} {D r π' : List Nat} {Ms Ms' : List SM} {dT de : TD} {L' M' φ} (hk : ED X arr k fs own un D π' L' M' Ms') (hi : arr[q]? = some o := by rfl) (hu : un.testBit q = true := by rfl) (ho : o.op = .buildSlice T 0 #[] := by rfl) (hg : o.guard = none := by rfl) (hd : o.dst = some d := by rfl) (hn : Nat.blt d X.n = true := by rfl)
 (hT1 : tb.get T = some dT := by rfl) (hk1 : dT.kd = .sl Te := by rfl) (hT2 : tb.get Te = some de := by rfl) (hsz : de.sz = sz := by rfl) (hz0 : 0 < sz := by decide) (hzl : Nat.beq (aN (inj de.z)).length de.sz = true := by rfl) (hoL : cU d L = false := by rfl) (hoM : eM d M = false := by rfl) (hlt : Nat.blt d 1000 = true := by rfl)
 (hr : f9 tb X.n arr un D m H r ((d, .o d 0) :: L) ((d, .r Te sz []) :: M) (M :: Ms) [] = some (π', L', M', Ms', φ) := by rfl) (hφ : aE φ := by first | trivial | omega | (simp +contextual [aE]; done)) : ED X arr k fs own un D (q :: r) L M Ms := by
 refine ⟨o, .o d 0, hi, ?_⟩
 rw [hu]
 refine ⟨_, (fun L' _ hf g a s => ?_ : G4 X arr o L M fs own (.o d 0) ((d, .r Te sz []) :: M)), ?_⟩
 ·have h0 : cU d L' = false := hf d (by unfold O0; rw [ho]; exact hd) hoL
  have := aA6 (L := L') (M := M) (fs := fs) (own := own) (arr := arr) hT d ho hg hd hn hT1 hk1 hT2 hsz hz0 hzl (by rw [h0, hoM]; rfl) hlt g a s
  rw [hd]
  exact this
 ·rw [hd]
  exact xd hT m H hk hr hφ
theorem zC (a : Addr) : a.add 0 = a := by
 obtain ⟨b, o, s⟩ := a
 cases s <;> simp [Addr.add]
theorem UQ {tb : TT} (hT : tb.Ok X.P) {T Te d sz b : Nat} {kk : IntKind} {z : Int} {x hi : Operand} {rows : List (List SV)} {dT de : TD} (hzb : z = (b : Int)) (hb : b ≤ rows.length) (ho : o.op = .slice T x none (some hi) none) (hg : o.guard = none) (hd : o.dst = some d) (hdn : Nat.blt d X.n = true) (hx : cO (aF L) x = some (.s sz rows)) (hy : cO (aF L) hi = some (.v (.int kk z)))
 (hT1 : tb.get T = some dT) (hk1 : dT.kd = .sl Te) (hT2 : tb.get Te = some de) : Stp X arr o L M fs own (.s sz (rows.take b)) M := by
 subst hzb
 have hG : gS arr (aF L) o = some none := by unfold gS; rw [hg]
 refine bT (sv := .s sz (rows.take b)) hG hd hdn (fun L' hL hon g a ρ ms st => ?_)
 have hSl : Sl X ρ L' a g := st.all _ (.tail _ (.head _))
 have hev : evs (aF L') [x, hi] = some [.s sz rows, .v (.int kk (b : Int))] := by
  have := aW hL
  rw [show o.op.operands.toList = [x, hi] by rw [ho]; rfl] at this
  rw [this]
  simp only [evs, hx, hy]
 obtain ⟨_, _, e1, dx, hr1⟩ := (aT hSl.val hev).uncons
 obtain ⟨_, _, e2, dy, _⟩ := hr1.uncons
 simp only [List.map_cons, List.cons.injEq] at e1
 obtain ⟨rfl, rfl⟩ := e1
 simp only [List.cons.injEq] at e2
 obtain ⟨rfl, _⟩ := e2
 have hyv := cF dy
 have u := (TT.get_ok hT hT1).kd
 rw [hk1] at u
 have hti := (TT.get_ok hT hT2).ti
 generalize hvx : a.eval x = vx at dx
 cases dx with
 | s xs q1 q2 q3 q4 q5 q6 q7 =>
   rename_i ad c
   have hlen : (rows.take b).length = b := by rw [List.length_take]; omega
   refine ⟨.slice ad b c, ?_, ?_⟩
   ·have hh := run_sliceBound (P := X.P) (w := g.w) (kk := kk) (z := (b : Int)) (m := c) (code := .sliceAcap) (by omega) (by omega)
    have hb2 : (Instr.sliceBounds true rows.length c none (some (.int kk (b : Int))) none).run X.P g.w = .ok (0, b, c) g.w := by
     simp only [Instr.sliceBounds, Sem.run_bind, Sem.run_pure, Result.andThen_ok, if_true, hh, Int.toNat_natCast]
    simp only [execOp, ho, hvx]
    simp only [Option.map_some, Option.map_none, hyv, Instr.sliceAt, Instr.slice, Sem.run_bind, run_underlying u, Result.andThen_ok, hb2, run_sizeOf hti, Sem.run_pure]
    cases ad <;> simp [zC]
   ·have := bC.s (g := g) (ρ := ρ) (sz := sz) (rows := rows.take b) (ad := ad) (c := c) (xs.take (b * sz)) (by rw [hlen]; omega) (by rw [hlen]; omega) (by rw [hlen, List.length_take, q3, Nat.min_eq_left (Nat.mul_le_mul_right _ hb)]) (fun r hr => q4 r (List.mem_of_mem_take hr)) ⟨fun u hu => q5.1 u (List.mem_of_mem_take hu), q5.2⟩ (fun hne => by
     obtain ⟨b', o', e3, e4, e5⟩ := q6 (fun e => hne (by rw [e]; simp))
     exact ⟨b', o', e3, e4, fun k v hk => e5 k v (by rw [List.getElem?_take] at hk; split at hk; exact hk; cases hk)⟩) (fun ρ' i j r sv v h1 h2 h3 => by
     rw [List.getElem?_take] at h1 h3
     split at h1
     ·split at h3
      ·exact q7 ρ' i j r sv v h1 h2 h3
      ·cases h3
     ·cases h1)
    rw [hlen] at this
    exact this
theorem X3 {tb : TT} (hT : tb.Ok X.P) {T Te d sz b : Nat} {kk : IntKind} {z : Int} {x lo : Operand} {rows : List (List SV)} {dT de : TD} (hzb : z = (b : Int)) (hb : b ≤ rows.length) (ho : o.op = .slice T x (some lo) none none) (hg : o.guard = none) (hd : o.dst = some d) (hdn : Nat.blt d X.n = true) (hx : cO (aF L) x = some (.s sz rows)) (hy : cO (aF L) lo = some (.v (.int kk z)))
 (hT1 : tb.get T = some dT) (hk1 : dT.kd = .sl Te) (hT2 : tb.get Te = some de) (hsz : de.sz = sz) : Stp X arr o L M fs own (.s sz (rows.drop b)) M := by
 subst hzb hsz
 have hG : gS arr (aF L) o = some none := by unfold gS; rw [hg]
 refine bT (sv := .s de.sz (rows.drop b)) hG hd hdn (fun L' hL hon g a ρ ms st => ?_)
 have hSl : Sl X ρ L' a g := st.all _ (.tail _ (.head _))
 have hev : evs (aF L') [x, lo] = some [.s de.sz rows, .v (.int kk (b : Int))] := by
  have := aW hL
  rw [show o.op.operands.toList = [x, lo] by rw [ho]; rfl] at this
  rw [this]
  simp only [evs, hx, hy]
 obtain ⟨_, _, e1, dx, hr1⟩ := (aT hSl.val hev).uncons
 obtain ⟨_, _, e2, dy, _⟩ := hr1.uncons
 simp only [List.map_cons, List.cons.injEq] at e1
 obtain ⟨rfl, rfl⟩ := e1
 simp only [List.cons.injEq] at e2
 obtain ⟨rfl, _⟩ := e2
 have hyv := cF dy
 have u := (TT.get_ok hT hT1).kd
 rw [hk1] at u
 have hti := (TT.get_ok hT hT2).ti
 generalize hvx : a.eval x = vx at dx
 cases dx with
 | s xs q1 q2 q3 q4 q5 q6 q7 =>
   rename_i ad c
   have hlen : (rows.drop b).length = rows.length - b := List.length_drop ..
   refine ⟨.slice (if c = b then ad else ad.map (·.add (b * de.sz))) (rows.length - b) (c - b), ?_, ?_⟩
   ·have hb1 := run_sliceBound (P := X.P) (w := g.w) (kk := kk) (z := (b : Int)) (m := rows.length) (code := .sliceB) (by omega) (by omega)
    have hb2 : (Instr.sliceBounds true rows.length c (some (.int kk (b : Int))) none none).run X.P g.w = .ok (b, rows.length, c) g.w := by
     simp only [Instr.sliceBounds, Sem.run_bind, Sem.run_pure, Result.andThen_ok, Option.isSome_none, Bool.false_eq_true, if_false, hb1, Int.toNat_natCast]
    simp only [execOp, ho, hvx]
    simp only [Option.map_some, Option.map_none, hyv, Instr.sliceAt, Instr.slice, Sem.run_bind, run_underlying u, Result.andThen_ok, hb2, run_sizeOf hti, Sem.run_pure]
    first | done | rfl
   ·have := bC.s (g := g) (ρ := ρ) (sz := de.sz) (rows := rows.drop b) (ad := if c = b then ad else ad.map (·.add (b * de.sz))) (c := c - b) (xs.drop (b * de.sz)) (by rw [hlen]; omega) (by rw [hlen]; omega) (by rw [hlen, List.length_drop, q3, ← Nat.sub_mul]) (fun r hr => q4 r (List.mem_of_mem_drop hr)) ⟨fun u hu => q5.1 u (List.mem_of_mem_drop hu), fun h0 => by
     obtain ⟨h1, h2⟩ := q5.2 h0
     refine ⟨?_, by omega⟩
     rw [h1]; split <;> rfl⟩ (fun hne => by
     have hbl : b < rows.length := by
      rcases Nat.lt_or_ge b rows.length with h | h
      ·exact h
      ·exact absurd (List.drop_eq_nil_of_le h) hne
     obtain ⟨b', o', e3, e4, e5⟩ := q6 (fun e => by rw [e] at hbl; simp at hbl)
     refine ⟨b', o' + b * de.sz, by rw [if_neg (by omega), e3]; simp [addr_add], e4, fun k v hk => ?_⟩
     rw [List.getElem?_drop] at hk
     have := e5 _ v hk
     rw [← Nat.add_assoc] at this
     exact this) (fun ρ' i j r sv v h1 h2 h3 => by
     rw [List.getElem?_drop] at h1 h3
     refine q7 ρ' (b + i) j r sv v h1 h2 ?_
     rw [← h3]
     congr 1
     rw [Nat.add_mul]; omega)
    rw [hlen] at this
    exact this
theorem dct {tb : TT} (hT : tb.Ok X.P) (b m : Nat) (H : List (List SV)) {un q d T Te sz : Nat} {D r π' : List Nat} {Ms Ms' : List SM} {kk : IntKind} {z : Int} {x hi : Operand} {rows : List (List SV)} {dT de : TD} {L' M' φ} (hzb : z = (b : Int)) (hb : b ≤ rows.length) (hk : ED X arr k fs own un D π' L' M' Ms') (hq : arr[q]? = some o := by rfl) (hu : un.testBit q = false := by rfl) (ho : o.op = .slice T x none (some hi) none := by rfl) (hg : o.guard = none := by rfl) (hd : o.dst = some d := by rfl) (hdn : Nat.blt d X.n = true := by rfl) (hx : cO (aF L) x = some (.s sz rows) := by rfl) (hy : cO (aF L) hi = some (.v (.int kk z)) := by rfl)
 (hT1 : tb.get T = some dT := by rfl) (hk1 : dT.kd = .sl Te := by rfl) (hT2 : tb.get Te = some de := by rfl)
 (hr : f9 tb X.n arr un D m H r ((d, .s sz (rows.take b)) :: L) M Ms [] = some (π', L', M', Ms', φ) := by rfl) (hφ : aE φ := by first | trivial | omega | (simp +contextual [aE]; done)) : ED X arr k fs own un D (q :: r) L M Ms := by
 refine ⟨o, .s sz (rows.take b), hq, ?_⟩
 rw [hu]
 refine ⟨.inr (fun M' => UQ hT hzb hb ho hg hd hdn hx hy hT1 hk1 hT2), ?_⟩
 rw [hd]
 exact xd hT m H hk hr hφ
theorem dtl {tb : TT} (hT : tb.Ok X.P) (b m : Nat) (H : List (List SV)) {un q d T Te sz : Nat} {D r π' : List Nat} {Ms Ms' : List SM} {kk : IntKind} {z : Int} {x lo : Operand} {rows : List (List SV)} {dT de : TD} {L' M' φ} (hzb : z = (b : Int)) (hb : b ≤ rows.length) (hk : ED X arr k fs own un D π' L' M' Ms') (hi : arr[q]? = some o := by rfl) (hu : un.testBit q = false := by rfl) (ho : o.op = .slice T x (some lo) none none := by rfl) (hg : o.guard = none := by rfl) (hd : o.dst = some d := by rfl) (hdn : Nat.blt d X.n = true := by rfl) (hx : cO (aF L) x = some (.s sz rows) := by rfl) (hy : cO (aF L) lo = some (.v (.int kk z)) := by rfl)
 (hT1 : tb.get T = some dT := by rfl) (hk1 : dT.kd = .sl Te := by rfl) (hT2 : tb.get Te = some de := by rfl) (hsz : de.sz = sz := by rfl)
 (hr : f9 tb X.n arr un D m H r ((d, .s sz (rows.drop b)) :: L) M Ms [] = some (π', L', M', Ms', φ) := by rfl) (hφ : aE φ := by first | trivial | omega | (simp +contextual [aE]; done)) : ED X arr k fs own un D (q :: r) L M Ms := by
 refine ⟨o, .s sz (rows.drop b), hi, ?_⟩
 rw [hu]
 refine ⟨.inr (fun M' => X3 hT hzb hb ho hg hd hdn hx hy hT1 hk1 hT2 hsz), ?_⟩
 rw [hd]
 exact xd hT m H hk hr hφ
end
section
variable {X : Cx} {L : LL} {fs : List MF} {own : List aH}
theorem St.write {P : Program} {g : GW} {a : Act} {α : Type} {E : El α} {Te : Nat} {ad : Option Addr} {c : Nat} {ys ys' : List α} {own'} (s : St X L fs own g a) (hp : m7 own (aH.arr E Te ad c ys) own') {b off : Nat} {vs : List Value} (had : ad = some ⟨b, 0, none⟩) (hl : ys'.length = ys.length)
 (hfl : flat E ys' = (flat E ys).take off ++ (vs ++ (flat E ys).drop (off + vs.length))) (hoff : off + vs.length ≤ ys.length * E.sz) (h1 : ∀ v ∈ vs, v.oneCell' = true) :
 ∃ g', (storeCells ⟨b, off, none⟩ vs 0).run P g.w = .ok () g'.w ∧ St X L fs (aH.arr E Te ad c ys' :: own') g' a := by
 subst had
 have ho := s.own.perm hp.perm
 have hown : g.w.ownsRow 0 Te E.sz (.slice (some ⟨b, 0, none⟩) ys.length c) ys.length (flat E ys) := ho.p _ (.head _)
 rcases hown.2 with ⟨h', _⟩ | ⟨gg, cap, cur, h', hb0, hblk, hnc, hcm, hcs, htk⟩
 ·simp at h'
 simp only [Value.slice.injEq, Option.some.injEq, Addr.mk.injEq, and_true, true_and] at h'
 obtain ⟨h5, h6⟩ := h'
 subst h5
 subst h6
 have hcur : ys.length * E.sz ≤ cur.size := by rw [hcs]; exact Nat.mul_le_mul_right _ hnc
 have hst := run_storeCells_at P b off Te vs 0 cur g.w hblk (by omega) h1
 simp only [Nat.add_zero] at hst
 have hlt : (cur.toList.take off).length = off := by rw [List.length_take, Array.length_toList]; omega
 have happ : vA g.w (g.w.setRow b (cur.toList.take off ++ vs ++ cur.toList.drop (off + vs.length)).toArray) Te E.sz (.slice (some ⟨b, 0, none⟩) ys.length c) (.slice (some ⟨b, 0, none⟩) ys'.length c) ys'.length (flat E ys') := by
  rw [hl]
  refine ⟨⟨by rw [eN, hl], .inr ⟨b, c, _, rfl, Nat.zero_le _, setRow_heap g.w b cur _ Te _ hblk, hnc, hcm, ?_, ?_⟩⟩, ⟨rfl, rfl, rfl, by simp, fun k _ hk => setRow_other g.w b k _ (fun e => hk (by simp [Value.ownBlock, e]))⟩, fun x hx => .inl hx⟩
  ·rw [← hcs]
   simp only [List.size_toArray, List.length_append, hlt, List.length_drop, Array.length_toList]
   omega
  ·rw [hfl, ← htk, List.append_assoc, List.take_append, hlt, List.take_of_length_le (by omega), List.take_append, List.take_of_length_le (l := vs) (by omega), List.take_take, Nat.min_eq_left (by omega), List.drop_take]
   rw [show ys.length * E.sz - off - vs.length = ys.length * E.sz - (off + vs.length) by omega]
 obtain ⟨ad', c', g', hv', hw', s'⟩ := s.appd hp happ
 injection hv' with q1 q2 q3
 subst q1 q3
 exact ⟨g', by rw [hw']; exact hst, s'⟩
end
def sP {α : Type} (r : List α) (f : Nat) (cs : List α) : List α := r.take f ++ (cs ++ r.drop (f + cs.length))
theorem wN {α : Type} {r : List α} {f : Nat} {cs : List α} (h : f + cs.length ≤ r.length) : (sP r f cs).length = r.length := by
 unfold sP
 simp only [List.length_append, List.length_take, List.length_drop]
 omega
theorem EV {sz : Nat} (hz : 0 < sz) {f : Nat} {vs : List Value} (hf : f + vs.length ≤ sz) : ∀ (ys : List (Row sz)) (j : Nat) (y y' : Row sz), ys[j]? = some y → y'.1 = sP y.1 f vs →
 flat (aC sz hz) (ys.set j y') = (flat (aC sz hz) ys).take (j * sz + f) ++ (vs ++ (flat (aC sz hz) ys).drop (j * sz + f + vs.length))
 | [], j, y, y', h, _ => by simp at h
 | x :: ys, 0, y, y', h, h2 => by
   simp only [List.getElem?_cons_zero, Option.some.injEq] at h
   subst h
   have hx := x.2.1
   show y'.1 ++ flat (aC sz hz) ys = (x.1 ++ flat (aC sz hz) ys).take _ ++ (vs ++ (x.1 ++ flat (aC sz hz) ys).drop _)
   rw [h2, Nat.zero_mul, Nat.zero_add, List.take_append_of_le_length (by omega), List.drop_append_of_le_length (by omega)]
   unfold sP
   simp only [List.append_assoc]
 | x :: ys, j + 1, y, y', h, h2 => by
   have ih := EV hz hf ys j y y' (by simpa using h) h2
   have hx := x.2.1
   show x.1 ++ flat (aC sz hz) (ys.set j y') = (x.1 ++ flat (aC sz hz) ys).take _ ++ (vs ++ (x.1 ++ flat (aC sz hz) ys).drop _)
   rw [ih, List.take_append, List.drop_append, hx, List.take_of_length_le (l := x.1) (by rw [hx, Nat.succ_mul]; omega), List.drop_of_length_le (l := x.1) (by rw [hx, Nat.succ_mul]; omega), List.nil_append, List.append_assoc]
   rw [show (j + 1) * sz + f - sz = j * sz + f by rw [Nat.succ_mul]; omega, show (j + 1) * sz + f + vs.length - sz = j * sz + f + vs.length by rw [Nat.succ_mul]; omega]
section
variable {X : Kx} {k : List It} {L : SL} {M : SM} {fs : List MF} {own : List aH} {arr : Array Oper} {l : List Oper} {o : Oper}
theorem qX {tb : TT} (hT : tb.Ok X.P) {T Te d i sz j f off : Nat} {x : Operand} {cs row : List SV} {rows : List (List SV)} {de : TD} (hoff : off = j * sz + f) (hrow : rows[j]? = some row) (hcs : (row.drop f).take de.sz = cs) (hcl : cs.length = de.sz) (ho : o.op = .load T x) (hg : o.guard = none) (hd : o.dst = some d) (hdn : Nat.blt d X.n = true) (hx : cO (aF L) x = some (.e i off)) (hm : fZ M i = some (.r Te sz rows)) (hT2 : tb.get T = some de) (hag : de.kd.ag = true) : Stp X arr o L M fs own (.a cs) M := by
 subst hoff
 have hG : gS arr (aF L) o = some none := by unfold gS; rw [hg]
 refine bT (sv := .a cs) hG hd hdn (fun L' hL hon g a ρ ms st => ?_)
 have hSl : Sl X ρ L' a g := st.all _ (.tail _ (.head _))
 have hM : aR g ρ M ms := st.all _ (.head _)
 have hev : evs (aF L') [x] = some [.e i (j * sz + f)] := by
  have := aW hL
  rw [show o.op.operands.toList = [x] by rw [ho]; rfl] at this
  rw [this]
  simp only [evs, hx]
 obtain ⟨_, _, e1, dx, hr1⟩ := (aT hSl.val hev).uncons
 simp only [List.map_cons, List.cons.injEq] at e1
 obtain ⟨rfl, rfl⟩ := e1
 obtain ⟨td, u, hag2⟩ := (TT.get_ok hT hT2).kd.und
 rw [hag] at hag2
 obtain ⟨r, m1, m2, rfl, hB, _⟩ := hM.split hm
 generalize hvx : a.eval x = vx at dx
 cases hB with
 | r hz ys hl hdd =>
   cases dx with
   | e had =>
     have hjl := (List.getElem?_eq_some_iff.1 hrow).1
     have hy := List.getElem?_eq_getElem (l := ys) (i := j) (by omega)
     obtain ⟨b, had2, _, hown⟩ := jB (st.own.p _ (List.mem_append_left _ (List.mem_append_right _ (.head _)))) (by omega)
     rw [had] at had2
     injection had2 with had2
     injection had2 with e3 e4
     subst e3 e4
     have hD := hdd ρ j _ row hy hrow
     have hln : ((ys[j].1.drop f).take de.sz).length = de.sz := by
      have h1 := hD.1
      rw [← hcs] at hcl
      simp only [List.length_take, List.length_drop] at hcl ⊢
      omega
     have hcell : ∀ (t : Nat) v, ((ys[j].1.drop f).take de.sz)[t]? = some v → g.w.cell? ⟨_, 0 + (j * sz + f) + t, none⟩ = some v := fun t v ht => by
      rw [List.getElem?_take] at ht
      split at ht
      ·rw [List.getElem?_drop] at ht
       have := wM hown hy ht
       rw [Nat.zero_add, Nat.add_assoc]
       exact this
      ·cases ht
     refine ⟨.agg ((ys[j].1.drop f).take de.sz).toArray, ?_, .a _ (by rw [hln, hcl]) (fun t sv v h1 h2 => ?_)⟩
     ·have := yV (P := X.P) (w := g.w) u hag2 (TT.get_ok hT hT2).ti hln hcell
      simp only [Nat.zero_add] at this
      simp only [execOp, ho, hvx, Nat.zero_add]
      simp [this]
     ·rw [← hcs, List.getElem?_take] at h1
      rw [List.getElem?_take] at h2
      split at h1
      ·rw [if_pos (by assumption)] at h2
       rw [List.getElem?_drop] at h1 h2
       exact hD.2 _ sv v h1 h2
      ·cases h1
theorem JP {tb : TT} (hT : tb.Ok X.P) {T Te i sz j f off : Nat} {x y : Operand} {sy : SV} {row : List SV} {rows : List (List SV)} {t : TD} {M2 : SM} {sv : SV} (hoff : off = j * sz + f) (hrow : rows[j]? = some row) (hf : f + t.sz ≤ sz) (ho : o.op = .store T x y) (hg : o.guard = none) (hd : o.dst = none) (hx : cO (aF L) x = some (.e i off)) (hy : cO (aF L) y = some sy) (hok : N3 sy = true) (hlen : (aN sy).length = t.sz) (hclo : nC (aN sy) = true) (hm : fZ M i = some (.r Te sz rows)) (ht : tb.get T = some t)
 (hu : fU M i (.r Te sz (rows.set j (sP row f (aN sy)))) some = some M2) : Stp X arr o L M fs own sv M2 := by
 subst hoff
 intro L' hL g a hE
 obtain ⟨ρ, ms, st⟩ := hE.open
 have hSl : Sl X ρ L' a g := st.all _ (.tail _ (.head _))
 have hM : aR g ρ M ms := st.all _ (.head _)
 have hw : Region.wanted o (yielded arr a.tmps) = true := aX (L := []) st.kn (cA hg)
 unfold rY
 rw [if_pos hw]
 have hev : evs (aF L') [x, y] = some [.e i (j * sz + f), sy] := by
  have := aW hL
  rw [show o.op.operands.toList = [x, y] by rw [ho]; rfl] at this
  rw [this]
  simp only [evs, hx, hy]
 obtain ⟨_, _, e1, dx, hr1⟩ := (aT hSl.val hev).uncons
 obtain ⟨_, _, e2, dy, _⟩ := hr1.uncons
 simp only [List.map_cons, List.cons.injEq] at e1
 obtain ⟨rfl, rfl⟩ := e1
 simp only [List.cons.injEq] at e2
 obtain ⟨rfl, _⟩ := e2
 obtain ⟨d1, d2⟩ := iF hok dy
 obtain ⟨r, m1, m2, rfl, hB, hup⟩ := hM.split hm
 obtain ⟨M3, hK, hM3⟩ := hup hu
 cases hK
 generalize hvx : a.eval x = vx at dx
 generalize hvy : a.eval y = vy at d1 d2
 have hvl : vy.cells.toList.length = t.sz := by rw [d1.1, hlen]
 have hcl2 : ∀ (g : GW) (ρ ρ' : Nat → Lc), aI g ρ (aN sy) vy.cells.toList → aI g ρ' (aN sy) vy.cells.toList := fun g ρ ρ' hd => ⟨hd.1, fun j s v h1 h2 => (hd.2 j s v h1 h2).swap (gB hclo j s h1) ρ'⟩
 cases hB with
 | r hz ys hl hdd =>
   cases dx with
   | e had =>
     rename_i b0 o0
     have hjl := (List.getElem?_eq_some_iff.1 hrow).1
     have hys := List.getElem?_eq_getElem (l := ys) (i := j) (by omega)
     have hp : (m1 ++ aH.arr (aC sz hz) Te (ρ i).ad (ρ i).c ys :: m2 ++ own).Perm (aH.arr (aC sz hz) Te (ρ i).ad (ρ i).c ys :: (m1 ++ m2 ++ own)) := by
      simp only [List.append_assoc, List.cons_append]
      exact List.perm_middle
     have stp0 := st.perm hp
     have stp : St X.toCx [] (gP ys rows :: OT ρ (aN sy) vy.cells.toList :: F1 ρ M _ :: F2 X ρ L' a :: fs) _ g a := ⟨stp0.kn, dF.cons hdd (dF.cons d1 stp0.all), stp0.own, stp0.ext, stp0.new⟩
     obtain ⟨b, had2, hbs, hown⟩ := jB (stp.own.p _ (.head _)) (by omega)
     rw [had] at had2
     injection had2 with had2
     injection had2 with e3 e4
     subst e3 e4
     let y0 : Row sz := ys[j]
     have hy0 : y0.1.length = sz := y0.2.1
     let y' : Row sz := ⟨sP y0.1 f vy.cells.toList, by rw [wN (by rw [hvl, hy0]; exact hf)]; exact y0.2.1, fun u hu => by
      unfold sP at hu
      rcases List.mem_append.1 hu with hu | hu
      ·exact y0.2.2 u (List.mem_of_mem_take hu)
      ·rcases List.mem_append.1 hu with hu | hu
       ·exact d2 u hu
       ·exact y0.2.2 u (List.mem_of_mem_drop hu)⟩
     have hfl := EV hz (vs := vy.cells.toList) (by rw [hvl]; exact hf) ys j y0 y' hys rfl
     have hoff : j * sz + f + vy.cells.toList.length ≤ ys.length * (aC sz hz).sz := by
      have : (j + 1) * sz ≤ ys.length * sz := Nat.mul_le_mul_right _ (by omega)
      rw [Nat.succ_mul] at this
      show _ ≤ ys.length * sz
      rw [hvl]; omega
     obtain ⟨g', hst, s'⟩ := stp.write (P := X.P) (ys' := ys.set j y') .head had (by simp) hfl hoff d2
     have hM' : aR g' ρ M _ := s'.all (F1 ρ M _) (.tail _ (.tail _ (.head _)))
     have hd1 : (gP ys rows).p g' := s'.all _ (.head _)
     have hd2 : aI g' ρ (aN sy) vy.cells.toList := s'.all _ (.tail _ (.head _))
     have hBn : bQ g' ρ i (.r Te sz (rows.set j (sP row f (aN sy)))) (aH.arr (aC sz hz) Te (ρ i).ad (ρ i).c (ys.set j y')) := .r hz _ (by simp [hl]) (fun ρ' k x r hk hr => by
      rw [List.getElem?_set] at hk hr
      by_cases hjk : j = k
      ·rw [if_pos hjk] at hk hr
       rw [if_pos (by omega)] at hk hr
       cases hk; cases hr
       have h0 := hd1 ρ' j y0 row hys hrow
       have h3 := hcl2 g' ρ ρ' hd2
       have hrl : row.length = sz := by rw [← h0.1]; exact hy0
       refine ⟨by
        show (sP y0.1 f vy.cells.toList).length = _
        rw [wN (by rw [hvl, hy0]; exact hf), wN (by rw [hlen, hrl]; exact hf)]
        exact h0.1, fun p s v hp hv => ?_⟩
       have hv2 : (sP y0.1 f vy.cells.toList)[p]? = some v := hv
       unfold sP at hp hv2
       by_cases h1 : p < f
       ·rw [List.getElem?_append_left (by rw [List.length_take]; omega), List.getElem?_take, if_pos h1] at hp hv2
        exact h0.2 p s v hp hv2
       ·rw [List.getElem?_append_right (by rw [List.length_take]; omega), List.length_take] at hp hv2
        rw [Nat.min_eq_left (by omega)] at hp hv2
        by_cases h2 : p - f < t.sz
        ·rw [List.getElem?_append_left (by omega)] at hp hv2
         exact h3.2 _ s v hp hv2
        ·rw [List.getElem?_append_right (by omega), List.getElem?_drop, hlen] at hp
         rw [List.getElem?_append_right (by omega), List.getElem?_drop, hvl] at hv2
         exact h0.2 _ s v hp hv2
      ·rw [if_neg hjk] at hk hr
       exact hd1 ρ' k x r hk hr)
     have hMn := hM3 g' _ hM' hBn
     have hp2 : (aH.arr (aC sz hz) Te (ρ i).ad (ρ i).c (ys.set j y') :: (m1 ++ m2 ++ own)).Perm (m1 ++ aH.arr (aC sz hz) Te (ρ i).ad (ρ i).c (ys.set j y') :: m2 ++ own) := by
      simp only [List.append_assoc, List.cons_append]
      exact List.perm_middle.symm
     have s2 := s'.perm hp2
     have hE' : cV X L' M2 fs own g' a := ⟨ρ, _, ⟨s2.kn, fun f hf => s2.all f (.tail _ (.tail _ (.tail _ (.tail _ hf)))), s2.own, s2.ext, s2.new⟩, hMn, s2.all (F2 X ρ L' a) (.tail _ (.tail _ (.tail _ (.head _))))⟩
     have hrun : (execOp a.eval o).run X.P g.w = .ok .skip g'.w := by
      simp only [execOp, ho, hvx, hvy, Nat.zero_add]
      simp only [Instr.storeAt, Instr.sureAddr, storeVar, Sem.run_bind, Sem.run_pure, Result.andThen_ok, run_sizeOf (TT.get_ok hT ht).ti]
      have hsz2 : vy.cells.size = t.sz := by rw [← Array.length_toList]; exact hvl
      simp only [hsz2, ne_eq, not_true_eq_false, if_false, hst]
      rfl
     simp only [wn, hrun, hd, jQ]
     exact ⟨g', rfl, hE'⟩
theorem sri {tb : TT} (hT : tb.Ok X.P) (j : Nat) {d i T Te n sz : Nat} {kk : IntKind} {z : Int} {x ix : Operand} {rows : List (List SV)} {dT de : TD} (hzj : z = (j : Int)) (hj : j < rows.length) (hn : n = rows.length) (h : ES X arr l k ((d, .e i (j * sz)) :: L) M fs own) (ho : o.op = .indexAddr T x ix := by rfl) (hg : o.guard = none := by rfl) (hd : o.dst = some d := by rfl) (hdn : Nat.blt d X.n = true := by rfl) (hx : cO (aF L) x = some (.o i n) := by rfl) (hy : cO (aF L) ix = some (.v (.int kk z)) := by rfl)
 (hm : fZ M i = some (.r Te sz rows) := by rfl) (hT1 : tb.get T = some dT := by rfl) (hk1 : dT.kd = .sl Te := by rfl) (hT2 : tb.get Te = some de := by rfl) (hsz : de.sz = sz := by rfl) : ES X arr (o :: l) k L M fs own := by
 refine cP (oU hT hzj hj hn ho hg hd hdn hx hy hm hT1 hk1 hT2 hsz) ?_
 rw [hd]
 exact h
theorem srl {tb : TT} (hT : tb.Ok X.P) (j f : Nat) {T Te d i sz off : Nat} {x : Operand} {cs row : List SV} {rows : List (List SV)} {de : TD} (hrow : rows[j]? = some row) (h : ES X arr l k ((d, .a cs) :: L) M fs own) (ho : o.op = .load T x := by rfl) (hg : o.guard = none := by rfl) (hd : o.dst = some d := by rfl) (hdn : Nat.blt d X.n = true := by rfl) (hx : cO (aF L) x = some (.e i off) := by rfl) (hm : fZ M i = some (.r Te sz rows) := by rfl) (hT2 : tb.get T = some de := by rfl) (hag : de.kd.ag = true := by rfl) (hoff : off = j * sz + f := by rfl) (hcs : (row.drop f).take de.sz = cs := by rfl) (hcl : cs.length = de.sz := by rfl) : ES X arr (o :: l) k L M fs own := by
 refine cP (qX hT hoff hrow hcs hcl ho hg hd hdn hx hm hT2 hag) ?_
 rw [hd]
 exact h
theorem srs {tb : TT} (hT : tb.Ok X.P) (j f : Nat) {T Te i sz off : Nat} {x y : Operand} {sy : SV} {row : List SV} {rows : List (List SV)} {t : TD} {M2 : SM} (hrow : rows[j]? = some row) (h : ES X arr l k L M2 fs own) (ho : o.op = .store T x y := by rfl) (hg : o.guard = none := by rfl) (hd : o.dst = none := by rfl) (hx : cO (aF L) x = some (.e i off) := by rfl) (hy : cO (aF L) y = some sy := by rfl) (hok : N3 sy = true := by rfl) (hclo : nC (aN sy) = true := by rfl) (hm : fZ M i = some (.r Te sz rows) := by rfl) (ht : tb.get T = some t := by rfl) (hoff : off = j * sz + f := by rfl) (hf : f + t.sz ≤ sz := by decide) (hlen : (aN sy).length = t.sz := by rfl)
 (hu : fU M i (.r Te sz (rows.set j (sP row f (aN sy)))) some = some M2 := by rfl) : ES X arr (o :: l) k L M fs own := by
 refine cP (sv := .v (.bool true)) (JP hT hoff hrow hf ho hg hd hx hy hok hlen hclo hm ht hu) ?_
 rw [hd]
 exact h
theorem r6 {tb : TT} (hT : tb.Ok X.P) (j f m : Nat) (H : List (List SV)) {un q d i T Te sz off : Nat} {D r π' : List Nat} {Ms Ms' : List SM} {x : Operand} {cs row : List SV} {rows : List (List SV)} {de : TD} {L' M' φ} (hrow : rows[j]? = some row) (hk : ED X arr k fs own un D π' L' M' Ms') (hi : arr[q]? = some o := by rfl) (hu : un.testBit q = false := by rfl) (ho : o.op = .load T x := by rfl) (hg : o.guard = none := by rfl) (hd : o.dst = some d := by rfl) (hdn : Nat.blt d X.n = true := by rfl) (hx : cO (aF L) x = some (.e i off) := by rfl)
 (hm : fZ M i = some (.r Te sz rows) := by rfl) (hall : BK i (.r Te sz rows) Ms := by repeat (first | exact trivial | refine ⟨rfl, ?_⟩)) (hb : Nat.ble (DY arr.size un D q) Ms.length = true := by rfl) (hT2 : tb.get T = some de := by rfl) (hag : de.kd.ag = true := by rfl) (hoff : off = j * sz + f := by rfl) (hcs : (row.drop f).take de.sz = cs := by rfl) (hcl : cs.length = de.sz := by rfl)
 (hr : f9 tb X.n arr un D m H r ((d, .a cs) :: L) M Ms [] = some (π', L', M', Ms', φ) := by rfl) (hφ : aE φ := by first | trivial | omega | (simp +contextual [aE]; done)) : ED X arr k fs own un D (q :: r) L M Ms := by
 refine ⟨o, .a cs, hi, ?_⟩
 rw [hu]
 refine ⟨.inl ⟨Nat.le_of_ble_eq_true hb, qX hT hoff hrow hcs hcl ho hg hd hdn hx hm hT2 hag, fun q M2 hq _ => qX hT hoff hrow hcs hcl ho hg hd hdn hx (jA hall hq) hT2 hag⟩, ?_⟩
 rw [hd]
 exact xd hT m H hk hr hφ
theorem GP {tb : TT} (hT : tb.Ok X.P) (j f m : Nat) (H : List (List SV)) {un q i T Te sz off : Nat} {D r π' : List Nat} {Ms Ms' : List SM} {x y : Operand} {sy : SV} {row : List SV} {rows : List (List SV)} {t : TD} {M2 : SM} {L' M' φ} (hrow : rows[j]? = some row) (hk : ED X arr k fs own un D π' L' M' Ms') (hi : arr[q]? = some o := by rfl) (hu : un.testBit q = true := by rfl) (ho : o.op = .store T x y := by rfl) (hg : o.guard = none := by rfl) (hd : o.dst = none := by rfl) (hx : cO (aF L) x = some (.e i off) := by rfl) (hy : cO (aF L) y = some sy := by rfl) (hok : N3 sy = true := by rfl) (hclo : nC (aN sy) = true := by rfl)
 (hm : fZ M i = some (.r Te sz rows) := by rfl) (ht : tb.get T = some t := by rfl) (hup : fU M i (.r Te sz (rows.set j (sP row f (aN sy)))) some = some M2 := by rfl) (hoff : off = j * sz + f := by rfl) (hf : f + t.sz ≤ sz := by decide) (hlen : (aN sy).length = t.sz := by rfl)
 (hr : f9 tb X.n arr un D m H r L M2 (M :: Ms) [] = some (π', L', M', Ms', φ) := by rfl) (hφ : aE φ := by first | trivial | omega | (simp +contextual [aE]; done)) : ED X arr k fs own un D (q :: r) L M Ms := by
 refine ⟨o, .v (.bool true), hi, ?_⟩
 rw [hu]
 refine ⟨M2, (JP hT hoff hrow hf ho hg hd hx hy hok hlen hclo hm ht hup).u, ?_⟩
 rw [hd]
 exact xd hT m H hk hr hφ
end
theorem tR {P : Program} {w w' : World} {dT sT ty e sz by_ : Nat} {z : Value} {ad ad2 : Addr} {dLen dCap sLen sCap : Nat} {vs : List Value} (u : P.underlying dT = some (.slice e)) (i : TI P e sz by_ z) (hn : vs.length = Nat.min sLen dLen * sz) (hsrc : ∀ (j : Nat) v, vs[j]? = some v → w.cell? (ad2.add j) = some v) (hst : (storeCells ad vs 0).run P w = .ok () w') :
 (Builtin.copy_ #[dT, sT] ty #[.slice (some ad) dLen dCap, .slice (some ad2) sLen sCap]).run P w = .ok (goInt (Nat.min sLen dLen)) w' := by
 have hl := run_loadCells_list (P := P) (w := w) ad2 vs hsrc
 rw [hn] at hl
 simp [Builtin.copy_, run_underlying u, Builtin.lenOf, Builtin.firstCells, run_sizeOf i, hl, hst]
section
variable {X : Kx} {k : List It} {L : SL} {M : SM} {fs : List MF} {own : List aH} {arr : Array Oper} {l : List Oper} {o : Oper}
theorem UR {tb : TT} (hT : tb.Ok X.P) {d T T2 Te i n sz : Nat} {x y : Operand} {rows rows2 : List (List SV)} {dT de : TD} {M2 : SM} (hn : n = rows.length) (hne2 : rows2 ≠ []) (hle : rows2.length ≤ rows.length) (ho : o.op = .call ⟨.builtin .copy, #[x, y], #[T, T2]⟩) (hg : o.guard = none) (hd : o.dst = some d) (hdn : Nat.blt d X.n = true)
 (hx : cO (aF L) x = some (.o i n)) (hy : cO (aF L) y = some (.s sz rows2)) (hm : fZ M i = some (.r Te sz rows)) (hT1 : tb.get T = some dT) (hk1 : dT.kd = .sl Te) (hT2 : tb.get Te = some de) (hsz : de.sz = sz) (hu : fU M i (.r Te sz (rows2 ++ rows.drop rows2.length)) some = some M2) :
 Stp X arr o L M fs own (.v (.int .i64 (rows2.length : Int))) M2 := by
 subst hsz hn
 intro L' hL g a hE
 obtain ⟨ρ, ms, st⟩ := hE.open
 have hSl : Sl X ρ L' a g := st.all _ (.tail _ (.head _))
 have hM : aR g ρ M ms := st.all _ (.head _)
 have hw : Region.wanted o (yielded arr a.tmps) = true := aX (L := []) st.kn (cA hg)
 unfold rY
 rw [if_pos hw]
 have hev : evs (aF L') [x, y] = some [.o i rows.length, .s de.sz rows2] := by
  have := aW hL
  rw [show o.op.operands.toList = [x, y] by rw [ho]; rfl] at this
  rw [this]
  simp only [evs, hx, hy]
 obtain ⟨_, _, e1, dx, hr1⟩ := (aT hSl.val hev).uncons
 obtain ⟨_, _, e2, dy, _⟩ := hr1.uncons
 simp only [List.map_cons, List.cons.injEq] at e1
 obtain ⟨rfl, rfl⟩ := e1
 simp only [List.cons.injEq] at e2
 obtain ⟨rfl, _⟩ := e2
 obtain ⟨r, m1, m2, rfl, hB, hup⟩ := hM.split hm
 obtain ⟨M3, hK, hM3⟩ := hup hu
 cases hK
 generalize hvx : a.eval x = vx at dx
 generalize hvy : a.eval y = vy at dy
 have u := (TT.get_ok hT hT1).kd
 rw [hk1] at u
 have hti := (TT.get_ok hT hT2).ti
 cases hB with
 | r hz ys hl hdd =>
   cases dx with
   | o =>
     cases dy with
     | s xs h1 h2 hxl hxr hxo hne hxd =>
       rename_i ad2 c2
       obtain ⟨ys2, hyl2, hyf⟩ := chunks hz rows2.length xs hxl hxo.1
       obtain ⟨b2, o2, hb2, _, hcell⟩ := hne hne2
       subst hb2
       have hp : (m1 ++ aH.arr (aC de.sz hz) Te (ρ i).ad (ρ i).c ys :: m2 ++ own).Perm (aH.arr (aC de.sz hz) Te (ρ i).ad (ρ i).c ys :: (m1 ++ m2 ++ own)) := by
        simp only [List.append_assoc, List.cons_append]
        exact List.perm_middle
       have hpos : 0 < rows2.length := List.length_pos_iff.2 hne2
       have stp0 := st.perm hp
       have hrd2 : (gP ys2 rows2).p g := fun ρ' k x r hk hr => by
        have hrl : r.length = de.sz := hxr r (List.mem_of_getElem? hr)
        refine ⟨by rw [hrl]; exact x.2.1, fun j sv v h3 h4 => ?_⟩
        refine hxd ρ' k j r sv v hr h3 ?_
        have := flat_get (aC de.sz hz) ys2 k j x v hk h4
        rw [hyf] at this
        exact this
       have stp : St X.toCx [] (gP ys rows :: gP ys2 rows2 :: F1 ρ M _ :: F2 X ρ L' a :: fs) _ g a := ⟨stp0.kn, dF.cons hdd (dF.cons hrd2 stp0.all), stp0.own, stp0.ext, stp0.new⟩
       obtain ⟨b, had, hbs, hown⟩ := jB (stp.own.p _ (.head _)) (by omega)
       have hfl : flat (aC de.sz hz) (ys2 ++ ys.drop rows2.length) = (flat (aC de.sz hz) ys).take 0 ++ (xs ++ (flat (aC de.sz hz) ys).drop (0 + xs.length)) := by
        rw [List.take_zero, List.nil_append, Nat.zero_add, hxl]
        have e1 : flat (aC de.sz hz) (ys2 ++ ys.drop rows2.length) = flat (aC de.sz hz) ys2 ++ flat (aC de.sz hz) (ys.drop rows2.length) := by simp [flat]
        rw [e1, hyf]
        have e2 := r7 (aC de.sz hz) ys rows2.length
        rw [show rows2.length * (aC de.sz hz).sz = rows2.length * de.sz from rfl] at e2
        rw [e2]
       obtain ⟨g', hst, s'⟩ := stp.write (P := X.P) (ys' := ys2 ++ ys.drop rows2.length) .head had (by rw [List.length_append, hyl2, List.length_drop]; omega) hfl (by
        rw [Nat.zero_add, hxl]
        exact Nat.mul_le_mul_right _ (by omega)) hxo.1
       have hM' : aR g' ρ M _ := s'.all (F1 ρ M _) (.tail _ (.tail _ (.head _)))
       have hd1 : (gP ys rows).p g' := s'.all _ (.head _)
       have hd2 : (gP ys2 rows2).p g' := s'.all _ (.tail _ (.head _))
       have hBn : bQ g' ρ i (.r Te de.sz (rows2 ++ rows.drop rows2.length)) (aH.arr (aC de.sz hz) Te (ρ i).ad (ρ i).c (ys2 ++ ys.drop rows2.length)) := .r hz _ (by simp [hl, hyl2]) (fun ρ' k x r hk hr => by
        by_cases hk2 : k < rows2.length
        ·rw [List.getElem?_append_left (by omega)] at hk hr
         exact hd2 ρ' k x r hk hr
        ·rw [List.getElem?_append_right (by omega), List.getElem?_drop] at hk hr
         rw [hyl2] at hk
         exact hd1 ρ' _ x r hk hr)
       have hMn := hM3 g' _ hM' hBn
       have hp2 : (aH.arr (aC de.sz hz) Te (ρ i).ad (ρ i).c (ys2 ++ ys.drop rows2.length) :: (m1 ++ m2 ++ own)).Perm (m1 ++ aH.arr (aC de.sz hz) Te (ρ i).ad (ρ i).c (ys2 ++ ys.drop rows2.length) :: m2 ++ own) := by
        simp only [List.append_assoc, List.cons_append]
        exact List.perm_middle.symm
       have s2 := s'.perm hp2
       have hmin : Nat.min rows2.length rows.length = rows2.length := Nat.min_eq_left hle
       have hcp := tR (P := X.P) (w := g.w) (w' := g'.w) (dT := T) (sT := T2) (ty := o.type) (dCap := (ρ i).c) (sCap := c2) (sLen := rows2.length) (dLen := rows.length) (ad := ⟨b, 0, none⟩) (ad2 := ⟨b2, o2, none⟩) (vs := xs) u hti (by rw [hmin]; exact hxl) (fun j v hv => by rw [addr_add]; exact hcell j v hv) hst
       rw [hmin] at hcp
       have hre : (execOp a.eval o).run X.P g.w = .ok (.value (goInt rows2.length)) g'.w := by
        simp only [execOp, ho, resolve]
        simp only [List.map_toArray, List.map_cons, List.map_nil, hvx, hvy, had]
        simp [invoke, builtin, hcp]
       simp only [wn, hre, hd]
       have s3 : St X.toCx [] (F1 ρ M2 (m1 ++ aH.arr (aC de.sz hz) Te (ρ i).ad (ρ i).c (ys2 ++ ys.drop rows2.length) :: m2) :: F2 X ρ L' a :: fs) (m1 ++ aH.arr (aC de.sz hz) Te (ρ i).ad (ρ i).c (ys2 ++ ys.drop rows2.length) :: m2 ++ own) g' a := ⟨s2.kn, dF.cons hMn (dF.cons (s2.all (F2 X ρ L' a) (.tail _ (.tail _ (.tail _ (.head _))))) (fun f hf => s2.all f (.tail _ (.tail _ (.tail _ (.tail _ hf)))))), s2.own, s2.ext, s2.new⟩
       exact ⟨g', rfl, cV.put s3 hdn .v⟩
theorem aA9 {tb : TT} (hT : tb.Ok X.P) {d T T2 Te i n sz : Nat} {x y : Operand} {rows rows2 : List (List SV)} {dT de : TD} {M2 : SM} (hn : n = rows.length) (hne2 : rows2 ≠ []) (hle : rows2.length ≤ rows.length) (h : ES X arr l k ((d, .v (.int .i64 (rows2.length : Int))) :: L) M2 fs own) (ho : o.op = .call ⟨.builtin .copy, #[x, y], #[T, T2]⟩ := by rfl) (hg : o.guard = none := by rfl) (hd : o.dst = some d := by rfl) (hdn : Nat.blt d X.n = true := by rfl)
 (hx : cO (aF L) x = some (.o i n) := by rfl) (hy : cO (aF L) y = some (.s sz rows2) := by rfl) (hm : fZ M i = some (.r Te sz rows) := by rfl) (hT1 : tb.get T = some dT := by rfl) (hk1 : dT.kd = .sl Te := by rfl) (hT2 : tb.get Te = some de := by rfl) (hsz : de.sz = sz := by rfl) (hu : fU M i (.r Te sz (rows2 ++ rows.drop rows2.length)) some = some M2 := by rfl) : ES X arr (o :: l) k L M fs own := by
 refine cP (UR hT hn hne2 hle ho hg hd hdn hx hy hm hT1 hk1 hT2 hsz hu) ?_
 rw [hd]
 exact h
theorem aAA {tb : TT} (hT : tb.Ok X.P) (i n : Nat) {d T Te sz by_ : Nat} {x y : Operand} {p q : Int} {z : Value} (hz0 : 0 < sz) (ys : List (Row sz)) (hyl : ys.length = n) (hp : p = (n : Int)) (hq : q = (n : Int)) (hmade : madeCells z.cells (n * sz) = (flat (aC sz hz0) ys).toArray) (hbig : by_ * n ≤ 281474976710656) (h63 : n ≤ maxLen) (ht : TI X.P Te sz by_ z) (u : X.P.underlying T = some (.slice Te))
 (h : ES X arr l k ((d, .o i n) :: L) ((i, .r Te sz (ys.map fun y => y.1.map SV.v)) :: M) fs own) (ho : o.op = .makeSlice T x y := by rfl) (hg : o.guard = none := by rfl) (hd : o.dst = some d := by rfl) (hdn : Nat.blt d X.n = true := by rfl) (hx : cO (aF L) x = some (.v (.int .i64 p)) := by rfl) (hy : cO (aF L) y = some (.v (.int .i64 q)) := by rfl) (hoc : (cU i L || eM i M) = false := by rfl) (hlt : Nat.blt i 1000 = true := by rfl) : ES X arr (o :: l) k L M fs own := by
 subst hp hq hyl
 intro g a hE
 obtain ⟨ρ, ms, st⟩ := hE.open
 simp only [Bool.or_eq_false_iff] at hoc
 have hlt : i < 1000 := by simpa [Nat.blt_eq] using hlt
 have hSl : Sl X ρ L a g := st.all _ (.tail _ (.head _))
 have hM : aR g ρ M ms := st.all _ (.head _)
 have hw : Region.wanted o (yielded arr a.tmps) = true := aX (L := []) st.kn (cA hg)
 have hev : evs (aF L) [x, y] = some [.v (.int .i64 (ys.length : Int)), .v (.int .i64 (ys.length : Int))] := by simp only [evs, hx, hy]
 obtain ⟨_, _, e1, dx, hr1⟩ := (aT hSl.val hev).uncons
 obtain ⟨_, _, e2, dy, _⟩ := hr1.uncons
 simp only [List.map_cons, List.cons.injEq] at e1
 obtain ⟨rfl, rfl⟩ := e1
 simp only [List.cons.injEq] at e2
 obtain ⟨rfl, _⟩ := e2
 have hvx := cF dx
 have hvy := cF dy
 obtain ⟨i0, hi0, hs0, hb0, hz1⟩ := ht
 subst hs0 hb0
 have h63' : (ys.length : Int) ≤ 9223372036854775807 := by simp only [maxLen] at h63; omega
 have hb' : (i0.bytes : Int) * (ys.length : Int) ≤ 281474976710656 := by
  have : ((i0.bytes * ys.length : Nat) : Int) ≤ 281474976710656 := by omega
  rwa [Int.natCast_mul] at this
 have hrun := run_make (P := X.P) g.w T Te i0 z u hi0 hz1 .i64 .i64 ys.length ys.length (by omega) (Int.le_refl _) hb' h63'
 simp only [Int.toNat_natCast, hmade] at hrun
 have s' := st.alloc (.cells (flat (aC i0.size hz0) ys).toArray Te)
 have s2 : St X.toCx [] (F1 ρ M ms :: F2 X ρ L a :: fs) (aH.arr (aC i0.size hz0) Te (some ⟨g.w.heap.size, 0, none⟩) ys.length ys :: (ms ++ own)) ⟨g.w.alloc (.cells (flat (aC i0.size hz0) ys).toArray Te), g.fz, fun b hb => by have := g.lt b hb; rw [size_alloc]; omega⟩ a := by
  refine ⟨s'.kn, s'.all, ⟨fun r hr' => ?_, s'.own.nodup, s'.own.lt, s'.own.nfz⟩, s'.ext, s'.new⟩
  cases hr' with
  | head =>
    have := World.ownsRow_lit (base := 0) (e := Te) (size := i0.size) g.w (flat (aC i0.size hz0) ys).toArray ys.length (Nat.zero_le _) h63 (by simp [eN, aC])
    have h3 : World.ownsRow (g.w.alloc (.cells (flat (aC i0.size hz0) ys).toArray Te)) 0 Te i0.size (.slice (some ⟨g.w.heap.size, 0, none⟩) ys.length ys.length) ys.length (flat (aC i0.size hz0) ys) := by simpa using this
    exact h3
  | tail _ hm => exact s'.own.p r (.tail _ hm)
 generalize hgg : (⟨g.w.alloc (.cells (flat (aC i0.size hz0) ys).toArray Te), g.fz, fun b hb => by have := g.lt b hb; rw [size_alloc]; omega⟩ : GW) = g' at s2
 have hgw : g'.w = g.w.alloc (.cells (flat (aC i0.size hz0) ys).toArray Te) := by rw [← hgg]
 have hre : (execOp a.eval o).run X.P g.w = .ok (.value (.slice (some ⟨g.w.heap.size, 0, none⟩) ys.length ys.length)) g'.w := by
  simp only [execOp, ho, hvx, hvy, hgw]
  simp [hrun]
 let y1 : Lc := ⟨0, some ⟨g.w.heap.size, 0, none⟩, ys.length⟩
 have hM' : aR g' ρ M ms := s2.all (F1 ρ M ms) (.head _)
 have hS' : Sl X ρ L a g' := s2.all (F2 X ρ L a) (.tail _ (.head _))
 have hB : bQ g' (fun j => if j = i then y1 else ρ j) i (.r Te i0.size (ys.map fun y => y.1.map SV.v)) (aH.arr (aC i0.size hz0) Te ((fun j => if j = i then y1 else ρ j) i).ad ((fun j => if j = i then y1 else ρ j) i).c ys) := .r hz0 ys (by simp) (fun ρ' k x r hk hr => by
  rw [List.getElem?_map, hk] at hr
  cases hr
  refine ⟨by simp, fun j sv v h1 h2 => ?_⟩
  rw [List.getElem?_map, h2] at h1
  cases h1
  exact .v)
 simp only [if_pos] at hB
 have hMn : aR g' (fun j => if j = i then y1 else ρ j) ((i, .r Te i0.size (ys.map fun y => y.1.map SV.v)) :: M) (aH.arr (aC i0.size hz0) Te (some ⟨g.w.heap.size, 0, none⟩) ys.length ys :: ms) := .cons hB (dH hM' hoc.2)
 have s3 : St X.toCx [] (F1 (fun j => if j = i then y1 else ρ j) ((i, .r Te i0.size (ys.map fun y => y.1.map SV.v)) :: M) (aH.arr (aC i0.size hz0) Te (some ⟨g.w.heap.size, 0, none⟩) ys.length ys :: ms) :: F2 X (fun j => if j = i then y1 else ρ j) L a :: fs) (aH.arr (aC i0.size hz0) Te (some ⟨g.w.heap.size, 0, none⟩) ys.length ys :: ms ++ own) g' a := ⟨s2.kn, dF.cons hMn (dF.cons ⟨fun j hj => by
  have : j ≠ i := by omega
  simp only [if_neg this]; exact hS'.pin j hj, fun t sv ht => by
  obtain ⟨x, hx, dx⟩ := hS'.val t sv ht
  exact ⟨x, hx, dx.upd (c8 hoc.1 t sv ht)⟩⟩ (fun f hf => s2.all f (.tail _ (.tail _ hf)))), s2.own, s2.ext, s2.new⟩
 simp only [wl, hw, if_true, wn, hre, hd]
 have hfin : cV X ((d, .o i ys.length) :: L) ((i, .r Te i0.size (ys.map fun y => y.1.map SV.v)) :: M) fs own g' (a.put (some d) (.slice (some ⟨g.w.heap.size, 0, none⟩) ys.length ys.length)) := cV.put s3 hdn (by
  have : bC g' (fun j => if j = i then y1 else ρ j) (.o i ys.length) (.slice ((fun j => if j = i then y1 else ρ j) i).ad ys.length ((fun j => if j = i then y1 else ρ j) i).c) := .o
  simpa [y1] using this)
 exact h g' _ hfin
end
end Go.KX
