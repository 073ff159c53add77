/- VC VD VE VG VJ VK VL VM VN EC YD YE YF. -/
import Derived.Test.YtomkgfdigldhcaaGreatDoorLGF
import Derived.ArgAppend
import Derived.Laws.OwnMore
import Derived.Laws.MakeOwn
namespace Go.KX
def colD (D : Nat) : Deferred := { target := .collected D, args := #[] }
theorem ESt.reQ {P : Program} {n : Nat} {g0 : GW} {B0 : List Nat} {Q Q' : Exit → Act → World → Prop} {rd rd' : Option Nat} {df : List Deferred} {ρ0 : Nat → Lc} {L : SL} {M : SM} {fs : List MF} {own : List Res} {g : GW} {a : Act}
    (h : ESt ⟨⟨P, n, g0, B0, Q, rd, df⟩, ρ0⟩ L M fs own g a) : ESt ⟨⟨P, n, g0, B0, Q', rd', df⟩, ρ0⟩ L M fs own g a := by
  obtain ⟨ρ, ms, s1, s2, s3⟩ := h.ex
  exact ⟨ρ, ms, ⟨s1.kn, s1.all, s1.own, s1.ext, s1.new⟩, s2, s3.pin, s3.val⟩
theorem St.putO {X : Cx} {L : LL} {fs : List MF} {own' : List Res} {g : GW} {a : Act} {b : Nat} {o : Obj} (s : St X L fs (Res.blk b o :: own') g a) (o' : Obj) : ∃ g', g'.w = g.w.putObj b o' ∧ St X L fs (Res.blk b o' :: own') g' a := by
  have hlt : b < g.w.heap.size := s.own.lt b (by simp [Res.blk])
  refine s.turn (r' := Res.blk b o') .head (fun c hc hn => World.putObj_heap_other (by simpa [Res.blk] using hn)) rfl rfl rfl (by rw [World.putObj_size]; exact Nat.le_refl _) (World.putObj_heap_same hlt) (by simp [Res.blk]) (fun c hc => ?_) (fun c hc => .inl hc)
  have : c = b := by simpa [Res.blk] using hc
  rw [this, World.putObj_size]; exact hlt
theorem St.alloc2 {X : Cx} {L : LL} {fs : List MF} {own : List Res} {g : GW} {a : Act} (s : St X L fs own g a) (o1 o2 : Obj) : ∃ g' : GW, g'.w = (g.w.alloc o1).alloc o2 ∧ St X L fs (Res.blk (g.w.heap.size + 1) o2 :: Res.blk g.w.heap.size o1 :: own) g' a := by
  have sL := (s.alloc o1).alloc o2
  have e : (g.w.alloc o1).heap.size = g.w.heap.size + 1 := size_alloc g.w o1
  simp only [e] at sL
  exact ⟨_, rfl, sL⟩
theorem zip_fold (ps : Array Nat) (vs : List Value) (T : Array Value) : (ps.zip vs.toArray).foldl (fun tmps (p : Nat × Value) => tmps.setIfInBounds p.1 p.2) T = (ps.toList.zip vs).foldl (fun t p => t.setIfInBounds p.1 p.2) T := by
  rw [← Array.foldl_toList]
  simp
/-- A range over a function. -/
theorem E_range {X : Kx} {k : List It} {L : SL} {M : SM} {fs : List MF} {fo : Operand} {ps : Array Tmp} {assign body : Code} {gf : FuncId} {caps : List SV} {args : List (List SV)} {ι : Type} (Ms : Nat → SM) (Mx : ι → SM) (hit : Itr X.P fs gf caps args)
    (hround : ∀ (j : Nat) a, args[j]? = some a → ∀ (l : Nat) g0 B0 ρ0 Q1 Q2 own1 own2 (J : Act → World → Prop),
      (∀ {L' M'}, E ⟨⟨X.P, X.n, g0, B0, Q2, some l, []⟩, ρ0⟩ [.code body] L' M' fs own2 → E ⟨⟨X.P, X.n, g0, B0, Q1, some l, []⟩, ρ0⟩ [.lp J] L' M' fs own1) →
      (∀ {L' M'}, keepM (Nat.ble 1000) M' = upM (Ms (j + 1)) → E ⟨⟨X.P, X.n, g0, B0, Q2, some l, []⟩, ρ0⟩ [] L' M' fs own2) →
      (∀ {k' L' M'} (i : ι), keepM (Nat.ble 1000) M' = upM (Mx i) → E ⟨⟨X.P, X.n, g0, B0, Q2, some l, []⟩, ρ0⟩ (.code .ret :: k') L' M' fs own2) →
      E ⟨⟨X.P, X.n, g0, B0, Q1, some l, []⟩, ρ0⟩ [.code assign, .lp J] (putP ps.toList a (upS L)) (upM (Ms j)) fs own1)
    (hk : ∀ D, E { X with df := [colD D] } k L (Ms args.length) fs [Res.blk D (.deferred (some []))])
    (hx : ∀ D i, E { X with df := [colD D] } (.code .ret :: k) L (Mx i) fs [Res.blk D (.deferred (some []))])
    (hcl : ∀ a ∈ args, cloL a = true) (hps : ∀ a ∈ args, a.length = ps.size) (hfo : evS (lkS L) fo = some (.f gf [] caps) := by rfl) (hpn : ps.toList.all (fun p => Nat.blt p X.n) = true := by rfl) (hM : keepM (keysB (Ms 0)) M = Ms 0 := by rfl) (hrd : X.rd = none := by rfl) (hdf : X.df = [] := by rfl) : E X (.code (.rangeFunc fo ps assign body) :: k) L M fs [] := by
  intro g a hE
  obtain ⟨ρ, msl, s1, s2, s3⟩ := hE.ex
  obtain ⟨m1, m2, h4, h5⟩ := s2.keep (keysB (Ms 0))
  rw [hM] at h4
  have st0 : St X.toCx [] fs m1 g a := (s1.perm (by simpa using h5)).drop
  have st : St X.toCx [] (F1 ρ (Ms 0) m1 :: F2 X ρ L a :: fs) m1 g a := ⟨st0.kn, All.cons h4 (All.cons s3 st0.all), st0.own, st0.ext, st0.new⟩
  have dfo := eval_den s3.val hfo
  obtain ⟨xs, ys, hfe, d1, d2⟩ := den_f dfo
  obtain rfl := d1.unnil
  show (Code.rangeFunc fo ps assign body).wpIn (fen X.rd) 0 X.P (cont X.P X.rd X.Q k) a g.w
  refine wpIn_rangeFunc (fun fn _ => ?_)
  have hro : (fen X.rd).round = none := hrd
  rw [hro]
  obtain ⟨D, hD⟩ : ∃ D, D = g.w.heap.size := ⟨_, rfl⟩
  obtain ⟨rec, hrec⟩ : ∃ rec : LoopState → Option Code → Loop, rec = fun st pe => { state := st, pending := pe, fn, tmps := a.tmps, params := ps, assign, body, defers := D } := ⟨_, rfl⟩
  obtain ⟨gL, hgL, sL⟩ := st.alloc2 (.deferred (some [])) (.loop (rec .ready none))
  rw [← hD] at sL
  have hent := run_enterLoop_outer (P := X.P) (w := g.w) fn a.tmps ps assign body
  rw [← hD, show ({ state := .ready, pending := none, fn, tmps := a.tmps, params := ps, assign, body, defers := D } : Loop) = rec .ready none by rw [hrec], ← hgL] at hent
  have hfe' : a.eval fo = .func (.func gf) #[] ys.toArray := hfe
  refine ⟨D + 1, [colD D], gL.w, { target := .fn (.func gf) ys.toArray, args := #[.func (.yield (D + 1)) #[] #[]] }, gL.w, gf, #[.func (.yield (D + 1)) #[] #[]] ++ ys.toArray, gL.w, hent, ?_, fun _ _ => trivial, ?_, fun h => by simp [Fence.wide] at h, (callsIn_wide (n := 0)).2 ?_⟩
  · simp only [resolve, hfe']
    simp [go_sem]
  · simp [invoke, go_sem, run_callFunc hit.1]
  have sL2 := sL.perm (own' := (Res.blk (D + 1) (.loop (rec .ready none)) :: m1) ++ [Res.blk D (.deferred (some []))]) (by
    simp only [List.cons_append]
    exact List.Perm.cons _ ((List.perm_append_comm (l₁ := [Res.blk D (.deferred (some []))]) (l₂ := m1))))
  have hF2 : (F2 X ρ L a).p gL := sL2.all _ (.tail _ (.head _))
  have hAL : All fs gL := fun f hf => sL2.all f (.tail _ (.tail _ hf))
  let R : Rnd := {
    J := fun j g ms => ∃ mms, ms = Res.blk (D + 1) (.loop (rec .ready none)) :: mms ∧ DenM g ρ (Ms j) mms ∧ (F2 X ρ L a).p g ∧ All fs g
    Jx := fun g ms => ∃ i mms, ms = Res.blk (D + 1) (.loop (rec .done (some .ret))) :: mms ∧ DenM g ρ (Mx i) mms ∧ (F2 X ρ L a).p g ∧ All fs g
    mono := fun e ⟨mms, h1, h2, h3, h4⟩ => ⟨mms, h1, h2.mono e, (F2 X ρ L a).mono e h3, h4.mono e⟩
    monox := fun e ⟨i, mms, h1, h2, h3, h4⟩ => ⟨i, mms, h1, h2.mono e, (F2 X ρ L a).mono e h3, h4.mono e⟩ }
  have hcaps : DenL gL ρ caps ys := by
    have dfo' := eval_den (Sl.val hF2) hfo
    obtain ⟨_, ys', hfe2, _, d3⟩ := den_f dfo'
    rw [hfe] at hfe2
    have : ys = ys' := by
      have := hfe2
      simp only [Value.func.injEq] at this
      exact List.toArray_inj this.2.2
    rw [this]; exact d3
  have hRnd : RndOK X.P (D + 1) R args := by
    rintro j av hj g1 ms ρa vs ⟨mms, rfl, hM1, hS1, hA1⟩ hO1 hd1
    have hmem : av ∈ args := List.mem_of_getElem? hj
    have hl : g1.w.heap[D + 1]? = some (.loop (rec .ready none)) := hO1.p _ (.head _)
    have hy := run_yield (P := X.P) (args := vs.toArray) hl (by rw [hrec]; simpa using hd1.1.trans (hps av hmem))
    rw [hrec] at hy
    refine ⟨fn, _, assign, body, hy, roundIn_of_wpIn (n := 0) (F := Fence.wide) trivial ?_⟩
    let ms := Res.blk (D + 1) (.loop (rec .ready none)) :: mms
    let ρ0 : Nat → Lc := fun i => ρ (i - 1000)
    have eρ : ∀ i, ρ0 (i + 1000) = ρ i := fun i => by simp [ρ0]
    let RR := RP g1 ms (R.J (j + 1)) R.Jx
    let Q2 := roundPost X.P (D + 1) RR
    let J1 : Act → World → Prop := fun a₁ w₁ => ∃ w₂, (Instr.beginRound (D + 1)).run X.P w₁ = .ok () w₂ ∧ body.wpIn (Fence.wide.inRound (D + 1)) 0 X.P (roundPost X.P (D + 1) RR) a₁ w₂
    have fin : ∀ (stt : LoopState) (pe : Option Code) {L' M' M1 g4 a4}, ESt ⟨⟨X.P, X.n, g1, blks ms, Q2, some (D + 1), []⟩, ρ0⟩ L' M' fs [Res.blk (D + 1) (.loop { rec .ready none with state := .busy })] g4 a4 → keepM (Nat.ble 1000) M' = upM M1 →
        g4.w.heap[D + 1]? = some (.loop { rec .ready none with state := .busy }) ∧ ∃ g' m4, g'.w = g4.w.putObj (D + 1) (.loop (rec stt pe)) ∧ Ext (blks ms) g1 g' ∧ Own (Res.blk (D + 1) (.loop (rec stt pe)) :: m4) g' ∧ (∀ b ∈ blks (Res.blk (D + 1) (.loop (rec stt pe)) :: m4), b ∈ blks ms ∨ g1.w.heap.size ≤ b) ∧ DenM g' ρ M1 m4 ∧ (F2 X ρ L a).p g' ∧ All fs g' := by
      intro stt pe L' M' M1 g4 a4 s4 hk4
      obtain ⟨ρ4, ms4, t1, t2, t3⟩ := s4.ex
      obtain ⟨m4, m5, h6, h7⟩ := t2.keep (Nat.ble 1000)
      rw [hk4] at h6
      have e4 : ∀ i, ρ4 (i + 1000) = ρ i := fun i => (t3.pin _ (by omega)).trans (eρ i)
      have t1p := (t1.perm (own' := (Res.blk (D + 1) (.loop { rec .ready none with state := .busy }) :: m4) ++ m5) ((List.perm_append_comm (l₁ := ms4)).trans (List.Perm.cons _ h7))).drop
      have hl4 := t1p.own.p _ (.head _)
      have t5 : St _ [] (F1 ρ4 (upM M1) m4 :: fs) _ g4 a4 := ⟨t1p.kn, All.cons h6 t1p.all, t1p.own, t1p.ext, t1p.new⟩
      obtain ⟨g', hw, s'⟩ := t5.putO (.loop (rec stt pe))
      exact ⟨hl4, g', m4, hw, s'.ext, s'.own, s'.new, (show DenM g' ρ4 (upM M1) m4 from s'.all _ (.head _)).dn e4, (F2 X ρ L a).mono s'.ext.toFExt hS1, fun f hf => s'.all f (.tail _ hf)⟩
    have key := hround j av hj (D + 1) g1 (blks ms) ρ0 (fun _ _ _ => False) Q2 [Res.blk (D + 1) (.loop (rec .ready none))] [Res.blk (D + 1) (.loop { rec .ready none with state := .busy })] J1 ?_ ?_ ?_
    · refine key g1 { tmps := _, defers := [] } ?_
      have hd1' : DenL g1 ρ0 av vs := hd1.swap (hcl av hmem) ρ0
      have hsz : a.tmps.size = X.n := st0.kn.size
      obtain ⟨h8, h9⟩ := putP_ok ps.toList (g := g1) (ρ := ρ0) (svs := av) (xs := vs) (L := upS L) (T := a.tmps) (by rw [hsz]; exact hpn) hd1' (fun t sv ht => by
        obtain ⟨s0, h10, rfl⟩ := upS_lk ht
        obtain ⟨x, hx, dx⟩ := Sl.val hS1 t s0 h10
        exact ⟨x, hx, dx.up eρ⟩)
      rw [← zip_fold] at h8 h9
      exact ⟨ρ0, mms, ⟨⟨h8.trans hsz, rfl, fun i v hi => by simp [lk] at hi⟩, hA1, hO1.perm (List.perm_append_comm (l₁ := [_])), Ext.refl _ g1, fun b hb => .inl ((blks_perm (List.perm_append_comm (l₁ := mms) (l₂ := [_]))).subset hb)⟩, hM1.up eρ, fun _ _ => rfl, h9⟩
    · intro L' M' hb g2 a2 hs2
      obtain ⟨ρ2, ms2, t2⟩ := hs2.open
      have t3 := t2.perm (List.perm_append_comm (l₂ := [Res.blk (D + 1) (.loop (rec .ready none))]))
      have hl2 : g2.w.heap[D + 1]? = some (.loop (rec .ready none)) := t3.own.p _ (.head _)
      obtain ⟨g3, hw3, t4⟩ := St.putO t3 (.loop { rec .ready none with state := .busy })
      refine ⟨_, run_beginRound hl2 (by rw [hrec]), ?_⟩
      rw [← hw3]
      exact hb g3 a2 (ESt.reQ (ESt.close (t4.perm (List.perm_append_comm (l₁ := [_]) (l₂ := ms2)))))
    · intro L' M' hk4 g4 a4 s4
      obtain ⟨hl4, g', m4, hw, q1, q2, q3, q4, q5, q6⟩ := fin .ready none s4 hk4
      have hr := run_endRound (P := X.P) none hl4
      refine ⟨_, _, hr, .bool true, g', Res.blk (D + 1) (.loop (rec .ready none)) :: m4, rfl, ?_, q1, q2, q3, .inl ⟨rfl, m4, rfl, q4, q5, q6⟩⟩
      rw [hw, hrec]; rfl
    · intro k' L' M' i hk4 g4 a4 s4
      obtain ⟨hl4, g', m4, hw, q1, q2, q3, q4, q5, q6⟩ := fin .done (some .ret) s4 hk4
      refine wpIn_ret ?_
      have hr := run_endRound (P := X.P) (some .ret) hl4
      rw [cont_ret]
      refine ⟨_, _, hr, .bool false, g', Res.blk (D + 1) (.loop (rec .done (some .ret))) :: m4, rfl, ?_, q1, q2, q3, .inr ⟨rfl, i, m4, rfl, q4, q5, q6⟩⟩
      rw [hw, hrec]; rfl
  refine (hit.2 (D + 1) R ρ gL ys _ hAL hcaps hRnd ⟨m1, rfl, sL2.all _ (.head _), hF2, hAL⟩ sL2.own.left).mono ?_
  rintro e w2 ⟨v, g2, ms2, rfl, rfl, hE2, hO2, hN2, hJ2⟩
  have s5 := sL2.frame (fsc := []) (fs' := []) (Split.app _ [Res.blk D (.deferred (some []))]) hE2 (fun f hf => (by cases hf)) hO2 hN2 .nil
  have fin : ∀ (stt : LoopState) (pe : Option Code) mms M1, ms2 = Res.blk (D + 1) (.loop (rec stt pe)) :: mms → DenM g2 ρ M1 mms → (F2 X ρ L a).p g2 → All fs g2 →
      g2.w.heap[D + 1]? = some (.loop (rec stt pe)) ∧ ∃ g3 : GW, g3.w = g2.w.putObj (D + 1) (.loop { rec stt pe with state := .exhausted }) ∧ ESt { X with df := [colD D] } L M1 fs [Res.blk D (.deferred (some []))] g3 { a with defers := [colD D] ++ a.defers } := by
    rintro stt pe mms M1 rfl hM3 hS3 hA3
    have s6 : St X.toCx [] (F1 ρ M1 mms :: F2 X ρ L a :: fs) (Res.blk (D + 1) (.loop (rec stt pe)) :: (mms ++ [Res.blk D (.deferred (some []))])) g2 a := ⟨s5.kn, All.cons hM3 (All.cons hS3 hA3), s5.own, s5.ext, s5.new⟩
    obtain ⟨g3, hw3, s7⟩ := s6.putO (.loop { rec stt pe with state := .exhausted })
    refine ⟨s6.own.p _ (.head _), g3, hw3, ?_⟩
    have s8 := (s7.perm (List.perm_append_comm (l₁ := [_]))).drop
    have hS4 : Sl X ρ L a g3 := s8.all _ (.tail _ (.head _))
    refine ⟨ρ, mms, ⟨⟨s8.kn.size, ?_, fun i v hi => by simp [lk] at hi⟩, fun f hf => s8.all f (.tail _ (.tail _ hf)), s8.own, s8.ext, s8.new⟩, s8.all _ (.head _), hS4.pin, hS4.val⟩
    show [colD D] ++ a.defers = [colD D]
    rw [s8.kn.defers, hdf]; rfl
  rcases hJ2 with ⟨mms, hms, hM3, hS3, hA3⟩ | ⟨i, mms, hms, hM3, hS3, hA3⟩
  · obtain ⟨hl2, g3, hw3, hs⟩ := fin _ _ mms _ hms hM3 hS3 hA3
    have hr := run_endLoop (P := X.P) hl2 (by rw [hrec]; simp)
    have hp : (rec .ready none).pending = none := by rw [hrec]
    exact ⟨(rec .ready none).pending, g3.w, by rw [hw3]; exact hr, by rw [hp]; exact hk D g3 _ hs⟩
  · obtain ⟨hl2, g3, hw3, hs⟩ := fin _ _ mms _ hms hM3 hS3 hA3
    have hr := run_endLoop (P := X.P) hl2 (by rw [hrec]; simp)
    have hp : (rec .done (some .ret)).pending = some .ret := by rw [hrec]
    exact ⟨(rec .done (some .ret)).pending, g3.w, by rw [hw3]; exact hr, by rw [hp]; exact hx D i g3 _ hs⟩
end Go.KX
namespace Go.KX
structure Rm (X : Kx) (fs : List MF) (tb : TT) (rs : List ResultVar) (res : SV) (D : Nat) : Prop where
  ret : ∀ {k L M svs}, resS tb L M rs = some svs → hiS (resVS svs) = true → resVS svs = res → E X (.code .ret :: k) L M fs [Res.blk D (.deferred (some []))]
  fall : ∀ {L M svs}, resS tb L M rs = some svs → hiS (resVS svs) = true → resVS svs = res → E X [] L M fs [Res.blk D (.deferred (some []))]
theorem fbm {P : Program} {fs : List MF} {tb : TT} (hT : tb.Ok P) {f : FuncId} {fn : Func} {c : Code} {args : List SV} {res : SV} (n : Nat) (rs : List ResultVar)
    (hf : P.funcs[f]? = some fn) (hrs : fn.results = rs.toArray) (h : ∀ g0 B0 Q ρ0, Rt ⟨⟨P, n, g0, B0, Q, none, []⟩, ρ0⟩ fs tb rs (fun sv _ => sv = res) → (∀ D, Rm ⟨⟨P, n, g0, B0, Q, none, [colD D]⟩, ρ0⟩ fs tb rs res D) → E ⟨⟨P, n, g0, B0, Q, none, []⟩, ρ0⟩ [.code c] (initS args 0) [] fs []) (hb : fn.body = some c := by rfl)
    (hname : (fn.name == "runtime.NumGoroutine") = false := by kernel_rfl) (hn : fn.ntmps = n := by rfl) (hle : args.length ≤ n := by exact Nat.le_of_ble_eq_true rfl) : Fc P fs f args res := by
  refine ⟨⟨fn, hf, by simp [hb], hname⟩, fun ρ g vs hfs ha => ?_⟩
  refine (callsIn_wide (n := 0)).1 (callsIn_of_wp_marks hf hb trivial ?_)
  let Post : Ending → World → Prop := fun e w' => ∃ v g', e = .returned v ∧ g'.w = w' ∧ Ext [] g g' ∧ Den g' ρ res v
  have hpost0 : ∀ (a : Act) (g' : GW) L M' svs, resS tb L M' rs = some svs → hiS (resVS svs) = true → resVS svs = res → ESt ⟨⟨P, n, g, [], bodyPostM Fence.wide 0 P fn Post, none, []⟩, ρ⟩ L M' fs [] g' a → LeavesInM Fence.wide 0 P fn a.tmps Post a.defers .returning g'.w := by
    intro a g' L M' svs h1 h2 h3 hst
    obtain ⟨ρ', ms', s1, s2, s3⟩ := hst
    obtain ⟨v, hv, dv⟩ := results_ok (X := ⟨⟨P, n, g, [], _, none, []⟩, ρ⟩) hT s1 s2 s3 hrs h1
    rw [s1.kn.defers]
    exact ⟨v, hv, v, g', rfl, rfl, s1.ext, h3 ▸ dv.hi h2 ρ s3.pin⟩
  have hpost : ∀ D (a : Act) (g' : GW) L M' svs, resS tb L M' rs = some svs → hiS (resVS svs) = true → resVS svs = res → ESt ⟨⟨P, n, g, [], bodyPostM Fence.wide 0 P fn Post, none, [colD D]⟩, ρ⟩ L M' fs [Res.blk D (.deferred (some []))] g' a → LeavesInM Fence.wide 0 P fn a.tmps Post a.defers .returning g'.w := by
    intro D a g' L M' svs h1 h2 h3 hst
    obtain ⟨ρ', ms', st⟩ := hst.open
    have s1 := st.perm (List.perm_append_comm (l₂ := [Res.blk D (.deferred (some []))]))
    have hl : g'.w.heap[D]? = some (.deferred (some [])) := s1.own.p _ (.head _)
    obtain ⟨g2, hw, s2⟩ := St.putO s1 (.deferred none)
    have s3 := s2.perm (List.perm_append_comm (l₁ := [_]) (l₂ := ms'))
    have hS : Sl ⟨⟨P, n, g, [], bodyPostM Fence.wide 0 P fn Post, none, [colD D]⟩, ρ⟩ ρ' L a g2 := s3.all _ (.tail _ (.head _))
    obtain ⟨v, hv, dv⟩ := results_ok (X := ⟨⟨P, n, g, [], _, none, [colD D]⟩, ρ⟩) hT s3 (s3.all _ (.head _)) hS hrs h1
    rw [s1.kn.defers]
    refine ⟨by simp, .inl ⟨D, g2.w, rfl, by rw [hw]; exact run_takeDeferred hl, v, hv, v, g2, rfl, rfl, s3.ext, h3 ▸ dv.hi h2 ρ hS.pin⟩⟩
  refine h g [] (bodyPostM Fence.wide 0 P fn Post) ρ ⟨?_, ?_, fun _ _ _ h => h⟩ (fun D => ⟨?_, ?_⟩) g _ ?_
  · intro k L M' svs h1 h2 _ h4 g' a hst
    refine wpIn_ret ?_
    rw [cont_ret]
    exact hpost0 a g' L M' svs h1 h2 h4 hst
  · intro L M' svs h1 h2 _ h4 g' a hst
    exact hpost0 a g' L M' svs h1 h2 h4 hst
  · intro k L M' svs h1 h2 h4 g' a hst
    refine wpIn_ret ?_
    rw [cont_ret]
    exact hpost D a g' L M' svs h1 h2 h4 hst
  · intro L M' svs h1 h2 h4 g' a hst
    exact hpost D a g' L M' svs h1 h2 h4 hst
  · refine ⟨ρ, [], ⟨⟨by simp [hn, ha.1]; omega, rfl, fun i v hi => by simp [lk] at hi⟩, hfs, ⟨fun r hr => (by cases hr), List.nodup_nil, fun b hb => (by cases hb), fun b hb => (by cases hb)⟩, Ext.refl _ g, fun b hb => (by cases hb)⟩, .nil, fun i _ => rfl, fun t sv ht => ?_⟩
    obtain ⟨j, rfl, hj⟩ := initS_lk args 0 t sv ht
    obtain ⟨x, hx, dx⟩ := ha.get hj
    refine ⟨x, ?_, dx⟩
    have hlt : j < vs.length := by
      rcases Nat.lt_or_ge j vs.length with h | h
      · exact h
      · rw [List.getElem?_eq_none h] at hx; cases hx
    simp only [Nat.zero_add]
    rw [Array.getElem?_append_left (by simpa using hlt)]
    simpa using hx
section
variable {X : Kx} {k : List It} {L : SL} {M : SM} {fs : List MF} {arr : Array Oper} {l : List Oper} {o : Oper} {tb : TT} {rs : List ResultVar}
theorem erm {res : SV} {svs : List SV} {k' : List It} {D : Nat} (n : Nat) (R : Rm X fs tb rs res D) (he : resVS svs = res) (hk : normS (lkS L) 64 n k = .code .ret :: k' := by rfl) (hr : resS tb L M rs = some svs := by rfl) (hh : hiS (resVS svs) = true := by rfl) : E X k L M fs [Res.blk D (.deferred (some []))] :=
  norm_E 64 n (hk ▸ R.ret hr hh he)
end
end Go.KX
namespace Go.KX
section
variable {P : Program} {w : World}
structure AppQ {α : Type} (w w' : World) (E : El α) (Te : Nat) (ad : Option Addr) (v' : Value) (zs : List α) : Prop where
  ex : ∃ ad' c', v' = .slice ad' zs.length c' ∧ (Res.que E Te ad' c' zs).p w' ∧ (∀ b, b < w.heap.size → b ∉ vbs ad → w'.heap[b]? = w.heap[b]?) ∧ w'.os = w.os ∧ w'.tape = w.tape ∧ w'.output = w.output ∧ w.heap.size ≤ w'.heap.size ∧ ∀ b ∈ vbs ad', b < w'.heap.size ∧ (b ∈ vbs ad ∨ w.heap.size ≤ b)
end
end Go.KX
namespace Go.KX
section
variable {X : Kx} {k : List It} {L : SL} {M : SM} {fs : List MF} {own : List Res} {arr : Array Oper} {l : List Oper} {o : Oper}
def allQ (i : Nat) (mb : MB) : List SM → Prop
  | [] => True
  | M :: r => lkM M i = some mb ∧ allQ i mb r
theorem allQ_get {i : Nat} {mb : MB} : ∀ {Ms : List SM}, allQ i mb Ms → ∀ {q : Nat} {M}, Ms[q]? = some M → lkM M i = some mb
  | [], _, q, M, h => by simp at h
  | M :: Ms, ⟨h1, h2⟩, q, M', h => by
    cases q with
    | zero => simp at h; exact h ▸ h1
    | succ q => exact allQ_get h2 (by simpa using h)
end
end Go.KX
namespace Go.KX
/-- What is owned as i is owned as j. -/
def rnm (i j : Nat) (mb : MB) : SM → SM
  | [] => []
  | (k, m) :: r => match Nat.beq i k with
    | true => (j, mb) :: r
    | false => (k, m) :: rnm i j mb r
theorem occM_app {j : Nat} {k : Nat} {m : MB} {r : SM} (h : occM j ((k, m) :: r) = false) : occM j [(k, m)] = false ∧ occM j r = false := by
  cases m <;> simp only [occM, Bool.or_eq_false_iff, Bool.or_false] at h ⊢ <;> simp_all
theorem DenM.rn {g : GW} {ρ : Nat → Lc} : ∀ {M : SM} {ms : List Res} {i j : Nat} {mb : MB}, occM j M = false → DenM g ρ M ms → lkM M i = some mb → ∃ r m1 m2, ms = m1 ++ r :: m2 ∧ DenB g ρ i mb r ∧
    ∀ g' y r' mb', DenM g' ρ M (m1 ++ r :: m2) → DenB g' (fun k => if k = j then y else ρ k) j mb' r' → DenM g' (fun k => if k = j then y else ρ k) (rnm i j mb' M) (m1 ++ r' :: m2)
  | [], _, _, _, _, _, _, h => by cases h
  | (k, m) :: M, _, i, j, mb, ho, @DenM.cons _ _ _ _ _ r0 ms0 hb t, h => by
    obtain ⟨ho1, ho2⟩ := occM_app ho
    unfold lkM at h
    cases hij : Nat.beq i k with
    | true =>
      rw [hij] at h
      simp only [Option.some.injEq] at h
      subst h
      obtain rfl := Nat.eq_of_beq_eq_true hij
      refine ⟨r0, [], ms0, rfl, hb, fun g' y r' mb' hM hB => ?_⟩
      simp only [rnm, hij]
      cases hM with
      | cons _ t' => exact .cons hB (occ_upd t' ho2)
    | false =>
      rw [hij] at h
      obtain ⟨r, m1, m2, rfl, hB, hu⟩ := DenM.rn (M := M) ho2 t h
      refine ⟨r, r0 :: m1, m2, rfl, hB, fun g' y r' mb' hM hB' => ?_⟩
      simp only [rnm, hij]
      cases hM with
      | cons hb' t' =>
        have := occ_upd (y := y) (.cons hb' .nil : DenM g' ρ [(k, m)] [r0]) ho1
        cases this with
        | cons hb2 _ => exact .cons hb2 (hu g' y r' mb' t' hB')
section
variable {X : Kx} {k : List It} {L : SL} {M : SM} {fs : List MF} {own : List Res} {arr : Array Oper} {l : List Oper} {o : Oper}
/-- What is owned as j is owned as i from now on. -/
theorem eri (t i j : Nat) {n T sz : Nat} {rows : List (List SV)} (h : E X k ((t, .o i n) :: cln i [] L) (rnm j i (.r T sz rows) M) fs own) (ht : lkS L t = some (.o j n) := by rfl) (hm : lkM M j = some (.r T sz rows) := by rfl) (hoc : occM i M = false := by rfl) (hlt : Nat.blt i 1000 = true := by rfl) : E X k L M fs own := by
  intro g a s
  obtain ⟨ρ, ms, h1, h2, h3⟩ := s
  have hlt : i < 1000 := by simpa [Nat.blt_eq] using hlt
  obtain ⟨r, m1, m2, rfl, hB, hu⟩ := h2.rn hoc hm
  have hB' : DenB g (fun k => if k = i then ρ j else ρ k) i (.r T sz rows) r := by
    cases hB with
    | r hz ys hl hd =>
      have := DenB.r (g := g) (ρ := fun k => if k = i then ρ j else ρ k) (i := i) (T := T) hz ys hl hd
      simpa using this
  refine h g a ⟨fun k => if k = i then ρ j else ρ k, m1 ++ r :: m2, h1, hu g (ρ j) r _ h2 hB', fun q hq => ?_, fun u sv hu' => ?_⟩
  · have : q ≠ i := by omega
    simp only [if_neg this]; exact h3.pin q hq
  · by_cases hut : u = t
    · subst hut
      rw [lkS_same] at hu'
      cases hu'
      obtain ⟨x, hx, dx⟩ := h3.val u _ ht
      refine ⟨x, hx, ?_⟩
      cases dx with
      | o =>
        have : Den g (fun k => if k = i then ρ j else ρ k) (.o i n) (.slice ((fun k => if k = i then ρ j else ρ k) i).ad n ((fun k => if k = i then ρ j else ρ k) i).c) := .o
        simpa using this
    · rw [lkS_ne _ _ hut] at hu'
      obtain ⟨_, h4, h5⟩ := cln_lk hu'
      obtain ⟨x, hx, dx⟩ := h3.val u sv h4
      exact ⟨x, hx, dx.upd h5⟩
/-- append(xs, ys...): xs owned, ys frozen, in a region that draws its order. -/
theorem Stp_ap {tb : TT} (hT : tb.Ok X.P) {d T Te i n sz z : Nat} {x y : Operand} {rows rows2 : List (List SV)} {dT de : TD} (hn : n = rows.length) (hz2 : rows2 ≠ [] → z = sz) (hbig : (rows.length + rows2.length) * de.by_ ≤ 140737488355328) (ho : o.op = .call ⟨.builtin .append, #[x, y], #[T, T]⟩) (hg : o.guard = none) (hd : o.dst = some d) (hdn : Nat.blt d X.n = true)
    (hx : evS (lkS L) x = some (.o i n)) (hy : evS (lkS L) y = some (.s z rows2)) (hm : lkM M i = some (.r Te sz rows)) (hT1 : tb.get T = some dT) (hk1 : dT.kd = .sl Te) (hT2 : tb.get Te = some de) (hsz : de.sz = sz) (hzl : Nat.beq (cellsV (inj de.z)).length de.sz = true) (hby : 1 ≤ de.by_) (hoL : occSL d L = false) (hoM : occM d M = false) (hi1 : Nat.blt d 1000 = true) :
    StpU X arr o L M fs own (.o d (rows ++ rows2).length) (rnm i d (.r Te sz (rows ++ rows2)) M) := by
  subst hsz hn
  intro L' hL hf g a hE
  have hoL' : occSL d L' = false := hf d (by unfold isAl; rw [ho]; exact hd) hoL
  obtain ⟨ρ, ms, st⟩ := hE.open
  have hSl : Sl X ρ L' a g := st.all _ (.tail _ (.head _))
  have hw : Region.wanted o (yielded arr a.tmps) = true := live_wanted (L := []) st.kn (live_none hg)
  unfold opQ
  rw [if_pos hw]
  have hi1 : d < 1000 := by simpa [Nat.blt_eq] using hi1
  have hM : DenM g ρ M ms := st.all _ (.head _)
  obtain ⟨r, m1, m2, rfl, hB, hup⟩ := hM.rn hoM hm
  have hev : evs (lkS L') [x, y] = some [.o i rows.length, .s z rows2] := by
    have := evs_agree' hL
    rw [show o.op.operands.toList = [x, y] by rw [ho]; rfl] at this
    rw [this]
    simp only [evs, hx, hy]
  obtain ⟨_, _, e1, dx, hr1⟩ := (evals_den hSl.val hev).uncons
  obtain ⟨_, _, e2, dy, _⟩ := hr1.uncons
  simp only [List.map_cons, List.cons.injEq] at e1
  obtain ⟨rfl, rfl⟩ := e1
  simp only [List.cons.injEq] at e2
  obtain ⟨rfl, _⟩ := e2
  generalize hvx : a.eval x = vx at dx
  generalize hvy : a.eval y = vy at dy
  have u := (TT.get_ok hT hT1).kd
  rw [hk1] at u
  have hti := (TT.get_ok hT hT2).ti
  have hzs : de.z.cells.size = de.sz := cellsV_len (Nat.eq_of_beq_eq_true hzl)
  cases hB with
  | r hz ys hl hdd =>
    cases dx with
    | o =>
      cases dy with
      | s xs h1 h2 hxl hxr hxo hne hxd =>
        rename_i ad2 c2
        have hxl2 : xs.length = rows2.length * de.sz := by
          by_cases he : rows2 = []
          · rw [he] at hxl ⊢; simpa using hxl
          · rw [← hz2 he]; exact hxl
        obtain ⟨ys2, hyl2, hyf⟩ := chunks hz rows2.length xs hxl2 hxo.1
        have hp : (m1 ++ Res.arr (elRow de.sz hz) Te (ρ i).ad (ρ i).c ys :: m2 ++ own).Perm (Res.arr (elRow de.sz hz) Te (ρ i).ad (ρ i).c ys :: (m1 ++ m2 ++ own)) := by
          simp only [List.append_assoc, List.cons_append]
          exact List.perm_middle
        have stp0 := st.perm hp
        have stp : St X.toCx [] (rowsD ys rows :: rowsD ys2 rows2 :: F1 ρ M _ :: F2 X ρ L' a :: fs) _ g a := ⟨stp0.kn, All.cons hdd (All.cons (fun ρ' k x r hk hr => by
          have hrl : r.length = de.sz := by
            have hne2 : rows2 ≠ [] := by intro e; subst e; simp at hr
            rw [← hz2 hne2]; exact hxr r (List.mem_of_getElem? hr)
          refine ⟨by rw [x.2.1, hrl], fun j sv v hj hv => ?_⟩
          have hf := flat_get (elRow de.sz hz) ys2 k j x v hk hv
          rw [hyf] at hf
          have hne2 : rows2 ≠ [] := by intro e; subst e; simp at hr
          exact hxd ρ' k j r sv v hr hj (by rw [hz2 hne2]; exact hf)) stp0.all), stp0.own, stp0.ext, stp0.new⟩
        have hown : g.w.ownsRow 0 Te de.sz (.slice (ρ i).ad ys.length (ρ i).c) ys.length (flat (elRow de.sz hz) ys) := stp.own.p _ (.head _)
        have hbig' : (ys.length + rows2.length) * de.by_ ≤ 140737488355328 := by rw [hl]; exact hbig
        have h63 : ys.length + rows2.length ≤ maxLen := by
          have : ys.length + rows2.length ≤ (ys.length + rows2.length) * de.by_ := Nat.le_mul_of_pos_right _ hby
          simp only [maxLen]; omega
        have hrun : ∃ v' w', (Builtin.append_ #[T, T] o.type #[.slice (ρ i).ad ys.length (ρ i).c, .slice ad2 rows2.length c2]).run X.P g.w = .ok v' w' ∧ AppOK g.w w' Te de.sz (.slice (ρ i).ad ys.length (ρ i).c) v' (ys ++ ys2).length (flat (elRow de.sz hz) (ys ++ ys2)) := by
          rw [List.length_append, flat_append, hyl2, hyf]
          cases ad2 with
          | none =>
            have hr2 : rows2 = [] := by
              rcases rows2 with _ | ⟨q, qs⟩
              · rfl
              · obtain ⟨_, _, he, _⟩ := hne (by simp); cases he
            subst hr2
            have hx0 : xs = [] := List.eq_nil_of_length_eq_zero (by simpa using hxl)
            subst hx0
            obtain ⟨i0, hi0, hs0, hb0, hz0⟩ := hti
            refine ⟨.slice (ρ i).ad ys.length (ρ i).c, g.w, ?_, by simpa using hown, ⟨rfl, rfl, rfl, Nat.le_refl _, fun _ _ _ => rfl⟩, fun b hb => .inl hb⟩
            rcases hown.2 with ⟨hv, _⟩ | ⟨gg, cap, cur, hv, _, _, hnc, _⟩
            · injection hv with e1 e2 e3
              simp [Builtin.append_, run_underlying u, sizeOf, typeInfo, hi0, Builtin.lenOf, Builtin.firstCells, e1, e2, e3]
            · injection hv with e1 e2 e3
              subst e3
              simp [Builtin.append_, run_underlying u, sizeOf, typeInfo, hi0, Builtin.lenOf, Builtin.firstCells, e1, hnc, storeCells]
          | some ad2 =>
            exact run_app u hti hzs hz hown hxl2 (fun j v hv => by
              have hne2 : rows2 ≠ [] := by intro e; subst e; simp at hxl2; subst hxl2; simp at hv
              obtain ⟨b, oo, he, _, hc⟩ := hne hne2
              cases he
              rw [addr_add]
              exact hc j v hv) hxo.1 h63 hbig'
        obtain ⟨v', w', hr0, h1'⟩ := hrun
        obtain ⟨ad', c', g', rfl, rfl, s'⟩ := stp.appd .head h1'
        have hre : (execOp a.eval o).run X.P g.w = .ok (.value (.slice ad' (ys ++ ys2).length c')) g'.w := by
          simp only [execOp, ho, resolve]
          simp only [List.map_toArray, List.map_cons, List.map_nil, hvx, hvy, ← hl]
          simp [invoke, builtin, hr0]
        simp only [wn, hre, hd]
        let y : Lc := ⟨(ρ i).b, ad', c'⟩
        have hd1 : (rowsD ys rows).p g' := s'.all _ (.head _)
        have hd2 : (rowsD ys2 rows2).p g' := s'.all _ (.tail _ (.head _))
        have hSl' : Sl X ρ L' a g' := s'.all (F2 X ρ L' a) (.tail _ (.tail _ (.tail _ (.head _))))
        have hM' : DenM g' ρ M (m1 ++ _ :: m2) := s'.all (F1 ρ M _) (.tail _ (.tail _ (.head _)))
        have hBn : DenB g' (fun k => if k = d then y else ρ k) d (.r Te de.sz (rows ++ rows2)) (Res.arr (elRow de.sz hz) Te ((fun k => if k = d then y else ρ k) d).ad ((fun k => if k = d then y else ρ k) d).c (ys ++ ys2)) := .r hz (ys ++ ys2) (by simp [hl, hyl2]) (fun ρ' k x r hk hr => by
          rw [List.getElem?_append] at hk hr
          rw [hl] at hk
          split at hr
          · rename_i hlt; rw [if_pos hlt] at hk; exact hd1 ρ' k x r hk hr
          · rename_i hlt; rw [if_neg hlt] at hk; exact hd2 ρ' _ x r hk hr)
        simp only [if_pos] at hBn
        have hMn := hup g' y _ _ hM' (by simpa using hBn)
        have hp2 : (Res.arr (elRow de.sz hz) Te ad' c' (ys ++ ys2) :: (m1 ++ m2 ++ own)).Perm (m1 ++ Res.arr (elRow de.sz hz) Te ad' c' (ys ++ ys2) :: m2 ++ own) := by
          simp only [List.append_assoc, List.cons_append]
          exact List.perm_middle.symm
        have s2 := s'.perm hp2
        have s3 : St X.toCx [] (F1 (fun k => if k = d then y else ρ k) (rnm i d (.r Te de.sz (rows ++ rows2)) M) (m1 ++ Res.arr (elRow de.sz hz) Te ad' c' (ys ++ ys2) :: m2) :: F2 X (fun k => if k = d then y else ρ k) L' a :: fs) (m1 ++ Res.arr (elRow de.sz hz) Te ad' c' (ys ++ ys2) :: m2 ++ own) g' a := ⟨s2.kn, All.cons hMn (All.cons ⟨fun q hq => by
            have : q ≠ d := by omega
            simp only [if_neg this]; exact hSl'.pin q hq, fun t sv ht => by
            obtain ⟨x, hx, dx⟩ := hSl'.val t sv ht
            exact ⟨x, hx, dx.upd (occSL_get hoL' t sv ht)⟩⟩ (fun f hf => s2.all f (.tail _ (.tail _ (.tail _ (.tail _ hf)))))), s2.own, s2.ext, s2.new⟩
        refine ⟨g', rfl, ESt.put s3 hdn ?_⟩
        have hlen : (ys ++ ys2).length = (rows ++ rows2).length := by simp [hl, hyl2]
        rw [hlen]
        have : Den g' (fun k => if k = d then y else ρ k) (.o d (rows ++ rows2).length) (.slice ((fun k => if k = d then y else ρ k) d).ad (rows ++ rows2).length ((fun k => if k = d then y else ρ k) d).c) := .o
        simpa [y] using this
theorem dap {tb : TT} (hT : tb.Ok X.P) (m : Nat) (H : List (List SV)) {un q d T Te i n sz z : Nat} {D r π' : List Nat} {Ms Ms' : List SM} {x y : Operand} {rows rows2 : List (List SV)} {dT de : TD} {L' M' φ} (hn : n = rows.length) (hz2 : rows2 ≠ [] → z = sz) (hbig : (rows.length + rows2.length) * de.by_ ≤ 140737488355328) (hk : ED X arr k fs own un D π' L' M' Ms') (hi : arr[q]? = some o := by rfl) (hu : un.testBit q = true := by rfl) (ho : o.op = .call ⟨.builtin .append, #[x, y], #[T, T]⟩ := by rfl) (hg : o.guard = none := by rfl) (hd : o.dst = some d := by rfl) (hdn : Nat.blt d X.n = true := by rfl)
    (hx : evS (lkS L) x = some (.o i n) := by rfl) (hy : evS (lkS L) y = some (.s z rows2) := by rfl) (hm : lkM M i = some (.r Te sz rows) := by rfl) (hT1 : tb.get T = some dT := by rfl) (hk1 : dT.kd = .sl Te := by rfl) (hT2 : tb.get Te = some de := by rfl) (hsz : de.sz = sz := by rfl) (hzl : Nat.beq (cellsV (inj de.z)).length de.sz = true := by rfl) (hby : 1 ≤ de.by_ := by decide) (hoL : occSL d L = false := by rfl) (hoM : occM d M = false := by rfl) (hi1 : Nat.blt d 1000 = true := by rfl)
    (hr : xdrw tb X.n arr un D m H r ((d, .o d (rows ++ rows2).length) :: L) (rnm i d (.r Te sz (rows ++ rows2)) M) (M :: Ms) [] = some (π', L', M', Ms', φ) := by rfl) (hφ : conj φ := by first | trivial | omega | (simp +contextual [conj]; done)) : ED X arr k fs own un D (q :: r) L M Ms := by
  refine ⟨o, .o d (rows ++ rows2).length, hi, ?_⟩
  rw [hu]
  refine ⟨_, Stp_ap hT hn hz2 hbig ho hg hd hdn hx hy hm hT1 hk1 hT2 hsz hzl hby hoL hoM hi1, ?_⟩
  rw [hd]
  exact xd hT m H hk hr hφ
theorem arr_head {w : World} {sz Te : Nat} {hz : 0 < sz} {ad : Option Addr} {c : Nat} {ys : List (Row sz)} (h : (Res.arr (elRow sz hz) Te ad c ys).p w) (hne : 0 < ys.length) : ∃ b, ad = some ⟨b, 0, none⟩ ∧ b < w.heap.size ∧ w.ownsRow 0 Te sz (.slice (some ⟨b, 0, none⟩) ys.length c) ys.length (flat (elRow sz hz) ys) := by
  have h' : w.ownsRow 0 Te sz (.slice ad ys.length c) ys.length (flat (elRow sz hz) ys) := h
  rcases h'.2 with ⟨_, h0⟩ | ⟨gg, cap, cur, had, _, hg, _⟩
  · omega
  · injection had with e1 e2 e3
    subst e1
    exact ⟨gg, rfl, (Array.getElem?_eq_some_iff.1 hg).1, h'⟩
theorem Stp_rix {tb : TT} (hT : tb.Ok X.P) {T Te d i n sz j : Nat} {kk : IntKind} {z : Int} {x ix : Operand} {rows : List (List SV)} {dT de : TD} (hzj : z = (j : Int)) (hj : j < rows.length) (hn : n = rows.length) (ho : o.op = .indexAddr T x ix) (hg : o.guard = none) (hd : o.dst = some d) (hdn : Nat.blt d X.n = true) (hx : evS (lkS L) x = some (.o i n)) (hy : evS (lkS L) ix = some (.v (.int kk z))) (hm : lkM M i = some (.r Te sz rows))
    (hT1 : tb.get T = some dT) (hk1 : dT.kd = .sl Te) (hT2 : tb.get Te = some de) (hsz : de.sz = sz) : Stp X arr o L M fs own (.e i (j * sz)) M := by
  subst hzj hsz
  have hG : gS arr (lkS L) o = some none := by unfold gS; rw [hg]
  refine Stp_read (sv := .e i (j * de.sz)) hG hd hdn (fun L' hL hon g a ρ ms st => ?_)
  have hSl : Sl X ρ L' a g := st.all _ (.tail _ (.head _))
  have hM : DenM g ρ M ms := st.all _ (.head _)
  have hev : evs (lkS L') [x, ix] = some [.o i n, .v (.int kk (j : Int))] := by
    have := evs_agree' hL
    rw [show o.op.operands.toList = [x, ix] by rw [ho]; rfl] at this
    rw [this]
    simp only [evs, hx, hy]
  obtain ⟨_, _, e1, dx, hr1⟩ := (evals_den hSl.val hev).uncons
  obtain ⟨_, _, e2, dy, _⟩ := hr1.uncons
  simp only [List.map_cons, List.cons.injEq] at e1
  obtain ⟨rfl, rfl⟩ := e1
  simp only [List.cons.injEq] at e2
  obtain ⟨rfl, _⟩ := e2
  have hyv := den_int dy
  have u := (TT.get_ok hT hT1).kd
  rw [hk1] at u
  have hti := (TT.get_ok hT hT2).ti
  obtain ⟨r, m1, m2, rfl, hB, _⟩ := hM.split hm
  generalize hvx : a.eval x = vx at dx
  cases hB with
  | r hz ys hl hdd =>
    cases dx with
    | o =>
      obtain ⟨b, had, _, _⟩ := arr_head (st.own.p _ (List.mem_append_left _ (List.mem_append_right _ (.head _)))) (by omega)
      refine ⟨.pointer (some ⟨b, 0 + j * de.sz, none⟩), ?_, .e had⟩
      simp only [execOp, ho, hvx, hyv]
      simp only [Instr.indexAt, asIntOf, Sem.run_bind, Sem.run_pure, Result.andThen_ok, run_underlying u, had]
      rw [if_pos ⟨by omega, by omega⟩]
      simp only [Sem.run_bind, run_sizeOf hti, Result.andThen_ok, Sem.run_pure, addr_add]
      simp
theorem row_cell {w : World} {sz Te b c : Nat} {hz : 0 < sz} {ys : List (Row sz)} (h : w.ownsRow 0 Te sz (.slice (some ⟨b, 0, none⟩) ys.length c) ys.length (flat (elRow sz hz) ys)) {j f : Nat} {y : Row sz} {v : Value} (hj : ys[j]? = some y) (hf : y.1[f]? = some v) : w.cell? ⟨b, j * sz + f, none⟩ = some v := by
  have hg := flat_get (elRow sz hz) ys j f y v hj hf
  have hlt := (List.getElem?_eq_some_iff.1 hg).1
  rw [flat_len] at hlt
  rw [h.cellAt (j * sz + f) hlt]
  exact hg
end
end Go.KX
namespace Go.KX
section
variable {X : Kx} {k : List It} {L : SL} {M : SM} {fs : List MF} {own : List Res} {arr : Array Oper} {l : List Oper} {o : Oper}
theorem add_zeroA (a : Addr) : a.add 0 = a := by
  obtain ⟨b, o, s⟩ := a
  cases s <;> simp [Addr.add]
end
end Go.KX
namespace Go.KX
section
variable {X : Cx} {L : LL} {fs : List MF} {own : List Res}
/-- Cells of rows that are owned are written. -/
theorem St.write {P : Program} {g : GW} {a : Act} {α : Type} {E : El α} {Te : Nat} {ad : Option Addr} {c : Nat} {ys ys' : List α} {own'} (s : St X L fs own g a) (hp : Pick own (Res.arr E Te ad c ys) own') {b off : Nat} {vs : List Value} (had : ad = some ⟨b, 0, none⟩) (hl : ys'.length = ys.length)
    (hfl : flat E ys' = (flat E ys).take off ++ (vs ++ (flat E ys).drop (off + vs.length))) (hoff : off + vs.length ≤ ys.length * E.sz) (h1 : ∀ v ∈ vs, v.oneCell' = true) :
    ∃ g', (storeCells ⟨b, off, none⟩ vs 0).run P g.w = .ok () g'.w ∧ St X L fs (Res.arr E Te ad c ys' :: own') g' a := by
  subst had
  have ho := s.own.perm hp.perm
  have hown : g.w.ownsRow 0 Te E.sz (.slice (some ⟨b, 0, none⟩) ys.length c) ys.length (flat E ys) := ho.p _ (.head _)
  rcases hown.2 with ⟨h', _⟩ | ⟨gg, cap, cur, h', hb0, hblk, hnc, hcm, hcs, htk⟩
  · simp at h'
  simp only [Value.slice.injEq, Option.some.injEq, Addr.mk.injEq, and_true, true_and] at h'
  obtain ⟨h5, h6⟩ := h'
  subst h5
  subst h6
  have hcur : ys.length * E.sz ≤ cur.size := by rw [hcs]; exact Nat.mul_le_mul_right _ hnc
  have hst := run_storeCells_at P b off Te vs 0 cur g.w hblk (by omega) h1
  simp only [Nat.add_zero] at hst
  have hlt : (cur.toList.take off).length = off := by rw [List.length_take, Array.length_toList]; omega
  have happ : AppOK g.w (g.w.setRow b (cur.toList.take off ++ vs ++ cur.toList.drop (off + vs.length)).toArray) Te E.sz (.slice (some ⟨b, 0, none⟩) ys.length c) (.slice (some ⟨b, 0, none⟩) ys'.length c) ys'.length (flat E ys') := by
    rw [hl]
    refine ⟨⟨by rw [flat_len, hl], .inr ⟨b, c, _, rfl, Nat.zero_le _, setRow_heap g.w b cur _ Te _ hblk, hnc, hcm, ?_, ?_⟩⟩, ⟨rfl, rfl, rfl, by simp, fun k _ hk => setRow_other g.w b k _ (fun e => hk (by simp [Value.ownBlock, e]))⟩, fun x hx => .inl hx⟩
    · rw [← hcs]
      simp only [List.size_toArray, List.length_append, hlt, List.length_drop, Array.length_toList]
      omega
    · rw [hfl, ← htk, List.append_assoc, List.take_append, hlt, List.take_of_length_le (by omega), List.take_append, List.take_of_length_le (l := vs) (by omega), List.take_take, Nat.min_eq_left (by omega), List.drop_take]
      rw [show ys.length * E.sz - off - vs.length = ys.length * E.sz - (off + vs.length) by omega]
  obtain ⟨ad', c', g', hv', hw', s'⟩ := s.appd hp happ
  injection hv' with q1 q2 q3
  subst q1 q3
  exact ⟨g', by rw [hw']; exact hst, s'⟩
end
/-- A part of a row is put in place of another one. -/
def putR {α : Type} (r : List α) (f : Nat) (cs : List α) : List α := r.take f ++ (cs ++ r.drop (f + cs.length))
theorem putR_len {α : Type} {r : List α} {f : Nat} {cs : List α} (h : f + cs.length ≤ r.length) : (putR r f cs).length = r.length := by
  unfold putR
  simp only [List.length_append, List.length_take, List.length_drop]
  omega
theorem flat_put {sz : Nat} (hz : 0 < sz) {f : Nat} {vs : List Value} (hf : f + vs.length ≤ sz) : ∀ (ys : List (Row sz)) (j : Nat) (y y' : Row sz), ys[j]? = some y → y'.1 = putR y.1 f vs →
    flat (elRow sz hz) (ys.set j y') = (flat (elRow sz hz) ys).take (j * sz + f) ++ (vs ++ (flat (elRow sz hz) ys).drop (j * sz + f + vs.length))
  | [], j, y, y', h, _ => by simp at h
  | x :: ys, 0, y, y', h, h2 => by
    simp only [List.getElem?_cons_zero, Option.some.injEq] at h
    subst h
    have hx := x.2.1
    show y'.1 ++ flat (elRow sz hz) ys = (x.1 ++ flat (elRow sz hz) ys).take _ ++ (vs ++ (x.1 ++ flat (elRow sz hz) ys).drop _)
    rw [h2, Nat.zero_mul, Nat.zero_add, List.take_append_of_le_length (by omega), List.drop_append_of_le_length (by omega)]
    unfold putR
    simp only [List.append_assoc]
  | x :: ys, j + 1, y, y', h, h2 => by
    have ih := flat_put hz hf ys j y y' (by simpa using h) h2
    have hx := x.2.1
    show x.1 ++ flat (elRow sz hz) (ys.set j y') = (x.1 ++ flat (elRow sz hz) ys).take _ ++ (vs ++ (x.1 ++ flat (elRow sz hz) ys).drop _)
    rw [ih, List.take_append, List.drop_append, hx, List.take_of_length_le (l := x.1) (by rw [hx, Nat.succ_mul]; omega), List.drop_of_length_le (l := x.1) (by rw [hx, Nat.succ_mul]; omega), List.nil_append, List.append_assoc]
    rw [show (j + 1) * sz + f - sz = j * sz + f by rw [Nat.succ_mul]; omega, show (j + 1) * sz + f + vs.length - sz = j * sz + f + vs.length by rw [Nat.succ_mul]; omega]
section
variable {X : Kx} {k : List It} {L : SL} {M : SM} {fs : List MF} {own : List Res} {arr : Array Oper} {l : List Oper} {o : Oper}
/-- A part of an element, of several cells. -/
theorem Stp_rlg {tb : TT} (hT : tb.Ok X.P) {T Te d i sz j f off : Nat} {x : Operand} {cs row : List SV} {rows : List (List SV)} {de : TD} (hoff : off = j * sz + f) (hrow : rows[j]? = some row) (hcs : (row.drop f).take de.sz = cs) (hcl : cs.length = de.sz) (ho : o.op = .load T x) (hg : o.guard = none) (hd : o.dst = some d) (hdn : Nat.blt d X.n = true) (hx : evS (lkS L) x = some (.e i off)) (hm : lkM M i = some (.r Te sz rows)) (hT2 : tb.get T = some de) (hag : de.kd.ag = true) : Stp X arr o L M fs own (.a cs) M := by
  subst hoff
  have hG : gS arr (lkS L) o = some none := by unfold gS; rw [hg]
  refine Stp_read (sv := .a cs) hG hd hdn (fun L' hL hon g a ρ ms st => ?_)
  have hSl : Sl X ρ L' a g := st.all _ (.tail _ (.head _))
  have hM : DenM g ρ M ms := st.all _ (.head _)
  have hev : evs (lkS L') [x] = some [.e i (j * sz + f)] := by
    have := evs_agree' hL
    rw [show o.op.operands.toList = [x] by rw [ho]; rfl] at this
    rw [this]
    simp only [evs, hx]
  obtain ⟨_, _, e1, dx, hr1⟩ := (evals_den hSl.val hev).uncons
  simp only [List.map_cons, List.cons.injEq] at e1
  obtain ⟨rfl, rfl⟩ := e1
  obtain ⟨td, u, hag2⟩ := (TT.get_ok hT hT2).kd.und
  rw [hag] at hag2
  obtain ⟨r, m1, m2, rfl, hB, _⟩ := hM.split hm
  generalize hvx : a.eval x = vx at dx
  cases hB with
  | r hz ys hl hdd =>
    cases dx with
    | e had =>
      have hjl := (List.getElem?_eq_some_iff.1 hrow).1
      have hy := List.getElem?_eq_getElem (l := ys) (i := j) (by omega)
      obtain ⟨b, had2, _, hown⟩ := arr_head (st.own.p _ (List.mem_append_left _ (List.mem_append_right _ (.head _)))) (by omega)
      rw [had] at had2
      injection had2 with had2
      injection had2 with e3 e4
      subst e3 e4
      have hD := hdd ρ j _ row hy hrow
      have hln : ((ys[j].1.drop f).take de.sz).length = de.sz := by
        have h1 := hD.1
        rw [← hcs] at hcl
        simp only [List.length_take, List.length_drop] at hcl ⊢
        omega
      have hcell : ∀ (t : Nat) v, ((ys[j].1.drop f).take de.sz)[t]? = some v → g.w.cell? ⟨_, 0 + (j * sz + f) + t, none⟩ = some v := fun t v ht => by
        rw [List.getElem?_take] at ht
        split at ht
        · rw [List.getElem?_drop] at ht
          have := row_cell hown hy ht
          rw [Nat.zero_add, Nat.add_assoc]
          exact this
        · cases ht
      refine ⟨.agg ((ys[j].1.drop f).take de.sz).toArray, ?_, .a _ (by rw [hln, hcl]) (fun t sv v h1 h2 => ?_)⟩
      · have := run_loadS (P := X.P) (w := g.w) u hag2 (TT.get_ok hT hT2).ti hln hcell
        simp only [Nat.zero_add] at this
        simp only [execOp, ho, hvx, Nat.zero_add]
        simp [this]
      · rw [← hcs, List.getElem?_take] at h1
        rw [List.getElem?_take] at h2
        split at h1
        · rw [if_pos (by assumption)] at h2
          rw [List.getElem?_drop] at h1 h2
          exact hD.2 _ sv v h1 h2
        · cases h1
/-- Something, of several cells or one, stored into an element. -/
theorem Stp_rsg {tb : TT} (hT : tb.Ok X.P) {T Te i sz j f off : Nat} {x y : Operand} {sy : SV} {row : List SV} {rows : List (List SV)} {t : TD} {M2 : SM} {sv : SV} (hoff : off = j * sz + f) (hrow : rows[j]? = some row) (hf : f + t.sz ≤ sz) (ho : o.op = .store T x y) (hg : o.guard = none) (hd : o.dst = none) (hx : evS (lkS L) x = some (.e i off)) (hy : evS (lkS L) y = some sy) (hok : okc sy = true) (hlen : (cellsV sy).length = t.sz) (hclo : cloL (cellsV sy) = true) (hm : lkM M i = some (.r Te sz rows)) (ht : tb.get T = some t)
    (hu : updK M i (.r Te sz (rows.set j (putR row f (cellsV sy)))) some = some M2) : Stp X arr o L M fs own sv M2 := by
  subst hoff
  intro L' hL g a hE
  obtain ⟨ρ, ms, st⟩ := hE.open
  have hSl : Sl X ρ L' a g := st.all _ (.tail _ (.head _))
  have hM : DenM g ρ M ms := st.all _ (.head _)
  have hw : Region.wanted o (yielded arr a.tmps) = true := live_wanted (L := []) st.kn (live_none hg)
  unfold opQ
  rw [if_pos hw]
  have hev : evs (lkS L') [x, y] = some [.e i (j * sz + f), sy] := by
    have := evs_agree' hL
    rw [show o.op.operands.toList = [x, y] by rw [ho]; rfl] at this
    rw [this]
    simp only [evs, hx, hy]
  obtain ⟨_, _, e1, dx, hr1⟩ := (evals_den hSl.val hev).uncons
  obtain ⟨_, _, e2, dy, _⟩ := hr1.uncons
  simp only [List.map_cons, List.cons.injEq] at e1
  obtain ⟨rfl, rfl⟩ := e1
  simp only [List.cons.injEq] at e2
  obtain ⟨rfl, _⟩ := e2
  obtain ⟨d1, d2⟩ := cellsV_ok hok dy
  obtain ⟨r, m1, m2, rfl, hB, hup⟩ := hM.split hm
  obtain ⟨M3, hK, hM3⟩ := hup hu
  cases hK
  generalize hvx : a.eval x = vx at dx
  generalize hvy : a.eval y = vy at d1 d2
  have hvl : vy.cells.toList.length = t.sz := by rw [d1.1, hlen]
  have hcl2 : ∀ (g : GW) (ρ ρ' : Nat → Lc), DenL g ρ (cellsV sy) vy.cells.toList → DenL g ρ' (cellsV sy) vy.cells.toList := fun g ρ ρ' hd => ⟨hd.1, fun j s v h1 h2 => (hd.2 j s v h1 h2).swap (cloL_get hclo j s h1) ρ'⟩
  cases hB with
  | r hz ys hl hdd =>
    cases dx with
    | e had =>
      rename_i b0 o0
      have hjl := (List.getElem?_eq_some_iff.1 hrow).1
      have hys := List.getElem?_eq_getElem (l := ys) (i := j) (by omega)
      have hp : (m1 ++ Res.arr (elRow sz hz) Te (ρ i).ad (ρ i).c ys :: m2 ++ own).Perm (Res.arr (elRow sz hz) Te (ρ i).ad (ρ i).c ys :: (m1 ++ m2 ++ own)) := by
        simp only [List.append_assoc, List.cons_append]
        exact List.perm_middle
      have stp0 := st.perm hp
      have stp : St X.toCx [] (rowsD ys rows :: denF ρ (cellsV sy) vy.cells.toList :: F1 ρ M _ :: F2 X ρ L' a :: fs) _ g a := ⟨stp0.kn, All.cons hdd (All.cons d1 stp0.all), stp0.own, stp0.ext, stp0.new⟩
      obtain ⟨b, had2, hbs, hown⟩ := arr_head (stp.own.p _ (.head _)) (by omega)
      rw [had] at had2
      injection had2 with had2
      injection had2 with e3 e4
      subst e3 e4
      let y0 : Row sz := ys[j]
      have hy0 : y0.1.length = sz := y0.2.1
      let y' : Row sz := ⟨putR y0.1 f vy.cells.toList, by rw [putR_len (by rw [hvl, hy0]; exact hf)]; exact y0.2.1, fun u hu => by
        unfold putR at hu
        rcases List.mem_append.1 hu with hu | hu
        · exact y0.2.2 u (List.mem_of_mem_take hu)
        · rcases List.mem_append.1 hu with hu | hu
          · exact d2 u hu
          · exact y0.2.2 u (List.mem_of_mem_drop hu)⟩
      have hfl := flat_put hz (vs := vy.cells.toList) (by rw [hvl]; exact hf) ys j y0 y' hys rfl
      have hoff : j * sz + f + vy.cells.toList.length ≤ ys.length * (elRow sz hz).sz := by
        have : (j + 1) * sz ≤ ys.length * sz := Nat.mul_le_mul_right _ (by omega)
        rw [Nat.succ_mul] at this
        show _ ≤ ys.length * sz
        rw [hvl]; omega
      obtain ⟨g', hst, s'⟩ := stp.write (P := X.P) (ys' := ys.set j y') .head had (by simp) hfl hoff d2
      have hM' : DenM g' ρ M _ := s'.all (F1 ρ M _) (.tail _ (.tail _ (.head _)))
      have hd1 : (rowsD ys rows).p g' := s'.all _ (.head _)
      have hd2 : DenL g' ρ (cellsV sy) vy.cells.toList := s'.all _ (.tail _ (.head _))
      have hBn : DenB g' ρ i (.r Te sz (rows.set j (putR row f (cellsV sy)))) (Res.arr (elRow sz hz) Te (ρ i).ad (ρ i).c (ys.set j y')) := .r hz _ (by simp [hl]) (fun ρ' k x r hk hr => by
        rw [List.getElem?_set] at hk hr
        by_cases hjk : j = k
        · rw [if_pos hjk] at hk hr
          rw [if_pos (by omega)] at hk hr
          cases hk; cases hr
          have h0 := hd1 ρ' j y0 row hys hrow
          have h3 := hcl2 g' ρ ρ' hd2
          have hrl : row.length = sz := by rw [← h0.1]; exact hy0
          refine ⟨by
            show (putR y0.1 f vy.cells.toList).length = _
            rw [putR_len (by rw [hvl, hy0]; exact hf), putR_len (by rw [hlen, hrl]; exact hf)]
            exact h0.1, fun p s v hp hv => ?_⟩
          have hv2 : (putR y0.1 f vy.cells.toList)[p]? = some v := hv
          unfold putR at hp hv2
          by_cases h1 : p < f
          · rw [List.getElem?_append_left (by rw [List.length_take]; omega), List.getElem?_take, if_pos h1] at hp hv2
            exact h0.2 p s v hp hv2
          · rw [List.getElem?_append_right (by rw [List.length_take]; omega), List.length_take] at hp hv2
            rw [Nat.min_eq_left (by omega)] at hp hv2
            by_cases h2 : p - f < t.sz
            · rw [List.getElem?_append_left (by omega)] at hp hv2
              exact h3.2 _ s v hp hv2
            · rw [List.getElem?_append_right (by omega), List.getElem?_drop, hlen] at hp
              rw [List.getElem?_append_right (by omega), List.getElem?_drop, hvl] at hv2
              exact h0.2 _ s v hp hv2
        · rw [if_neg hjk] at hk hr
          exact hd1 ρ' k x r hk hr)
      have hMn := hM3 g' _ hM' hBn
      have hp2 : (Res.arr (elRow sz hz) Te (ρ i).ad (ρ i).c (ys.set j y') :: (m1 ++ m2 ++ own)).Perm (m1 ++ Res.arr (elRow sz hz) Te (ρ i).ad (ρ i).c (ys.set j y') :: m2 ++ own) := by
        simp only [List.append_assoc, List.cons_append]
        exact List.perm_middle.symm
      have s2 := s'.perm hp2
      have hE' : ESt X L' M2 fs own g' a := ⟨ρ, _, ⟨s2.kn, fun f hf => s2.all f (.tail _ (.tail _ (.tail _ (.tail _ hf)))), s2.own, s2.ext, s2.new⟩, hMn, s2.all (F2 X ρ L' a) (.tail _ (.tail _ (.tail _ (.head _))))⟩
      have hrun : (execOp a.eval o).run X.P g.w = .ok .skip g'.w := by
        simp only [execOp, ho, hvx, hvy, Nat.zero_add]
        simp only [Instr.storeAt, Instr.sureAddr, storeVar, Sem.run_bind, Sem.run_pure, Result.andThen_ok, run_sizeOf (TT.get_ok hT ht).ti]
        have hsz2 : vy.cells.size = t.sz := by rw [← Array.length_toList]; exact hvl
        simp only [hsz2, ne_eq, not_true_eq_false, if_false, hst]
        rfl
      simp only [wn, hrun, hd, updL]
      exact ⟨g', rfl, hE'⟩
/-- The address of an element of rows that are owned. -/
theorem sri {tb : TT} (hT : tb.Ok X.P) (j : Nat) {d i T Te n sz : Nat} {kk : IntKind} {z : Int} {x ix : Operand} {rows : List (List SV)} {dT de : TD} (hzj : z = (j : Int)) (hj : j < rows.length) (hn : n = rows.length) (h : ES X arr l k ((d, .e i (j * sz)) :: L) M fs own) (ho : o.op = .indexAddr T x ix := by rfl) (hg : o.guard = none := by rfl) (hd : o.dst = some d := by rfl) (hdn : Nat.blt d X.n = true := by rfl) (hx : evS (lkS L) x = some (.o i n) := by rfl) (hy : evS (lkS L) ix = some (.v (.int kk z)) := by rfl)
    (hm : lkM M i = some (.r Te sz rows) := by rfl) (hT1 : tb.get T = some dT := by rfl) (hk1 : dT.kd = .sl Te := by rfl) (hT2 : tb.get Te = some de := by rfl) (hsz : de.sz = sz := by rfl) : ES X arr (o :: l) k L M fs own := by
  refine ES_step (Stp_rix hT hzj hj hn ho hg hd hdn hx hy hm hT1 hk1 hT2 hsz) ?_
  rw [hd]
  exact h
/-- An element, or a part of it, of several cells. -/
theorem srl {tb : TT} (hT : tb.Ok X.P) (j f : Nat) {T Te d i sz off : Nat} {x : Operand} {cs row : List SV} {rows : List (List SV)} {de : TD} (hrow : rows[j]? = some row) (h : ES X arr l k ((d, .a cs) :: L) M fs own) (ho : o.op = .load T x := by rfl) (hg : o.guard = none := by rfl) (hd : o.dst = some d := by rfl) (hdn : Nat.blt d X.n = true := by rfl) (hx : evS (lkS L) x = some (.e i off) := by rfl) (hm : lkM M i = some (.r Te sz rows) := by rfl) (hT2 : tb.get T = some de := by rfl) (hag : de.kd.ag = true := by rfl) (hoff : off = j * sz + f := by rfl) (hcs : (row.drop f).take de.sz = cs := by rfl) (hcl : cs.length = de.sz := by rfl) : ES X arr (o :: l) k L M fs own := by
  refine ES_step (Stp_rlg hT hoff hrow hcs hcl ho hg hd hdn hx hm hT2 hag) ?_
  rw [hd]
  exact h
/-- Stored into an element, or a part of it. -/
theorem srs {tb : TT} (hT : tb.Ok X.P) (j f : Nat) {T Te i sz off : Nat} {x y : Operand} {sy : SV} {row : List SV} {rows : List (List SV)} {t : TD} {M2 : SM} (hrow : rows[j]? = some row) (h : ES X arr l k L M2 fs own) (ho : o.op = .store T x y := by rfl) (hg : o.guard = none := by rfl) (hd : o.dst = none := by rfl) (hx : evS (lkS L) x = some (.e i off) := by rfl) (hy : evS (lkS L) y = some sy := by rfl) (hok : okc sy = true := by rfl) (hclo : cloL (cellsV sy) = true := by rfl) (hm : lkM M i = some (.r Te sz rows) := by rfl) (ht : tb.get T = some t := by rfl) (hoff : off = j * sz + f := by rfl) (hf : f + t.sz ≤ sz := by decide) (hlen : (cellsV sy).length = t.sz := by rfl)
    (hu : updK M i (.r Te sz (rows.set j (putR row f (cellsV sy)))) some = some M2 := by rfl) : ES X arr (o :: l) k L M fs own := by
  refine ES_step (sv := .v (.bool true)) (Stp_rsg hT hoff hrow hf ho hg hd hx hy hok hlen hclo hm ht hu) ?_
  rw [hd]
  exact h
end
end Go.KX
namespace Go.KX
theorem run_copy_to {P : Program} {w w' : World} {dT sT ty e sz by_ : Nat} {z : Value} {ad ad2 : Addr} {dLen dCap sLen sCap : Nat} {vs : List Value} (u : P.underlying dT = some (.slice e)) (i : TI P e sz by_ z) (hn : vs.length = Nat.min sLen dLen * sz) (hsrc : ∀ (j : Nat) v, vs[j]? = some v → w.cell? (ad2.add j) = some v) (hst : (storeCells ad vs 0).run P w = .ok () w') :
    (Builtin.copy_ #[dT, sT] ty #[.slice (some ad) dLen dCap, .slice (some ad2) sLen sCap]).run P w = .ok (goInt (Nat.min sLen dLen)) w' := by
  have hl := run_loadCells_list (P := P) (w := w) ad2 vs hsrc
  rw [hn] at hl
  simp [Builtin.copy_, run_underlying u, Builtin.lenOf, Builtin.firstCells, run_sizeOf i, hl, hst]
section
variable {X : Kx} {k : List It} {L : SL} {M : SM} {fs : List MF} {own : List Res} {arr : Array Oper} {l : List Oper} {o : Oper}
/-- copy(xs, ys): xs owned, ys frozen, not longer than xs. -/
theorem Stp_cpy {tb : TT} (hT : tb.Ok X.P) {d T T2 Te i n sz : Nat} {x y : Operand} {rows rows2 : List (List SV)} {dT de : TD} {M2 : SM} (hn : n = rows.length) (hne2 : rows2 ≠ []) (hle : rows2.length ≤ rows.length) (ho : o.op = .call ⟨.builtin .copy, #[x, y], #[T, T2]⟩) (hg : o.guard = none) (hd : o.dst = some d) (hdn : Nat.blt d X.n = true)
    (hx : evS (lkS L) x = some (.o i n)) (hy : evS (lkS L) y = some (.s sz rows2)) (hm : lkM M i = some (.r Te sz rows)) (hT1 : tb.get T = some dT) (hk1 : dT.kd = .sl Te) (hT2 : tb.get Te = some de) (hsz : de.sz = sz) (hu : updK M i (.r Te sz (rows2 ++ rows.drop rows2.length)) some = some M2) :
    Stp X arr o L M fs own (.v (.int .i64 (rows2.length : Int))) M2 := by
  subst hsz hn
  intro L' hL g a hE
  obtain ⟨ρ, ms, st⟩ := hE.open
  have hSl : Sl X ρ L' a g := st.all _ (.tail _ (.head _))
  have hM : DenM g ρ M ms := st.all _ (.head _)
  have hw : Region.wanted o (yielded arr a.tmps) = true := live_wanted (L := []) st.kn (live_none hg)
  unfold opQ
  rw [if_pos hw]
  have hev : evs (lkS L') [x, y] = some [.o i rows.length, .s de.sz rows2] := by
    have := evs_agree' hL
    rw [show o.op.operands.toList = [x, y] by rw [ho]; rfl] at this
    rw [this]
    simp only [evs, hx, hy]
  obtain ⟨_, _, e1, dx, hr1⟩ := (evals_den hSl.val hev).uncons
  obtain ⟨_, _, e2, dy, _⟩ := hr1.uncons
  simp only [List.map_cons, List.cons.injEq] at e1
  obtain ⟨rfl, rfl⟩ := e1
  simp only [List.cons.injEq] at e2
  obtain ⟨rfl, _⟩ := e2
  obtain ⟨r, m1, m2, rfl, hB, hup⟩ := hM.split hm
  obtain ⟨M3, hK, hM3⟩ := hup hu
  cases hK
  generalize hvx : a.eval x = vx at dx
  generalize hvy : a.eval y = vy at dy
  have u := (TT.get_ok hT hT1).kd
  rw [hk1] at u
  have hti := (TT.get_ok hT hT2).ti
  cases hB with
  | r hz ys hl hdd =>
    cases dx with
    | o =>
      cases dy with
      | s xs h1 h2 hxl hxr hxo hne hxd =>
        rename_i ad2 c2
        obtain ⟨ys2, hyl2, hyf⟩ := chunks hz rows2.length xs hxl hxo.1
        obtain ⟨b2, o2, hb2, _, hcell⟩ := hne hne2
        subst hb2
        have hp : (m1 ++ Res.arr (elRow de.sz hz) Te (ρ i).ad (ρ i).c ys :: m2 ++ own).Perm (Res.arr (elRow de.sz hz) Te (ρ i).ad (ρ i).c ys :: (m1 ++ m2 ++ own)) := by
          simp only [List.append_assoc, List.cons_append]
          exact List.perm_middle
        have hpos : 0 < rows2.length := List.length_pos_iff.2 hne2
        have stp0 := st.perm hp
        have hrd2 : (rowsD ys2 rows2).p g := fun ρ' k x r hk hr => by
          have hrl : r.length = de.sz := hxr r (List.mem_of_getElem? hr)
          refine ⟨by rw [hrl]; exact x.2.1, fun j sv v h3 h4 => ?_⟩
          refine hxd ρ' k j r sv v hr h3 ?_
          have := flat_get (elRow de.sz hz) ys2 k j x v hk h4
          rw [hyf] at this
          exact this
        have stp : St X.toCx [] (rowsD ys rows :: rowsD ys2 rows2 :: F1 ρ M _ :: F2 X ρ L' a :: fs) _ g a := ⟨stp0.kn, All.cons hdd (All.cons hrd2 stp0.all), stp0.own, stp0.ext, stp0.new⟩
        obtain ⟨b, had, hbs, hown⟩ := arr_head (stp.own.p _ (.head _)) (by omega)
        have hfl : flat (elRow de.sz hz) (ys2 ++ ys.drop rows2.length) = (flat (elRow de.sz hz) ys).take 0 ++ (xs ++ (flat (elRow de.sz hz) ys).drop (0 + xs.length)) := by
          rw [List.take_zero, List.nil_append, Nat.zero_add, hxl]
          have e1 : flat (elRow de.sz hz) (ys2 ++ ys.drop rows2.length) = flat (elRow de.sz hz) ys2 ++ flat (elRow de.sz hz) (ys.drop rows2.length) := by simp [flat]
          rw [e1, hyf]
          have e2 := flat_drop (elRow de.sz hz) ys rows2.length
          rw [show rows2.length * (elRow de.sz hz).sz = rows2.length * de.sz from rfl] at e2
          rw [e2]
        obtain ⟨g', hst, s'⟩ := stp.write (P := X.P) (ys' := ys2 ++ ys.drop rows2.length) .head had (by rw [List.length_append, hyl2, List.length_drop]; omega) hfl (by
          rw [Nat.zero_add, hxl]
          exact Nat.mul_le_mul_right _ (by omega)) hxo.1
        have hM' : DenM g' ρ M _ := s'.all (F1 ρ M _) (.tail _ (.tail _ (.head _)))
        have hd1 : (rowsD ys rows).p g' := s'.all _ (.head _)
        have hd2 : (rowsD ys2 rows2).p g' := s'.all _ (.tail _ (.head _))
        have hBn : DenB g' ρ i (.r Te de.sz (rows2 ++ rows.drop rows2.length)) (Res.arr (elRow de.sz hz) Te (ρ i).ad (ρ i).c (ys2 ++ ys.drop rows2.length)) := .r hz _ (by simp [hl, hyl2]) (fun ρ' k x r hk hr => by
          by_cases hk2 : k < rows2.length
          · rw [List.getElem?_append_left (by omega)] at hk hr
            exact hd2 ρ' k x r hk hr
          · rw [List.getElem?_append_right (by omega), List.getElem?_drop] at hk hr
            rw [hyl2] at hk
            exact hd1 ρ' _ x r hk hr)
        have hMn := hM3 g' _ hM' hBn
        have hp2 : (Res.arr (elRow de.sz hz) Te (ρ i).ad (ρ i).c (ys2 ++ ys.drop rows2.length) :: (m1 ++ m2 ++ own)).Perm (m1 ++ Res.arr (elRow de.sz hz) Te (ρ i).ad (ρ i).c (ys2 ++ ys.drop rows2.length) :: m2 ++ own) := by
          simp only [List.append_assoc, List.cons_append]
          exact List.perm_middle.symm
        have s2 := s'.perm hp2
        have hmin : Nat.min rows2.length rows.length = rows2.length := Nat.min_eq_left hle
        have hcp := run_copy_to (P := X.P) (w := g.w) (w' := g'.w) (dT := T) (sT := T2) (ty := o.type) (dCap := (ρ i).c) (sCap := c2) (sLen := rows2.length) (dLen := rows.length) (ad := ⟨b, 0, none⟩) (ad2 := ⟨b2, o2, none⟩) (vs := xs) u hti (by rw [hmin]; exact hxl) (fun j v hv => by rw [addr_add]; exact hcell j v hv) hst
        rw [hmin] at hcp
        have hre : (execOp a.eval o).run X.P g.w = .ok (.value (goInt rows2.length)) g'.w := by
          simp only [execOp, ho, resolve]
          simp only [List.map_toArray, List.map_cons, List.map_nil, hvx, hvy, had]
          simp [invoke, builtin, hcp]
        simp only [wn, hre, hd]
        have s3 : St X.toCx [] (F1 ρ M2 (m1 ++ Res.arr (elRow de.sz hz) Te (ρ i).ad (ρ i).c (ys2 ++ ys.drop rows2.length) :: m2) :: F2 X ρ L' a :: fs) (m1 ++ Res.arr (elRow de.sz hz) Te (ρ i).ad (ρ i).c (ys2 ++ ys.drop rows2.length) :: m2 ++ own) g' a := ⟨s2.kn, All.cons hMn (All.cons (s2.all (F2 X ρ L' a) (.tail _ (.tail _ (.tail _ (.head _))))) (fun f hf => s2.all f (.tail _ (.tail _ (.tail _ (.tail _ hf)))))), s2.own, s2.ext, s2.new⟩
        exact ⟨g', rfl, ESt.put s3 hdn .v⟩
/-- copy(xs, ys): xs owned, ys frozen, not longer than xs. -/
theorem scpy {tb : TT} (hT : tb.Ok X.P) {d T T2 Te i n sz : Nat} {x y : Operand} {rows rows2 : List (List SV)} {dT de : TD} {M2 : SM} (hn : n = rows.length) (hne2 : rows2 ≠ []) (hle : rows2.length ≤ rows.length) (h : ES X arr l k ((d, .v (.int .i64 (rows2.length : Int))) :: L) M2 fs own) (ho : o.op = .call ⟨.builtin .copy, #[x, y], #[T, T2]⟩ := by rfl) (hg : o.guard = none := by rfl) (hd : o.dst = some d := by rfl) (hdn : Nat.blt d X.n = true := by rfl)
    (hx : evS (lkS L) x = some (.o i n) := by rfl) (hy : evS (lkS L) y = some (.s sz rows2) := by rfl) (hm : lkM M i = some (.r Te sz rows) := by rfl) (hT1 : tb.get T = some dT := by rfl) (hk1 : dT.kd = .sl Te := by rfl) (hT2 : tb.get Te = some de := by rfl) (hsz : de.sz = sz := by rfl) (hu : updK M i (.r Te sz (rows2 ++ rows.drop rows2.length)) some = some M2 := by rfl) : ES X arr (o :: l) k L M fs own := by
  refine ES_step (Stp_cpy hT hn hne2 hle ho hg hd hdn hx hy hm hT1 hk1 hT2 hsz hu) ?_
  rw [hd]
  exact h
/-- make([]T, n): rows that are owned. -/
theorem smks {tb : TT} (hT : tb.Ok X.P) (i n : Nat) {d T Te sz by_ : Nat} {x y : Operand} {p q : Int} {z : Value} (hz0 : 0 < sz) (ys : List (Row sz)) (hyl : ys.length = n) (hp : p = (n : Int)) (hq : q = (n : Int)) (hmade : madeCells z.cells (n * sz) = (flat (elRow sz hz0) ys).toArray) (hbig : by_ * n ≤ 281474976710656) (h63 : n ≤ maxLen) (ht : TI X.P Te sz by_ z) (u : X.P.underlying T = some (.slice Te))
    (h : ES X arr l k ((d, .o i n) :: L) ((i, .r Te sz (ys.map fun y => y.1.map SV.v)) :: M) fs own) (ho : o.op = .makeSlice T x y := by rfl) (hg : o.guard = none := by rfl) (hd : o.dst = some d := by rfl) (hdn : Nat.blt d X.n = true := by rfl) (hx : evS (lkS L) x = some (.v (.int .i64 p)) := by rfl) (hy : evS (lkS L) y = some (.v (.int .i64 q)) := by rfl) (hoc : (occSL i L || occM i M) = false := by rfl) (hlt : Nat.blt i 1000 = true := by rfl) : ES X arr (o :: l) k L M fs own := by
  subst hp hq hyl
  intro g a hE
  obtain ⟨ρ, ms, st⟩ := hE.open
  simp only [Bool.or_eq_false_iff] at hoc
  have hlt : i < 1000 := by simpa [Nat.blt_eq] using hlt
  have hSl : Sl X ρ L a g := st.all _ (.tail _ (.head _))
  have hM : DenM g ρ M ms := st.all _ (.head _)
  have hw : Region.wanted o (yielded arr a.tmps) = true := live_wanted (L := []) st.kn (live_none hg)
  have hev : evs (lkS L) [x, y] = some [.v (.int .i64 (ys.length : Int)), .v (.int .i64 (ys.length : Int))] := by simp only [evs, hx, hy]
  obtain ⟨_, _, e1, dx, hr1⟩ := (evals_den hSl.val hev).uncons
  obtain ⟨_, _, e2, dy, _⟩ := hr1.uncons
  simp only [List.map_cons, List.cons.injEq] at e1
  obtain ⟨rfl, rfl⟩ := e1
  simp only [List.cons.injEq] at e2
  obtain ⟨rfl, _⟩ := e2
  have hvx := den_int dx
  have hvy := den_int dy
  obtain ⟨i0, hi0, hs0, hb0, hz1⟩ := ht
  subst hs0 hb0
  have h63' : (ys.length : Int) ≤ 9223372036854775807 := by simp only [maxLen] at h63; omega
  have hb' : (i0.bytes : Int) * (ys.length : Int) ≤ 281474976710656 := by
    have : ((i0.bytes * ys.length : Nat) : Int) ≤ 281474976710656 := by omega
    rwa [Int.natCast_mul] at this
  have hrun := run_make (P := X.P) g.w T Te i0 z u hi0 hz1 .i64 .i64 ys.length ys.length (by omega) (Int.le_refl _) hb' h63'
  simp only [Int.toNat_natCast, hmade] at hrun
  have s' := st.alloc (.cells (flat (elRow i0.size hz0) ys).toArray Te)
  have s2 : St X.toCx [] (F1 ρ M ms :: F2 X ρ L a :: fs) (Res.arr (elRow i0.size hz0) Te (some ⟨g.w.heap.size, 0, none⟩) ys.length ys :: (ms ++ own)) ⟨g.w.alloc (.cells (flat (elRow i0.size hz0) ys).toArray Te), g.fz, fun b hb => by have := g.lt b hb; rw [size_alloc]; omega⟩ a := by
    refine ⟨s'.kn, s'.all, ⟨fun r hr' => ?_, s'.own.nodup, s'.own.lt, s'.own.nfz⟩, s'.ext, s'.new⟩
    cases hr' with
    | head =>
      have := World.ownsRow_lit (base := 0) (e := Te) (size := i0.size) g.w (flat (elRow i0.size hz0) ys).toArray ys.length (Nat.zero_le _) h63 (by simp [flat_len, elRow])
      have h3 : World.ownsRow (g.w.alloc (.cells (flat (elRow i0.size hz0) ys).toArray Te)) 0 Te i0.size (.slice (some ⟨g.w.heap.size, 0, none⟩) ys.length ys.length) ys.length (flat (elRow i0.size hz0) ys) := by simpa using this
      exact h3
    | tail _ hm => exact s'.own.p r (.tail _ hm)
  generalize hgg : (⟨g.w.alloc (.cells (flat (elRow i0.size hz0) ys).toArray Te), g.fz, fun b hb => by have := g.lt b hb; rw [size_alloc]; omega⟩ : GW) = g' at s2
  have hgw : g'.w = g.w.alloc (.cells (flat (elRow i0.size hz0) ys).toArray Te) := by rw [← hgg]
  have hre : (execOp a.eval o).run X.P g.w = .ok (.value (.slice (some ⟨g.w.heap.size, 0, none⟩) ys.length ys.length)) g'.w := by
    simp only [execOp, ho, hvx, hvy, hgw]
    simp [hrun]
  let y1 : Lc := ⟨0, some ⟨g.w.heap.size, 0, none⟩, ys.length⟩
  have hM' : DenM g' ρ M ms := s2.all (F1 ρ M ms) (.head _)
  have hS' : Sl X ρ L a g' := s2.all (F2 X ρ L a) (.tail _ (.head _))
  have hB : DenB g' (fun j => if j = i then y1 else ρ j) i (.r Te i0.size (ys.map fun y => y.1.map SV.v)) (Res.arr (elRow i0.size hz0) Te ((fun j => if j = i then y1 else ρ j) i).ad ((fun j => if j = i then y1 else ρ j) i).c ys) := .r hz0 ys (by simp) (fun ρ' k x r hk hr => by
    rw [List.getElem?_map, hk] at hr
    cases hr
    refine ⟨by simp, fun j sv v h1 h2 => ?_⟩
    rw [List.getElem?_map, h2] at h1
    cases h1
    exact .v)
  simp only [if_pos] at hB
  have hMn : DenM g' (fun j => if j = i then y1 else ρ j) ((i, .r Te i0.size (ys.map fun y => y.1.map SV.v)) :: M) (Res.arr (elRow i0.size hz0) Te (some ⟨g.w.heap.size, 0, none⟩) ys.length ys :: ms) := .cons hB (occ_upd hM' hoc.2)
  have s3 : St X.toCx [] (F1 (fun j => if j = i then y1 else ρ j) ((i, .r Te i0.size (ys.map fun y => y.1.map SV.v)) :: M) (Res.arr (elRow i0.size hz0) Te (some ⟨g.w.heap.size, 0, none⟩) ys.length ys :: ms) :: F2 X (fun j => if j = i then y1 else ρ j) L a :: fs) (Res.arr (elRow i0.size hz0) Te (some ⟨g.w.heap.size, 0, none⟩) ys.length ys :: ms ++ own) g' a := ⟨s2.kn, All.cons hMn (All.cons ⟨fun j hj => by
      have : j ≠ i := by omega
      simp only [if_neg this]; exact hS'.pin j hj, fun t sv ht => by
      obtain ⟨x, hx, dx⟩ := hS'.val t sv ht
      exact ⟨x, hx, dx.upd (occSL_get hoc.1 t sv ht)⟩⟩ (fun f hf => s2.all f (.tail _ (.tail _ hf)))), s2.own, s2.ext, s2.new⟩
  simp only [wl, hw, if_true, wn, hre, hd]
  have hfin : ESt X ((d, .o i ys.length) :: L) ((i, .r Te i0.size (ys.map fun y => y.1.map SV.v)) :: M) fs own g' (a.put (some d) (.slice (some ⟨g.w.heap.size, 0, none⟩) ys.length ys.length)) := ESt.put s3 hdn (by
    have : Den g' (fun j => if j = i then y1 else ρ j) (.o i ys.length) (.slice ((fun j => if j = i then y1 else ρ j) i).ad ys.length ((fun j => if j = i then y1 else ρ j) i).c) := .o
    simpa [y1] using this)
  exact h g' _ hfin
end
end Go.KX
namespace Go.KX
section
variable {X : Kx} {k : List It} {L : SL} {M : SM} {fs : List MF} {own : List Res} {arr : Array Oper} {l : List Oper} {o : Oper}
/-- What the local block b holds is not followed any more: it bears another name. -/
theorem sal (b i j : Nat) {T n : Nat} {M2 : SM} (h : ES X arr l k L M2 fs own) (hm : lkM M b = some (.c T [.o i n]) := by rfl) (hu : updK M b (.c T [.o j n]) some = some M2 := by rfl) (hoL : occSL j L = false := by rfl) (hoM : occM j M = false := by rfl) (hlt : Nat.blt j 1000 = true := by rfl) (hij : Nat.beq i j = false := by rfl) (hbj : Nat.beq b j = false := by rfl) : ES X arr l k L M fs own := by
  intro g a s
  obtain ⟨ρ, ms, s1, s2, s3⟩ := s
  have hlt : j < 1000 := by simpa [Nat.blt_eq] using hlt
  have hij : i ≠ j := by intro e; subst e; rw [Nat.beq_refl] at hij; cases hij
  have hbj : b ≠ j := by intro e; subst e; rw [Nat.beq_refl] at hbj; cases hbj
  have hM := occ_upd (y := ρ i) s2 hoM
  obtain ⟨r, m1, m2, rfl, hB, hup⟩ := hM.split hm
  obtain ⟨M3, hK, hM3⟩ := hup hu
  cases hK
  refine h g a ⟨fun q => if q = j then ρ i else ρ q, m1 ++ r :: m2, s1, hM3 g r hM ?_, fun q hq => ?_, fun t sv ht => ?_⟩
  · cases hB with
    | c xs hd h1 =>
      refine .c xs ?_ h1
      refine ⟨hd.1, fun p s v hp hv => ?_⟩
      cases p with
      | zero =>
        simp only [List.getElem?_cons_zero, Option.some.injEq] at hp
        subst hp
        have h0 := hd.2 0 _ v rfl hv
        cases h0 with
        | o =>
          have : Den g (fun q => if q = j then ρ i else ρ q) (.o j n) (.slice ((fun q => if q = j then ρ i else ρ q) j).ad n ((fun q => if q = j then ρ i else ρ q) j).c) := .o
          simp only [if_pos, if_neg hij] at this ⊢
          exact this
      | succ p => simp at hp
  · have : q ≠ j := by omega
    simp only [if_neg this]
    exact s3.pin q hq
  · obtain ⟨x, hx, dx⟩ := s3.val t sv ht
    exact ⟨x, hx, dx.upd (occSL_get hoL t sv ht)⟩
end
/-- A range over a function, in whose rounds what is owned as v (in there: m) moves. -/
theorem E_rangeV {X : Kx} {k : List It} {L : SL} {M : SM} {fs : List MF} {fo : Operand} {ps : Array Tmp} {assign body : Code} {gf : FuncId} {caps : List SV} {args : List (List SV)} (v m : Nat) (Ms Mm : Nat → SM) (hit : Itr X.P fs gf caps args) (hm1 : m < 1000) (hv1 : v < 1000) (hLv : occSL v L = false)
    (hin : ∀ j g ρ mms, DenM g ρ (Ms j) mms → DenM g (fun i => if i = m then ρ v else ρ (i - 1000)) (Mm j) mms) (hout : ∀ j g ρ mms, DenM g ρ (Mm j) mms → DenM g (fun i => if i = v then ρ m else ρ (i + 1000)) (Ms j) mms)
    (hround : ∀ (j : Nat) a, args[j]? = some a → ∀ (l : Nat) g0 B0 ρ0 Q1 Q2 own1 own2 (J : Act → World → Prop),
      (∀ {L' M'}, E ⟨⟨X.P, X.n, g0, B0, Q2, some l, []⟩, ρ0⟩ [.code body] L' M' fs own2 → E ⟨⟨X.P, X.n, g0, B0, Q1, some l, []⟩, ρ0⟩ [.lp J] L' M' fs own1) →
      (∀ {L' M'}, keepM (fun i => Nat.ble 1000 i || Nat.beq i m) M' = Mm (j + 1) → E ⟨⟨X.P, X.n, g0, B0, Q2, some l, []⟩, ρ0⟩ [] L' M' fs own2) →
      E ⟨⟨X.P, X.n, g0, B0, Q1, some l, []⟩, ρ0⟩ [.code assign, .lp J] (putP ps.toList a (upS L)) (Mm j) fs own1)
    (hk : ∀ D, E { X with df := [colD D] } k L (Ms args.length) fs [Res.blk D (.deferred (some []))])
    (hcl : ∀ a ∈ args, cloL a = true) (hps : ∀ a ∈ args, a.length = ps.size) (hfo : evS (lkS L) fo = some (.f gf [] caps) := by rfl) (hpn : ps.toList.all (fun p => Nat.blt p X.n) = true := by rfl) (hM : keepM (keysB (Ms 0)) M = Ms 0 := by rfl) (hrd : X.rd = none := by rfl) (hdf : X.df = [] := by rfl) : E X (.code (.rangeFunc fo ps assign body) :: k) L M fs [] := by
  intro g a hE
  obtain ⟨ρ, msl, s1, s2, s3⟩ := hE.ex
  obtain ⟨m1, m2, h4, h5⟩ := s2.keep (keysB (Ms 0))
  rw [hM] at h4
  have st0 : St X.toCx [] fs m1 g a := (s1.perm (by simpa using h5)).drop
  have st : St X.toCx [] (F1 ρ (Ms 0) m1 :: F2 X ρ L a :: fs) m1 g a := ⟨st0.kn, All.cons h4 (All.cons s3 st0.all), st0.own, st0.ext, st0.new⟩
  have dfo := eval_den s3.val hfo
  obtain ⟨xs, ys, hfe, d1, d2⟩ := den_f dfo
  obtain rfl := d1.unnil
  show (Code.rangeFunc fo ps assign body).wpIn (fen X.rd) 0 X.P (cont X.P X.rd X.Q k) a g.w
  refine wpIn_rangeFunc (fun fn _ => ?_)
  have hro : (fen X.rd).round = none := hrd
  rw [hro]
  obtain ⟨D, hD⟩ : ∃ D, D = g.w.heap.size := ⟨_, rfl⟩
  obtain ⟨rec, hrec⟩ : ∃ rec : LoopState → Option Code → Loop, rec = fun st pe => { state := st, pending := pe, fn, tmps := a.tmps, params := ps, assign, body, defers := D } := ⟨_, rfl⟩
  obtain ⟨gL, hgL, sL⟩ := st.alloc2 (.deferred (some [])) (.loop (rec .ready none))
  rw [← hD] at sL
  have hent := run_enterLoop_outer (P := X.P) (w := g.w) fn a.tmps ps assign body
  rw [← hD, show ({ state := .ready, pending := none, fn, tmps := a.tmps, params := ps, assign, body, defers := D } : Loop) = rec .ready none by rw [hrec], ← hgL] at hent
  have hfe' : a.eval fo = .func (.func gf) #[] ys.toArray := hfe
  refine ⟨D + 1, [colD D], gL.w, { target := .fn (.func gf) ys.toArray, args := #[.func (.yield (D + 1)) #[] #[]] }, gL.w, gf, #[.func (.yield (D + 1)) #[] #[]] ++ ys.toArray, gL.w, hent, ?_, fun _ _ => trivial, ?_, fun h => by simp [Fence.wide] at h, (callsIn_wide (n := 0)).2 ?_⟩
  · simp only [resolve, hfe']
    simp [go_sem]
  · simp [invoke, go_sem, run_callFunc hit.1]
  have sL2 := sL.perm (own' := (Res.blk (D + 1) (.loop (rec .ready none)) :: m1) ++ [Res.blk D (.deferred (some []))]) (by
    simp only [List.cons_append]
    exact List.Perm.cons _ ((List.perm_append_comm (l₁ := [Res.blk D (.deferred (some []))]) (l₂ := m1))))
  have hF2 : (F2 X ρ L a).p gL := sL2.all _ (.tail _ (.head _))
  have hAL : All fs gL := fun f hf => sL2.all f (.tail _ (.tail _ hf))
  let R : Rnd := {
    J := fun j g ms => ∃ (ρ' : Nat → Lc) (mms : List Res), (∀ i, i ≠ v → ρ' i = ρ i) ∧ ms = Res.blk (D + 1) (.loop (rec .ready none)) :: mms ∧ DenM g ρ' (Ms j) mms ∧ (F2 X ρ L a).p g ∧ All fs g
    Jx := fun _ _ => False
    mono := fun e ⟨ρ', mms, h0, h1, h2, h3, h4⟩ => ⟨ρ', mms, h0, h1, h2.mono e, (F2 X ρ L a).mono e h3, h4.mono e⟩
    monox := fun _ h => h }
  have hcaps : DenL gL ρ caps ys := by
    have dfo' := eval_den (Sl.val hF2) hfo
    obtain ⟨_, ys', hfe2, _, d3⟩ := den_f dfo'
    rw [hfe] at hfe2
    have : ys = ys' := by
      have := hfe2
      simp only [Value.func.injEq] at this
      exact List.toArray_inj this.2.2
    rw [this]; exact d3
  have hRnd : RndOK X.P (D + 1) R args := by
    rintro j av hj g1 ms ρa vs ⟨ρ', mms, hρ, rfl, hM1, hS1, hA1⟩ hO1 hd1
    have hρ2 : ρ' = fun i => if i = v then ρ' v else ρ i := funext fun i => by
      by_cases hi : i = v
      · rw [if_pos hi, hi]
      · rw [if_neg hi, hρ i hi]
    have hmem : av ∈ args := List.mem_of_getElem? hj
    have hl : g1.w.heap[D + 1]? = some (.loop (rec .ready none)) := hO1.p _ (.head _)
    have hy := run_yield (P := X.P) (args := vs.toArray) hl (by rw [hrec]; simpa using hd1.1.trans (hps av hmem))
    rw [hrec] at hy
    refine ⟨fn, _, assign, body, hy, roundIn_of_wpIn (n := 0) (F := Fence.wide) trivial ?_⟩
    let ms := Res.blk (D + 1) (.loop (rec .ready none)) :: mms
    let ρ0 : Nat → Lc := fun i => if i = m then ρ' v else ρ' (i - 1000)
    have eρ : ∀ i, ρ0 (i + 1000) = ρ' i := fun i => by
      have : i + 1000 ≠ m := by omega
      simp [ρ0, this]
    let RR := RP g1 ms (R.J (j + 1)) R.Jx
    let Q2 := roundPost X.P (D + 1) RR
    let J1 : Act → World → Prop := fun a₁ w₁ => ∃ w₂, (Instr.beginRound (D + 1)).run X.P w₁ = .ok () w₂ ∧ body.wpIn (Fence.wide.inRound (D + 1)) 0 X.P (roundPost X.P (D + 1) RR) a₁ w₂
    have fin : ∀ (stt : LoopState) (pe : Option Code) {L' M' g4 a4}, ESt ⟨⟨X.P, X.n, g1, blks ms, Q2, some (D + 1), []⟩, ρ0⟩ L' M' fs [Res.blk (D + 1) (.loop { rec .ready none with state := .busy })] g4 a4 → keepM (fun i => Nat.ble 1000 i || Nat.beq i m) M' = Mm (j + 1) →
        g4.w.heap[D + 1]? = some (.loop { rec .ready none with state := .busy }) ∧ ∃ g' m4, g'.w = g4.w.putObj (D + 1) (.loop (rec stt pe)) ∧ Ext (blks ms) g1 g' ∧ Own (Res.blk (D + 1) (.loop (rec stt pe)) :: m4) g' ∧ (∀ b ∈ blks (Res.blk (D + 1) (.loop (rec stt pe)) :: m4), b ∈ blks ms ∨ g1.w.heap.size ≤ b) ∧ (∃ ρ'' : Nat → Lc, (∀ i, i ≠ v → ρ'' i = ρ i) ∧ DenM g' ρ'' (Ms (j + 1)) m4) ∧ (F2 X ρ L a).p g' ∧ All fs g' := by
      intro stt pe L' M' g4 a4 s4 hk4
      obtain ⟨ρ4, ms4, t1, t2, t3⟩ := s4.ex
      obtain ⟨m4, m5, h6, h7⟩ := t2.keep (fun i => Nat.ble 1000 i || Nat.beq i m)
      rw [hk4] at h6
      have e4 : ∀ i, ρ4 (i + 1000) = ρ' i := fun i => (t3.pin _ (by omega)).trans (eρ i)
      have t1p := (t1.perm (own' := (Res.blk (D + 1) (.loop { rec .ready none with state := .busy }) :: m4) ++ m5) ((List.perm_append_comm (l₁ := ms4)).trans (List.Perm.cons _ h7))).drop
      have hl4 := t1p.own.p _ (.head _)
      have t5 : St _ [] (F1 ρ4 (Mm (j + 1)) m4 :: fs) _ g4 a4 := ⟨t1p.kn, All.cons h6 t1p.all, t1p.own, t1p.ext, t1p.new⟩
      obtain ⟨g', hw, s'⟩ := t5.putO (.loop (rec stt pe))
      exact ⟨hl4, g', m4, hw, s'.ext, s'.own, s'.new, ⟨fun i => if i = v then ρ4 m else ρ4 (i + 1000), fun i hi => by simp only [if_neg hi]; rw [e4, hρ i hi], hout _ _ _ _ (show DenM g' ρ4 (Mm (j + 1)) m4 from s'.all _ (.head _))⟩, (F2 X ρ L a).mono s'.ext.toFExt hS1, fun f hf => s'.all f (.tail _ hf)⟩
    have key := hround j av hj (D + 1) g1 (blks ms) ρ0 (fun _ _ _ => False) Q2 [Res.blk (D + 1) (.loop (rec .ready none))] [Res.blk (D + 1) (.loop { rec .ready none with state := .busy })] J1 ?_ ?_
    · refine key g1 { tmps := _, defers := [] } ?_
      have hd1' : DenL g1 ρ0 av vs := hd1.swap (hcl av hmem) ρ0
      have hsz : a.tmps.size = X.n := st0.kn.size
      obtain ⟨h8, h9⟩ := putP_ok ps.toList (g := g1) (ρ := ρ0) (svs := av) (xs := vs) (L := upS L) (T := a.tmps) (by rw [hsz]; exact hpn) hd1' (fun t sv ht => by
        obtain ⟨s0, h10, rfl⟩ := upS_lk ht
        obtain ⟨x, hx, dx⟩ := Sl.val hS1 t s0 h10
        have dx2 : Den g1 ρ' s0 x := by rw [hρ2]; exact dx.upd (occSL_get hLv t s0 h10)
        exact ⟨x, hx, dx2.up eρ⟩)
      rw [← zip_fold] at h8 h9
      exact ⟨ρ0, mms, ⟨⟨h8.trans hsz, rfl, fun i v hi => by simp [lk] at hi⟩, hA1, hO1.perm (List.perm_append_comm (l₁ := [_])), Ext.refl _ g1, fun b hb => .inl ((blks_perm (List.perm_append_comm (l₁ := mms) (l₂ := [_]))).subset hb)⟩, hin _ _ _ _ hM1, fun _ _ => rfl, h9⟩
    · intro L' M' hb g2 a2 hs2
      obtain ⟨ρ2, ms2, t2⟩ := hs2.open
      have t3 := t2.perm (List.perm_append_comm (l₂ := [Res.blk (D + 1) (.loop (rec .ready none))]))
      have hl2 : g2.w.heap[D + 1]? = some (.loop (rec .ready none)) := t3.own.p _ (.head _)
      obtain ⟨g3, hw3, t4⟩ := St.putO t3 (.loop { rec .ready none with state := .busy })
      refine ⟨_, run_beginRound hl2 (by rw [hrec]), ?_⟩
      rw [← hw3]
      exact hb g3 a2 (ESt.reQ (ESt.close (t4.perm (List.perm_append_comm (l₁ := [_]) (l₂ := ms2)))))
    · intro L' M' hk4 g4 a4 s4
      obtain ⟨hl4, g', m4, hw, q1, q2, q3, ⟨ρ'', q4, q7⟩, q5, q6⟩ := fin .ready none s4 hk4
      have hr := run_endRound (P := X.P) none hl4
      refine ⟨_, _, hr, .bool true, g', Res.blk (D + 1) (.loop (rec .ready none)) :: m4, rfl, ?_, q1, q2, q3, .inl ⟨rfl, ρ'', m4, q4, rfl, q7, q5, q6⟩⟩
      rw [hw, hrec]; rfl
  refine (hit.2 (D + 1) R ρ gL ys _ hAL hcaps hRnd ⟨ρ, m1, fun _ _ => rfl, rfl, sL2.all _ (.head _), hF2, hAL⟩ sL2.own.left).mono ?_
  rintro e w2 ⟨v0, g2, ms2, rfl, rfl, hE2, hO2, hN2, hJ2⟩
  have s5 := sL2.frame (fsc := []) (fs' := []) (Split.app _ [Res.blk D (.deferred (some []))]) hE2 (fun f hf => (by cases hf)) hO2 hN2 .nil
  rcases hJ2 with ⟨ρ', mms, hρ, rfl, hM3, hS3, hA3⟩ | hf
  · have hρ2 : ρ' = fun i => if i = v then ρ' v else ρ i := funext fun i => by
      by_cases hi : i = v
      · rw [if_pos hi, hi]
      · rw [if_neg hi, hρ i hi]
    have s6 : St X.toCx [] (F1 ρ' (Ms args.length) mms :: F2 X ρ L a :: fs) (Res.blk (D + 1) (.loop (rec .ready none)) :: (mms ++ [Res.blk D (.deferred (some []))])) g2 a := ⟨s5.kn, All.cons hM3 (All.cons hS3 hA3), s5.own, s5.ext, s5.new⟩
    obtain ⟨g3, hw3, s7⟩ := s6.putO (.loop { rec .ready none with state := .exhausted })
    have hl2 := s6.own.p _ (.head _)
    have s8 := (s7.perm (List.perm_append_comm (l₁ := [_]))).drop
    have hS4 : Sl X ρ L a g3 := s8.all _ (.tail _ (.head _))
    have hs : ESt { X with df := [colD D] } L (Ms args.length) fs [Res.blk D (.deferred (some []))] g3 { a with defers := [colD D] ++ a.defers } := by
      refine ⟨ρ', mms, ⟨⟨s8.kn.size, ?_, fun i v hi => by simp [lk] at hi⟩, fun f hf => s8.all f (.tail _ (.tail _ hf)), s8.own, s8.ext, s8.new⟩, s8.all _ (.head _), fun j hj => ?_, fun t sv ht => ?_⟩
      · show [colD D] ++ a.defers = [colD D]
        rw [s8.kn.defers, hdf]; rfl
      · rw [hρ j (by omega)]; exact hS4.pin j hj
      · obtain ⟨x, hx, dx⟩ := hS4.val t sv ht
        refine ⟨x, hx, ?_⟩
        rw [hρ2]
        exact dx.upd (occSL_get hLv t sv ht)
    have hr := run_endLoop (P := X.P) hl2 (by rw [hrec]; simp)
    have hp : (rec .ready none).pending = none := by rw [hrec]
    exact ⟨(rec .ready none).pending, g3.w, by rw [hw3]; exact hr, by rw [hp]; exact hk D g3 _ hs⟩
  · exact hf.elim
/-- The result of a function that holds a range over a function and hands back a new block. -/
structure Rnm (X : Kx) (fs : List MF) (tb : TT) (rs : List ResultVar) (res : SV) (i : Nat) (mb : MB) (D : Nat) : Prop where
  ret : ∀ {k L M svs}, resS tb L M rs = some svs → resVS svs = res → keepM (Nat.beq i) M = [(i, mb)] → E X (.code .ret :: k) L M fs [Res.blk D (.deferred (some []))]
theorem fnbm {P : Program} {fs : List MF} {tb : TT} (hT : tb.Ok P) {f : FuncId} {fn : Func} {c : Code} {args : List SV} {res : SV} {i : Nat} {mb : MB} (n : Nat) (rs : List ResultVar) (hf : P.funcs[f]? = some fn) (hrs : fn.results = rs.toArray)
    (h : ∀ g0 B0 Q ρ0, (∀ D, Rnm ⟨⟨P, n, g0, B0, Q, none, [colD D]⟩, ρ0⟩ fs tb rs res i mb D) → E ⟨⟨P, n, g0, B0, Q, none, []⟩, ρ0⟩ [.code c] (initS args 0) [] fs []) (hb : fn.body = some c := by rfl) (hname : (fn.name == "runtime.NumGoroutine") = false := by kernel_rfl) (hn : fn.ntmps = n := by rfl) (hle : args.length ≤ n := by exact Nat.le_of_ble_eq_true rfl) : FnN P fs f args res i mb := by
  refine ⟨⟨fn, hf, by simp [hb], hname⟩, fun ρ g vs hfs ha => ?_⟩
  refine (callsIn_wide (n := 0)).1 (callsIn_of_wp_marks hf hb trivial ?_)
  let Post : Ending → World → Prop := fun e w' => ∃ v g' r ρ', e = .returned v ∧ g'.w = w' ∧ Ext [] g g' ∧ Den g' ρ' res v ∧ DenB g' ρ' i mb r ∧ Own [r] g' ∧ ∀ b ∈ blks [r], g.w.heap.size ≤ b
  have hpost : ∀ D (a : Act) (g' : GW) L M' svs, resS tb L M' rs = some svs → resVS svs = res → keepM (Nat.beq i) M' = [(i, mb)] → ESt ⟨⟨P, n, g, [], bodyPostM Fence.wide 0 P fn Post, none, [colD D]⟩, ρ⟩ L M' fs [Res.blk D (.deferred (some []))] g' a → LeavesInM Fence.wide 0 P fn a.tmps Post a.defers .returning g'.w := by
    intro D a g' L M' svs h1 h2 h3 hst
    obtain ⟨ρ', ms', st⟩ := hst.open
    have s1 := st.perm (List.perm_append_comm (l₂ := [Res.blk D (.deferred (some []))]))
    have hl : g'.w.heap[D]? = some (.deferred (some [])) := s1.own.p _ (.head _)
    obtain ⟨g2, hw, s2⟩ := St.putO s1 (.deferred none)
    have s3 := s2.perm (List.perm_append_comm (l₁ := [_]) (l₂ := ms'))
    have hS : Sl ⟨⟨P, n, g, [], bodyPostM Fence.wide 0 P fn Post, none, [colD D]⟩, ρ⟩ ρ' L a g2 := s3.all _ (.tail _ (.head _))
    have hM : DenM g2 ρ' M' ms' := s3.all _ (.head _)
    obtain ⟨v, hv, dv⟩ := results_ok (X := ⟨⟨P, n, g, [], _, none, [colD D]⟩, ρ⟩) hT s3 (s3.all _ (.head _)) hS hrs h1
    obtain ⟨m1, m2, h5, h6⟩ := hM.keep (Nat.beq i)
    have s4 := ((s3.drop).perm (own' := m1 ++ m2) h6).drop
    rw [h3] at h5
    rw [s1.kn.defers]
    cases h5 with
    | cons hB ht =>
      cases ht
      refine ⟨by simp, .inl ⟨D, g2.w, rfl, by rw [hw]; exact run_takeDeferred hl, v, hv, v, g2, _, ρ', rfl, rfl, s3.ext, h2 ▸ dv, hB, s4.own, fun b hb => (s4.new b hb).resolve_left (fun hx => by cases hx)⟩⟩
  refine h g [] (bodyPostM Fence.wide 0 P fn Post) ρ (fun D => ⟨?_⟩) g _ ?_
  · intro k L M' svs h1 h2 h4 g' a hst
    refine wpIn_ret ?_
    rw [cont_ret]
    exact hpost D a g' L M' svs h1 h2 h4 hst
  · refine ⟨ρ, [], ⟨⟨by simp [hn, ha.1]; omega, rfl, fun i v hi => by simp [lk] at hi⟩, hfs, ⟨fun r hr => (by cases hr), List.nodup_nil, fun b hb => (by cases hb), fun b hb => (by cases hb)⟩, Ext.refl _ g, fun b hb => (by cases hb)⟩, .nil, fun i _ => rfl, fun t sv ht => ?_⟩
    obtain ⟨j, rfl, hj⟩ := initS_lk args 0 t sv ht
    obtain ⟨x, hx, dx⟩ := ha.get hj
    refine ⟨x, ?_, dx⟩
    have hlt : j < vs.length := by
      rcases Nat.lt_or_ge j vs.length with h | h
      · exact h
      · rw [List.getElem?_eq_none h] at hx; cases hx
    simp only [Nat.zero_add]
    rw [Array.getElem?_append_left (by simpa using hlt)]
    simpa using hx
section
variable {X : Kx} {k : List It} {L : SL} {M : SM} {fs : List MF} {arr : Array Oper} {tb : TT} {rs : List ResultVar}
theorem ernm {res : SV} {svs : List SV} {i : Nat} {mb mb' : MB} {k' : List It} {D : Nat} (n : Nat) (R : Rnm X fs tb rs res i mb D) (he : resVS svs = res ∧ mb' = mb) (hk : normS (lkS L) 64 n k = .code .ret :: k' := by rfl) (hr : resS tb L M rs = some svs := by rfl) (hm : keepM (Nat.beq i) M = [(i, mb')] := by rfl) : E X k L M fs [Res.blk D (.deferred (some []))] :=
  norm_E 64 n (hk ▸ R.ret hr he.1 (by rw [hm, he.2]))
theorem srnm {res : SV} {svs : List SV} {i : Nat} {mb mb' : MB} {k' : List It} {D : Nat} (n : Nat) (R : Rnm X fs tb rs res i mb D) (he : resVS svs = res ∧ mb' = mb) (hk : normS (lkS L) 64 n k = .code .ret :: k' := by rfl) (hr : resS tb L M rs = some svs := by rfl) (hm : keepM (Nat.beq i) M = [(i, mb')] := by rfl) : ES X arr [] k L M fs [Res.blk D (.deferred (some []))] := ES_nil (ernm n R he hk hr hm)
end
/-- Slots without one. -/
def rmS (t : Nat) : SL → SL
  | [] => []
  | (u, sv) :: r => match Nat.beq u t with
    | true => rmS t r
    | false => (u, sv) :: rmS t r
theorem rmS_lk {t : Nat} : ∀ {L : SL} {u : Nat} {sv : SV}, lkS (rmS t L) u = some sv → lkS L u = some sv
  | [], u, sv, h => h
  | (q, x) :: r, u, sv, h => by
    unfold rmS at h
    cases hq : Nat.beq q t with
    | true =>
      rw [hq] at h
      have hqt := Nat.eq_of_beq_eq_true hq
      subst hqt
      have h2 := rmS_lk (L := r) h
      have hne : u ≠ q := by
        intro e
        subst e
        have key : ∀ (L : SL), lkS (rmS u L) u = none := by
          intro L
          induction L with
          | nil => rfl
          | cons p L ih =>
            obtain ⟨a, b⟩ := p
            unfold rmS
            cases ha : Nat.beq a u with
            | true => exact ih
            | false =>
              show lkS ((a, b) :: rmS u L) u = none
              rw [lkS_ne _ _ (by intro e; subst e; rw [Nat.beq_refl] at ha; cases ha)]
              exact ih
        rw [key r] at h
        cases h
      rw [lkS_ne _ _ hne]
      exact h2
    | false =>
      rw [hq] at h
      by_cases huq : u = q
      · subst huq
        simp only [lkS_same] at h ⊢
        exact h
      · simp only at h
        rw [lkS_ne _ _ huq] at h ⊢
        exact rmS_lk h
section
variable {X : Kx} {k : List It} {L : SL} {M : SM} {fs : List MF} {own : List Res} {arr : Array Oper} {l : List Oper}
/-- A slot is not followed any more. -/
theorem sdrp (t : Nat) (h : ES X arr l k (rmS t L) M fs own) : ES X arr l k L M fs own := by
  intro g a s
  obtain ⟨ρ, ms, s1, s2, s3⟩ := s
  exact h g a ⟨ρ, ms, s1, s2, s3.pin, fun u sv hu => s3.val u sv (rmS_lk hu)⟩
/-- What cannot be. -/
theorem E_abs (h : ∀ g ρ ms, ¬ DenM g ρ M ms) : E X k L M fs own := by
  intro g a s
  obtain ⟨ρ, ms, s1, s2, s3⟩ := s
  exact (h g ρ ms s2).elim
end
end Go.KX
namespace Go.KX
abbrev serL (v : Val) : List SV := [.s 0 [], nI v.k, nI v.n]
abbrev rS1 (l : List Val) : SV := .s 3 (l.map serL)
/-- What Values yields. -/
def vsA (l : List Val) : List (List SV) := l.map fun v => [.a (serL v)]
theorem vsA_len (l : List Val) : (vsA l).length = l.length := by simp [vsA]
theorem vsA_get {l : List Val} {j : Nat} (h : j < l.length) : (vsA l)[j]? = some [.a (serL l[j])] := by simp [vsA, h]
abbrev frF (n : Bytes) (v : Val) : List SV := [.str n, .s 3 [serL v]]
theorem no_den {T i : Nat} {M : SM} : ∀ g ρ ms, ¬ DenM g ρ ((i, .c T [.s 0 [[]]]) :: M) ms := by
  intro g ρ ms h
  cases h with
  | cons hb _ =>
    cases hb with
    | c xs hd h1 =>
      have h0 := hd.1
      match xs, h0 with
      | [x], _ =>
        have := hd.2 0 _ x rfl rfl
        cases this with
        | s xs h1 h2 hl hr ho hne hxd =>
          obtain ⟨b, o, e, _⟩ := hne (by simp)
          rw [(ho.2 rfl).1] at e
          cases e
theorem den_nil {g : GW} {ρ : Nat → Lc} {x : Value} (h : Den g ρ (.s 0 []) x) : Den g ρ (.v (.slice none 0 0)) x := by
  cases h with
  | s xs h1 h2 hl hr ho hne hxd =>
    have := ho.2 rfl
    rw [this.1, this.2]
    exact .v
section
variable {X : Kx} {k : List It} {L : SL} {M : SM} {fs : List MF} {own : List Res} {arr : Array Oper} {l : List Oper} {o : Oper}
/-- Two nil slices compared. -/
theorem knl {tb : TT} (hT : tb.Ok X.P) (m : Nat) (H : List (List SV)) {d T yT : Nat} {op : BinOp} {x y : Operand} (v : Value) {l' L' M' φ} (hr : ∀ w, (binOp op T (.slice none 0 0) (.slice none 0 0)).run X.P w = .ok v w) (hk : ES X arr l' k L' M' fs own) (ho : o.op = .binOp op T x y yT := by rfl)
    (hx : evS (lkS L) x = some (.s 0 []) := by rfl) (hy : evS (lkS L) y = some (.s 0 []) := by rfl) (he : ∀ w, (eqGuard op T x y (.slice none 0 0) (.slice none 0 0)).run X.P w = .ok () w := by intro w; rfl)
    (hg : o.guard = none := by rfl) (hd : o.dst = some d := by rfl) (hn : Nat.blt d X.n = true := by rfl) (hrn : xrun tb X.n arr m H l ((d, .v v) :: L) M [] = some (l', L', M', φ) := by rfl)
    (hφ : conj φ := by first | trivial | omega | (simp +contextual [conj]; done) | (simp +contextual [conj, *]; done) | (simp +contextual [conj, *] <;> omega)) : ES X arr (o :: l) k L M fs own := by
  have hG : gS arr (lkS L) o = some none := by unfold gS; rw [hg]
  refine ES_step (Stp_read (sv := .v v) hG hd hn (fun L' hL hon g a ρ ms st => ⟨v, ?_, .v⟩)) ?_
  · have hSl : Sl X ρ L' a g := st.all _ (.tail _ (.head _))
    have hev : evs (lkS L') [x, y] = some [.s 0 [], .s 0 []] := by
      have := evs_agree' hL
      rw [show o.op.operands.toList = [x, y] by rw [ho]; rfl] at this
      rw [this]
      simp only [evs, hx, hy]
    obtain ⟨_, _, e1, dx, hr1⟩ := (evals_den hSl.val hev).uncons
    obtain ⟨_, _, e2, dy, _⟩ := hr1.uncons
    simp only [List.map_cons, List.cons.injEq] at e1
    obtain ⟨rfl, rfl⟩ := e1
    simp only [List.cons.injEq] at e2
    obtain ⟨rfl, _⟩ := e2
    simp only [execOp, ho, den_v (den_nil dx), den_v (den_nil dy)]
    simp [hr g.w, he g.w]
  · rw [hd]
    exact go hT m H hk hrn hφ
end
theorem den_in {g : GW} {ρ : Nat → Lc} {n : Nat} {rows : List (List SV)} {ms : List Res} (h : DenM g ρ [(2, .c 32 [.o 903 n]), (903, .r 98 3 rows)] ms) : DenM g (fun i => if i = 901 then ρ 903 else ρ (i - 1000)) [(1002, .c 32 [.o 901 n]), (901, .r 98 3 rows)] ms := by
  cases h with
  | cons h1 t =>
    cases t with
    | cons h2 t2 =>
      cases t2
      refine .cons ?_ (.cons ?_ .nil)
      · cases h1 with
        | c xs hd h3 =>
          refine .c (ρ := fun i => if i = 901 then ρ 903 else ρ (i - 1000)) (i := 1002) xs ⟨hd.1, fun p s v hp hv => ?_⟩ h3
          cases p with
          | zero =>
            simp only [List.getElem?_cons_zero, Option.some.injEq] at hp
            subst hp
            have h0 := hd.2 0 _ v rfl hv
            cases h0 with
            | o => exact .o (ρ := fun i => if i = 901 then ρ 903 else ρ (i - 1000)) (i := 901)
          | succ p => simp at hp
      · cases h2 with
        | r hz xs hl h3 => exact .r (ρ := fun i => if i = 901 then ρ 903 else ρ (i - 1000)) (i := 901) hz xs hl h3
theorem den_out {g : GW} {ρ : Nat → Lc} {n : Nat} {rows : List (List SV)} {ms : List Res} (h : DenM g ρ [(1002, .c 32 [.o 901 n]), (901, .r 98 3 rows)] ms) : DenM g (fun i => if i = 903 then ρ 901 else ρ (i + 1000)) [(2, .c 32 [.o 903 n]), (903, .r 98 3 rows)] ms := by
  cases h with
  | cons h1 t =>
    cases t with
    | cons h2 t2 =>
      cases t2
      refine .cons ?_ (.cons ?_ .nil)
      · cases h1 with
        | c xs hd h3 =>
          refine .c (ρ := fun i => if i = 903 then ρ 901 else ρ (i + 1000)) (i := 2) xs ⟨hd.1, fun p s v hp hv => ?_⟩ h3
          cases p with
          | zero =>
            simp only [List.getElem?_cons_zero, Option.some.injEq] at hp
            subst hp
            have h0 := hd.2 0 _ v rfl hv
            cases h0 with
            | o => exact .o (ρ := fun i => if i = 903 then ρ 901 else ρ (i + 1000)) (i := 903)
          | succ p => simp at hp
      · cases h2 with
        | r hz xs hl h3 => exact .r (ρ := fun i => if i = 903 then ρ 901 else ρ (i + 1000)) (i := 903) hz xs hl h3
end Go.KX
namespace Go.KX
abbrev c4 : List Val := [nullV, nanV, plusV, minusV]
theorem parse_c4 {s : Bytes} : ∀ {j : Nat} (hj : j < c4.length), s = printV c4[j] → parseV s = (c4[j], 0)
  | 0, _, h => by subst h; rfl
  | 1, _, h => by subst h; rfl
  | 2, _, h => by subst h; rfl
  | 3, _, h => by subst h; rfl
  | n + 4, h, _ => by simp at h; omega
/-- None of the four. -/
def not4 (s : Bytes) : Prop := s ≠ [110, 117, 108, 108] ∧ s ≠ [78, 97, 78] ∧ s ≠ [43, 73, 110, 102] ∧ s ≠ [45, 73, 110, 102]
theorem not4_of {s : Bytes} (h : ∀ v ∈ c4, decide (s = printV v) = false) : not4 s := by
  have key : ∀ v ∈ c4, s ≠ printV v := fun v hv => by simpa using h v hv
  exact ⟨key nullV (by simp), key nanV (by simp), key plusV (by simp), key minusV (by simp)⟩
section
variable {s w f : Bytes} {b : Bool} {n : Nat}
theorem prog_open (h4 : not4 s) (hcut : Lib.cut (Lib.trimPrefix s [45]) [46] = (w, f, b)) : parseV s = (if f.length ≤ 3 ∧ w.length ≤ 13 then
    match Lib.parseUintM M62 0 (w ++ f ++ Lib.repeatL [48] (3 - f.length)) with
    | .ok n => if (numV (if Lib.hasPrefix s [45] then -(n : Int) else n)).k = 1 ∧ printV (numV (if Lib.hasPrefix s [45] then -(n : Int) else n)) = s then (numV (if Lib.hasPrefix s [45] then -(n : Int) else n), 0) else (zeroV, 80)
    | _ => (zeroV, 80)
  else (zeroV, 80) : Val × Int) := by
  rw [← progV_eq]
  unfold progV
  rw [if_neg h4.1, if_neg h4.2.1, if_neg h4.2.2.1, if_neg h4.2.2.2]
  simp only [hcut]
  cases Lib.parseUintM M62 0 (w ++ f ++ Lib.repeatL [48] (3 - f.length)) <;> rfl
theorem prog_ok (h4 : not4 s) (hcut : Lib.cut (Lib.trimPrefix s [45]) [46] = (w, f, b)) (hl : f.length ≤ 3 ∧ w.length ≤ 13) (hP : Lib.parseUintM M62 0 (w ++ f ++ Lib.repeatL [48] (3 - f.length)) = .ok n) {x : Int} (hx : (if Lib.hasPrefix s [45] then -(n : Int) else n) = x) : parseV s = (if (numV x).k = 1 ∧ printV (numV x) = s then (numV x, 0) else (zeroV, 80) : Val × Int) := by
  rw [prog_open h4 hcut, if_pos hl, hP]
  simp only [hx]
theorem prog_bad (h4 : not4 s) (hcut : Lib.cut (Lib.trimPrefix s [45]) [46] = (w, f, b)) (hl : f.length ≤ 3 ∧ w.length ≤ 13) (hP : Lib.parseUintM M62 0 (w ++ f ++ Lib.repeatL [48] (3 - f.length)) = Lib.parseUintM 0 0 [0]) : parseV s = (zeroV, 80) := by
  rw [prog_open h4 hcut, if_pos hl, hP]
  rfl
theorem prog_long (h4 : not4 s) (hcut : Lib.cut (Lib.trimPrefix s [45]) [46] = (w, f, b)) (hl : ¬ (f.length ≤ 3 ∧ w.length ≤ 13)) : parseV s = (zeroV, 80) := by
  rw [prog_open h4 hcut, if_neg hl]
theorem uintM_norange : ∀ (l : Bytes) (a : Nat), (a + 1) * 10 ^ l.length ≤ 10 ^ 17 → Lib.parseUintM M62 a l ≠ .range ∧ ∀ n, Lib.parseUintM M62 a l = .ok n → n < 10 ^ 17
  | [], a, h => by
    refine ⟨by simp [Lib.parseUintM], fun n hn => ?_⟩
    simp only [Lib.parseUintM] at hn
    cases hn
    simp at h; omega
  | c :: l, a, h => by
    have hp : 1 ≤ 10 ^ l.length := Nat.one_le_pow _ _ (by decide)
    rw [List.length_cons, Nat.pow_succ] at h
    have h1 : (a + 1) * 10 * 10 ^ l.length ≤ 10 ^ 17 := by rw [Nat.mul_assoc, Nat.mul_comm 10]; exact h
    have h2 : (a + 1) * 10 ≤ 10 ^ 17 := Nat.le_trans (Nat.le_mul_of_pos_right _ hp) h1
    unfold Lib.parseUintM
    split
    · rename_i hc
      rw [if_neg (by omega), if_neg (by show ¬ 4611686018427387903 < _; omega)]
      exact uintM_norange l _ (Nat.le_trans (Nat.mul_le_mul_right _ (by omega)) h1)
    · exact ⟨by simp, fun n hn => by cases hn⟩
theorem uintM_16 {l : Bytes} (h : l.length ≤ 16) : Lib.parseUintM M62 0 l ≠ .range ∧ ∀ n, Lib.parseUintM M62 0 l = .ok n → n < 10 ^ 17 :=
  uintM_norange l 0 (by rw [Nat.zero_add, Nat.one_mul]; exact Nat.pow_le_pow_right (by decide) (by omega))
end
end Go.KX
namespace Go.KX
/-- It goes forward, and not past the end. -/
def Fit (s : Bytes) (f : Ps → Ex × Ps) : Prop := ∀ p, p.i ≤ s.length → p.i ≤ (f p).2.i ∧ (f p).2.i ≤ s.length
variable {s : Bytes}
theorem rest_ge (p : Ps) : p.i ≤ (p.restP s).i := by unfold Ps.restP; split <;> simp
theorem fails_i (p : Ps) (e a : Int) : (p.fails e a).i = p.i := by unfold Ps.fails; split <;> rfl
theorem restT_len {p : Ps} (h : p.i ≤ s.length) : (p.restT s).length + (p.restP s).i ≤ s.length := by
  have := rest_le (s := s) h
  unfold Ps.restT
  split
  · simpa using this
  · simp; omega
theorem takeT_some {l : List Bytes} {p : Ps} {x : Bytes} (h : takeT s l p = some x) : x ∈ l ∧ 1 ≤ x.length ∧ x.length ≤ 2 ∧ Lib.hasPrefix (p.restT s) x = true := by
  unfold takeT at h
  split at h
  · rename_i y hy
    split at h
    · rename_i hm
      cases h
      have h1 := List.mem_of_find?_eq_some hy
      have h2 := List.find?_some hy
      have h3 : ∀ x ∈ signsT, 1 ≤ x.length ∧ x.length ≤ 2 := by decide
      exact ⟨hm, (h3 _ h1).1, (h3 _ h1).2, h2⟩
    · cases h
  · cases h
theorem prefix_len {a b : Bytes} (h : Lib.hasPrefix a b = true) : b.length ≤ a.length := by
  unfold Lib.hasPrefix at h
  exact (List.isPrefixOf_iff_prefix.1 h).length_le
theorem take_fit {l : List Bytes} {p : Ps} (h : p.i ≤ s.length) : p.i ≤ (takeP s l p).i ∧ (takeP s l p).i ≤ s.length := by
  have h1 := rest_ge (s := s) p
  have h2 := rest_le (s := s) h
  have h3 := restT_len (s := s) h
  unfold takeP
  cases ht : takeT s l p with
  | none => exact ⟨h1, h2⟩
  | some x =>
    have h4 := prefix_len (takeT_some ht).2.2.2
    exact ⟨by simp; omega, by simp; omega⟩
theorem take_more {l : List Bytes} {p : Ps} {x : Bytes} (ht : takeT s l p = some x) : p.i + 1 ≤ (takeP s l p).i := by
  have h1 := rest_ge (s := s) p
  have h4 := takeT_some ht
  unfold takeP
  rw [ht]
  simp only
  omega
theorem must_fit {x : Bytes} {p : Ps} (h : p.i ≤ s.length) : p.i ≤ (mustP s x p).i ∧ (mustP s x p).i ≤ s.length := by
  have := take_fit (l := [x]) h
  unfold mustP
  split
  · exact this
  · rw [fails_i]; exact this
theorem enter_fit {d : Nat} {p : Ps} (h : p.i ≤ s.length) : p.i ≤ (enterP s d p).i ∧ (enterP s d p).i ≤ s.length := by
  have h1 := rest_ge (s := s) p
  have h2 := rest_le (s := s) h
  unfold enterP
  split
  · rw [fails_i]; exact ⟨h1, h2⟩
  · exact ⟨h1, h2⟩
theorem loop_fit {f : Ps → Ex × Ps} (hf : Fit s f) {ops : List Bytes} {alone : Bool} : ∀ (n : Nat) (x : Ex) (p : Ps), p.i ≤ s.length → p.i ≤ (loopG (tkX s) f ops alone n x p).2.i ∧ (loopG (tkX s) f ops alone n x p).2.i ≤ s.length
  | 0, x, p, h => ⟨Nat.le_refl _, h⟩
  | n + 1, x, p, h => by
    have h1 := take_fit (l := ops) h
    have h2 := hf _ h1.2
    unfold loopG
    simp only
    split
    · exact h1
    · split
      · exact ⟨Nat.le_trans h1.1 h2.1, h2.2⟩
      · rename_i o _ _
        have h4 := loop_fit hf (ops := ops) (alone := false) n (exC o [x, (f (takeP s ops p)).1]) (f (takeP s ops p)).2 h2.2
        exact ⟨Nat.le_trans (Nat.le_trans h1.1 h2.1) h4.1, h4.2⟩
theorem lev_fit {f : Ps → Ex × Ps} (hf : Fit s f) : ∀ n, Fit s (levX s f n)
  | 0 => hf
  | n + 1 => fun p h => by
    have h1 := lev_fit hf n p h
    have h2 := loop_fit (lev_fit hf n) (ops := levelsT.getD (4 - n) []) (alone := n == 2) (s.length + 1) (levX s f n p).1 (levX s f n p).2 h1.2
    exact ⟨Nat.le_trans h1.1 h2.1, h2.2⟩
theorem expr_fit {f : Ps → Ex × Ps} (hf : Fit s f) (d : Nat) : Fit s (exprX s f d) := fun p h => by
  have h1 := enter_fit (d := d) h
  have h2 := lev_fit hf 5 _ h1.2
  exact ⟨Nat.le_trans h1.1 h2.1, h2.2⟩
theorem numLen_le (r : Bytes) : numLen r ≤ r.length := by
  unfold numLen
  have h1 := runB_le gDig r
  have h2 := runB_le gDig (r.drop (runB gDig r + 1))
  simp at h2
  split <;> omega
variable {pv : Bytes → Val × Int}
theorem par_fit {f : Ps → Ex × Ps} (hf : Fit s f) : Fit s (parX s f) := fun p h => by
  have h1 := hf p h
  have h2 := must_fit (x := oPR) h1.2
  exact ⟨Nat.le_trans h1.1 h2.1, h2.2⟩
theorem word_fit {f : Ps → Ex × Ps} (hf : Fit s f) {r : Bytes} {p : Ps} (h : p.i + r.length ≤ s.length) : p.i ≤ (wordX s f r p).2.i ∧ (wordX s f r p).2.i ≤ s.length := by
  have hr := runB_le gLD r
  have hl : (r.take (runB gLD r)).length ≤ r.length := by simp; omega
  have h1 : ({ p with i := p.i + (r.take (runB gLD r)).length } : Ps).i ≤ s.length := by show p.i + _ ≤ _; omega
  unfold wordX
  simp only
  split
  · exact ⟨by simp, h1⟩
  split
  · exact ⟨by simp, h1⟩
  split
  · exact ⟨by simp, h1⟩
  have key : ∀ q : Ps, q.i = p.i + (r.take (runB gLD r)).length → p.i ≤ (parX s f (mustP s oPL q)).2.i ∧ (parX s f (mustP s oPL q)).2.i ≤ s.length := by
    intro q hq
    have hq2 : q.i ≤ s.length := by rw [hq]; exact h1
    have h2 := must_fit (x := oPL) hq2
    have h3 := par_fit hf _ h2.2
    exact ⟨by omega, h3.2⟩
  refine key _ ?_
  split
  · rfl
  · rw [fails_i]
theorem prim_fit {f : Ps → Ex × Ps} (hf : Fit s f) : Fit s (primX pv s f) := fun p h => by
  have h1 := rest_ge (s := s) p
  have h2 := rest_le (s := s) h
  have h3 := restT_len (s := s) h
  unfold primX
  simp only
  cases p.dead with
  | true => exact ⟨h1, h2⟩
  | false =>
    cases hr : p.restT s with
    | nil => simp only; rw [fails_i]; exact ⟨h1, h2⟩
    | cons c r =>
      rw [hr] at h3
      simp only [List.length_cons] at h3
      simp only
      split
      · have := par_fit hf { p.restP s with i := (p.restP s).i + 1 } (by show (p.restP s).i + 1 ≤ _; omega)
        exact ⟨by have := this.1; simp only at this; omega, this.2⟩
      split
      · unfold refX
        have hb := runB_le gLD r
        simp only [List.drop_succ_cons, List.drop_zero, List.length_take]
        exact ⟨by omega, by omega⟩
      split
      · unfold numberX
        have hb := numLen_le (c :: r)
        simp only [List.length_cons] at hb
        exact ⟨by simp only; omega, by simp only; omega⟩
      split
      · have := word_fit hf (r := c :: r) (p := p.restP s) (by simp only [List.length_cons]; omega)
        exact ⟨by omega, this.2⟩
      · simp only; rw [fails_i]; exact ⟨h1, h2⟩
theorem un_fit : ∀ d, Fit s (unX pv s d)
  | 0 => fun p h => by
    have h1 := enter_fit (d := 33) h
    have h2 := take_fit (l := [oSub, oNot]) h1.2
    have h3 := prim_fit (pv := pv) (f := fun q => (ex0, q)) (fun q hq => ⟨Nat.le_refl _, hq⟩) _ h2.2
    unfold unX
    exact ⟨by omega, h3.2⟩
  | d + 1 => fun p h => by
    have h1 := enter_fit (d := 32 - d) h
    have h2 := take_fit (l := [oSub, oNot]) h1.2
    unfold unX
    split
    · have h3 := un_fit d _ h2.2
      exact ⟨by simp only; omega, h3.2⟩
    · have h3 := prim_fit (pv := pv) (expr_fit (un_fit d) (33 - d)) _ h2.2
      exact ⟨by omega, h3.2⟩
section
variable {ex : Ps → Ex × Ps} {p : Ps} {c : UInt8} {r : Bytes}
theorem prim_dead (hd : p.dead = true) : primX pv s ex p = (ex0, p.restP s) := by unfold primX; simp only [hd]
theorem prim_nil (hd : p.dead = false) (hr : p.restT s = []) : primX pv s ex p = (ex0, (p.restP s).fails 110 (p.restP s).i) := by unfold primX; simp only [hd, hr]
theorem prim_cons (hd : p.dead = false) (hr : p.restT s = c :: r) : primX pv s ex p = if c = 40 then parX s ex { p.restP s with i := (p.restP s).i + 1 } else if c = 36 then refX (c :: r) (p.restP s) else if c ∈ gDig then numberX pv (c :: r) (p.restP s) else if c ∈ gLet then wordX s ex (c :: r) (p.restP s) else (ex0, (p.restP s).fails 110 (p.restP s).i) := by unfold primX; simp only [hd, hr]
theorem u8_eq {k : UInt8} (h : ((c.toNat : Nat) : Int) = (k.toNat : Int)) : c = k := UInt8.toNat_inj.1 (Int.ofNat.inj h)
end
theorem nI_eq {z : Int} {n : Nat} (h : z = n) : nI z = nI n := by rw [h]
end Go.KX
namespace Go.KX
section
variable {s : Bytes} {f : Ps → Ex × Ps} {ops : List Bytes} {alone : Bool} {n : Nat} {x : Ex} {p : Ps}
theorem loop_none (h : takeT s ops p = none) : loopG (tkX s) f ops alone (n + 1) x p = (x, takeP s ops p) := by
  conv => lhs; unfold loopG
  simp only [h]
theorem loop_alone {o : Bytes} (h : takeT s ops p = some o) : loopG (tkX s) f ops true (n + 1) x p = (exC o [x, (f (takeP s ops p)).1], (f (takeP s ops p)).2) := by
  conv => lhs; unfold loopG
  simp only [h]
theorem loop_more {o : Bytes} (h : takeT s ops p = some o) : loopG (tkX s) f ops false (n + 1) x p = loopG (tkX s) f ops false n (exC o [x, (f (takeP s ops p)).1]) (f (takeP s ops p)).2 := by
  conv => lhs; unfold loopG
  simp only [h]
theorem levels_row : ∀ {n : Nat} (_ : n ≤ 4) {q : Int} (_ : q = 4 - (n : Int)), ∃ rest, (levelsT.map rB).drop (q.toNat * 1) = rB (levelsT.getD (4 - n) []) :: rest
  | 0, _, q, h => by subst h; exact ⟨_, rfl⟩
  | 1, _, q, h => by subst h; exact ⟨_, rfl⟩
  | 2, _, q, h => by subst h; exact ⟨_, rfl⟩
  | 3, _, q, h => by subst h; exact ⟨_, rfl⟩
  | 4, _, q, h => by subst h; exact ⟨_, rfl⟩
  | n + 5, h, _, _ => by omega
variable {pv : Bytes → Val × Int}
theorem un_some {d : Nat} {o : Bytes} (h : takeT s [oSub, oNot] (enterP s (32 - d) p) = some o) : unX pv s (d + 1) p = (exC o [(unX pv s d (takeP s [oSub, oNot] (enterP s (32 - d) p))).1], (unX pv s d (takeP s [oSub, oNot] (enterP s (32 - d) p))).2) := by
  conv => lhs; unfold unX
  simp only [h]
theorem un_none {d : Nat} (h : takeT s [oSub, oNot] (enterP s (32 - d) p) = none) : unX pv s (d + 1) p = primX pv s (exprX s (unX pv s d) (33 - d)) (takeP s [oSub, oNot] (enterP s (32 - d) p)) := by
  conv => lhs; unfold unX
  simp only [h]
theorem enter33 : (enterP s 33 p).dead = true := by
  unfold enterP Ps.fails
  rw [if_pos (by decide)]
  split
  · assumption
  · rfl
end
end Go.KX
