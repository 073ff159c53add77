/- VN EC YD YE YF YG ZE ZF ZG. -/
import Derived.Test.YtomkgfdigldhcaaGreatDoorLFF
namespace Go.KX
section
variable {X : Kx} {k : List It} {L : SL} {M : SM} {fs : List MF} {own : List Res} {arr : Array Oper} {l : List Oper} {o : Oper}
/-- What the local block b holds is not followed any more: it bears another name. -/
theorem sal (b i j : Nat) {T n : Nat} {M2 : SM} (h : ES X arr l k L M2 fs own) (hm : lkM M b = some (.c T [.o i n]) := by rfl) (hu : updK M b (.c T [.o j n]) some = some M2 := by rfl) (hoL : occSL j L = false := by rfl) (hoM : occM j M = false := by rfl) (hlt : Nat.blt j 1000 = true := by rfl) (hij : Nat.beq i j = false := by rfl) (hbj : Nat.beq b j = false := by rfl) : ES X arr l k L M fs own := by
  intro g a s
  obtain ⟨ρ, ms, s1, s2, s3⟩ := s
  have hlt : j < 1000 := by simpa [Nat.blt_eq] using hlt
  have hij : i ≠ j := by intro e; subst e; rw [Nat.beq_refl] at hij; cases hij
  have hbj : b ≠ j := by intro e; subst e; rw [Nat.beq_refl] at hbj; cases hbj
  have hM := occ_upd (y := ρ i) s2 hoM
  obtain ⟨r, m1, m2, rfl, hB, hup⟩ := hM.split hm
  obtain ⟨M3, hK, hM3⟩ := hup hu
  cases hK
  refine h g a ⟨fun q => if q = j then ρ i else ρ q, m1 ++ r :: m2, s1, hM3 g r hM ?_, fun q hq => ?_, fun t sv ht => ?_⟩
  · cases hB with
    | c xs hd h1 =>
      refine .c xs ?_ h1
      refine ⟨hd.1, fun p s v hp hv => ?_⟩
      cases p with
      | zero =>
        simp only [List.getElem?_cons_zero, Option.some.injEq] at hp
        subst hp
        have h0 := hd.2 0 _ v rfl hv
        cases h0 with
        | o =>
          have : Den g (fun q => if q = j then ρ i else ρ q) (.o j n) (.slice ((fun q => if q = j then ρ i else ρ q) j).ad n ((fun q => if q = j then ρ i else ρ q) j).c) := .o
          simp only [if_pos, if_neg hij] at this ⊢
          exact this
      | succ p => simp at hp
  · have : q ≠ j := by omega
    simp only [if_neg this]
    exact s3.pin q hq
  · obtain ⟨x, hx, dx⟩ := s3.val t sv ht
    exact ⟨x, hx, dx.upd (occSL_get hoL t sv ht)⟩
end
/-- A range over a function, in whose rounds what is owned as v (in there: m) moves. -/
theorem E_rangeV {X : Kx} {k : List It} {L : SL} {M : SM} {fs : List MF} {fo : Operand} {ps : Array Tmp} {assign body : Code} {gf : FuncId} {caps : List SV} {args : List (List SV)} (v m : Nat) (Ms Mm : Nat → SM) (hit : Itr X.P fs gf caps args) (hm1 : m < 1000) (hv1 : v < 1000) (hLv : occSL v L = false)
    (hin : ∀ j g ρ mms, DenM g ρ (Ms j) mms → DenM g (fun i => if i = m then ρ v else ρ (i - 1000)) (Mm j) mms) (hout : ∀ j g ρ mms, DenM g ρ (Mm j) mms → DenM g (fun i => if i = v then ρ m else ρ (i + 1000)) (Ms j) mms)
    (hround : ∀ (j : Nat) a, args[j]? = some a → ∀ (l : Nat) g0 B0 ρ0 Q1 Q2 own1 own2 (J : Act → World → Prop),
      (∀ {L' M'}, E ⟨⟨X.P, X.n, g0, B0, Q2, some l, []⟩, ρ0⟩ [.code body] L' M' fs own2 → E ⟨⟨X.P, X.n, g0, B0, Q1, some l, []⟩, ρ0⟩ [.lp J] L' M' fs own1) →
      (∀ {L' M'}, keepM (fun i => Nat.ble 1000 i || Nat.beq i m) M' = Mm (j + 1) → E ⟨⟨X.P, X.n, g0, B0, Q2, some l, []⟩, ρ0⟩ [] L' M' fs own2) →
      E ⟨⟨X.P, X.n, g0, B0, Q1, some l, []⟩, ρ0⟩ [.code assign, .lp J] (putP ps.toList a (upS L)) (Mm j) fs own1)
    (hk : ∀ D, E { X with df := [colD D] } k L (Ms args.length) fs [Res.blk D (.deferred (some []))])
    (hcl : ∀ a ∈ args, cloL a = true) (hps : ∀ a ∈ args, a.length = ps.size) (hfo : evS (lkS L) fo = some (.f gf [] caps) := by rfl) (hpn : ps.toList.all (fun p => Nat.blt p X.n) = true := by rfl) (hM : keepM (keysB (Ms 0)) M = Ms 0 := by rfl) (hrd : X.rd = none := by rfl) (hdf : X.df = [] := by rfl) : E X (.code (.rangeFunc fo ps assign body) :: k) L M fs [] := by
  intro g a hE
  obtain ⟨ρ, msl, s1, s2, s3⟩ := hE.ex
  obtain ⟨m1, m2, h4, h5⟩ := s2.keep (keysB (Ms 0))
  rw [hM] at h4
  have st0 : St X.toCx [] fs m1 g a := (s1.perm (by simpa using h5)).drop
  have st : St X.toCx [] (F1 ρ (Ms 0) m1 :: F2 X ρ L a :: fs) m1 g a := ⟨st0.kn, All.cons h4 (All.cons s3 st0.all), st0.own, st0.ext, st0.new⟩
  have dfo := eval_den s3.val hfo
  obtain ⟨xs, ys, hfe, d1, d2⟩ := den_f dfo
  obtain rfl := d1.unnil
  show (Code.rangeFunc fo ps assign body).wpIn (fen X.rd) 0 X.P (cont X.P X.rd X.Q k) a g.w
  refine wpIn_rangeFunc (fun fn _ => ?_)
  have hro : (fen X.rd).round = none := hrd
  rw [hro]
  obtain ⟨D, hD⟩ : ∃ D, D = g.w.heap.size := ⟨_, rfl⟩
  obtain ⟨rec, hrec⟩ : ∃ rec : LoopState → Option Code → Loop, rec = fun st pe => { state := st, pending := pe, fn, tmps := a.tmps, params := ps, assign, body, defers := D } := ⟨_, rfl⟩
  obtain ⟨gL, hgL, sL⟩ := st.alloc2 (.deferred (some [])) (.loop (rec .ready none))
  rw [← hD] at sL
  have hent := run_enterLoop_outer (P := X.P) (w := g.w) fn a.tmps ps assign body
  rw [← hD, show ({ state := .ready, pending := none, fn, tmps := a.tmps, params := ps, assign, body, defers := D } : Loop) = rec .ready none by rw [hrec], ← hgL] at hent
  have hfe' : a.eval fo = .func (.func gf) #[] ys.toArray := hfe
  refine ⟨D + 1, [colD D], gL.w, { target := .fn (.func gf) ys.toArray, args := #[.func (.yield (D + 1)) #[] #[]] }, gL.w, gf, #[.func (.yield (D + 1)) #[] #[]] ++ ys.toArray, gL.w, hent, ?_, fun _ _ => trivial, ?_, fun h => by simp [Fence.wide] at h, (callsIn_wide (n := 0)).2 ?_⟩
  · simp only [resolve, hfe']
    simp [go_sem]
  · simp [invoke, go_sem, run_callFunc hit.1]
  have sL2 := sL.perm (own' := (Res.blk (D + 1) (.loop (rec .ready none)) :: m1) ++ [Res.blk D (.deferred (some []))]) (by
    simp only [List.cons_append]
    exact List.Perm.cons _ ((List.perm_append_comm (l₁ := [Res.blk D (.deferred (some []))]) (l₂ := m1))))
  have hF2 : (F2 X ρ L a).p gL := sL2.all _ (.tail _ (.head _))
  have hAL : All fs gL := fun f hf => sL2.all f (.tail _ (.tail _ hf))
  let R : Rnd := {
    J := fun j g ms => ∃ (ρ' : Nat → Lc) (mms : List Res), (∀ i, i ≠ v → ρ' i = ρ i) ∧ ms = Res.blk (D + 1) (.loop (rec .ready none)) :: mms ∧ DenM g ρ' (Ms j) mms ∧ (F2 X ρ L a).p g ∧ All fs g
    Jx := fun _ _ => False
    mono := fun e ⟨ρ', mms, h0, h1, h2, h3, h4⟩ => ⟨ρ', mms, h0, h1, h2.mono e, (F2 X ρ L a).mono e h3, h4.mono e⟩
    monox := fun _ h => h }
  have hcaps : DenL gL ρ caps ys := by
    have dfo' := eval_den (Sl.val hF2) hfo
    obtain ⟨_, ys', hfe2, _, d3⟩ := den_f dfo'
    rw [hfe] at hfe2
    have : ys = ys' := by
      have := hfe2
      simp only [Value.func.injEq] at this
      exact List.toArray_inj this.2.2
    rw [this]; exact d3
  have hRnd : RndOK X.P (D + 1) R args := by
    rintro j av hj g1 ms ρa vs ⟨ρ', mms, hρ, rfl, hM1, hS1, hA1⟩ hO1 hd1
    have hρ2 : ρ' = fun i => if i = v then ρ' v else ρ i := funext fun i => by
      by_cases hi : i = v
      · rw [if_pos hi, hi]
      · rw [if_neg hi, hρ i hi]
    have hmem : av ∈ args := List.mem_of_getElem? hj
    have hl : g1.w.heap[D + 1]? = some (.loop (rec .ready none)) := hO1.p _ (.head _)
    have hy := run_yield (P := X.P) (args := vs.toArray) hl (by rw [hrec]; simpa using hd1.1.trans (hps av hmem))
    rw [hrec] at hy
    refine ⟨fn, _, assign, body, hy, roundIn_of_wpIn (n := 0) (F := Fence.wide) trivial ?_⟩
    let ms := Res.blk (D + 1) (.loop (rec .ready none)) :: mms
    let ρ0 : Nat → Lc := fun i => if i = m then ρ' v else ρ' (i - 1000)
    have eρ : ∀ i, ρ0 (i + 1000) = ρ' i := fun i => by
      have : i + 1000 ≠ m := by omega
      simp [ρ0, this]
    let RR := RP g1 ms (R.J (j + 1)) R.Jx
    let Q2 := roundPost X.P (D + 1) RR
    let J1 : Act → World → Prop := fun a₁ w₁ => ∃ w₂, (Instr.beginRound (D + 1)).run X.P w₁ = .ok () w₂ ∧ body.wpIn (Fence.wide.inRound (D + 1)) 0 X.P (roundPost X.P (D + 1) RR) a₁ w₂
    have fin : ∀ (stt : LoopState) (pe : Option Code) {L' M' g4 a4}, ESt ⟨⟨X.P, X.n, g1, blks ms, Q2, some (D + 1), []⟩, ρ0⟩ L' M' fs [Res.blk (D + 1) (.loop { rec .ready none with state := .busy })] g4 a4 → keepM (fun i => Nat.ble 1000 i || Nat.beq i m) M' = Mm (j + 1) →
        g4.w.heap[D + 1]? = some (.loop { rec .ready none with state := .busy }) ∧ ∃ g' m4, g'.w = g4.w.putObj (D + 1) (.loop (rec stt pe)) ∧ Ext (blks ms) g1 g' ∧ Own (Res.blk (D + 1) (.loop (rec stt pe)) :: m4) g' ∧ (∀ b ∈ blks (Res.blk (D + 1) (.loop (rec stt pe)) :: m4), b ∈ blks ms ∨ g1.w.heap.size ≤ b) ∧ (∃ ρ'' : Nat → Lc, (∀ i, i ≠ v → ρ'' i = ρ i) ∧ DenM g' ρ'' (Ms (j + 1)) m4) ∧ (F2 X ρ L a).p g' ∧ All fs g' := by
      intro stt pe L' M' g4 a4 s4 hk4
      obtain ⟨ρ4, ms4, t1, t2, t3⟩ := s4.ex
      obtain ⟨m4, m5, h6, h7⟩ := t2.keep (fun i => Nat.ble 1000 i || Nat.beq i m)
      rw [hk4] at h6
      have e4 : ∀ i, ρ4 (i + 1000) = ρ' i := fun i => (t3.pin _ (by omega)).trans (eρ i)
      have t1p := (t1.perm (own' := (Res.blk (D + 1) (.loop { rec .ready none with state := .busy }) :: m4) ++ m5) ((List.perm_append_comm (l₁ := ms4)).trans (List.Perm.cons _ h7))).drop
      have hl4 := t1p.own.p _ (.head _)
      have t5 : St _ [] (F1 ρ4 (Mm (j + 1)) m4 :: fs) _ g4 a4 := ⟨t1p.kn, All.cons h6 t1p.all, t1p.own, t1p.ext, t1p.new⟩
      obtain ⟨g', hw, s'⟩ := t5.putO (.loop (rec stt pe))
      exact ⟨hl4, g', m4, hw, s'.ext, s'.own, s'.new, ⟨fun i => if i = v then ρ4 m else ρ4 (i + 1000), fun i hi => by simp only [if_neg hi]; rw [e4, hρ i hi], hout _ _ _ _ (show DenM g' ρ4 (Mm (j + 1)) m4 from s'.all _ (.head _))⟩, (F2 X ρ L a).mono s'.ext.toFExt hS1, fun f hf => s'.all f (.tail _ hf)⟩
    have key := hround j av hj (D + 1) g1 (blks ms) ρ0 (fun _ _ _ => False) Q2 [Res.blk (D + 1) (.loop (rec .ready none))] [Res.blk (D + 1) (.loop { rec .ready none with state := .busy })] J1 ?_ ?_
    · refine key g1 { tmps := _, defers := [] } ?_
      have hd1' : DenL g1 ρ0 av vs := hd1.swap (hcl av hmem) ρ0
      have hsz : a.tmps.size = X.n := st0.kn.size
      obtain ⟨h8, h9⟩ := putP_ok ps.toList (g := g1) (ρ := ρ0) (svs := av) (xs := vs) (L := upS L) (T := a.tmps) (by rw [hsz]; exact hpn) hd1' (fun t sv ht => by
        obtain ⟨s0, h10, rfl⟩ := upS_lk ht
        obtain ⟨x, hx, dx⟩ := Sl.val hS1 t s0 h10
        have dx2 : Den g1 ρ' s0 x := by rw [hρ2]; exact dx.upd (occSL_get hLv t s0 h10)
        exact ⟨x, hx, dx2.up eρ⟩)
      rw [← zip_fold] at h8 h9
      exact ⟨ρ0, mms, ⟨⟨h8.trans hsz, rfl, fun i v hi => by simp [lk] at hi⟩, hA1, hO1.perm (List.perm_append_comm (l₁ := [_])), Ext.refl _ g1, fun b hb => .inl ((blks_perm (List.perm_append_comm (l₁ := mms) (l₂ := [_]))).subset hb)⟩, hin _ _ _ _ hM1, fun _ _ => rfl, h9⟩
    · intro L' M' hb g2 a2 hs2
      obtain ⟨ρ2, ms2, t2⟩ := hs2.open
      have t3 := t2.perm (List.perm_append_comm (l₂ := [Res.blk (D + 1) (.loop (rec .ready none))]))
      have hl2 : g2.w.heap[D + 1]? = some (.loop (rec .ready none)) := t3.own.p _ (.head _)
      obtain ⟨g3, hw3, t4⟩ := St.putO t3 (.loop { rec .ready none with state := .busy })
      refine ⟨_, run_beginRound hl2 (by rw [hrec]), ?_⟩
      rw [← hw3]
      exact hb g3 a2 (ESt.reQ (ESt.close (t4.perm (List.perm_append_comm (l₁ := [_]) (l₂ := ms2)))))
    · intro L' M' hk4 g4 a4 s4
      obtain ⟨hl4, g', m4, hw, q1, q2, q3, ⟨ρ'', q4, q7⟩, q5, q6⟩ := fin .ready none s4 hk4
      have hr := run_endRound (P := X.P) none hl4
      refine ⟨_, _, hr, .bool true, g', Res.blk (D + 1) (.loop (rec .ready none)) :: m4, rfl, ?_, q1, q2, q3, .inl ⟨rfl, ρ'', m4, q4, rfl, q7, q5, q6⟩⟩
      rw [hw, hrec]; rfl
  refine (hit.2 (D + 1) R ρ gL ys _ hAL hcaps hRnd ⟨ρ, m1, fun _ _ => rfl, rfl, sL2.all _ (.head _), hF2, hAL⟩ sL2.own.left).mono ?_
  rintro e w2 ⟨v0, g2, ms2, rfl, rfl, hE2, hO2, hN2, hJ2⟩
  have s5 := sL2.frame (fsc := []) (fs' := []) (Split.app _ [Res.blk D (.deferred (some []))]) hE2 (fun f hf => (by cases hf)) hO2 hN2 .nil
  rcases hJ2 with ⟨ρ', mms, hρ, rfl, hM3, hS3, hA3⟩ | hf
  · have hρ2 : ρ' = fun i => if i = v then ρ' v else ρ i := funext fun i => by
      by_cases hi : i = v
      · rw [if_pos hi, hi]
      · rw [if_neg hi, hρ i hi]
    have s6 : St X.toCx [] (F1 ρ' (Ms args.length) mms :: F2 X ρ L a :: fs) (Res.blk (D + 1) (.loop (rec .ready none)) :: (mms ++ [Res.blk D (.deferred (some []))])) g2 a := ⟨s5.kn, All.cons hM3 (All.cons hS3 hA3), s5.own, s5.ext, s5.new⟩
    obtain ⟨g3, hw3, s7⟩ := s6.putO (.loop { rec .ready none with state := .exhausted })
    have hl2 := s6.own.p _ (.head _)
    have s8 := (s7.perm (List.perm_append_comm (l₁ := [_]))).drop
    have hS4 : Sl X ρ L a g3 := s8.all _ (.tail _ (.head _))
    have hs : ESt { X with df := [colD D] } L (Ms args.length) fs [Res.blk D (.deferred (some []))] g3 { a with defers := [colD D] ++ a.defers } := by
      refine ⟨ρ', mms, ⟨⟨s8.kn.size, ?_, fun i v hi => by simp [lk] at hi⟩, fun f hf => s8.all f (.tail _ (.tail _ hf)), s8.own, s8.ext, s8.new⟩, s8.all _ (.head _), fun j hj => ?_, fun t sv ht => ?_⟩
      · show [colD D] ++ a.defers = [colD D]
        rw [s8.kn.defers, hdf]; rfl
      · rw [hρ j (by omega)]; exact hS4.pin j hj
      · obtain ⟨x, hx, dx⟩ := hS4.val t sv ht
        refine ⟨x, hx, ?_⟩
        rw [hρ2]
        exact dx.upd (occSL_get hLv t sv ht)
    have hr := run_endLoop (P := X.P) hl2 (by rw [hrec]; simp)
    have hp : (rec .ready none).pending = none := by rw [hrec]
    exact ⟨(rec .ready none).pending, g3.w, by rw [hw3]; exact hr, by rw [hp]; exact hk D g3 _ hs⟩
  · exact hf.elim
/-- The result of a function that holds a range over a function and hands back a new block. -/
structure Rnm (X : Kx) (fs : List MF) (tb : TT) (rs : List ResultVar) (res : SV) (i : Nat) (mb : MB) (D : Nat) : Prop where
  ret : ∀ {k L M svs}, resS tb L M rs = some svs → resVS svs = res → keepM (Nat.beq i) M = [(i, mb)] → E X (.code .ret :: k) L M fs [Res.blk D (.deferred (some []))]
theorem fnbm {P : Program} {fs : List MF} {tb : TT} (hT : tb.Ok P) {f : FuncId} {fn : Func} {c : Code} {args : List SV} {res : SV} {i : Nat} {mb : MB} (n : Nat) (rs : List ResultVar) (hf : P.funcs[f]? = some fn) (hrs : fn.results = rs.toArray)
    (h : ∀ g0 B0 Q ρ0, (∀ D, Rnm ⟨⟨P, n, g0, B0, Q, none, [colD D]⟩, ρ0⟩ fs tb rs res i mb D) → E ⟨⟨P, n, g0, B0, Q, none, []⟩, ρ0⟩ [.code c] (initS args 0) [] fs []) (hb : fn.body = some c := by rfl) (hname : (fn.name == "runtime.NumGoroutine") = false := by kernel_rfl) (hn : fn.ntmps = n := by rfl) (hle : args.length ≤ n := by exact Nat.le_of_ble_eq_true rfl) : FnN P fs f args res i mb := by
  refine ⟨⟨fn, hf, by simp [hb], hname⟩, fun ρ g vs hfs ha => ?_⟩
  refine (callsIn_wide (n := 0)).1 (callsIn_of_wp_marks hf hb trivial ?_)
  let Post : Ending → World → Prop := fun e w' => ∃ v g' r ρ', e = .returned v ∧ g'.w = w' ∧ Ext [] g g' ∧ Den g' ρ' res v ∧ DenB g' ρ' i mb r ∧ Own [r] g' ∧ ∀ b ∈ blks [r], g.w.heap.size ≤ b
  have hpost : ∀ D (a : Act) (g' : GW) L M' svs, resS tb L M' rs = some svs → resVS svs = res → keepM (Nat.beq i) M' = [(i, mb)] → ESt ⟨⟨P, n, g, [], bodyPostM Fence.wide 0 P fn Post, none, [colD D]⟩, ρ⟩ L M' fs [Res.blk D (.deferred (some []))] g' a → LeavesInM Fence.wide 0 P fn a.tmps Post a.defers .returning g'.w := by
    intro D a g' L M' svs h1 h2 h3 hst
    obtain ⟨ρ', ms', st⟩ := hst.open
    have s1 := st.perm (List.perm_append_comm (l₂ := [Res.blk D (.deferred (some []))]))
    have hl : g'.w.heap[D]? = some (.deferred (some [])) := s1.own.p _ (.head _)
    obtain ⟨g2, hw, s2⟩ := St.putO s1 (.deferred none)
    have s3 := s2.perm (List.perm_append_comm (l₁ := [_]) (l₂ := ms'))
    have hS : Sl ⟨⟨P, n, g, [], bodyPostM Fence.wide 0 P fn Post, none, [colD D]⟩, ρ⟩ ρ' L a g2 := s3.all _ (.tail _ (.head _))
    have hM : DenM g2 ρ' M' ms' := s3.all _ (.head _)
    obtain ⟨v, hv, dv⟩ := results_ok (X := ⟨⟨P, n, g, [], _, none, [colD D]⟩, ρ⟩) hT s3 (s3.all _ (.head _)) hS hrs h1
    obtain ⟨m1, m2, h5, h6⟩ := hM.keep (Nat.beq i)
    have s4 := ((s3.drop).perm (own' := m1 ++ m2) h6).drop
    rw [h3] at h5
    rw [s1.kn.defers]
    cases h5 with
    | cons hB ht =>
      cases ht
      refine ⟨by simp, .inl ⟨D, g2.w, rfl, by rw [hw]; exact run_takeDeferred hl, v, hv, v, g2, _, ρ', rfl, rfl, s3.ext, h2 ▸ dv, hB, s4.own, fun b hb => (s4.new b hb).resolve_left (fun hx => by cases hx)⟩⟩
  refine h g [] (bodyPostM Fence.wide 0 P fn Post) ρ (fun D => ⟨?_⟩) g _ ?_
  · intro k L M' svs h1 h2 h4 g' a hst
    refine wpIn_ret ?_
    rw [cont_ret]
    exact hpost D a g' L M' svs h1 h2 h4 hst
  · refine ⟨ρ, [], ⟨⟨by simp [hn, ha.1]; omega, rfl, fun i v hi => by simp [lk] at hi⟩, hfs, ⟨fun r hr => (by cases hr), List.nodup_nil, fun b hb => (by cases hb), fun b hb => (by cases hb)⟩, Ext.refl _ g, fun b hb => (by cases hb)⟩, .nil, fun i _ => rfl, fun t sv ht => ?_⟩
    obtain ⟨j, rfl, hj⟩ := initS_lk args 0 t sv ht
    obtain ⟨x, hx, dx⟩ := ha.get hj
    refine ⟨x, ?_, dx⟩
    have hlt : j < vs.length := by
      rcases Nat.lt_or_ge j vs.length with h | h
      · exact h
      · rw [List.getElem?_eq_none h] at hx; cases hx
    simp only [Nat.zero_add]
    rw [Array.getElem?_append_left (by simpa using hlt)]
    simpa using hx
section
variable {X : Kx} {k : List It} {L : SL} {M : SM} {fs : List MF} {arr : Array Oper} {tb : TT} {rs : List ResultVar}
theorem ernm {res : SV} {svs : List SV} {i : Nat} {mb mb' : MB} {k' : List It} {D : Nat} (n : Nat) (R : Rnm X fs tb rs res i mb D) (he : resVS svs = res ∧ mb' = mb) (hk : normS (lkS L) 64 n k = .code .ret :: k' := by rfl) (hr : resS tb L M rs = some svs := by rfl) (hm : keepM (Nat.beq i) M = [(i, mb')] := by rfl) : E X k L M fs [Res.blk D (.deferred (some []))] :=
  norm_E 64 n (hk ▸ R.ret hr he.1 (by rw [hm, he.2]))
theorem srnm {res : SV} {svs : List SV} {i : Nat} {mb mb' : MB} {k' : List It} {D : Nat} (n : Nat) (R : Rnm X fs tb rs res i mb D) (he : resVS svs = res ∧ mb' = mb) (hk : normS (lkS L) 64 n k = .code .ret :: k' := by rfl) (hr : resS tb L M rs = some svs := by rfl) (hm : keepM (Nat.beq i) M = [(i, mb')] := by rfl) : ES X arr [] k L M fs [Res.blk D (.deferred (some []))] := ES_nil (ernm n R he hk hr hm)
end
/-- Slots without one. -/
def rmS (t : Nat) : SL → SL
  | [] => []
  | (u, sv) :: r => match Nat.beq u t with
    | true => rmS t r
    | false => (u, sv) :: rmS t r
theorem rmS_lk {t : Nat} : ∀ {L : SL} {u : Nat} {sv : SV}, lkS (rmS t L) u = some sv → lkS L u = some sv
  | [], u, sv, h => h
  | (q, x) :: r, u, sv, h => by
    unfold rmS at h
    cases hq : Nat.beq q t with
    | true =>
      rw [hq] at h
      have hqt := Nat.eq_of_beq_eq_true hq
      subst hqt
      have h2 := rmS_lk (L := r) h
      have hne : u ≠ q := by
        intro e
        subst e
        have key : ∀ (L : SL), lkS (rmS u L) u = none := by
          intro L
          induction L with
          | nil => rfl
          | cons p L ih =>
            obtain ⟨a, b⟩ := p
            unfold rmS
            cases ha : Nat.beq a u with
            | true => exact ih
            | false =>
              show lkS ((a, b) :: rmS u L) u = none
              rw [lkS_ne _ _ (by intro e; subst e; rw [Nat.beq_refl] at ha; cases ha)]
              exact ih
        rw [key r] at h
        cases h
      rw [lkS_ne _ _ hne]
      exact h2
    | false =>
      rw [hq] at h
      by_cases huq : u = q
      · subst huq
        simp only [lkS_same] at h ⊢
        exact h
      · simp only at h
        rw [lkS_ne _ _ huq] at h ⊢
        exact rmS_lk h
section
variable {X : Kx} {k : List It} {L : SL} {M : SM} {fs : List MF} {own : List Res} {arr : Array Oper} {l : List Oper}
/-- A slot is not followed any more. -/
theorem sdrp (t : Nat) (h : ES X arr l k (rmS t L) M fs own) : ES X arr l k L M fs own := by
  intro g a s
  obtain ⟨ρ, ms, s1, s2, s3⟩ := s
  exact h g a ⟨ρ, ms, s1, s2, s3.pin, fun u sv hu => s3.val u sv (rmS_lk hu)⟩
/-- What cannot be. -/
theorem E_abs (h : ∀ g ρ ms, ¬ DenM g ρ M ms) : E X k L M fs own := by
  intro g a s
  obtain ⟨ρ, ms, s1, s2, s3⟩ := s
  exact (h g ρ ms s2).elim
end
end Go.KX
namespace Go.KX
abbrev serL (v : Val) : List SV := [.s 0 [], nI v.k, nI v.n]
abbrev rS1 (l : List Val) : SV := .s 3 (l.map serL)
/-- What Values yields. -/
def vsA (l : List Val) : List (List SV) := l.map fun v => [.a (serL v)]
theorem vsA_len (l : List Val) : (vsA l).length = l.length := by simp [vsA]
theorem vsA_get {l : List Val} {j : Nat} (h : j < l.length) : (vsA l)[j]? = some [.a (serL l[j])] := by simp [vsA, h]
abbrev frF (n : Bytes) (v : Val) : List SV := [.str n, .s 3 [serL v]]
theorem no_den {T i : Nat} {M : SM} : ∀ g ρ ms, ¬ DenM g ρ ((i, .c T [.s 0 [[]]]) :: M) ms := by
  intro g ρ ms h
  cases h with
  | cons hb _ =>
    cases hb with
    | c xs hd h1 =>
      have h0 := hd.1
      match xs, h0 with
      | [x], _ =>
        have := hd.2 0 _ x rfl rfl
        cases this with
        | s xs h1 h2 hl hr ho hne hxd =>
          obtain ⟨b, o, e, _⟩ := hne (by simp)
          rw [(ho.2 rfl).1] at e
          cases e
theorem den_nil {g : GW} {ρ : Nat → Lc} {x : Value} (h : Den g ρ (.s 0 []) x) : Den g ρ (.v (.slice none 0 0)) x := by
  cases h with
  | s xs h1 h2 hl hr ho hne hxd =>
    have := ho.2 rfl
    rw [this.1, this.2]
    exact .v
section
variable {X : Kx} {k : List It} {L : SL} {M : SM} {fs : List MF} {own : List Res} {arr : Array Oper} {l : List Oper} {o : Oper}
/-- Two nil slices compared. -/
theorem knl {tb : TT} (hT : tb.Ok X.P) (m : Nat) (H : List (List SV)) {d T yT : Nat} {op : BinOp} {x y : Operand} (v : Value) {l' L' M' φ} (hr : ∀ w, (binOp op T (.slice none 0 0) (.slice none 0 0)).run X.P w = .ok v w) (hk : ES X arr l' k L' M' fs own) (ho : o.op = .binOp op T x y yT := by rfl)
    (hx : evS (lkS L) x = some (.s 0 []) := by rfl) (hy : evS (lkS L) y = some (.s 0 []) := by rfl) (he : ∀ w, (eqGuard op T x y (.slice none 0 0) (.slice none 0 0)).run X.P w = .ok () w := by intro w; rfl)
    (hg : o.guard = none := by rfl) (hd : o.dst = some d := by rfl) (hn : Nat.blt d X.n = true := by rfl) (hrn : xrun tb X.n arr m H l ((d, .v v) :: L) M [] = some (l', L', M', φ) := by rfl)
    (hφ : conj φ := by first | trivial | omega | (simp +contextual [conj]; done) | (simp +contextual [conj, *]; done) | (simp +contextual [conj, *] <;> omega)) : ES X arr (o :: l) k L M fs own := by
  have hG : gS arr (lkS L) o = some none := by unfold gS; rw [hg]
  refine ES_step (Stp_read (sv := .v v) hG hd hn (fun L' hL hon g a ρ ms st => ⟨v, ?_, .v⟩)) ?_
  · have hSl : Sl X ρ L' a g := st.all _ (.tail _ (.head _))
    have hev : evs (lkS L') [x, y] = some [.s 0 [], .s 0 []] := by
      have := evs_agree' hL
      rw [show o.op.operands.toList = [x, y] by rw [ho]; rfl] at this
      rw [this]
      simp only [evs, hx, hy]
    obtain ⟨_, _, e1, dx, hr1⟩ := (evals_den hSl.val hev).uncons
    obtain ⟨_, _, e2, dy, _⟩ := hr1.uncons
    simp only [List.map_cons, List.cons.injEq] at e1
    obtain ⟨rfl, rfl⟩ := e1
    simp only [List.cons.injEq] at e2
    obtain ⟨rfl, _⟩ := e2
    simp only [execOp, ho, den_v (den_nil dx), den_v (den_nil dy)]
    simp [hr g.w, he g.w]
  · rw [hd]
    exact go hT m H hk hrn hφ
end
theorem den_in {g : GW} {ρ : Nat → Lc} {n : Nat} {rows : List (List SV)} {ms : List Res} (h : DenM g ρ [(2, .c 32 [.o 903 n]), (903, .r 98 3 rows)] ms) : DenM g (fun i => if i = 901 then ρ 903 else ρ (i - 1000)) [(1002, .c 32 [.o 901 n]), (901, .r 98 3 rows)] ms := by
  cases h with
  | cons h1 t =>
    cases t with
    | cons h2 t2 =>
      cases t2
      refine .cons ?_ (.cons ?_ .nil)
      · cases h1 with
        | c xs hd h3 =>
          refine .c (ρ := fun i => if i = 901 then ρ 903 else ρ (i - 1000)) (i := 1002) xs ⟨hd.1, fun p s v hp hv => ?_⟩ h3
          cases p with
          | zero =>
            simp only [List.getElem?_cons_zero, Option.some.injEq] at hp
            subst hp
            have h0 := hd.2 0 _ v rfl hv
            cases h0 with
            | o => exact .o (ρ := fun i => if i = 901 then ρ 903 else ρ (i - 1000)) (i := 901)
          | succ p => simp at hp
      · cases h2 with
        | r hz xs hl h3 => exact .r (ρ := fun i => if i = 901 then ρ 903 else ρ (i - 1000)) (i := 901) hz xs hl h3
theorem den_out {g : GW} {ρ : Nat → Lc} {n : Nat} {rows : List (List SV)} {ms : List Res} (h : DenM g ρ [(1002, .c 32 [.o 901 n]), (901, .r 98 3 rows)] ms) : DenM g (fun i => if i = 903 then ρ 901 else ρ (i + 1000)) [(2, .c 32 [.o 903 n]), (903, .r 98 3 rows)] ms := by
  cases h with
  | cons h1 t =>
    cases t with
    | cons h2 t2 =>
      cases t2
      refine .cons ?_ (.cons ?_ .nil)
      · cases h1 with
        | c xs hd h3 =>
          refine .c (ρ := fun i => if i = 903 then ρ 901 else ρ (i + 1000)) (i := 2) xs ⟨hd.1, fun p s v hp hv => ?_⟩ h3
          cases p with
          | zero =>
            simp only [List.getElem?_cons_zero, Option.some.injEq] at hp
            subst hp
            have h0 := hd.2 0 _ v rfl hv
            cases h0 with
            | o => exact .o (ρ := fun i => if i = 903 then ρ 901 else ρ (i + 1000)) (i := 903)
          | succ p => simp at hp
      · cases h2 with
        | r hz xs hl h3 => exact .r (ρ := fun i => if i = 903 then ρ 901 else ρ (i + 1000)) (i := 903) hz xs hl h3
end Go.KX
namespace Go.KX
abbrev c4 : List Val := [nullV, nanV, plusV, minusV]
theorem parse_c4 {s : Bytes} : ∀ {j : Nat} (hj : j < c4.length), s = printV c4[j] → parseV s = (c4[j], 0)
  | 0, _, h => by subst h; rfl
  | 1, _, h => by subst h; rfl
  | 2, _, h => by subst h; rfl
  | 3, _, h => by subst h; rfl
  | n + 4, h, _ => by simp at h; omega
/-- None of the four. -/
def not4 (s : Bytes) : Prop := s ≠ [110, 117, 108, 108] ∧ s ≠ [78, 97, 78] ∧ s ≠ [43, 73, 110, 102] ∧ s ≠ [45, 73, 110, 102]
theorem not4_of {s : Bytes} (h : ∀ v ∈ c4, decide (s = printV v) = false) : not4 s := by
  have key : ∀ v ∈ c4, s ≠ printV v := fun v hv => by simpa using h v hv
  exact ⟨key nullV (by simp), key nanV (by simp), key plusV (by simp), key minusV (by simp)⟩
section
variable {s w f : Bytes} {b : Bool} {n : Nat}
theorem prog_open (h4 : not4 s) (hcut : Lib.cut (Lib.trimPrefix s [45]) [46] = (w, f, b)) : parseV s = (if f.length ≤ 3 ∧ w.length ≤ 13 then
    match Lib.parseUintM M62 0 (w ++ f ++ Lib.repeatL [48] (3 - f.length)) with
    | .ok n => if (numV (if Lib.hasPrefix s [45] then -(n : Int) else n)).k = 1 ∧ printV (numV (if Lib.hasPrefix s [45] then -(n : Int) else n)) = s then (numV (if Lib.hasPrefix s [45] then -(n : Int) else n), 0) else (zeroV, 80)
    | _ => (zeroV, 80)
  else (zeroV, 80) : Val × Int) := by
  rw [← progV_eq]
  unfold progV
  rw [if_neg h4.1, if_neg h4.2.1, if_neg h4.2.2.1, if_neg h4.2.2.2]
  simp only [hcut]
  cases Lib.parseUintM M62 0 (w ++ f ++ Lib.repeatL [48] (3 - f.length)) <;> rfl
theorem prog_ok (h4 : not4 s) (hcut : Lib.cut (Lib.trimPrefix s [45]) [46] = (w, f, b)) (hl : f.length ≤ 3 ∧ w.length ≤ 13) (hP : Lib.parseUintM M62 0 (w ++ f ++ Lib.repeatL [48] (3 - f.length)) = .ok n) {x : Int} (hx : (if Lib.hasPrefix s [45] then -(n : Int) else n) = x) : parseV s = (if (numV x).k = 1 ∧ printV (numV x) = s then (numV x, 0) else (zeroV, 80) : Val × Int) := by
  rw [prog_open h4 hcut, if_pos hl, hP]
  simp only [hx]
theorem prog_bad (h4 : not4 s) (hcut : Lib.cut (Lib.trimPrefix s [45]) [46] = (w, f, b)) (hl : f.length ≤ 3 ∧ w.length ≤ 13) (hP : Lib.parseUintM M62 0 (w ++ f ++ Lib.repeatL [48] (3 - f.length)) = Lib.parseUintM 0 0 [0]) : parseV s = (zeroV, 80) := by
  rw [prog_open h4 hcut, if_pos hl, hP]
  rfl
theorem prog_long (h4 : not4 s) (hcut : Lib.cut (Lib.trimPrefix s [45]) [46] = (w, f, b)) (hl : ¬ (f.length ≤ 3 ∧ w.length ≤ 13)) : parseV s = (zeroV, 80) := by
  rw [prog_open h4 hcut, if_neg hl]
theorem uintM_norange : ∀ (l : Bytes) (a : Nat), (a + 1) * 10 ^ l.length ≤ 10 ^ 17 → Lib.parseUintM M62 a l ≠ .range ∧ ∀ n, Lib.parseUintM M62 a l = .ok n → n < 10 ^ 17
  | [], a, h => by
    refine ⟨by simp [Lib.parseUintM], fun n hn => ?_⟩
    simp only [Lib.parseUintM] at hn
    cases hn
    simp at h; omega
  | c :: l, a, h => by
    have hp : 1 ≤ 10 ^ l.length := Nat.one_le_pow _ _ (by decide)
    rw [List.length_cons, Nat.pow_succ] at h
    have h1 : (a + 1) * 10 * 10 ^ l.length ≤ 10 ^ 17 := by rw [Nat.mul_assoc, Nat.mul_comm 10]; exact h
    have h2 : (a + 1) * 10 ≤ 10 ^ 17 := Nat.le_trans (Nat.le_mul_of_pos_right _ hp) h1
    unfold Lib.parseUintM
    split
    · rename_i hc
      rw [if_neg (by omega), if_neg (by show ¬ 4611686018427387903 < _; omega)]
      exact uintM_norange l _ (Nat.le_trans (Nat.mul_le_mul_right _ (by omega)) h1)
    · exact ⟨by simp, fun n hn => by cases hn⟩
theorem uintM_16 {l : Bytes} (h : l.length ≤ 16) : Lib.parseUintM M62 0 l ≠ .range ∧ ∀ n, Lib.parseUintM M62 0 l = .ok n → n < 10 ^ 17 :=
  uintM_norange l 0 (by rw [Nat.zero_add, Nat.one_mul]; exact Nat.pow_le_pow_right (by decide) (by omega))
end
end Go.KX
namespace Go.KX
/-- It goes forward, and not past the end. -/
def Fit (s : Bytes) (f : Ps → Ex × Ps) : Prop := ∀ p, p.i ≤ s.length → p.i ≤ (f p).2.i ∧ (f p).2.i ≤ s.length
variable {s : Bytes}
theorem rest_ge (p : Ps) : p.i ≤ (p.restP s).i := by unfold Ps.restP; split <;> simp
theorem fails_i (p : Ps) (e a : Int) : (p.fails e a).i = p.i := by unfold Ps.fails; split <;> rfl
theorem restT_len {p : Ps} (h : p.i ≤ s.length) : (p.restT s).length + (p.restP s).i ≤ s.length := by
  have := rest_le (s := s) h
  unfold Ps.restT
  split
  · simpa using this
  · simp; omega
theorem takeT_some {l : List Bytes} {p : Ps} {x : Bytes} (h : takeT s l p = some x) : x ∈ l ∧ 1 ≤ x.length ∧ x.length ≤ 2 ∧ Lib.hasPrefix (p.restT s) x = true := by
  unfold takeT at h
  split at h
  · rename_i y hy
    split at h
    · rename_i hm
      cases h
      have h1 := List.mem_of_find?_eq_some hy
      have h2 := List.find?_some hy
      have h3 : ∀ x ∈ signsT, 1 ≤ x.length ∧ x.length ≤ 2 := by decide
      exact ⟨hm, (h3 _ h1).1, (h3 _ h1).2, h2⟩
    · cases h
  · cases h
theorem prefix_len {a b : Bytes} (h : Lib.hasPrefix a b = true) : b.length ≤ a.length := by
  unfold Lib.hasPrefix at h
  exact (List.isPrefixOf_iff_prefix.1 h).length_le
theorem take_fit {l : List Bytes} {p : Ps} (h : p.i ≤ s.length) : p.i ≤ (takeP s l p).i ∧ (takeP s l p).i ≤ s.length := by
  have h1 := rest_ge (s := s) p
  have h2 := rest_le (s := s) h
  have h3 := restT_len (s := s) h
  unfold takeP
  cases ht : takeT s l p with
  | none => exact ⟨h1, h2⟩
  | some x =>
    have h4 := prefix_len (takeT_some ht).2.2.2
    exact ⟨by simp; omega, by simp; omega⟩
theorem take_more {l : List Bytes} {p : Ps} {x : Bytes} (ht : takeT s l p = some x) : p.i + 1 ≤ (takeP s l p).i := by
  have h1 := rest_ge (s := s) p
  have h4 := takeT_some ht
  unfold takeP
  rw [ht]
  simp only
  omega
theorem must_fit {x : Bytes} {p : Ps} (h : p.i ≤ s.length) : p.i ≤ (mustP s x p).i ∧ (mustP s x p).i ≤ s.length := by
  have := take_fit (l := [x]) h
  unfold mustP
  split
  · exact this
  · rw [fails_i]; exact this
theorem enter_fit {d : Nat} {p : Ps} (h : p.i ≤ s.length) : p.i ≤ (enterP s d p).i ∧ (enterP s d p).i ≤ s.length := by
  have h1 := rest_ge (s := s) p
  have h2 := rest_le (s := s) h
  unfold enterP
  split
  · rw [fails_i]; exact ⟨h1, h2⟩
  · exact ⟨h1, h2⟩
theorem loop_fit {f : Ps → Ex × Ps} (hf : Fit s f) {ops : List Bytes} {alone : Bool} : ∀ (n : Nat) (x : Ex) (p : Ps), p.i ≤ s.length → p.i ≤ (loopG (tkX s) f ops alone n x p).2.i ∧ (loopG (tkX s) f ops alone n x p).2.i ≤ s.length
  | 0, x, p, h => ⟨Nat.le_refl _, h⟩
  | n + 1, x, p, h => by
    have h1 := take_fit (l := ops) h
    have h2 := hf _ h1.2
    unfold loopG
    simp only
    split
    · exact h1
    · split
      · exact ⟨Nat.le_trans h1.1 h2.1, h2.2⟩
      · rename_i o _ _
        have h4 := loop_fit hf (ops := ops) (alone := false) n (exC o [x, (f (takeP s ops p)).1]) (f (takeP s ops p)).2 h2.2
        exact ⟨Nat.le_trans (Nat.le_trans h1.1 h2.1) h4.1, h4.2⟩
theorem lev_fit {f : Ps → Ex × Ps} (hf : Fit s f) : ∀ n, Fit s (levX s f n)
  | 0 => hf
  | n + 1 => fun p h => by
    have h1 := lev_fit hf n p h
    have h2 := loop_fit (lev_fit hf n) (ops := levelsT.getD (4 - n) []) (alone := n == 2) (s.length + 1) (levX s f n p).1 (levX s f n p).2 h1.2
    exact ⟨Nat.le_trans h1.1 h2.1, h2.2⟩
theorem expr_fit {f : Ps → Ex × Ps} (hf : Fit s f) (d : Nat) : Fit s (exprX s f d) := fun p h => by
  have h1 := enter_fit (d := d) h
  have h2 := lev_fit hf 5 _ h1.2
  exact ⟨Nat.le_trans h1.1 h2.1, h2.2⟩
theorem numLen_le (r : Bytes) : numLen r ≤ r.length := by
  unfold numLen
  have h1 := runB_le gDig r
  have h2 := runB_le gDig (r.drop (runB gDig r + 1))
  simp at h2
  split <;> omega
variable {pv : Bytes → Val × Int}
theorem par_fit {f : Ps → Ex × Ps} (hf : Fit s f) : Fit s (parX s f) := fun p h => by
  have h1 := hf p h
  have h2 := must_fit (x := oPR) h1.2
  exact ⟨Nat.le_trans h1.1 h2.1, h2.2⟩
theorem word_fit {f : Ps → Ex × Ps} (hf : Fit s f) {r : Bytes} {p : Ps} (h : p.i + r.length ≤ s.length) : p.i ≤ (wordX s f r p).2.i ∧ (wordX s f r p).2.i ≤ s.length := by
  have hr := runB_le gLD r
  have hl : (r.take (runB gLD r)).length ≤ r.length := by simp; omega
  have h1 : ({ p with i := p.i + (r.take (runB gLD r)).length } : Ps).i ≤ s.length := by show p.i + _ ≤ _; omega
  unfold wordX
  simp only
  split
  · exact ⟨by simp, h1⟩
  split
  · exact ⟨by simp, h1⟩
  split
  · exact ⟨by simp, h1⟩
  have key : ∀ q : Ps, q.i = p.i + (r.take (runB gLD r)).length → p.i ≤ (parX s f (mustP s oPL q)).2.i ∧ (parX s f (mustP s oPL q)).2.i ≤ s.length := by
    intro q hq
    have hq2 : q.i ≤ s.length := by rw [hq]; exact h1
    have h2 := must_fit (x := oPL) hq2
    have h3 := par_fit hf _ h2.2
    exact ⟨by omega, h3.2⟩
  refine key _ ?_
  split
  · rfl
  · rw [fails_i]
theorem prim_fit {f : Ps → Ex × Ps} (hf : Fit s f) : Fit s (primX pv s f) := fun p h => by
  have h1 := rest_ge (s := s) p
  have h2 := rest_le (s := s) h
  have h3 := restT_len (s := s) h
  unfold primX
  simp only
  cases p.dead with
  | true => exact ⟨h1, h2⟩
  | false =>
    cases hr : p.restT s with
    | nil => simp only; rw [fails_i]; exact ⟨h1, h2⟩
    | cons c r =>
      rw [hr] at h3
      simp only [List.length_cons] at h3
      simp only
      split
      · have := par_fit hf { p.restP s with i := (p.restP s).i + 1 } (by show (p.restP s).i + 1 ≤ _; omega)
        exact ⟨by have := this.1; simp only at this; omega, this.2⟩
      split
      · unfold refX
        have hb := runB_le gLD r
        simp only [List.drop_succ_cons, List.drop_zero, List.length_take]
        exact ⟨by omega, by omega⟩
      split
      · unfold numberX
        have hb := numLen_le (c :: r)
        simp only [List.length_cons] at hb
        exact ⟨by simp only; omega, by simp only; omega⟩
      split
      · have := word_fit hf (r := c :: r) (p := p.restP s) (by simp only [List.length_cons]; omega)
        exact ⟨by omega, this.2⟩
      · simp only; rw [fails_i]; exact ⟨h1, h2⟩
theorem un_fit : ∀ d, Fit s (unX pv s d)
  | 0 => fun p h => by
    have h1 := enter_fit (d := 33) h
    have h2 := take_fit (l := [oSub, oNot]) h1.2
    have h3 := prim_fit (pv := pv) (f := fun q => (ex0, q)) (fun q hq => ⟨Nat.le_refl _, hq⟩) _ h2.2
    unfold unX
    exact ⟨by omega, h3.2⟩
  | d + 1 => fun p h => by
    have h1 := enter_fit (d := 32 - d) h
    have h2 := take_fit (l := [oSub, oNot]) h1.2
    unfold unX
    split
    · have h3 := un_fit d _ h2.2
      exact ⟨by simp only; omega, h3.2⟩
    · have h3 := prim_fit (pv := pv) (expr_fit (un_fit d) (33 - d)) _ h2.2
      exact ⟨by omega, h3.2⟩
section
variable {ex : Ps → Ex × Ps} {p : Ps} {c : UInt8} {r : Bytes}
theorem prim_dead (hd : p.dead = true) : primX pv s ex p = (ex0, p.restP s) := by unfold primX; simp only [hd]
theorem prim_nil (hd : p.dead = false) (hr : p.restT s = []) : primX pv s ex p = (ex0, (p.restP s).fails 110 (p.restP s).i) := by unfold primX; simp only [hd, hr]
theorem prim_cons (hd : p.dead = false) (hr : p.restT s = c :: r) : primX pv s ex p = if c = 40 then parX s ex { p.restP s with i := (p.restP s).i + 1 } else if c = 36 then refX (c :: r) (p.restP s) else if c ∈ gDig then numberX pv (c :: r) (p.restP s) else if c ∈ gLet then wordX s ex (c :: r) (p.restP s) else (ex0, (p.restP s).fails 110 (p.restP s).i) := by unfold primX; simp only [hd, hr]
theorem u8_eq {k : UInt8} (h : ((c.toNat : Nat) : Int) = (k.toNat : Int)) : c = k := UInt8.toNat_inj.1 (Int.ofNat.inj h)
end
theorem nI_eq {z : Int} {n : Nat} (h : z = n) : nI z = nI n := by rw [h]
end Go.KX
namespace Go.KX
section
variable {s : Bytes} {f : Ps → Ex × Ps} {ops : List Bytes} {alone : Bool} {n : Nat} {x : Ex} {p : Ps}
theorem loop_none (h : takeT s ops p = none) : loopG (tkX s) f ops alone (n + 1) x p = (x, takeP s ops p) := by
  conv => lhs; unfold loopG
  simp only [h]
theorem loop_alone {o : Bytes} (h : takeT s ops p = some o) : loopG (tkX s) f ops true (n + 1) x p = (exC o [x, (f (takeP s ops p)).1], (f (takeP s ops p)).2) := by
  conv => lhs; unfold loopG
  simp only [h]
theorem loop_more {o : Bytes} (h : takeT s ops p = some o) : loopG (tkX s) f ops false (n + 1) x p = loopG (tkX s) f ops false n (exC o [x, (f (takeP s ops p)).1]) (f (takeP s ops p)).2 := by
  conv => lhs; unfold loopG
  simp only [h]
theorem levels_row : ∀ {n : Nat} (_ : n ≤ 4) {q : Int} (_ : q = 4 - (n : Int)), ∃ rest, (levelsT.map rB).drop (q.toNat * 1) = rB (levelsT.getD (4 - n) []) :: rest
  | 0, _, q, h => by subst h; exact ⟨_, rfl⟩
  | 1, _, q, h => by subst h; exact ⟨_, rfl⟩
  | 2, _, q, h => by subst h; exact ⟨_, rfl⟩
  | 3, _, q, h => by subst h; exact ⟨_, rfl⟩
  | 4, _, q, h => by subst h; exact ⟨_, rfl⟩
  | n + 5, h, _, _ => by omega
variable {pv : Bytes → Val × Int}
theorem un_some {d : Nat} {o : Bytes} (h : takeT s [oSub, oNot] (enterP s (32 - d) p) = some o) : unX pv s (d + 1) p = (exC o [(unX pv s d (takeP s [oSub, oNot] (enterP s (32 - d) p))).1], (unX pv s d (takeP s [oSub, oNot] (enterP s (32 - d) p))).2) := by
  conv => lhs; unfold unX
  simp only [h]
theorem un_none {d : Nat} (h : takeT s [oSub, oNot] (enterP s (32 - d) p) = none) : unX pv s (d + 1) p = primX pv s (exprX s (unX pv s d) (33 - d)) (takeP s [oSub, oNot] (enterP s (32 - d) p)) := by
  conv => lhs; unfold unX
  simp only [h]
theorem enter33 : (enterP s 33 p).dead = true := by
  unfold enterP Ps.fails
  rw [if_pos (by decide)]
  split
  · assumption
  · rfl
end
end Go.KX
namespace Go.KX
mutual
def exSize : Ex → Nat
  | .mk _ _ _ l => 1 + exSizes l
def exSizes : List Ex → Nat
  | [] => 0
  | x :: r => exSize x + exSizes r
end
theorem exSize_eq (x : Ex) : exSize x = 1 + exSizes x.kids := by cases x; rfl
theorem exSize_kid : ∀ {l : List Ex} {j : Nat} (h : j < l.length), exSize l[j] ≤ exSizes l
  | x :: r, 0, _ => by simp [exSizes]
  | x :: r, j + 1, h => by
    have := exSize_kid (l := r) (j := j) (by simpa using h)
    simp only [List.getElem_cons_succ, exSizes]
    omega
/-- A tree costs two for each byte, at most. -/
def Sz (s : Bytes) (f : Ps → Ex × Ps) : Prop := ∀ p, p.i ≤ s.length → exSize (f p).1 + 2 * p.i ≤ 2 * (f p).2.i + 1
variable {s : Bytes}
theorem exs0 : exSize ex0 = 1 := rfl
theorem exsN (v : Val) : exSize (exN v) = 1 := rfl
theorem exsR (w : Bytes) : exSize (exR w) = 1 := rfl
theorem exs1 (o : Bytes) (x : Ex) : exSize (exC o [x]) = 1 + exSize x := by simp [exSize, exSizes]
theorem exs2 (o : Bytes) (x y : Ex) : exSize (exC o [x, y]) = 1 + (exSize x + exSize y) := by simp [exSize, exSizes]
theorem loop_sz {f : Ps → Ex × Ps} (hf : Fit s f) (hs : Sz s f) {ops : List Bytes} {alone : Bool} {i0 : Nat} : ∀ (n : Nat) (x : Ex) (p : Ps), p.i ≤ s.length → exSize x + 2 * i0 ≤ 2 * p.i + 1 → exSize (loopG (tkX s) f ops alone n x p).1 + 2 * i0 ≤ 2 * (loopG (tkX s) f ops alone n x p).2.i + 1
  | 0, x, p, h, h2 => h2
  | n + 1, x, p, h, h2 => by
    have h1 := take_fit (l := ops) h
    unfold loopG
    simp only
    split
    · simp only; omega
    · rename_i o ho
      have h3 := take_more ho
      have h4 := hf _ h1.2
      have h5 := hs _ h1.2
      split
      · rw [exs2]; simp only; omega
      · exact loop_sz hf hs n _ _ h4.2 (by rw [exs2]; omega)
theorem lev_sz {f : Ps → Ex × Ps} (hf : Fit s f) (hs : Sz s f) : ∀ n, Sz s (levX s f n)
  | 0 => hs
  | n + 1 => fun p h => by
    have h1 := lev_fit hf n p h
    have h2 := lev_sz hf hs n p h
    exact loop_sz (lev_fit hf n) (lev_sz hf hs n) _ _ _ h1.2 h2
theorem expr_sz {f : Ps → Ex × Ps} (hf : Fit s f) (hs : Sz s f) (d : Nat) : Sz s (exprX s f d) := fun p h => by
  have h1 := enter_fit (d := d) h
  have h2 := lev_sz hf hs 5 _ h1.2
  show exSize (levX s f 5 (enterP s d p)).1 + 2 * p.i ≤ 2 * (levX s f 5 (enterP s d p)).2.i + 1
  omega
theorem par_sz {f : Ps → Ex × Ps} (hf : Fit s f) (hs : Sz s f) : Sz s (parX s f) := fun p h => by
  have h1 := hf p h
  have h2 := must_fit (x := oPR) h1.2
  have h3 := hs p h
  show exSize (f p).1 + 2 * p.i ≤ 2 * (mustP s oPR (f p).2).i + 1
  omega
variable {pv : Bytes → Val × Int}
theorem word_sz {f : Ps → Ex × Ps} (hf : Fit s f) (hs : Sz s f) {r : Bytes} {p : Ps} (h : p.i + r.length ≤ s.length) (h1 : 1 ≤ runB gLD r) : exSize (wordX s f r p).1 + 2 * p.i ≤ 2 * (wordX s f r p).2.i + 1 := by
  have hr := runB_le gLD r
  have hl : (r.take (runB gLD r)).length = runB gLD r := by simp; omega
  have key : ∀ (w : Bytes) (q : Ps), q.i = p.i + runB gLD r → exSize (exC w [(parX s f (mustP s oPL q)).1]) + 2 * p.i ≤ 2 * (parX s f (mustP s oPL q)).2.i + 1 := by
    intro w q hq
    have hq2 : q.i ≤ s.length := by omega
    have h2 := must_fit (x := oPL) hq2
    have h3 := par_sz hf hs _ h2.2
    rw [exs1]
    omega
  unfold wordX
  simp only [hl]
  split
  · rw [exsN]; simp only; omega
  split
  · rw [exsN]; simp only; omega
  split
  · rw [exsN]; simp only; omega
  refine key _ _ ?_
  split
  · rfl
  · rw [fails_i]
theorem let_run {c : UInt8} {r : Bytes} (h : c ∈ gLet) : 1 ≤ runB gLD (c :: r) := by
  have : c ∈ gLD := by
    have : ∀ x ∈ gLet, x ∈ gLD := by decide
    exact this c h
  unfold runB
  rw [if_pos this]
  omega
theorem prim_sz {f : Ps → Ex × Ps} (hf : Fit s f) (hs : Sz s f) : Sz s (primX pv s f) := fun p h => by
  have h1 := rest_ge (s := s) p
  have h2 := rest_le (s := s) h
  have h3 := restT_len (s := s) h
  unfold primX
  simp only
  cases p.dead with
  | true => simp only [exs0]; omega
  | false =>
    cases hr : p.restT s with
    | nil => simp only [exs0]; rw [fails_i]; omega
    | cons c r =>
      rw [hr] at h3
      simp only [List.length_cons] at h3
      simp only
      split
      · have := par_sz hf hs { p.restP s with i := (p.restP s).i + 1 } (by show (p.restP s).i + 1 ≤ _; omega)
        simp only at this
        omega
      split
      · unfold refX
        simp only [exsR]
        omega
      split
      · unfold numberX
        simp only [exsN]
        omega
      split
      · rename_i hle
        have := word_sz hf hs (r := c :: r) (p := p.restP s) (by simp only [List.length_cons]; omega) (let_run hle)
        omega
      · simp only [exs0]; rw [fails_i]; omega
theorem un_sz : ∀ d, Sz s (unX pv s d)
  | 0 => fun p h => by
    have h1 := enter_fit (d := 33) h
    have h2 := take_fit (l := [oSub, oNot]) h1.2
    have h3 := prim_sz (pv := pv) (f := fun q => (ex0, q)) (fun q hq => ⟨Nat.le_refl _, hq⟩) (fun q hq => by simp only [exs0]; omega) _ h2.2
    unfold unX
    omega
  | d + 1 => fun p h => by
    have h1 := enter_fit (d := 32 - d) h
    have h2 := take_fit (l := [oSub, oNot]) h1.2
    unfold unX
    split
    · rename_i o ho
      have h3 := un_sz d _ h2.2
      have h4 := take_more ho
      simp only [exs1]
      omega
    · have h3 := prim_sz (pv := pv) (expr_fit (un_fit d) (33 - d)) (expr_sz (un_fit d) (un_sz d) (33 - d)) _ h2.2
      omega
theorem parse_sz : exSize (parseX pv s).1 ≤ 2049 := by
  unfold parseX
  split
  · simp only [exs0]; omega
  · rename_i hs
    have h1 := expr_sz (s := s) (un_fit (pv := pv) 33) (un_sz 33) 0 ⟨0, 0, 0, false⟩ (Nat.zero_le _)
    have h2 := expr_fit (s := s) (un_fit (pv := pv) 33) 0 ⟨0, 0, 0, false⟩ (Nat.zero_le _)
    simp only at h1 h2 ⊢
    repeat' split
    all_goals first | (simp only [exs0]; omega) | omega
mutual
def refsX : Ex → List Bytes
  | .mk k n _ l => if k = 2 then [n] else cmpB (sortL (refsL l))
def refsL : List Ex → List Bytes
  | [] => []
  | x :: r => refsX x ++ refsL r
end
theorem refsX_eq (x : Ex) : refsX x = if x.kind = 2 then [x.name] else cmpB (sortL (refsL x.kids)) := by cases x; rfl
theorem refsL_app : ∀ (a b : List Ex), refsL (a ++ b) = refsL a ++ refsL b
  | [], b => rfl
  | x :: r, b => by simp [refsL, refsL_app r b]
theorem refsL_next {l : List Ex} {j : Nat} (hj : j < l.length) : refsL (l.take (j + 1)) = refsL (l.take j) ++ refsX l[j] := by
  rw [List.take_succ_eq_append_getElem hj, refsL_app]
  simp [refsL]
mutual
theorem refs_len : ∀ x : Ex, (refsX x).length ≤ exSize x
  | .mk k n v l => by
    have h := refs_lens l
    have h1 := cmpB_len (sortL (refsL l))
    rw [sortL_len] at h1
    unfold refsX exSize
    split
    · simp
    · omega
theorem refs_lens : ∀ l : List Ex, (refsL l).length ≤ exSizes l
  | [] => Nat.le_refl _
  | x :: r => by
    have h1 := refs_len x
    have h2 := refs_lens r
    simp only [refsL, exSizes, List.length_append]
    omega
end
theorem exSizes_take {l : List Ex} (j : Nat) : exSizes (l.take j) ≤ exSizes l := by
  induction l generalizing j with
  | nil => simp
  | cons x r ih =>
    cases j with
    | zero => simp [exSizes]
    | succ j =>
      have := ih j
      simp only [List.take_succ_cons, exSizes]
      omega
theorem kids_len : ∀ l : List Ex, l.length ≤ exSizes l
  | [] => Nat.le_refl _
  | x :: r => by
    have := kids_len r
    have h2 := exSize_eq x
    simp only [List.length_cons, exSizes]
    omega
theorem rowsB_len {l : List Bytes} : ∀ r ∈ rowsB l, r.length = 1 := fun r hr => by
  obtain ⟨s, _, rfl⟩ := List.mem_map.1 hr
  rfl
end Go.KX
namespace Go.KX
abbrev opdT (t : Bytes × Bool) : Bytes := if t.2 = true then 40 :: (t.1 ++ [41]) else t.1
mutual
def printX : Ex → Bytes
  | .mk k n v kids => if k = 2 then 36 :: n else if k = 1 then (if v.k = 3 then wNan else if v.k = 4 then wInf else printV v) else match printL kids with
    | [a, b] => opdT a ++ (32 :: n ++ (32 :: opdT b))
    | a :: _ => if functionB n then n ++ (40 :: (a.1 ++ [41])) else n ++ opdT a
    | [] => []
def printL : List Ex → List (Bytes × Bool)
  | [] => []
  | .mk k n v kids :: l => (printX (.mk k n v kids), decide (kids.length = 2)) :: printL l
end
def opdX (x : Ex) : Bytes := if x.kids.length = 2 then 40 :: (printX x ++ [41]) else printX x
theorem opdT_eq (x : Ex) : opdT (printX x, decide (x.kids.length = 2)) = opdX x := by
  unfold opdX
  by_cases h : x.kids.length = 2
  · simp [h]
  · simp [h]
theorem printL_cons (x : Ex) (l : List Ex) : printL (x :: l) = (printX x, decide (x.kids.length = 2)) :: printL l := by cases x; rfl
theorem print_ref (n : Bytes) (v : Val) (l : List Ex) : printX (.mk 2 n v l) = 36 :: n := by simp [printX]
theorem print_num3 (n : Bytes) (v : Val) (l : List Ex) : printX (.mk 1 n v l) = if v.k = 3 then wNan else if v.k = 4 then wInf else printV v := by simp [printX]
theorem print_two (n : Bytes) (a b : Ex) : printX (exC n [a, b]) = opdX a ++ (32 :: n ++ (32 :: opdX b)) := by
  rw [show printX (exC n [a, b]) = (match printL [a, b] with
    | [a, b] => opdT a ++ (32 :: n ++ (32 :: opdT b))
    | a :: _ => if functionB n then n ++ (40 :: (a.1 ++ [41])) else n ++ opdT a
    | [] => []) from rfl, printL_cons, printL_cons, ← opdT_eq a, ← opdT_eq b]
  rfl
theorem print_one (n : Bytes) (a : Ex) : printX (exC n [a]) = if functionB n then n ++ (40 :: (printX a ++ [41])) else n ++ opdX a := by
  rw [show printX (exC n [a]) = (match printL [a] with
    | [a, b] => opdT a ++ (32 :: n ++ (32 :: opdT b))
    | a :: _ => if functionB n then n ++ (40 :: (a.1 ++ [41])) else n ++ opdT a
    | [] => []) from rfl, printL_cons, ← opdT_eq a]
  rfl
/-- Values that a text has. -/
def numT (v : Val) : Prop := v = nullV ∨ v = nanV ∨ v = plusV ∨ (isV v = true ∧ v.k = 1 ∧ 0 ≤ v.n)
/-- Trees that a parser gives. -/
inductive Wf : Ex → Prop where
  | num {v : Val} (h : numT v) : Wf (exN v)
  | ref {n : Bytes} (h : refB n = true) : Wf (exR n)
  | sign {o : Bytes} {x : Ex} (h : o ∈ [oSub, oNot]) (hx : Wf x) : Wf (exC o [x])
  | fn {o : Bytes} {x : Ex} (h : functionB o = true) (hx : Wf x) : Wf (exC o [x])
  | bin {o : Bytes} {x y : Ex} (m : Nat) (hm : m ≤ 4) (h : o ∈ levelsT.getD (4 - m) []) (hx : Wf x) (hy : Wf y) : Wf (exC o [x, y])
theorem alive {p q : Ps} (g : Gone p q) (h : q.dead = false) : p.dead = false := by
  cases hp : p.dead with
  | false => rfl
  | true => have := (g hp).1; rw [h] at this; cases this
def WfR (f : Ps → Ex × Ps) : Prop := ∀ p, (f p).2.dead = false → Wf (f p).1
section
variable {s : Bytes}
theorem wf_loop {f : Ps → Ex × Ps} (hf : WfR f) (hg : ∀ p, Gone p (f p).2) {m : Nat} (hm : m ≤ 4) {al : Bool} : ∀ (n : Nat) (x : Ex) (p : Ps), (p.dead = false → Wf x) → (loopG (tkX s) f (levelsT.getD (4 - m) []) al n x p).2.dead = false → Wf (loopG (tkX s) f (levelsT.getD (4 - m) []) al n x p).1
  | 0, x, p, hx, hd => hx hd
  | n + 1, x, p, hx, hd => by
    cases ht : takeT s (levelsT.getD (4 - m) []) p with
    | none =>
      rw [loop_none ht] at hd ⊢
      exact hx (alive (gone_take _ p) hd)
    | some o =>
      cases al with
      | true =>
        rw [loop_alone ht] at hd ⊢
        have h1 := alive (hg _) hd
        exact .bin m hm (takeT_some ht).1 (hx (alive (gone_take _ p) h1)) (hf _ hd)
      | false =>
        rw [loop_more ht] at hd ⊢
        refine wf_loop hf hg hm n _ _ (fun h2 => ?_) hd
        have h1 := alive (hg _) h2
        exact .bin m hm (takeT_some ht).1 (hx (alive (gone_take _ p) h1)) (hf _ h2)
theorem wf_lev {f : Ps → Ex × Ps} (hf : WfR f) (hg : ∀ p, Gone p (f p).2) : ∀ n, n ≤ 5 → WfR (levX s f n)
  | 0, _ => hf
  | n + 1, hn => fun p hd => wf_loop (wf_lev hf hg n (by omega)) (gone_lev hg n) (by omega) _ _ _ (fun h => wf_lev hf hg n (by omega) p h) hd
theorem wf_expr {f : Ps → Ex × Ps} (hf : WfR f) (hg : ∀ p, Gone p (f p).2) (d : Nat) : WfR (exprX s f d) := fun p hd => wf_lev hf hg 5 (Nat.le_refl _) _ hd
theorem fails_dead (p : Ps) (e a : Int) : (p.fails e a).dead = true := by unfold Ps.fails; split <;> simp_all
theorem digs_num {c : UInt8} {r : Bytes} (hc : c ∈ gDig) (h : (parseV (c :: r)).2 = 0) : numT (parseV (c :: r)).1 := by
  obtain ⟨h1, h2⟩ := parseV_ok h
  have hd : dgt c := by
    have : ∀ c ∈ gDig, dgt c := by decide
    exact this c hc
  rcases isV_cases h1 with h3 | h3 | h3 | h3 | h3
  · refine .inr (.inr (.inr ⟨h1, h3.1, ?_⟩))
    by_cases h0 : (parseV (c :: r)).1.n < 0
    · rw [print_num h1 h3.1, if_pos h0] at h2
      injection h2 with h4 _
      exact absurd h4.symm (dgt_ne hd).2.1
    · omega
  · exact .inl h3
  · exact .inr (.inl h3)
  · exact .inr (.inr (.inl h3))
  · rw [h3] at h2
    have : printV minusV = [45, 73, 110, 102] := by decide
    rw [this] at h2
    injection h2 with h4 _
    exact absurd h4.symm (dgt_ne hd).2.1
theorem wf_prim {ex : Ps → Ex × Ps} (hf : WfR ex) (hg : ∀ p, Gone p (ex p).2) : WfR (primX parseV s ex) := fun p hd => by
  have hp := alive (gone_prim ex p) hd
  cases hr : p.restT s with
  | nil => rw [prim_nil hp hr] at hd; simp only [fails_dead] at hd; cases hd
  | cons c r =>
    rw [prim_cons hp hr] at hd ⊢
    split
    · rename_i h; rw [if_pos h] at hd
      exact hf _ (alive (gone_must _ _) hd)
    rename_i h40; rw [if_neg h40] at hd
    split
    · rename_i h; rw [if_pos h] at hd
      unfold refX at hd ⊢
      simp only at hd ⊢
      refine .ref ?_
      by_cases hb : refB (((c :: r).drop 1).take (runB gLD ((c :: r).drop 1))) = true
      · exact hb
      · rw [if_neg hb] at hd; rw [fails_dead] at hd; cases hd
    rename_i h36; rw [if_neg h36] at hd
    split
    · rename_i h; rw [if_pos h] at hd
      unfold numberX at hd ⊢
      simp only at hd ⊢
      refine .num ?_
      have h1 : (parseV ((c :: r).take (numLen (c :: r)))).2 = 0 := by
        by_cases hb : (parseV ((c :: r).take (numLen (c :: r)))).2 = 0
        · exact hb
        · rw [if_neg hb] at hd; rw [fails_dead] at hd; cases hd
      obtain ⟨k, hk⟩ : ∃ k, numLen (c :: r) = k + 1 := by
        have : runB gDig (c :: r) = runB gDig r + 1 := by conv => lhs; unfold runB
                                                          rw [if_pos h]
        unfold numLen
        rw [this]
        split
        · exact ⟨_, by rw [show ∀ a b : Nat, a + 1 + 1 + b = (a + 1 + b) + 1 from fun a b => by omega]⟩
        · exact ⟨_, rfl⟩
      rw [hk] at h1 ⊢
      exact digs_num h h1
    rename_i hdg; rw [if_neg hdg] at hd
    split
    · rename_i h; rw [if_pos h] at hd
      unfold wordX at hd ⊢
      simp only at hd ⊢
      split
      · exact .num (.inl rfl)
      rename_i h1; rw [if_neg h1] at hd
      split
      · exact .num (.inr (.inl rfl))
      rename_i h2; rw [if_neg h2] at hd
      split
      · exact .num (.inr (.inr (.inl rfl)))
      rename_i h3; rw [if_neg h3] at hd
      have h5 := alive (gone_must _ _) hd
      have h4 := alive (gone_must _ _) (alive (hg _) h5)
      refine .fn ?_ (hf _ h5)
      by_cases hb : functionB ((c :: r).take (runB gLD (c :: r))) = true
      · exact hb
      · rw [if_neg hb] at h4; rw [fails_dead] at h4; cases h4
    · rename_i h; rw [if_neg h] at hd
      simp only [fails_dead] at hd; cases hd
theorem wf_un : ∀ d, WfR (unX parseV s d)
  | 0 => fun p hd => by
    have h := alive ((gone_take [oSub, oNot] (enterP s 33 p)).trans (gone_prim (pv := parseV) (s := s) (fun q => (ex0, q)) _)) hd
    rw [enter33] at h; cases h
  | d + 1 => fun p hd => by
    cases ht : takeT s [oSub, oNot] (enterP s (32 - d) p) with
    | some o =>
      rw [un_some ht] at hd ⊢
      exact .sign (takeT_some ht).1 (wf_un d _ hd)
    | none =>
      rw [un_none ht] at hd ⊢
      exact wf_prim (wf_expr (wf_un d) (gone_un d) _) (gone_expr (gone_un d) _) _ hd
/-- What a parser gives. -/
theorem parse_open (h : (parseX parseV s).2.1 = 0) : s.length ≤ 1024 ∧ parseX parseV s = ((exprX s (unX parseV s 33) 0 ⟨0, 0, 0, false⟩).1, 0, 0) ∧ (exprX s (unX parseV s 33) 0 ⟨0, 0, 0, false⟩).2.dead = false ∧ (exprX s (unX parseV s 33) 0 ⟨0, 0, 0, false⟩).2.restT s = [] := by
  unfold parseX at h ⊢
  by_cases hL : 1024 < s.length
  · rw [if_pos hL] at h; cases h
  rw [if_neg hL] at h ⊢
  have hS := (sim_expr (s := s) (sim_un (pv := parseV) (s := s) 33) (d := 0) (p := ⟨0, 0, 0, false⟩) (q := ⟨0, 0, 0⟩) (.inl ⟨rfl, rfl, rfl⟩)).1
  simp only at h ⊢
  generalize exprX s (unX parseV s 33) 0 ⟨0, 0, 0, false⟩ = A at h hS ⊢
  have hdr := restP_dead s A.2
  cases hd : A.2.dead with
  | true =>
    have hT : A.2.restT s = [] := by unfold Ps.restT; rw [if_pos hd]
    rw [if_pos hT, if_pos (hdr.trans hd)] at h
    have he : A.2.err ≠ 0 := by
      rcases hS with ⟨h1, _⟩ | ⟨_, h2, h3, _⟩
      · rw [hd] at h1; cases h1
      · rw [← h2]; exact h3
    have : (A.2.restP s).err = A.2.err := (gone_rest A.2 hd).2.1
    simp only [this] at h
    exact absurd h he
  | false =>
    by_cases hT : A.2.restT s = []
    · rw [if_pos hT] at h ⊢
      rw [if_neg (by rw [hdr, hd]; simp)]
      exact ⟨by omega, rfl, rfl, hT⟩
    · rw [if_neg hT, if_pos (fails_dead _ _ _)] at h
      unfold Ps.fails at h
      rw [if_neg (by rw [hdr, hd]; simp)] at h
      simp at h
theorem parse_wf (h : (parseX parseV s).2.1 = 0) : Wf (parseX parseV s).1 := by
  have h0 := parse_open h
  have hw := wf_expr (s := s) (wf_un (s := s) 33) (fun p => gone_un 33 p) 0 ⟨0, 0, 0, false⟩
  generalize exprX s (unX parseV s 33) 0 ⟨0, 0, 0, false⟩ = A at h0 hw
  rw [h0.2.1]
  exact hw h0.2.2.1
end
end Go.KX
namespace Go.KX
/-- Alive, with so much left. -/
def At (s R : Bytes) (p : Ps) : Prop := p.dead = false ∧ s.drop p.i = R
/-- It nested too deep. -/
def Dd (p : Ps) : Prop := p.dead = true ∧ p.err = 111
def strip (R : Bytes) : Bytes := R.drop (runB [32] R)
theorem strip_twice (R : Bytes) : strip (strip R) = strip R := by
  unfold strip
  rw [runB_drop, List.drop_zero]
theorem strip_nil : strip [] = [] := rfl
theorem strip_one {c : UInt8} {r : Bytes} (h : c ≠ 32) : strip (c :: r) = c :: r := by
  unfold strip
  have : runB [32] (c :: r) = 0 := by
    conv => lhs; unfold runB
    rw [if_neg (by simpa using h)]
  rw [this, List.drop_zero]
theorem strip_sp (r : Bytes) : strip (32 :: r) = strip r := by
  unfold strip
  have : runB [32] (32 :: r) = runB [32] r + 1 := by
    conv => lhs; unfold runB
    rw [if_pos (by simp)]
  rw [this, List.drop_succ_cons]
theorem Dd.gone {p q : Ps} (h : Dd p) (g : Gone p q) : Dd q := ⟨(g h.1).1, (g h.1).2.1.trans h.2⟩
section
variable {s R : Bytes} {p : Ps}
theorem At.rest (h : At s R p) : At s (strip R) (p.restP s) := by
  refine ⟨(restP_dead s p).trans h.1, ?_⟩
  unfold Ps.restP strip
  rw [if_neg (by simp [h.1])]
  simp only
  rw [← List.drop_drop, h.2]
theorem At.restT (h : At s R p) : p.restT s = strip R := by
  unfold Ps.restT
  rw [if_neg (by simp [h.1])]
  exact h.rest.2
theorem At.nn {l : List Bytes} (h : At s R p) (hn : ∀ o, firstSign (strip R) = some o → o ∉ l) : takeT s l p = none ∧ At s (strip R) (takeP s l p) := by
  have ht : takeT s l p = none := by
    unfold takeT
    rw [h.restT]
    split
    · rename_i x hx
      rw [if_neg (hn _ hx)]
    · rfl
  refine ⟨ht, ?_⟩
  unfold takeP
  rw [ht]
  exact h.rest
theorem At.sm {l : List Bytes} {o : Bytes} (h : At s R p) (ho : firstSign (strip R) = some o) (hl : o ∈ l) : takeT s l p = some o ∧ At s ((strip R).drop o.length) (takeP s l p) := by
  have ht : takeT s l p = some o := by
    unfold takeT
    rw [h.restT, ho]
    simp only
    rw [if_pos hl]
  refine ⟨ht, ?_⟩
  unfold takeP
  rw [ht]
  refine ⟨h.rest.1, ?_⟩
  simp only
  rw [← List.drop_drop, h.rest.2]
theorem At.move (h : At s R p) (n : Nat) : At s (R.drop n) { p with i := p.i + n } := ⟨h.1, by simp only; rw [← List.drop_drop, h.2]⟩
end
theorem first_none {c : UInt8} {r : Bytes} (h : c ∉ ([124, 38, 61, 33, 60, 62, 43, 45, 42, 47, 40, 41] : Bytes)) : firstSign (c :: r) = none := by
  simp only [List.mem_cons, List.not_mem_nil, or_false, not_or] at h
  obtain ⟨h1, h2, h3, h4, h5, h6, h7, h8, h9, h10, h11, h12⟩ := h
  unfold firstSign
  rw [List.find?_eq_none]
  intro x hx
  simp only [signsT, List.mem_cons, List.not_mem_nil, or_false] at hx
  rcases hx with rfl | rfl | rfl | rfl | rfl | rfl | rfl | rfl | rfl | rfl | rfl | rfl | rfl | rfl | rfl <;> simp [Lib.hasPrefix, List.isPrefixOf] <;> intro hh <;> (try (exfalso)) <;> simp_all
theorem first_cl (r : Bytes) : firstSign (41 :: r) = some oPR := by
  simp [firstSign, signsT, Lib.hasPrefix, List.find?, List.isPrefixOf]
theorem first_sub (r : Bytes) : firstSign (45 :: r) = some oSub := by
  simp [firstSign, signsT, Lib.hasPrefix, List.find?, List.isPrefixOf]
theorem first_not {c : UInt8} (r : Bytes) (h : c ≠ 61) : firstSign (33 :: c :: r) = some oNot := by
  have h2 : ((61 : UInt8) == c) = false := by simpa using fun e => h e.symm
  simp [firstSign, signsT, Lib.hasPrefix, List.find?, List.isPrefixOf, h2]
theorem first_op {m : Nat} (hm : m ≤ 4) {o : Bytes} (h : o ∈ levelsT.getD (4 - m) []) (r : Bytes) : firstSign (o ++ 32 :: r) = some o := by
  have key : ∀ o ∈ ([oOr, oAnd, oEq, oNe, oLe, oGe, oLt, oGt, oAdd, oSub, oMul, oDiv] : List Bytes), firstSign (o ++ 32 :: r) = some o := by
    intro o ho
    simp only [List.mem_cons, List.not_mem_nil, or_false] at ho
    rcases ho with rfl | rfl | rfl | rfl | rfl | rfl | rfl | rfl | rfl | rfl | rfl | rfl <;> simp [firstSign, signsT, Lib.hasPrefix, List.find?, List.isPrefixOf]
  have hsub : ∀ m ≤ 4, ∀ o ∈ levelsT.getD (4 - m) [], o ∈ ([oOr, oAnd, oEq, oNe, oLe, oGe, oLt, oGt, oAdd, oSub, oMul, oDiv] : List Bytes) := by decide
  exact key o (hsub m hm o h)
theorem op_other {m : Nat} (hm : m ≤ 4) {o : Bytes} (h : o ∈ levelsT.getD (4 - m) []) {k : Nat} (hk : k < m) : o ∉ levelsT.getD (4 - k) [] := by
  have : ∀ m ≤ 4, ∀ o ∈ levelsT.getD (4 - m) [], ∀ k < m, o ∉ levelsT.getD (4 - k) [] := by decide
  exact this m hm o h k hk
theorem op_head {m : Nat} (hm : m ≤ 4) {o : Bytes} (h : o ∈ levelsT.getD (4 - m) []) : ∃ c r, o = c :: r ∧ c ≠ 32 := by
  have : ∀ m ≤ 4, ∀ o ∈ levelsT.getD (4 - m) [], o.head? ≠ none ∧ o.head? ≠ some 32 := by decide
  have := this m hm o h
  cases o with
  | nil => simp at this
  | cons c r => exact ⟨c, r, rfl, by simpa using this⟩
theorem pr_no (k : Nat) (hk : k ≤ 4) : oPR ∉ levelsT.getD (4 - k) [] := by
  have : ∀ k ≤ 4, oPR ∉ levelsT.getD (4 - k) [] := by decide
  exact this k hk
/-- From a text T ++ K: the tree x, and K is left; or it nests too deep. -/
def Got (s : Bytes) (f : Ps → Ex × Ps) (T : Bytes) (x : Ex) (K : Bytes) : Prop := ∀ p R, At s R p → strip R = T ++ K → Dd (f p).2 ∨ ((f p).1 = x ∧ ∃ R', At s R' (f p).2 ∧ strip R' = strip K)
/-- No sign of a list is next. -/
def No (K : Bytes) (l : List Bytes) : Prop := ∀ o, firstSign (strip K) = some o → o ∉ l
section
variable {s : Bytes} {f u : Ps → Ex × Ps} {T K : Bytes} {x : Ex}
theorem loop_d {p : Ps} (h : Dd p) (ops : List Bytes) (al : Bool) (n : Nat) (x : Ex) : Dd (loopG (tkX s) f ops al n x p).2 := h.gone (gone_loop n x p)
theorem loop_stop {p : Ps} {R : Bytes} {ops : List Bytes} (h : At s R p) (hn : No R ops) (al : Bool) : ∀ (n : Nat) (x : Ex), (loopG (tkX s) f ops al n x p).1 = x ∧ ∃ R', At s R' (loopG (tkX s) f ops al n x p).2 ∧ strip R' = strip R
  | 0, x => ⟨rfl, R, h, rfl⟩
  | n + 1, x => by
    obtain ⟨h1, h2⟩ := h.nn hn
    rw [loop_none h1]
    exact ⟨rfl, _, h2, strip_twice R⟩
theorem No.of {K R : Bytes} {l : List Bytes} (h : No K l) (e : strip R = strip K) : No R l := fun o ho => h o (by rw [← e]; exact ho)
theorem got_step {n : Nat} (h : Got s (levX s u n) T x K) (hn : No K (levelsT.getD (4 - n) [])) : Got s (levX s u (n + 1)) T x K := fun p R hp hR => by
  show Dd (loopG (tkX s) (levX s u n) (levelsT.getD (4 - n) []) (n == 2) (s.length + 1) (levX s u n p).1 (levX s u n p).2).2 ∨ _
  rcases h p R hp hR with h1 | ⟨h1, R', h2, h3⟩
  · exact .inl (loop_d h1 _ _ _ _)
  · obtain ⟨g1, R2, g2, g3⟩ := loop_stop (f := levX s u n) h2 (hn.of h3) (n == 2) (s.length + 1) (levX s u n p).1
    exact .inr ⟨g1.trans h1, R2, g2, g3.trans h3⟩
theorem got_upto {n : Nat} (h : Got s (levX s u n) T x K) : ∀ k, (∀ j, n ≤ j → j < n + k → No K (levelsT.getD (4 - j) [])) → Got s (levX s u (n + k)) T x K
  | 0, _ => h
  | k + 1, hn => got_step (got_upto h k (fun j h1 h2 => hn j h1 (by omega))) (hn (n + k) (by omega) (by omega))
/-- Two operands. -/
theorem got_two {m : Nat} (hm : m ≤ 4) {o : Bytes} (ho : o ∈ levelsT.getD (4 - m) []) {A B : Bytes} {a b : Ex} (hA : Got s u A a (32 :: o ++ (32 :: (B ++ K)))) (hB : Got s u B b K) (hb : strip (B ++ K) = B ++ K) (hK : ∀ j ≤ m, No K (levelsT.getD (4 - j) [])) : Got s (levX s u (m + 1)) (A ++ (32 :: o ++ (32 :: B))) (exC o [a, b]) K := fun p R hp hR => by
  obtain ⟨c, r, hc, hc2⟩ := op_head hm ho
  have hst : strip (32 :: o ++ (32 :: (B ++ K))) = o ++ (32 :: (B ++ K)) := by
    show strip (32 :: (o ++ (32 :: (B ++ K)))) = _
    rw [strip_sp, hc]
    exact strip_one hc2
  have hfs : firstSign (strip (32 :: o ++ (32 :: (B ++ K)))) = some o := by rw [hst]; exact first_op hm ho _
  have h1 : Got s (levX s u m) A a (32 :: o ++ (32 :: (B ++ K))) := by
    have := got_upto (n := 0) (u := u) hA m (fun j _ hj o' ho' => by rw [hfs] at ho'; cases ho'; exact op_other hm ho (by omega))
    rwa [Nat.zero_add] at this
  have h2 : Got s (levX s u m) B b K := by
    have := got_upto (n := 0) (u := u) hB m (fun j _ hj => hK j (by omega))
    rwa [Nat.zero_add] at this
  show Dd (loopG (tkX s) (levX s u m) (levelsT.getD (4 - m) []) (m == 2) (s.length + 1) (levX s u m p).1 (levX s u m p).2).2 ∨ _
  rcases h1 p R hp (by rw [hR]; simp) with g1 | ⟨g1, R', g2, g3⟩
  · exact .inl (loop_d g1 _ _ _ _)
  have hfs' : firstSign (strip R') = some o := by rw [g3]; exact hfs
  obtain ⟨t1, t2⟩ := g2.sm hfs' ho
  have hleft : (strip R').drop o.length = 32 :: (B ++ K) := by rw [g3, hst]; simp
  rw [hleft] at t2
  have hl2 : strip (32 :: (B ++ K)) = B ++ K := by rw [strip_sp]; exact hb
  show Dd (loopG (tkX s) (levX s u m) (levelsT.getD (4 - m) []) (m == 2) (s.length + 1) (levX s u m p).1 (levX s u m p).2).2 ∨ ((loopG (tkX s) (levX s u m) (levelsT.getD (4 - m) []) (m == 2) (s.length + 1) (levX s u m p).1 (levX s u m p).2).1 = _ ∧ ∃ R', At s R' (loopG (tkX s) (levX s u m) (levelsT.getD (4 - m) []) (m == 2) (s.length + 1) (levX s u m p).1 (levX s u m p).2).2 ∧ _)
  cases hal : (m == 2) with
  | true =>
    rw [loop_alone t1]
    rcases h2 _ _ t2 hl2 with k1 | ⟨k1, R2, k2, k3⟩
    · exact .inl k1
    · exact .inr ⟨by rw [g1, k1], R2, k2, k3⟩
  | false =>
    rw [loop_more t1]
    rcases h2 _ _ t2 hl2 with k1 | ⟨k1, R2, k2, k3⟩
    · exact .inl (loop_d k1 _ _ _ _)
    · obtain ⟨e1, R3, e2, e3⟩ := loop_stop (f := levX s u m) k2 ((hK m (Nat.le_refl _)).of k3) false s.length (exC o [(levX s u m p).1, (levX s u m (takeP s (levelsT.getD (4 - m) []) (levX s u m p).2)).1])
      exact .inr ⟨by rw [e1, g1, k1], R3, e2, e3.trans k3⟩
theorem got_expr {d : Nat} (h : Got s (levX s u 5) T x K) (hg : ∀ p, Gone p (u p).2) (hT : strip (T ++ K) = T ++ K) : Got s (exprX s u d) T x K := fun p R hp hR => by
  unfold exprX
  by_cases hd : 32 < d
  · refine .inl (Dd.gone ?_ (gone_lev hg 5 _))
    unfold enterP Ps.fails
    rw [if_pos hd, if_neg (by rw [restP_dead, hp.1]; simp)]
    exact ⟨rfl, rfl⟩
  · have he : enterP s d p = p.restP s := by unfold enterP; rw [if_neg hd]
    rw [he]
    exact h _ _ hp.rest (by rw [strip_twice]; exact hR)
end
/-- What ends a word, and a number. -/
def okK (K : Bytes) : Prop := K = [] ∨ (∃ r, K = 32 :: r) ∨ ∃ r, K = 41 :: r
theorem okK.run {K : Bytes} (h : okK K) : runB gLD K = 0 ∧ runB gDig K = 0 := by
  rcases h with rfl | ⟨r, rfl⟩ | ⟨r, rfl⟩
  · exact ⟨rfl, rfl⟩
  · constructor <;> (conv => lhs; unfold runB) <;> rw [if_neg (by decide)]
  · constructor <;> (conv => lhs; unfold runB) <;> rw [if_neg (by decide)]
theorem runB_all {g : Bytes} : ∀ {w : Bytes}, runB g w = w.length → ∀ c ∈ w, c ∈ g
  | [], _ => fun c hc => absurd hc List.not_mem_nil
  | a :: r, h => by
    have e : runB g (a :: r) = if a ∈ g then runB g r + 1 else 0 := by conv => lhs; unfold runB
    rw [e] at h
    by_cases ha : a ∈ g
    · rw [if_pos ha] at h
      intro c hc
      rcases List.mem_cons.1 hc with rfl | hc
      · exact ha
      · exact runB_all (by simpa using h) c hc
    · rw [if_neg ha] at h
      simp at h
theorem runB_app {g K : Bytes} (hK : runB g K = 0) : ∀ {T : Bytes}, (∀ c ∈ T, c ∈ g) → runB g (T ++ K) = T.length
  | [], _ => by simpa using hK
  | c :: T, h => by
    show runB g (c :: (T ++ K)) = _
    conv => lhs; unfold runB
    rw [if_pos (h c (.head _)), runB_app hK (fun c hc => h c (.tail _ hc))]
    rfl
theorem runB_ext {g K : Bytes} (hK : runB g K = 0) : ∀ T : Bytes, runB g (T ++ K) = runB g T
  | [] => by simpa [runB] using hK
  | c :: T => by
    show runB g (c :: (T ++ K)) = _
    unfold runB
    rw [runB_ext hK T]
end Go.KX
namespace Go.KX
/-- What a printed text begins with. -/
def Hd (c : UInt8) : Prop := c ∈ ([40, 36, 45, 33] : Bytes) ∨ c ∈ gDig ∨ c ∈ gLet
theorem Hd.ne {c : UInt8} (h : Hd c) : c ≠ 32 ∧ c ≠ 61 := by
  have h1 : ∀ c ∈ ([40, 36, 45, 33] : Bytes), c ≠ 32 ∧ c ≠ 61 := by decide
  have h2 : ∀ c ∈ gDig, c ≠ 32 ∧ c ≠ 61 := by decide
  have h3 : ∀ c ∈ gLet, c ≠ 32 ∧ c ≠ 61 := by decide
  rcases h with h | h | h
  · exact h1 c h
  · exact h2 c h
  · exact h3 c h
theorem dgt_mem {c : UInt8} (h : dgt c) : c ∈ gDig := by
  have h1 : ∀ n : Fin 58, 48 ≤ n.val → UInt8.ofNat n.val ∈ gDig := by decide
  have := h1 ⟨c.toNat, by have := h.2; omega⟩ h.1
  simpa using this
theorem fn_let {o : Bytes} (h : functionB o = true) : (∃ c r, o = c :: r ∧ c ∈ gLet) ∧ (∀ c ∈ o, c ∈ gLD) ∧ o ≠ wNull ∧ o ≠ wNan ∧ o ≠ wInf := by
  unfold functionB at h
  have h := of_decide_eq_true h
  simp only [List.mem_cons, List.not_mem_nil, or_false] at h
  rcases h with rfl | rfl | rfl | rfl | rfl | rfl
  all_goals exact ⟨⟨_, _, rfl, by decide⟩, by decide, by decide, by decide, by decide⟩
theorem num_text {v : Val} (h : numT v) : ∃ T, printX (exN v) = T ∧ (T = wNull ∧ v = nullV ∨ T = wNan ∧ v = nanV ∨ T = wInf ∧ v = plusV ∨ (isV v = true ∧ v.k = 1 ∧ 0 ≤ v.n ∧ T = printV v ∧ T = magV v.n.natAbs)) := by
  refine ⟨_, rfl, ?_⟩
  rw [print_num3]
  rcases h with rfl | rfl | rfl | ⟨h1, h2, h3⟩
  · exact .inl ⟨by decide, rfl⟩
  · exact .inr (.inl ⟨by decide, rfl⟩)
  · exact .inr (.inr (.inl ⟨by decide, rfl⟩))
  · refine .inr (.inr (.inr ⟨h1, h2, h3, ?_, ?_⟩))
    · rw [if_neg (by omega), if_neg (by omega)]
    · rw [if_neg (by omega), if_neg (by omega), print_num h1 h2, if_neg (by omega)]
theorem opd_not2 {x : Ex} (h : ¬ x.kids.length = 2) : opdX x = printX x := by unfold opdX; rw [if_neg h]
theorem opd_two (n : Bytes) (a b : Ex) : opdX (exC n [a, b]) = 40 :: (printX (exC n [a, b]) ++ [41]) := rfl
theorem head_opd {x : Ex} (h : Wf x) : ∃ c r, opdX x = c :: r ∧ Hd c := by
  induction h with
  | num h =>
    obtain ⟨T, h1, h2⟩ := num_text h
    rw [opd_not2 (by simp [Ex.kids]), h1]
    rcases h2 with ⟨rfl, _⟩ | ⟨rfl, _⟩ | ⟨rfl, _⟩ | ⟨_, _, _, _, rfl⟩
    · exact ⟨_, _, rfl, .inr (.inr (by decide))⟩
    · exact ⟨_, _, rfl, .inr (.inr (by decide))⟩
    · exact ⟨_, _, rfl, .inr (.inr (by decide))⟩
    · obtain ⟨c, r, h3, h4⟩ := mag_head (Int.natAbs _)
      exact ⟨c, r, h3, .inr (.inl (dgt_mem h4))⟩
  | ref h => rw [opd_not2 (by simp [Ex.kids]), print_ref]; exact ⟨_, _, rfl, .inl (by decide)⟩
  | @sign o x h hx ih =>
    have hf : functionB o = false := by
      simp only [List.mem_cons, List.not_mem_nil, or_false] at h
      rcases h with rfl | rfl <;> decide
    rw [opd_not2 (by simp [Ex.kids]), print_one, hf]
    simp only [List.mem_cons, List.not_mem_nil, or_false] at h
    rcases h with rfl | rfl <;> exact ⟨_, _, rfl, .inl (by decide)⟩
  | fn h hx ih =>
    rw [opd_not2 (by simp [Ex.kids]), print_one, h, if_pos rfl]
    obtain ⟨⟨c, r, rfl, hc⟩, _⟩ := fn_let h
    exact ⟨c, _, rfl, .inr (.inr hc)⟩
  | bin m hm h hx hy ihx ihy => exact ⟨_, _, opd_two _ _ _, .inl (by decide)⟩
theorem head_print {x : Ex} (h : Wf x) : ∃ c r, printX x = c :: r ∧ Hd c := by
  by_cases h2 : x.kids.length = 2
  · cases h with
    | num h => simp [Ex.kids] at h2
    | ref h => simp [Ex.kids] at h2
    | sign h hx => simp [Ex.kids] at h2
    | fn h hx => simp [Ex.kids] at h2
    | bin m hm h hx hy =>
      obtain ⟨c, r, h1, h3⟩ := head_opd hx
      rw [print_two, h1]
      exact ⟨c, _, rfl, h3⟩
  · rw [← opd_not2 h2]; exact head_opd h
theorem strip_head {T K : Bytes} (h : ∃ c r, T = c :: r ∧ Hd c) : strip (T ++ K) = T ++ K := by
  obtain ⟨c, r, rfl, hc⟩ := h
  exact strip_one hc.ne.1
section
variable {s : Bytes}
theorem At.i {R R' : Bytes} {p : Ps} (h : At s R p) (e : R = R') : At s R' p := e ▸ h
theorem got_un0 {T K : Bytes} {x : Ex} : Got s (unX parseV s 0) T x K := fun p R hp _ => by
  refine .inl (Dd.gone (p := enterP s 33 p) ?_ ((gone_take [oSub, oNot] (enterP s 33 p)).trans (gone_prim (pv := parseV) (s := s) (fun q => (ex0, q)) _)))
  unfold enterP Ps.fails
  rw [if_pos (by decide), if_neg (by rw [restP_dead, hp.1]; simp)]
  exact ⟨rfl, rfl⟩
/-- No sign ahead: what prim takes. -/
theorem got_unS {T K : Bytes} {x : Ex} {d : Nat} (hn : No (T ++ K) [oSub, oNot]) (hT : strip (T ++ K) = T ++ K) (h : ∀ p, At s (T ++ K) p → Dd (primX parseV s (exprX s (unX parseV s d) (33 - d)) p).2 ∨ ((primX parseV s (exprX s (unX parseV s d) (33 - d)) p).1 = x ∧ ∃ R', At s R' (primX parseV s (exprX s (unX parseV s d) (33 - d)) p).2 ∧ strip R' = strip K)) : Got s (unX parseV s (d + 1)) T x K := fun p R hp hR => by
  have he : enterP s (32 - d) p = p.restP s := by unfold enterP; rw [if_neg (by omega)]
  have h1 := (hp.rest.i hR).nn (l := [oSub, oNot]) hn
  rw [hT] at h1
  rw [un_none (by rw [he]; exact h1.1), he]
  exact h _ h1.2
theorem no_plain {c : UInt8} {r : Bytes} (hc : c = 36 ∨ c ∈ gDig ∨ c ∈ gLet) (l : List Bytes) : No (c :: r) l := by
  have h1 : c ≠ 32 ∧ c ∉ ([124, 38, 61, 33, 60, 62, 43, 45, 42, 47, 40, 41] : Bytes) := by
    have h2 : ∀ c ∈ gDig, c ≠ 32 ∧ c ∉ ([124, 38, 61, 33, 60, 62, 43, 45, 42, 47, 40, 41] : Bytes) := by decide
    have h3 : ∀ c ∈ gLet, c ≠ 32 ∧ c ∉ ([124, 38, 61, 33, 60, 62, 43, 45, 42, 47, 40, 41] : Bytes) := by decide
    rcases hc with rfl | h | h
    · decide
    · exact h2 c h
    · exact h3 c h
  intro o ho
  rw [strip_one h1.1, first_none h1.2] at ho
  cases ho
theorem prim_at {ex : Ps → Ex × Ps} {c : UInt8} {r : Bytes} {p : Ps} (hp : At s (c :: r) p) (hc : c ≠ 32) : primX parseV s ex p = if c = 40 then parX s ex { p.restP s with i := (p.restP s).i + 1 } else if c = 36 then refX (c :: r) (p.restP s) else if c ∈ gDig then numberX parseV (c :: r) (p.restP s) else if c ∈ gLet then wordX s ex (c :: r) (p.restP s) else (ex0, (p.restP s).fails 110 (p.restP s).i) := prim_cons hp.1 (hp.restT.trans (strip_one hc))
theorem At.rest1 {c : UInt8} {r : Bytes} {p : Ps} (hp : At s (c :: r) p) (hc : c ≠ 32) : At s (c :: r) (p.restP s) := hp.rest.i (strip_one hc)
/-- Behind an expression its bracket is closed. -/
theorem got_par {ex : Ps → Ex × Ps} {T K : Bytes} {x : Ex} {p : Ps} {R : Bytes} (h : Got s ex T x (41 :: K)) (hp : At s R p) (hR : strip R = T ++ (41 :: K)) : Dd (parX s ex p).2 ∨ ((parX s ex p).1 = x ∧ At s K (parX s ex p).2) := by
  unfold parX
  rcases h p R hp hR with h1 | ⟨h1, R', h2, h3⟩
  · exact .inl (h1.gone (gone_must _ _))
  · rw [strip_one (by decide)] at h3
    obtain ⟨t1, t2⟩ := h2.sm (l := [oPR]) (by rw [h3]; exact first_cl K) (by simp)
    refine .inr ⟨h1, ?_⟩
    unfold mustP
    rw [t1]
    exact t2.i (by rw [h3]; rfl)
theorem no_par (K : Bytes) {k : Nat} (hk : k ≤ 4) : No (41 :: K) (levelsT.getD (4 - k) []) := fun o ho => by
  rw [strip_one (by decide), first_cl] at ho
  cases ho
  exact pr_no k hk
theorem no_nil (l : List Bytes) : No [] l := fun o ho => by
  rw [strip_nil, first_nil] at ho
  cases ho
theorem word_at {ex : Ps → Ex × Ps} {w K : Bytes} (hw : ∀ c ∈ w, c ∈ gLD) (hK : runB gLD K = 0) : (w ++ K).take (runB gLD (w ++ K)) = w := by
  rw [runB_app hK hw, List.take_left]
theorem num_word {ex : Ps → Ex × Ps} {w K : Bytes} {v : Val} {p : Ps} (h : w = wNull ∧ v = nullV ∨ w = wNan ∧ v = nanV ∨ w = wInf ∧ v = plusV) (hK : okK K) (hp : At s (w ++ K) p) : (wordX s ex (w ++ K) p).1 = exN v ∧ At s K (wordX s ex (w ++ K) p).2 := by
  have hw : ∀ c ∈ w, c ∈ gLD := by rcases h with ⟨rfl, _⟩ | ⟨rfl, _⟩ | ⟨rfl, _⟩ <;> decide
  have e := word_at (ex := ex) hw hK.run.1
  have hm := (hp.move w.length).i (List.drop_left)
  unfold wordX
  rw [e]
  simp only
  rcases h with ⟨rfl, rfl⟩ | ⟨rfl, rfl⟩ | ⟨rfl, rfl⟩
  · rw [if_pos rfl]; exact ⟨rfl, hm⟩
  · rw [if_neg (by decide), if_pos rfl]; exact ⟨rfl, hm⟩
  · rw [if_neg (by decide), if_neg (by decide), if_pos rfl]; exact ⟨rfl, hm⟩
theorem numLen_at {n : Nat} {K : Bytes} (hK : okK K) : numLen (magV n ++ K) = (magV n).length := by
  obtain ⟨t, _, h2, _, h4⟩ := mag_parts (n := n)
  have hd : ∀ c ∈ Lib.decDigits (n / 1000), c ∈ gDig := fun c hc => dgt_mem (dgt_dec _ c hc)
  rw [h2]
  generalize Lib.decDigits (n / 1000) = D at hd
  by_cases ht : t = []
  · subst ht
    rw [if_pos rfl, List.append_nil]
    unfold numLen
    rw [runB_app hK.run.2 hd, if_neg]
    rintro ⟨g1, g2, _⟩
    rcases hK with rfl | ⟨r, rfl⟩ | ⟨r, rfl⟩
    · simp at g1; omega
    · simp [List.getD_eq_getElem?_getD] at g2
    · simp [List.getD_eq_getElem?_getD] at g2
  · rw [if_neg ht]
    have h46 : runB gDig (46 :: t ++ K) = 0 := by
      show runB gDig (46 :: (t ++ K)) = 0
      conv => lhs; unfold runB
      rw [if_neg (by decide)]
    have hr : runB gDig (D ++ 46 :: t ++ K) = D.length := by rw [List.append_assoc]; exact runB_app h46 hd
    have hdr : (D ++ 46 :: t ++ K).drop (D.length + 1) = t ++ K := by
      rw [← List.drop_drop, List.append_assoc, List.drop_left]; rfl
    have ht2 : runB gDig (t ++ K) = t.length := runB_app hK.run.2 (fun c hc => dgt_mem (h4 c hc))
    have hpos : 0 < t.length := List.length_pos_iff.2 ht
    unfold numLen
    rw [hr, hdr, ht2, if_pos ⟨by simp; omega, by simp [List.getD_eq_getElem?_getD], hpos⟩]
    simp; omega
theorem num_at {v : Val} {K : Bytes} {p : Ps} (hv : isV v = true) (hk : v.k = 1) (hn : 0 ≤ v.n) (hK : okK K) (hp : At s (magV v.n.natAbs ++ K) p) : (numberX parseV (magV v.n.natAbs ++ K) p).1 = exN v ∧ At s K (numberX parseV (magV v.n.natAbs ++ K) p).2 := by
  have hpr : printV v = magV v.n.natAbs := by rw [print_num hv hk, if_neg (by omega)]
  have hpv : parseV (magV v.n.natAbs) = (v, 0) := by
    obtain ⟨c, r, h1, h2⟩ := mag_head v.n.natAbs
    have hne : ∀ w : Bytes, w.head? ≠ some c → magV v.n.natAbs ≠ w := fun w hw e => hw (by rw [← e, h1]; rfl)
    have hc : c ≠ 110 ∧ c ≠ 78 ∧ c ≠ 43 ∧ c ≠ 45 := by
      have : ∀ c ∈ gDig, c ≠ 110 ∧ c ≠ 78 ∧ c ≠ 43 ∧ c ≠ 45 := by decide
      exact this c (dgt_mem h2)
    refine parse_num ⟨hne _ ?_, hne _ ?_, hne _ ?_, hne _ ?_⟩ (.inl ⟨v, ⟨hv, hk, hpr⟩, rfl⟩)
    · simpa using hc.1.symm
    · simpa using hc.2.1.symm
    · simpa using hc.2.2.1.symm
    · simpa using hc.2.2.2.symm
  have e : (magV v.n.natAbs ++ K).take (numLen (magV v.n.natAbs ++ K)) = magV v.n.natAbs := by rw [numLen_at hK, List.take_left]
  unfold numberX
  rw [e, hpv]
  refine ⟨rfl, ?_⟩
  simp only [if_true]
  exact (hp.move _).i (by rw [numLen_at hK, List.drop_left])
/-- The tree of what is printed. -/
theorem got_all {x : Ex} (h : Wf x) : (∀ d K, okK K → Got s (unX parseV s d) (opdX x) x K) ∧ (∀ d dp K, (K = [] ∨ ∃ r, K = 41 :: r) → Got s (exprX s (unX parseV s d) dp) (printX x) x K) := by
  have hokE : ∀ K : Bytes, (K = [] ∨ ∃ r, K = 41 :: r) → okK K := fun K hK => hK.elim .inl (fun h => .inr (.inr h))
  have hno : ∀ K : Bytes, (K = [] ∨ ∃ r, K = 41 :: r) → ∀ j, j ≤ 4 → No K (levelsT.getD (4 - j) []) := fun K hK j hj => by
    rcases hK with rfl | ⟨r, rfl⟩
    · exact no_nil _
    · exact no_par r hj
  have lift : ∀ {x : Ex}, ¬ x.kids.length = 2 → Wf x → (∀ d K, okK K → Got s (unX parseV s d) (opdX x) x K) → (∀ d dp K, (K = [] ∨ ∃ r, K = 41 :: r) → Got s (exprX s (unX parseV s d) dp) (printX x) x K) := fun {x} h2 hw hU d dp K hK => by
    have h1 := hU d K (hokE K hK)
    rw [opd_not2 h2] at h1
    have h3 := got_upto (n := 0) h1 5 (fun j _ hj => hno K hK j (by omega))
    exact got_expr h3 (gone_un d) (strip_head (head_print hw))
  induction h with
  | @num v hv =>
    have hU : ∀ d K, okK K → Got s (unX parseV s d) (opdX (exN v)) (exN v) K := fun d K hK => by
      cases d with
      | zero => exact got_un0
      | succ d =>
        obtain ⟨c, r, hc, _⟩ := head_opd (.num hv)
        obtain ⟨T, hT, hT2⟩ := num_text hv
        have hop : opdX (exN v) = T := (opd_not2 (by simp [Ex.kids])).trans hT
        rw [hop] at hc ⊢
        have hcc : c ∈ gDig ∨ c ∈ gLet := by
          rcases hT2 with ⟨e, _⟩ | ⟨e, _⟩ | ⟨e, _⟩ | ⟨_, _, _, _, e⟩
          · rw [hc] at e; injection e with e _; subst e; exact .inr (by decide)
          · rw [hc] at e; injection e with e _; subst e; exact .inr (by decide)
          · rw [hc] at e; injection e with e _; subst e; exact .inr (by decide)
          · obtain ⟨c', r', h3, h4⟩ := mag_head v.n.natAbs
            rw [hc, h3] at e; injection e with e _; subst e; exact .inl (dgt_mem h4)
        have hnesp : c ≠ 32 := Hd.ne (c := c) (hcc.elim (fun h => .inr (.inl h)) (fun h => .inr (.inr h))) |>.1
        have hst : strip (T ++ K) = T ++ K := by rw [hc]; exact strip_one hnesp
        refine got_unS (by rw [hc]; exact no_plain (.inr hcc) _) hst (fun p hp => ?_)
        have hp' : At s (c :: (r ++ K)) p := hp.i (by rw [hc]; rfl)
        have hp2 := (hp'.rest1 hnesp).i (show _ = T ++ K by rw [hc]; rfl)
        have h40 : c ≠ 40 ∧ c ≠ 36 := by
          have h2 : ∀ c ∈ gDig, c ≠ 40 ∧ c ≠ 36 := by decide
          have h3 : ∀ c ∈ gLet, c ≠ 40 ∧ c ≠ 36 := by decide
          exact hcc.elim (h2 c) (h3 c)
        rw [prim_at hp' hnesp, if_neg h40.1, if_neg h40.2, show c :: (r ++ K) = T ++ K by rw [hc]; rfl]
        have words : (T = wNull ∧ v = nullV ∨ T = wNan ∧ v = nanV ∨ T = wInf ∧ v = plusV) → _ := fun hw => by
          have hcl : c ∉ gDig ∧ c ∈ gLet := by
            rcases hw with ⟨e, _⟩ | ⟨e, _⟩ | ⟨e, _⟩ <;> (rw [hc] at e; injection e with e _; subst e; decide)
          have := num_word (ex := exprX s (unX parseV s d) (33 - d)) hw hK hp2
          exact show _ ∨ _ from (by rw [if_neg hcl.1, if_pos hcl.2]; exact .inr ⟨this.1, K, this.2, rfl⟩ : Dd (if c ∈ gDig then numberX parseV (T ++ K) (p.restP s) else if c ∈ gLet then wordX s (exprX s (unX parseV s d) (33 - d)) (T ++ K) (p.restP s) else (ex0, (p.restP s).fails 110 (p.restP s).i)).2 ∨ ((if c ∈ gDig then numberX parseV (T ++ K) (p.restP s) else if c ∈ gLet then wordX s (exprX s (unX parseV s d) (33 - d)) (T ++ K) (p.restP s) else (ex0, (p.restP s).fails 110 (p.restP s).i)).1 = exN v ∧ ∃ R', At s R' (if c ∈ gDig then numberX parseV (T ++ K) (p.restP s) else if c ∈ gLet then wordX s (exprX s (unX parseV s d) (33 - d)) (T ++ K) (p.restP s) else (ex0, (p.restP s).fails 110 (p.restP s).i)).2 ∧ strip R' = strip K))
        rcases hT2 with h | h | h | ⟨h1, h2, h3, _, e⟩
        · exact words (.inl h)
        · exact words (.inr (.inl h))
        · exact words (.inr (.inr h))
        · obtain ⟨c', r', h4, h5⟩ := mag_head v.n.natAbs
          have : c = c' := by rw [hc, h4] at e; injection e
          subst this
          rw [if_pos (dgt_mem h5)]
          rw [e] at hp2 ⊢
          have := num_at h1 h2 h3 hK hp2
          exact .inr ⟨this.1, K, this.2, rfl⟩
    exact ⟨hU, lift (by simp [Ex.kids]) (.num hv) hU⟩
  | @ref n hn =>
    have hU : ∀ d K, okK K → Got s (unX parseV s d) (opdX (exR n)) (exR n) K := fun d K hK => by
      cases d with
      | zero => exact got_un0
      | succ d =>
        rw [opd_not2 (by simp [Ex.kids]), print_ref]
        refine got_unS (no_plain (.inl rfl) _) (strip_one (by decide)) (fun p hp => ?_)
        have hw : ∀ c ∈ n, c ∈ gLD := by
          unfold refB at hn
          split at hn
          · cases hn
          · simp only [Bool.and_eq_true, decide_eq_true_eq] at hn
            exact runB_all hn.2
        have hp' : At s (36 :: (n ++ K)) p := hp
        rw [prim_at hp' (by decide), if_neg (by decide), if_pos rfl]
        have e : ((36 :: (n ++ K)).drop 1).take (runB gLD ((36 :: (n ++ K)).drop 1)) = n := word_at (ex := fun q => (ex0, q)) hw hK.run.1
        unfold refX
        simp only
        rw [e, if_pos hn]
        refine .inr ⟨rfl, K, ((hp'.rest1 (by decide)).move (1 + n.length)).i ?_, rfl⟩
        rw [Nat.add_comm, List.drop_succ_cons, List.drop_left]
    exact ⟨hU, lift (by simp [Ex.kids]) (.ref hn) hU⟩
  | @sign o x ho hx ih =>
    have hU : ∀ d K, okK K → Got s (unX parseV s d) (opdX (exC o [x])) (exC o [x]) K := fun d K hK => by
      cases d with
      | zero => exact got_un0
      | succ d =>
        have hf : functionB o = false := by
          simp only [List.mem_cons, List.not_mem_nil, or_false] at ho
          rcases ho with rfl | rfl <;> decide
        have hop : opdX (exC o [x]) = o ++ opdX x := by rw [opd_not2 (by simp [Ex.kids]), print_one, hf]; rfl
        rw [hop]
        obtain ⟨c, r, hc, hcH⟩ := head_opd hx
        intro p R hp hR
        have he : enterP s (32 - d) p = p.restP s := by unfold enterP; rw [if_neg (by omega)]
        have h1 := hp.rest.i hR
        have hfs : firstSign (strip (o ++ opdX x ++ K)) = some o := by
          rw [hc]
          simp only [List.mem_cons, List.not_mem_nil, or_false] at ho
          rcases ho with rfl | rfl
          · show firstSign (strip (45 :: (c :: r ++ K))) = _
            rw [strip_one (by decide)]; exact first_sub _
          · show firstSign (strip (33 :: c :: (r ++ K))) = _
            rw [strip_one (by decide)]; exact first_not _ hcH.ne.2
        have hst : strip (o ++ opdX x ++ K) = o ++ (opdX x ++ K) := by
          simp only [List.mem_cons, List.not_mem_nil, or_false] at ho
          rcases ho with rfl | rfl
          · exact strip_one (by decide)
          · exact strip_one (by decide)
        obtain ⟨t1, t2⟩ := h1.sm hfs ho
        rw [un_some (by rw [he]; exact t1), he]
        rw [hst, List.drop_left] at t2
        rcases ih.1 d K hK _ _ t2 (strip_head (head_opd hx)) with g1 | ⟨g1, R', g2, g3⟩
        · exact .inl g1
        · exact .inr ⟨by rw [g1], R', g2, g3⟩
    exact ⟨hU, lift (by simp [Ex.kids]) (.sign ho hx) hU⟩
  | @fn o x ho hx ih =>
    have hU : ∀ d K, okK K → Got s (unX parseV s d) (opdX (exC o [x])) (exC o [x]) K := fun d K hK => by
      cases d with
      | zero => exact got_un0
      | succ d =>
        obtain ⟨⟨c, r, hc, hcl⟩, hw, w1, w2, w3⟩ := fn_let ho
        have hop : opdX (exC o [x]) = o ++ (40 :: (printX x ++ [41])) := by rw [opd_not2 (by simp [Ex.kids]), print_one, if_pos ho]
        rw [hop]
        have hnesp : c ≠ 32 := (Hd.ne (.inr (.inr hcl))).1
        have hform : o ++ (40 :: (printX x ++ [41])) ++ K = c :: (r ++ (40 :: (printX x ++ [41])) ++ K) := by rw [hc]; rfl
        refine got_unS (by rw [hform]; exact no_plain (.inr (.inr hcl)) _) (by rw [hform]; exact strip_one hnesp) (fun p hp => ?_)
        have hp' := hp.i hform
        have h40 : c ≠ 40 ∧ c ≠ 36 ∧ c ∉ gDig := by
          have h3 : ∀ c ∈ gLet, c ≠ 40 ∧ c ≠ 36 ∧ c ∉ gDig := by decide
          exact h3 c hcl
        rw [prim_at hp' hnesp, if_neg h40.1, if_neg h40.2.1, if_neg h40.2.2, if_pos hcl]
        have hp2 := hp'.rest1 hnesp
        have hform2 : c :: (r ++ (40 :: (printX x ++ [41])) ++ K) = o ++ (40 :: (printX x ++ (41 :: K))) := by rw [hc]; simp
        rw [hform2] at hp2 ⊢
        have e : (o ++ (40 :: (printX x ++ (41 :: K)))).take (runB gLD (o ++ (40 :: (printX x ++ (41 :: K))))) = o := by
          refine word_at (ex := fun q => (ex0, q)) hw ?_
          conv => lhs; unfold runB
          rw [if_neg (by decide)]
        unfold wordX
        simp only
        rw [e, if_neg w1, if_neg w2, if_neg w3, if_pos ho]
        have hm := (hp2.move o.length).i (List.drop_left)
        have hmust : At s (printX x ++ (41 :: K)) (mustP s oPL { p.restP s with i := (p.restP s).i + o.length }) := by
          obtain ⟨t1, t2⟩ := hm.sm (l := [oPL]) (by rw [strip_one (by decide)]; exact first_par _) (by simp)
          unfold mustP
          rw [t1]
          exact t2.i (by rw [strip_one (by decide)]; rfl)
        rcases got_par (ih.2 d (33 - d) (41 :: K) (.inr ⟨K, rfl⟩)) hmust (strip_head (head_print hx)) with g1 | ⟨g1, g2⟩
        · exact .inl g1
        · exact .inr ⟨by rw [g1], K, g2, rfl⟩
    exact ⟨hU, lift (by simp [Ex.kids]) (.fn ho hx) hU⟩
  | @bin o x y m hm ho hx hy ihx ihy =>
    have hE : ∀ d dp K, (K = [] ∨ ∃ r, K = 41 :: r) → Got s (exprX s (unX parseV s d) dp) (printX (exC o [x, y])) (exC o [x, y]) K := fun d dp K hK => by
      rw [print_two]
      have h1 := got_two (m := m) hm ho (ihx.1 d (32 :: o ++ (32 :: (opdX y ++ K))) (.inr (.inl ⟨_, rfl⟩))) (ihy.1 d K (hokE K hK)) (strip_head (head_opd hy)) (fun j hj => hno K hK j (by omega))
      have h2 := got_upto h1 (4 - m) (fun j _ hj => hno K hK j (by omega))
      rw [show m + 1 + (4 - m) = 5 by omega] at h2
      refine got_expr h2 (gone_un d) ?_
      obtain ⟨c, r, h3, h4⟩ := head_opd hx
      rw [h3]
      exact strip_one h4.ne.1
    refine ⟨fun d K hK => ?_, hE⟩
    cases d with
    | zero => exact got_un0
    | succ d =>
      rw [opd_two]
      have hform : 40 :: (printX (exC o [x, y]) ++ [41]) ++ K = 40 :: (printX (exC o [x, y]) ++ (41 :: K)) := by simp
      refine got_unS (fun o' ho' => ?_) (by rw [hform]; exact strip_one (by decide)) (fun p hp => ?_)
      · rw [hform, strip_one (by decide), first_par] at ho'
        cases ho'
        decide
      · have hp' := hp.i hform
        rw [prim_at hp' (by decide), if_pos rfl]
        have hmv := ((hp'.rest1 (by decide)).move 1).i (show _ = printX (exC o [x, y]) ++ (41 :: K) from rfl)
        rcases got_par (hE d (33 - d) (41 :: K) (.inr ⟨K, rfl⟩)) hmv (strip_head (head_print (.bin m hm ho hx hy))) with g1 | ⟨g1, g2⟩
        · exact .inl g1
        · exact .inr ⟨g1, K, g2, rfl⟩
theorem parse_shut {x : Ex} {R : Bytes} (hs : s.length ≤ 1024) (h : Dd (exprX s (unX parseV s 33) 0 ⟨0, 0, 0, false⟩).2 ∨ ((exprX s (unX parseV s 33) 0 ⟨0, 0, 0, false⟩).1 = x ∧ At s R (exprX s (unX parseV s 33) 0 ⟨0, 0, 0, false⟩).2 ∧ strip R = [])) : (parseX parseV s).2.1 = 111 ∨ parseX parseV s = (x, 0, 0) := by
  unfold parseX
  rw [if_neg (by omega)]
  simp only
  generalize exprX s (unX parseV s 33) 0 ⟨0, 0, 0, false⟩ = A at h ⊢
  rcases h with ⟨h1, h2⟩ | ⟨h1, h2, h3⟩
  · have hT : A.2.restT s = [] := by unfold Ps.restT; rw [if_pos h1]
    have hr := gone_rest (s := s) A.2 h1
    rw [if_pos hT, if_pos hr.1]
    exact .inl (hr.2.1.trans h2)
  · have hT := h2.restT
    rw [h3] at hT
    rw [if_pos hT, if_neg (by rw [restP_dead, h2.1]; simp), h1]
    exact .inr rfl
/-- What is printed is parsed to the same tree, or it nests too deep. -/
theorem parse_back {x : Ex} (h : Wf x) (hl : (printX x).length ≤ 1024) : (parseX parseV (printX x)).2.1 = 111 ∨ parseX parseV (printX x) = (x, 0, 0) := by
  have h0 : At (printX x) (printX x) ⟨0, 0, 0, false⟩ := ⟨rfl, rfl⟩
  have hs : strip (printX x) = printX x ++ [] := by
    have := strip_head (K := []) (head_print h)
    simpa using this
  rcases (got_all (s := printX x) h).2 33 0 [] (.inl rfl) _ _ h0 hs with g1 | ⟨g1, R', g2, g3⟩
  · exact parse_shut (R := []) hl (.inl g1)
  · exact parse_shut (R := R') hl (.inr ⟨g1, g2, g3⟩)
end
end Go.KX
