/- VN EC YD YE YF YG ZE ZF ZG YH YI YJ YK YL YM YN YO EE. -/
import Derived.Test.YtomkgfdigldhcaaGreatDoorLIG
set_option maxRecDepth 100000
namespace Go.KX
section
variable {X : Kx} {k : List It} {L : SL} {M : SM} {fs : List MF} {own : List aH} {arr : Array Oper} {l : List Oper} {o : Oper}
theorem sal (b i j : Nat) {T n : Nat} {M2 : SM} (h : ES X arr l k L M2 fs own) (hm : fZ M b = some (.c T [.o i n]) := by rfl) (hu : fU M b (.c T [.o j n]) some = some M2 := by rfl) (hoL : cU j L = false := by rfl) (hoM : eM j M = false := by rfl) (hlt : Nat.blt j 1000 = true := by rfl) (hij : Nat.beq i j = false := by rfl) (hbj : Nat.beq b j = false := by rfl) : ES X arr l k L M fs own := by
 intro g a s
 obtain ⟨ρ, ms, s1, s2, s3⟩ := s
 have hlt : j < 1000 := by simpa [Nat.blt_eq] using hlt
 have hij : i ≠ j := by intro e; subst e; rw [Nat.beq_refl] at hij; cases hij
 have hbj : b ≠ j := by intro e; subst e; rw [Nat.beq_refl] at hbj; cases hbj
 have hM := dH (y := ρ i) s2 hoM
 obtain ⟨r, m1, m2, rfl, hB, hup⟩ := hM.split hm
 obtain ⟨M3, hK, hM3⟩ := hup hu
 cases hK
 refine h g a ⟨fun q => if q = j then ρ i else ρ q, m1 ++ r :: m2, s1, hM3 g r hM ?_, fun q hq => ?_, fun t sv ht => ?_⟩
 ·cases hB with
  | c xs hd h1 =>
    refine .c xs ?_ h1
    refine ⟨hd.1, fun p s v hp hv => ?_⟩
    cases p with
    | zero =>
      simp only [List.getElem?_cons_zero, Option.some.injEq] at hp
      subst hp
      have h0 := hd.2 0 _ v rfl hv
      cases h0 with
      | o =>
        have : bC g (fun q => if q = j then ρ i else ρ q) (.o j n) (.slice ((fun q => if q = j then ρ i else ρ q) j).ad n ((fun q => if q = j then ρ i else ρ q) j).c) := .o
        simp only [if_pos, if_neg hij] at this ⊢
        exact this
    | succ p => simp at hp
 ·have : q ≠ j := by omega
  simp only [if_neg this]
  exact s3.pin q hq
 ·obtain ⟨x, hx, dx⟩ := s3.val t sv ht
  exact ⟨x, hx, dx.upd (c8 hoL t sv ht)⟩
end
theorem P9 {X : Kx} {k : List It} {L : SL} {M : SM} {fs : List MF} {fo : Operand} {ps : Array Tmp} {assign body : Code} {gf : FuncId} {caps : List SV} {args : List (List SV)} (v m : Nat) (Ms Mm : Nat → SM) (hit : Itr X.P fs gf caps args) (hm1 : m < 1000) (hv1 : v < 1000) (hLv : cU v L = false)
 (hin : ∀ j g ρ mms, aR g ρ (Ms j) mms → aR g (fun i => if i = m then ρ v else ρ (i - 1000)) (Mm j) mms) (hout : ∀ j g ρ mms, aR g ρ (Mm j) mms → aR g (fun i => if i = v then ρ m else ρ (i + 1000)) (Ms j) mms)
 (hround : ∀ (j : Nat) a, args[j]? = some a → ∀ (l : Nat) g0 B0 ρ0 Q1 Q2 own1 own2 (J : Act → World → Prop),
  (∀ {L' M'}, E ⟨⟨X.P, X.n, g0, B0, Q2, some l, []⟩, ρ0⟩ [.code body] L' M' fs own2 → E ⟨⟨X.P, X.n, g0, B0, Q1, some l, []⟩, ρ0⟩ [.lp J] L' M' fs own1) →
  (∀ {L' M'}, b9 (fun i => Nat.ble 1000 i || Nat.beq i m) M' = Mm (j + 1) → E ⟨⟨X.P, X.n, g0, B0, Q2, some l, []⟩, ρ0⟩ [] L' M' fs own2) →
  E ⟨⟨X.P, X.n, g0, B0, Q1, some l, []⟩, ρ0⟩ [.code assign, .lp J] (MM ps.toList a (W5 L)) (Mm j) fs own1)
 (hk : ∀ D, E { X with df := [lC D] } k L (Ms args.length) fs [aH.blk D (.deferred (some []))])
 (hcl : ∀ a ∈ args, nC a = true) (hps : ∀ a ∈ args, a.length = ps.size) (hfo : cO (aF L) fo = some (.f gf [] caps) := by rfl) (hpn : ps.toList.all (fun p => Nat.blt p X.n) = true := by rfl) (hM : b9 (vN (Ms 0)) M = Ms 0 := by rfl) (hrd : X.rd = none := by rfl) (hdf : X.df = [] := by rfl) : E X (.code (.rangeFunc fo ps assign body) :: k) L M fs [] := by
 intro g a hE
 obtain ⟨ρ, msl, s1, s2, s3⟩ := hE.ex
 obtain ⟨m1, m2, h4, h5⟩ := s2.keep (vN (Ms 0))
 rw [hM] at h4
 have st0 : St X.toCx [] fs m1 g a := (s1.perm (by simpa using h5)).drop
 have st : St X.toCx [] (F1 ρ (Ms 0) m1 :: F2 X ρ L a :: fs) m1 g a := ⟨st0.kn, dF.cons h4 (dF.cons s3 st0.all), st0.own, st0.ext, st0.new⟩
 have dfo := dJ s3.val hfo
 obtain ⟨xs, ys, hfe, d1, d2⟩ := vK dfo
 obtain rfl := d1.unnil
 show (Code.rangeFunc fo ps assign body).wpIn (N2 X.rd) 0 X.P (jP X.P X.rd X.Q k) a g.w
 refine wpIn_rangeFunc (fun fn _ => ?_)
 have hro : (N2 X.rd).round = none := hrd
 rw [hro]
 obtain ⟨D, hD⟩ : ∃ D, D = g.w.heap.size := ⟨_, rfl⟩
 obtain ⟨rec, hrec⟩ : ∃ rec : LoopState → Option Code → Loop, rec = fun st pe => { state := st, pending := pe, fn, tmps := a.tmps, params := ps, assign, body, defers := D } := ⟨_, rfl⟩
 obtain ⟨gL, hgL, sL⟩ := st.alloc2 (.deferred (some [])) (.loop (rec .ready none))
 rw [← hD] at sL
 have hent := run_enterLoop_outer (P := X.P) (w := g.w) fn a.tmps ps assign body
 rw [← hD, show ({ state := .ready, pending := none, fn, tmps := a.tmps, params := ps, assign, body, defers := D } : Loop) = rec .ready none by rw [hrec], ← hgL] at hent
 have hfe' : a.eval fo = .func (.func gf) #[] ys.toArray := hfe
 refine ⟨D + 1, [lC D], gL.w, { target := .fn (.func gf) ys.toArray, args := #[.func (.yield (D + 1)) #[] #[]] }, gL.w, gf, #[.func (.yield (D + 1)) #[] #[]] ++ ys.toArray, gL.w, hent, ?_, fun _ _ => trivial, ?_, fun h => by simp [Fence.wide] at h, (callsIn_wide (n := 0)).2 ?_⟩
 ·simp only [resolve, hfe']
  simp [go_sem]
 ·simp [invoke, go_sem, mC hit.1]
 have sL2 := sL.perm (own' := (aH.blk (D + 1) (.loop (rec .ready none)) :: m1) ++ [aH.blk D (.deferred (some []))]) (by
  simp only [List.cons_append]
  exact List.Perm.cons _ ((List.perm_append_comm (l₁ := [aH.blk D (.deferred (some []))]) (l₂ := m1))))
 have hF2 : (F2 X ρ L a).p gL := sL2.all _ (.tail _ (.head _))
 have hAL : dF fs gL := fun f hf => sL2.all f (.tail _ (.tail _ hf))
 let R : TM := {
  J := fun j g ms => ∃ (ρ' : Nat → Lc) (mms : List aH), (∀ i, i ≠ v → ρ' i = ρ i) ∧ ms = aH.blk (D + 1) (.loop (rec .ready none)) :: mms ∧ aR g ρ' (Ms j) mms ∧ (F2 X ρ L a).p g ∧ dF fs g
  Jx := fun _ _ => False
  mono := fun e ⟨ρ', mms, h0, h1, h2, h3, h4⟩ => ⟨ρ', mms, h0, h1, h2.mono e, (F2 X ρ L a).mono e h3, h4.mono e⟩
  monox := fun _ h => h }
 have hcaps : aI gL ρ caps ys := by
  have dfo' := dJ (Sl.val hF2) hfo
  obtain ⟨_, ys', hfe2, _, d3⟩ := vK dfo'
  rw [hfe] at hfe2
  have : ys = ys' := by
   have := hfe2
   simp only [Value.func.injEq] at this
   exact List.toArray_inj this.2.2
  rw [this]; exact d3
 have hRnd : ET X.P (D + 1) R args := by
  rintro j av hj g1 ms ρa vs ⟨ρ', mms, hρ, rfl, hM1, hS1, hA1⟩ hO1 hd1
  have hρ2 : ρ' = fun i => if i = v then ρ' v else ρ i := funext fun i => by
   by_cases hi : i = v
   ·rw [if_pos hi, hi]
   ·rw [if_neg hi, hρ i hi]
  have hmem : av ∈ args := List.mem_of_getElem? hj
  have hl : g1.w.heap[D + 1]? = some (.loop (rec .ready none)) := hO1.p _ (.head _)
  have hy := run_yield (P := X.P) (args := vs.toArray) hl (by rw [hrec]; simpa using hd1.1.trans (hps av hmem))
  rw [hrec] at hy
  refine ⟨fn, _, assign, body, hy, roundIn_of_wpIn (n := 0) (F := Fence.wide) trivial ?_⟩
  let ms := aH.blk (D + 1) (.loop (rec .ready none)) :: mms
  let ρ0 : Nat → Lc := fun i => if i = m then ρ' v else ρ' (i - 1000)
  have eρ : ∀ i, ρ0 (i + 1000) = ρ' i := fun i => by
   have : i + 1000 ≠ m := by omega
   simp [ρ0, this]
  let RR := RP g1 ms (R.J (j + 1)) R.Jx
  let Q2 := roundPost X.P (D + 1) RR
  let J1 : Act → World → Prop := fun a₁ w₁ => ∃ w₂, (Instr.beginRound (D + 1)).run X.P w₁ = .ok () w₂ ∧ body.wpIn (Fence.wide.inRound (D + 1)) 0 X.P (roundPost X.P (D + 1) RR) a₁ w₂
  have fin : ∀ (stt : LoopState) (pe : Option Code) {L' M' g4 a4}, cV ⟨⟨X.P, X.n, g1, bV ms, Q2, some (D + 1), []⟩, ρ0⟩ L' M' fs [aH.blk (D + 1) (.loop { rec .ready none with state := .busy })] g4 a4 → b9 (fun i => Nat.ble 1000 i || Nat.beq i m) M' = Mm (j + 1) →
   g4.w.heap[D + 1]? = some (.loop { rec .ready none with state := .busy }) ∧ ∃ g' m4, g'.w = g4.w.putObj (D + 1) (.loop (rec stt pe)) ∧ oK (bV ms) g1 g' ∧ Own (aH.blk (D + 1) (.loop (rec stt pe)) :: m4) g' ∧ (∀ b ∈ bV (aH.blk (D + 1) (.loop (rec stt pe)) :: m4), b ∈ bV ms ∨ g1.w.heap.size ≤ b) ∧ (∃ ρ'' : Nat → Lc, (∀ i, i ≠ v → ρ'' i = ρ i) ∧ aR g' ρ'' (Ms (j + 1)) m4) ∧ (F2 X ρ L a).p g' ∧ dF fs g' := by
   intro stt pe L' M' g4 a4 s4 hk4
   obtain ⟨ρ4, ms4, t1, t2, t3⟩ := s4.ex
   obtain ⟨m4, m5, h6, h7⟩ := t2.keep (fun i => Nat.ble 1000 i || Nat.beq i m)
   rw [hk4] at h6
   have e4 : ∀ i, ρ4 (i + 1000) = ρ' i := fun i => (t3.pin _ (by omega)).trans (eρ i)
   have t1p := (t1.perm (own' := (aH.blk (D + 1) (.loop { rec .ready none with state := .busy }) :: m4) ++ m5) ((List.perm_append_comm (l₁ := ms4)).trans (List.Perm.cons _ h7))).drop
   have hl4 := t1p.own.p _ (.head _)
   have t5 : St _ [] (F1 ρ4 (Mm (j + 1)) m4 :: fs) _ g4 a4 := ⟨t1p.kn, dF.cons h6 t1p.all, t1p.own, t1p.ext, t1p.new⟩
   obtain ⟨g', hw, s'⟩ := t5.putO (.loop (rec stt pe))
   exact ⟨hl4, g', m4, hw, s'.ext, s'.own, s'.new, ⟨fun i => if i = v then ρ4 m else ρ4 (i + 1000), fun i hi => by simp only [if_neg hi]; rw [e4, hρ i hi], hout _ _ _ _ (show aR g' ρ4 (Mm (j + 1)) m4 from s'.all _ (.head _))⟩, (F2 X ρ L a).mono s'.ext.toFExt hS1, fun f hf => s'.all f (.tail _ hf)⟩
  have key := hround j av hj (D + 1) g1 (bV ms) ρ0 (fun _ _ _ => False) Q2 [aH.blk (D + 1) (.loop (rec .ready none))] [aH.blk (D + 1) (.loop { rec .ready none with state := .busy })] J1 ?_ ?_
  ·refine key g1 { tmps := _, defers := [] } ?_
   have hd1' : aI g1 ρ0 av vs := hd1.swap (hcl av hmem) ρ0
   have hsz : a.tmps.size = X.n := st0.kn.size
   obtain ⟨h8, h9⟩ := BJ ps.toList (g := g1) (ρ := ρ0) (svs := av) (xs := vs) (L := W5 L) (T := a.tmps) (by rw [hsz]; exact hpn) hd1' (fun t sv ht => by
    obtain ⟨s0, h10, rfl⟩ := HU ht
    obtain ⟨x, hx, dx⟩ := Sl.val hS1 t s0 h10
    have dx2 : bC g1 ρ' s0 x := by rw [hρ2]; exact dx.upd (c8 hLv t s0 h10)
    exact ⟨x, hx, dx2.up eρ⟩)
   rw [← EU] at h8 h9
   exact ⟨ρ0, mms, ⟨⟨h8.trans hsz, rfl, fun i v hi => by simp [lk] at hi⟩, hA1, hO1.perm (List.perm_append_comm (l₁ := [_])), oK.refl _ g1, fun b hb => .inl ((cX (List.perm_append_comm (l₁ := mms) (l₂ := [_]))).subset hb)⟩, hin _ _ _ _ hM1, fun _ _ => rfl, h9⟩
  ·intro L' M' hb g2 a2 hs2
   obtain ⟨ρ2, ms2, t2⟩ := hs2.open
   have t3 := t2.perm (List.perm_append_comm (l₂ := [aH.blk (D + 1) (.loop (rec .ready none))]))
   have hl2 : g2.w.heap[D + 1]? = some (.loop (rec .ready none)) := t3.own.p _ (.head _)
   obtain ⟨g3, hw3, t4⟩ := St.putO t3 (.loop { rec .ready none with state := .busy })
   refine ⟨_, run_beginRound hl2 (by rw [hrec]), ?_⟩
   rw [← hw3]
   exact hb g3 a2 (cV.reQ (cV.close (t4.perm (List.perm_append_comm (l₁ := [_]) (l₂ := ms2)))))
  ·intro L' M' hk4 g4 a4 s4
   obtain ⟨hl4, g', m4, hw, q1, q2, q3, ⟨ρ'', q4, q7⟩, q5, q6⟩ := fin .ready none s4 hk4
   have hr := run_endRound (P := X.P) none hl4
   refine ⟨_, _, hr, .bool true, g', aH.blk (D + 1) (.loop (rec .ready none)) :: m4, rfl, ?_, q1, q2, q3, .inl ⟨rfl, ρ'', m4, q4, rfl, q7, q5, q6⟩⟩
   rw [hw, hrec]; rfl
 refine (hit.2 (D + 1) R ρ gL ys _ hAL hcaps hRnd ⟨ρ, m1, fun _ _ => rfl, rfl, sL2.all _ (.head _), hF2, hAL⟩ sL2.own.left).mono ?_
 rintro e w2 ⟨v0, g2, ms2, rfl, rfl, hE2, hO2, hN2, hJ2⟩
 have s5 := sL2.frame (fsc := []) (fs' := []) (lI.app _ [aH.blk D (.deferred (some []))]) hE2 (fun f hf => (by cases hf)) hO2 hN2 .nil
 rcases hJ2 with ⟨ρ', mms, hρ, rfl, hM3, hS3, hA3⟩ | hf
 ·have hρ2 : ρ' = fun i => if i = v then ρ' v else ρ i := funext fun i => by
   by_cases hi : i = v
   ·rw [if_pos hi, hi]
   ·rw [if_neg hi, hρ i hi]
  have s6 : St X.toCx [] (F1 ρ' (Ms args.length) mms :: F2 X ρ L a :: fs) (aH.blk (D + 1) (.loop (rec .ready none)) :: (mms ++ [aH.blk D (.deferred (some []))])) g2 a := ⟨s5.kn, dF.cons hM3 (dF.cons hS3 hA3), s5.own, s5.ext, s5.new⟩
  obtain ⟨g3, hw3, s7⟩ := s6.putO (.loop { rec .ready none with state := .exhausted })
  have hl2 := s6.own.p _ (.head _)
  have s8 := (s7.perm (List.perm_append_comm (l₁ := [_]))).drop
  have hS4 : Sl X ρ L a g3 := s8.all _ (.tail _ (.head _))
  have hs : cV { X with df := [lC D] } L (Ms args.length) fs [aH.blk D (.deferred (some []))] g3 { a with defers := [lC D] ++ a.defers } := by
   refine ⟨ρ', mms, ⟨⟨s8.kn.size, ?_, fun i v hi => by simp [lk] at hi⟩, fun f hf => s8.all f (.tail _ (.tail _ hf)), s8.own, s8.ext, s8.new⟩, s8.all _ (.head _), fun j hj => ?_, fun t sv ht => ?_⟩
   ·show [lC D] ++ a.defers = [lC D]
    rw [s8.kn.defers, hdf]; rfl
   ·rw [hρ j (by omega)]; exact hS4.pin j hj
   ·obtain ⟨x, hx, dx⟩ := hS4.val t sv ht
    refine ⟨x, hx, ?_⟩
    rw [hρ2]
    exact dx.upd (c8 hLv t sv ht)
  have hr := run_endLoop (P := X.P) hl2 (by rw [hrec]; simp)
  have hp : (rec .ready none).pending = none := by rw [hrec]
  exact ⟨(rec .ready none).pending, g3.w, by rw [hw3]; exact hr, by rw [hp]; exact hk D g3 _ hs⟩
 ·exact hf.elim
structure Rnm (X : Kx) (fs : List MF) (tb : TT) (rs : List ResultVar) (res : SV) (i : Nat) (mb : MB) (D : Nat) : Prop where
 ret : ∀ {k L M svs}, fV tb L M rs = some svs → bB svs = res → b9 (Nat.beq i) M = [(i, mb)] → E X (.code .ret :: k) L M fs [aH.blk D (.deferred (some []))]
theorem aCX {P : Program} {fs : List MF} {tb : TT} (hT : tb.Ok P) {f : FuncId} {fn : Func} {c : Code} {args : List SV} {res : SV} {i : Nat} {mb : MB} (n : Nat) (rs : List ResultVar) (hf : P.funcs[f]? = some fn) (hrs : fn.results = rs.toArray)
 (h : ∀ g0 B0 Q ρ0, (∀ D, Rnm ⟨⟨P, n, g0, B0, Q, none, [lC D]⟩, ρ0⟩ fs tb rs res i mb D) → E ⟨⟨P, n, g0, B0, Q, none, []⟩, ρ0⟩ [.code c] (mT args 0) [] fs []) (hb : fn.body = some c := by rfl) (hname : (fn.name == "runtime.NumGoroutine") = false := by kernel_rfl) (hn : fn.ntmps = n := by rfl) (hle : args.length ≤ n := by exact Nat.le_of_ble_eq_true rfl) : P4 P fs f args res i mb := by
 refine ⟨⟨fn, hf, by simp [hb], hname⟩, fun ρ g vs hfs ha => ?_⟩
 refine (callsIn_wide (n := 0)).1 (callsIn_of_wp_marks hf hb trivial ?_)
 let Post : Ending → World → Prop := fun e w' => ∃ v g' r ρ', e = .returned v ∧ g'.w = w' ∧ oK [] g g' ∧ bC g' ρ' res v ∧ bQ g' ρ' i mb r ∧ Own [r] g' ∧ ∀ b ∈ bV [r], g.w.heap.size ≤ b
 have hpost : ∀ D (a : Act) (g' : GW) L M' svs, fV tb L M' rs = some svs → bB svs = res → b9 (Nat.beq i) M' = [(i, mb)] → cV ⟨⟨P, n, g, [], bodyPostM Fence.wide 0 P fn Post, none, [lC D]⟩, ρ⟩ L M' fs [aH.blk D (.deferred (some []))] g' a → LeavesInM Fence.wide 0 P fn a.tmps Post a.defers .returning g'.w := by
  intro D a g' L M' svs h1 h2 h3 hst
  obtain ⟨ρ', ms', st⟩ := hst.open
  have s1 := st.perm (List.perm_append_comm (l₂ := [aH.blk D (.deferred (some []))]))
  have hl : g'.w.heap[D]? = some (.deferred (some [])) := s1.own.p _ (.head _)
  obtain ⟨g2, hw, s2⟩ := St.putO s1 (.deferred none)
  have s3 := s2.perm (List.perm_append_comm (l₁ := [_]) (l₂ := ms'))
  have hS : Sl ⟨⟨P, n, g, [], bodyPostM Fence.wide 0 P fn Post, none, [lC D]⟩, ρ⟩ ρ' L a g2 := s3.all _ (.tail _ (.head _))
  have hM : aR g2 ρ' M' ms' := s3.all _ (.head _)
  obtain ⟨v, hv, dv⟩ := iG (X := ⟨⟨P, n, g, [], _, none, [lC D]⟩, ρ⟩) hT s3 (s3.all _ (.head _)) hS hrs h1
  obtain ⟨m1, m2, h5, h6⟩ := hM.keep (Nat.beq i)
  have s4 := ((s3.drop).perm (own' := m1 ++ m2) h6).drop
  rw [h3] at h5
  rw [s1.kn.defers]
  cases h5 with
  | cons hB ht =>
    cases ht
    refine ⟨by simp, .inl ⟨D, g2.w, rfl, by rw [hw]; exact run_takeDeferred hl, v, hv, v, g2, _, ρ', rfl, rfl, s3.ext, h2 ▸ dv, hB, s4.own, fun b hb => (s4.new b hb).resolve_left (fun hx => by cases hx)⟩⟩
 refine h g [] (bodyPostM Fence.wide 0 P fn Post) ρ (fun D => ⟨?_⟩) g _ ?_
 ·intro k L M' svs h1 h2 h4 g' a hst
  refine wpIn_ret ?_
  rw [dU]
  exact hpost D a g' L M' svs h1 h2 h4 hst
 ·refine ⟨ρ, [], ⟨⟨by simp [hn, ha.1]; omega, rfl, fun i v hi => by simp [lk] at hi⟩, hfs, ⟨fun r hr => (by cases hr), List.nodup_nil, fun b hb => (by cases hb), fun b hb => (by cases hb)⟩, oK.refl _ g, fun b hb => (by cases hb)⟩, .nil, fun i _ => rfl, fun t sv ht => ?_⟩
  obtain ⟨j, rfl, hj⟩ := lK args 0 t sv ht
  obtain ⟨x, hx, dx⟩ := ha.get hj
  refine ⟨x, ?_, dx⟩
  have hlt : j < vs.length := by
   rcases Nat.lt_or_ge j vs.length with h | h
   ·exact h
   ·rw [List.getElem?_eq_none h] at hx; cases hx
  simp only [Nat.zero_add]
  rw [Array.getElem?_append_left (by simpa using hlt)]
  simpa using hx
section
variable {X : Kx} {k : List It} {L : SL} {M : SM} {fs : List MF} {arr : Array Oper} {tb : TT} {rs : List ResultVar}
theorem aCY {res : SV} {svs : List SV} {i : Nat} {mb mb' : MB} {k' : List It} {D : Nat} (n : Nat) (R : Rnm X fs tb rs res i mb D) (he : bB svs = res ∧ mb' = mb) (hk : cQ (aF L) 64 n k = .code .ret :: k' := by rfl) (hr : fV tb L M rs = some svs := by rfl) (hm : b9 (Nat.beq i) M = [(i, mb')] := by rfl) : E X k L M fs [aH.blk D (.deferred (some []))] :=
 dK 64 n (hk ▸ R.ret hr he.1 (by rw [hm, he.2]))
theorem aCZ {res : SV} {svs : List SV} {i : Nat} {mb mb' : MB} {k' : List It} {D : Nat} (n : Nat) (R : Rnm X fs tb rs res i mb D) (he : bB svs = res ∧ mb' = mb) (hk : cQ (aF L) 64 n k = .code .ret :: k' := by rfl) (hr : fV tb L M rs = some svs := by rfl) (hm : b9 (Nat.beq i) M = [(i, mb')] := by rfl) : ES X arr [] k L M fs [aH.blk D (.deferred (some []))] := jI (aCY n R he hk hr hm)
end
def US (t : Nat) : SL → SL
 | [] => []
 | (u, sv) :: r => match Nat.beq u t with
  | true => US t r
  | false => (u, sv) :: US t r
theorem HV {t : Nat} : ∀ {L : SL} {u : Nat} {sv : SV}, aF (US t L) u = some sv → aF L u = some sv
 | [], u, sv, h => h
 | (q, x) :: r, u, sv, h => by
  unfold US at h
  cases hq : Nat.beq q t with
  | true =>
    rw [hq] at h
    have hqt := Nat.eq_of_beq_eq_true hq
    subst hqt
    have h2 := HV (L := r) h
    have hne : u ≠ q := by
     intro e
     subst e
     have key : ∀ (L : SL), aF (US u L) u = none := by
      intro L
      induction L with
      | nil => rfl
      | cons p L ih =>
        obtain ⟨a, b⟩ := p
        unfold US
        cases ha : Nat.beq a u with
        | true => exact ih
        | false =>
          show aF ((a, b) :: US u L) u = none
          rw [bX _ _ (by intro e; subst e; rw [Nat.beq_refl] at ha; cases ha)]
          exact ih
     rw [key r] at h
     cases h
    rw [bX _ _ hne]
    exact h2
  | false =>
    rw [hq] at h
    by_cases huq : u = q
    ·subst huq
     simp only [bF] at h ⊢
     exact h
    ·simp only at h
     rw [bX _ _ huq] at h ⊢
     exact HV h
section
variable {X : Kx} {k : List It} {L : SL} {M : SM} {fs : List MF} {own : List aH} {arr : Array Oper} {l : List Oper}
theorem aAB (t : Nat) (h : ES X arr l k (US t L) M fs own) : ES X arr l k L M fs own := by
 intro g a s
 obtain ⟨ρ, ms, s1, s2, s3⟩ := s
 exact h g a ⟨ρ, ms, s1, s2, s3.pin, fun u sv hu => s3.val u sv (HV hu)⟩
theorem X4 (t : Nat) (h : E X k (US t L) M fs own) : E X k L M fs own := aAB (arr := #[]) (l := []) t (jI h) |> fun h => h
theorem QA (h : ∀ g ρ ms, ¬ aR g ρ M ms) : E X k L M fs own := by
 intro g a s
 obtain ⟨ρ, ms, s1, s2, s3⟩ := s
 exact (h g ρ ms s2).elim
end
theorem X5 {T i : Nat} {M : SM} : ∀ g ρ ms, ¬ aR g ρ ((i, .c T [.s 0 [[]]]) :: M) ms := by
 intro g ρ ms h
 cases h with
 | cons hb _ =>
   cases hb with
   | c xs hd h1 =>
     have h0 := hd.1
     match xs, h0 with
     | [x], _ =>
       have := hd.2 0 _ x rfl rfl
       cases this with
       | s xs h1 h2 hl hr ho hne hxd =>
         obtain ⟨b, o, e, _⟩ := hne (by simp)
         rw [(ho.2 rfl).1] at e
         cases e
theorem den_nil {g : GW} {ρ : Nat → Lc} {x : Value} (h : bC g ρ (.s 0 []) x) : bC g ρ (.v (.slice none 0 0)) x := by
 cases h with
 | s xs h1 h2 hl hr ho hne hxd =>
   have := ho.2 rfl
   rw [this.1, this.2]
   exact .v
abbrev c4 : List Val := [eI, fG, fE, eF]
theorem EW {s : Bytes} : ∀ {j : Nat} (hj : j < c4.length), s = aG c4[j] → aB s = (c4[j], 0)
 | 0, _, h => by subst h; rfl
 | 1, _, h => by subst h; rfl
 | 2, _, h => by subst h; rfl
 | 3, _, h => by subst h; rfl
 | n + 4, h, _ => by simp at h; omega
def yM (s : Bytes) : Prop := s ≠ [110, 117, 108, 108] ∧ s ≠ [78, 97, 78] ∧ s ≠ [43, 73, 110, 102] ∧ s ≠ [45, 73, 110, 102]
theorem JQ {s : Bytes} (h : ∀ v ∈ c4, decide (s = aG v) = false) : yM s := by
 have key : ∀ v ∈ c4, s ≠ aG v := fun v hv => by simpa using h v hv
 exact ⟨key eI (by simp), key fG (by simp), key fE (by simp), key eF (by simp)⟩
section
variable {s w f : Bytes} {b : Bool} {n : Nat}
theorem sQ (h4 : yM s) (hcut : Lib.cut (Lib.trimPrefix s [45]) [46] = (w, f, b)) : aB s = (if f.length ≤ 3 ∧ w.length ≤ 13 then
 match Lib.parseUintM HI 0 (w ++ f ++ Lib.repeatL [48] (3 - f.length)) with
 | .ok n => if (aK (if Lib.hasPrefix s [45] then -(n : Int) else n)).k = 1 ∧ aG (aK (if Lib.hasPrefix s [45] then -(n : Int) else n)) = s then (aK (if Lib.hasPrefix s [45] then -(n : Int) else n), 0) else (zeroV, 80)
 | _ => (zeroV, 80)
 else (zeroV, 80) : Val × Int) := by
 rw [← PQ]
 unfold wE
 rw [if_neg h4.1, if_neg h4.2.1, if_neg h4.2.2.1, if_neg h4.2.2.2]
 simp only [hcut]
 cases Lib.parseUintM HI 0 (w ++ f ++ Lib.repeatL [48] (3 - f.length)) <;> rfl
theorem JR (h4 : yM s) (hcut : Lib.cut (Lib.trimPrefix s [45]) [46] = (w, f, b)) (hl : f.length ≤ 3 ∧ w.length ≤ 13) (hP : Lib.parseUintM HI 0 (w ++ f ++ Lib.repeatL [48] (3 - f.length)) = .ok n) {x : Int} (hx : (if Lib.hasPrefix s [45] then -(n : Int) else n) = x) : aB s = (if (aK x).k = 1 ∧ aG (aK x) = s then (aK x, 0) else (zeroV, 80) : Val × Int) := by
 rw [sQ h4 hcut, if_pos hl, hP]
 simp only [hx]
theorem QB (h4 : yM s) (hcut : Lib.cut (Lib.trimPrefix s [45]) [46] = (w, f, b)) (hl : f.length ≤ 3 ∧ w.length ≤ 13) (hP : Lib.parseUintM HI 0 (w ++ f ++ Lib.repeatL [48] (3 - f.length)) = Lib.parseUintM 0 0 [0]) : aB s = (zeroV, 80) := by
 rw [sQ h4 hcut, if_pos hl, hP]
 rfl
theorem MN (h4 : yM s) (hcut : Lib.cut (Lib.trimPrefix s [45]) [46] = (w, f, b)) (hl : ¬ (f.length ≤ 3 ∧ w.length ≤ 13)) : aB s = (zeroV, 80) := by
 rw [sQ h4 hcut, if_neg hl]
theorem pL : ∀ (l : Bytes) (a : Nat), (a + 1) * 10 ^ l.length ≤ 10 ^ 17 → Lib.parseUintM HI a l ≠ .range ∧ ∀ n, Lib.parseUintM HI a l = .ok n → n < 10 ^ 17
 | [], a, h => by
   refine ⟨by simp [Lib.parseUintM], fun n hn => ?_⟩
   simp only [Lib.parseUintM] at hn
   cases hn
   simp at h; omega
 | c :: l, a, h => by
   have hp : 1 ≤ 10 ^ l.length := Nat.one_le_pow _ _ (by decide)
   rw [List.length_cons, Nat.pow_succ] at h
   have h1 : (a + 1) * 10 * 10 ^ l.length ≤ 10 ^ 17 := by rw [Nat.mul_assoc, Nat.mul_comm 10]; exact h
   have h2 : (a + 1) * 10 ≤ 10 ^ 17 := Nat.le_trans (Nat.le_mul_of_pos_right _ hp) h1
   unfold Lib.parseUintM
   split
   ·rename_i hc
    rw [if_neg (by omega), if_neg (by show ¬ 4611686018427387903 < _; omega)]
    exact pL l _ (Nat.le_trans (Nat.mul_le_mul_right _ (by omega)) h1)
   ·exact ⟨by simp, fun n hn => by cases hn⟩
theorem EX {l : Bytes} (h : l.length ≤ 16) : Lib.parseUintM HI 0 l ≠ .range ∧ ∀ n, Lib.parseUintM HI 0 l = .ok n → n < 10 ^ 17 :=
 pL l 0 (by rw [Nat.zero_add, Nat.one_mul]; exact Nat.pow_le_pow_right (by decide) (by omega))
end
def Fit (s : Bytes) (f : Ps → Ex × Ps) : Prop := ∀ p, p.i ≤ s.length → p.i ≤ (f p).2.i ∧ (f p).2.i ≤ s.length
variable {s : Bytes}
theorem uW (p : Ps) : p.i ≤ (p.restP s).i := by unfold Ps.restP; split <;> simp
theorem iU (p : Ps) (e a : Int) : (p.fails e a).i = p.i := by unfold Ps.fails; split <;> rfl
theorem sR {p : Ps} (h : p.i ≤ s.length) : (p.restT s).length + (p.restP s).i ≤ s.length := by
 have := qU (s := s) h
 unfold Ps.restT
 split
 ·simpa using this
 ·simp; omega
theorem kD {l : List Bytes} {p : Ps} {x : Bytes} (h : takeT s l p = some x) : x ∈ l ∧ 1 ≤ x.length ∧ x.length ≤ 2 ∧ Lib.hasPrefix (p.restT s) x = true := by
 unfold takeT at h
 split at h
 ·rename_i y hy
  split at h
  ·rename_i hm
   cases h
   have h1 := List.mem_of_find?_eq_some hy
   have h2 := List.find?_some hy
   have h3 : ∀ x ∈ bJ, 1 ≤ x.length ∧ x.length ≤ 2 := by decide
   exact ⟨hm, (h3 _ h1).1, (h3 _ h1).2, h2⟩
  ·cases h
 ·cases h
theorem wO {a b : Bytes} (h : Lib.hasPrefix a b = true) : b.length ≤ a.length := by
 unfold Lib.hasPrefix at h
 exact (List.isPrefixOf_iff_prefix.1 h).length_le
theorem kE {l : List Bytes} {p : Ps} (h : p.i ≤ s.length) : p.i ≤ (takeP s l p).i ∧ (takeP s l p).i ≤ s.length := by
 have h1 := uW (s := s) p
 have h2 := qU (s := s) h
 have h3 := sR (s := s) h
 unfold takeP
 cases ht : takeT s l p with
 | none => exact ⟨h1, h2⟩
 | some x =>
   have h4 := wO (kD ht).2.2.2
   exact ⟨by simp; omega, by simp; omega⟩
theorem MO {l : List Bytes} {p : Ps} {x : Bytes} (ht : takeT s l p = some x) : p.i + 1 ≤ (takeP s l p).i := by
 have h1 := uW (s := s) p
 have h4 := kD ht
 unfold takeP
 rw [ht]
 simp only
 omega
theorem wP {x : Bytes} {p : Ps} (h : p.i ≤ s.length) : p.i ≤ (dC s x p).i ∧ (dC s x p).i ≤ s.length := by
 have := kE (l := [x]) h
 unfold dC
 split
 ·exact this
 ·rw [iU]; exact this
theorem jX {d : Nat} {p : Ps} (h : p.i ≤ s.length) : p.i ≤ (bU s d p).i ∧ (bU s d p).i ≤ s.length := by
 have h1 := uW (s := s) p
 have h2 := qU (s := s) h
 unfold bU
 split
 ·rw [iU]; exact ⟨h1, h2⟩
 ·exact ⟨h1, h2⟩
theorem EY {f : Ps → Ex × Ps} (hf : Fit s f) {ops : List Bytes} {alone : Bool} : ∀ (n : Nat) (x : Ex) (p : Ps), p.i ≤ s.length → p.i ≤ (bD (EI s) f ops alone n x p).2.i ∧ (bD (EI s) f ops alone n x p).2.i ≤ s.length
 | 0, x, p, h => ⟨Nat.le_refl _, h⟩
 | n + 1, x, p, h => by
   have h1 := kE (l := ops) h
   have h2 := hf _ h1.2
   unfold bD
   simp only
   split
   ·exact h1
   ·split
    ·exact ⟨Nat.le_trans h1.1 h2.1, h2.2⟩
    ·rename_i o _ _
     have h4 := EY hf (ops := ops) (alone := false) n (eU o [x, (f (takeP s ops p)).1]) (f (takeP s ops p)).2 h2.2
     exact ⟨Nat.le_trans (Nat.le_trans h1.1 h2.1) h4.1, h4.2⟩
theorem uX {f : Ps → Ex × Ps} (hf : Fit s f) : ∀ n, Fit s (BB s f n)
 | 0 => hf
 | n + 1 => fun p h => by
   have h1 := uX hf n p h
   have h2 := EY (uX hf n) (ops := bY.getD (4 - n) []) (alone := n == 2) (s.length + 1) (BB s f n p).1 (BB s f n p).2 h1.2
   exact ⟨Nat.le_trans h1.1 h2.1, h2.2⟩
theorem wQ {f : Ps → Ex × Ps} (hf : Fit s f) (d : Nat) : Fit s (i6 s f d) := fun p h => by
 have h1 := jX (d := d) h
 have h2 := uX hf 5 _ h1.2
 exact ⟨Nat.le_trans h1.1 h2.1, h2.2⟩
theorem sS (r : Bytes) : bE r ≤ r.length := by
 unfold bE
 have h1 := eY b8 r
 have h2 := eY b8 (r.drop (a7 b8 r + 1))
 simp at h2
 split <;> omega
variable {pv : Bytes → Val × Int}
theorem JS {f : Ps → Ex × Ps} (hf : Fit s f) : Fit s (sM s f) := fun p h => by
 have h1 := hf p h
 have h2 := wP (x := GO) h1.2
 exact ⟨Nat.le_trans h1.1 h2.1, h2.2⟩
theorem QC {f : Ps → Ex × Ps} (hf : Fit s f) {r : Bytes} {p : Ps} (h : p.i + r.length ≤ s.length) : p.i ≤ (gJ s f r p).2.i ∧ (gJ s f r p).2.i ≤ s.length := by
 have hr := eY kB r
 have hl : (r.take (a7 kB r)).length ≤ r.length := by simp; omega
 have h1 : ({ p with i := p.i + (r.take (a7 kB r)).length } : Ps).i ≤ s.length := by show p.i + _ ≤ _; omega
 unfold gJ
 simp only
 split
 ·exact ⟨by simp, h1⟩
 split
 ·exact ⟨by simp, h1⟩
 split
 ·exact ⟨by simp, h1⟩
 have key : ∀ q : Ps, q.i = p.i + (r.take (a7 kB r)).length → p.i ≤ (sM s f (dC s iZ q)).2.i ∧ (sM s f (dC s iZ q)).2.i ≤ s.length := by
  intro q hq
  have hq2 : q.i ≤ s.length := by rw [hq]; exact h1
  have h2 := wP (x := iZ) hq2
  have h3 := JS hf _ h2.2
  exact ⟨by omega, h3.2⟩
 refine key _ ?_
 split
 ·rfl
 ·rw [iU]
theorem EZ {f : Ps → Ex × Ps} (hf : Fit s f) : Fit s (dW pv s f) := fun p h => by
 have h1 := uW (s := s) p
 have h2 := qU (s := s) h
 have h3 := sR (s := s) h
 unfold dW
 simp only
 cases p.dead with
 | true => exact ⟨h1, h2⟩
 | false =>
   cases hr : p.restT s with
   | nil => simp only; rw [iU]; exact ⟨h1, h2⟩
   | cons c r =>
     rw [hr] at h3
     simp only [List.length_cons] at h3
     simp only
     split
     ·have := JS hf { p.restP s with i := (p.restP s).i + 1 } (by show (p.restP s).i + 1 ≤ _; omega)
      exact ⟨by have := this.1; simp only at this; omega, this.2⟩
     split
     ·unfold LX
      have hb := eY kB r
      simp only [List.drop_succ_cons, List.drop_zero, List.length_take]
      exact ⟨by omega, by omega⟩
     split
     ·unfold cG
      have hb := sS (c :: r)
      simp only [List.length_cons] at hb
      exact ⟨by simp only; omega, by simp only; omega⟩
     split
     ·have := QC hf (r := c :: r) (p := p.restP s) (by simp only [List.length_cons]; omega)
      exact ⟨by omega, this.2⟩
     ·simp only; rw [iU]; exact ⟨h1, h2⟩
theorem wR : ∀ d, Fit s (mZ pv s d)
 | 0 => fun p h => by
   have h1 := jX (d := 33) h
   have h2 := kE (l := [a8, bZ]) h1.2
   have h3 := EZ (pv := pv) (f := fun q => (mY, q)) (fun q hq => ⟨Nat.le_refl _, hq⟩) _ h2.2
   unfold mZ
   exact ⟨by omega, h3.2⟩
 | d + 1 => fun p h => by
   have h1 := jX (d := 32 - d) h
   have h2 := kE (l := [a8, bZ]) h1.2
   unfold mZ
   split
   ·have h3 := wR d _ h2.2
    exact ⟨by simp only; omega, h3.2⟩
   ·have h3 := EZ (pv := pv) (wQ (wR d) (33 - d)) _ h2.2
    exact ⟨by omega, h3.2⟩
section
variable {ex : Ps → Ex × Ps} {p : Ps} {c : UInt8} {r : Bytes}
theorem zD (hd : p.dead = true) : dW pv s ex p = (mY, p.restP s) := by unfold dW; simp only [hd]
theorem E0 (hd : p.dead = false) (hr : p.restT s = []) : dW pv s ex p = (mY, (p.restP s).fails 110 (p.restP s).i) := by unfold dW; simp only [hd, hr]
theorem zE (hd : p.dead = false) (hr : p.restT s = c :: r) : dW pv s ex p = if c = 40 then sM s ex { p.restP s with i := (p.restP s).i + 1 } else if c = 36 then LX (c :: r) (p.restP s) else if c ∈ b8 then cG pv (c :: r) (p.restP s) else if c ∈ pD then gJ s ex (c :: r) (p.restP s) else (mY, (p.restP s).fails 110 (p.restP s).i) := by unfold dW; simp only [hd, hr]
theorem QD {k : UInt8} (h : ((c.toNat : Nat) : Int) = (k.toNat : Int)) : c = k := UInt8.toNat_inj.1 (Int.ofNat.inj h)
end
theorem E1 {z : Int} {n : Nat} (h : z = n) : nI z = nI n := by rw [h]
end Go.KX
namespace Go.KX
section
variable {s : Bytes} {f : Ps → Ex × Ps} {ops : List Bytes} {alone : Bool} {n : Nat} {x : Ex} {p : Ps}
theorem zF (h : takeT s ops p = none) : bD (EI s) f ops alone (n + 1) x p = (x, takeP s ops p) := by
 conv => lhs; unfold bD
 simp only [h]
theorem wS {o : Bytes} (h : takeT s ops p = some o) : bD (EI s) f ops true (n + 1) x p = (eU o [x, (f (takeP s ops p)).1], (f (takeP s ops p)).2) := by
 conv => lhs; unfold bD
 simp only [h]
theorem zG {o : Bytes} (h : takeT s ops p = some o) : bD (EI s) f ops false (n + 1) x p = bD (EI s) f ops false n (eU o [x, (f (takeP s ops p)).1]) (f (takeP s ops p)).2 := by
 conv => lhs; unfold bD
 simp only [h]
theorem HW : ∀ {n : Nat} (_ : n ≤ 4) {q : Int} (_ : q = 4 - (n : Int)), ∃ rest, (bY.map rB).drop (q.toNat * 1) = rB (bY.getD (4 - n) []) :: rest
 | 0, _, q, h => by subst h; exact ⟨_, rfl⟩
 | 1, _, q, h => by subst h; exact ⟨_, rfl⟩
 | 2, _, q, h => by subst h; exact ⟨_, rfl⟩
 | 3, _, q, h => by subst h; exact ⟨_, rfl⟩
 | 4, _, q, h => by subst h; exact ⟨_, rfl⟩
 | n + 5, h, _, _ => by omega
variable {pv : Bytes → Val × Int}
theorem JU {d : Nat} {o : Bytes} (h : takeT s [a8, bZ] (bU s (32 - d) p) = some o) : mZ pv s (d + 1) p = (eU o [(mZ pv s d (takeP s [a8, bZ] (bU s (32 - d) p))).1], (mZ pv s d (takeP s [a8, bZ] (bU s (32 - d) p))).2) := by
 conv => lhs; unfold mZ
 simp only [h]
theorem JV {d : Nat} (h : takeT s [a8, bZ] (bU s (32 - d) p) = none) : mZ pv s (d + 1) p = dW pv s (i6 s (mZ pv s d) (33 - d)) (takeP s [a8, bZ] (bU s (32 - d) p)) := by
 conv => lhs; unfold mZ
 simp only [h]
theorem JW : (bU s 33 p).dead = true := by
 unfold bU Ps.fails
 rw [if_pos (by decide)]
 split
 ·assumption
 ·rfl
end
mutual
def lD : Ex → Nat
 | .mk _ _ _ l => 1 + eJ l
def eJ : List Ex → Nat
 | [] => 0
 | x :: r => lD x + eJ r
end
theorem sU (x : Ex) : lD x = 1 + eJ x.kids := by cases x; rfl
theorem wT : ∀ {l : List Ex} {j : Nat} (h : j < l.length), lD l[j] ≤ eJ l
 | x :: r, 0, _ => by simp [eJ]
 | x :: r, j + 1, h => by
   have := wT (l := r) (j := j) (by simpa using h)
   simp only [List.getElem_cons_succ, eJ]
   omega
variable {s : Bytes}
variable {pv : Bytes → Val × Int}
mutual
def dX : Ex → List Bytes
 | .mk k n _ l => if k = 2 then [n] else mJ (f4 (eO l))
def eO : List Ex → List Bytes
 | [] => []
 | x :: r => dX x ++ eO r
end
theorem lX (x : Ex) : dX x = if x.kind = 2 then [x.name] else mJ (f4 (eO x.kids)) := by cases x; rfl
theorem zH : ∀ (a b : List Ex), eO (a ++ b) = eO a ++ eO b
 | [], b => rfl
 | x :: r, b => by simp [eO, zH r b]
theorem wU {l : List Ex} {j : Nat} (hj : j < l.length) : eO (l.take (j + 1)) = eO (l.take j) ++ dX l[j] := by
 rw [List.take_succ_eq_append_getElem hj, zH]
 simp [eO]
mutual
theorem E2 : ∀ x : Ex, (dX x).length ≤ lD x
 | .mk k n v l => by
   have h := oV l
   have h1 := wK (f4 (eO l))
   rw [lV] at h1
   unfold dX lD
   split
   ·simp
   ·omega
theorem oV : ∀ l : List Ex, (eO l).length ≤ eJ l
 | [] => Nat.le_refl _
 | x :: r => by
   have h1 := E2 x
   have h2 := oV r
   simp only [eO, eJ, List.length_append]
   omega
end
theorem BL {l : List Ex} (j : Nat) : eJ (l.take j) ≤ eJ l := by
 induction l generalizing j with
 | nil => simp
 | cons x r ih =>
   cases j with
   | zero => simp [eJ]
   | succ j =>
     have := ih j
     simp only [List.take_succ_cons, eJ]
     omega
theorem E3 : ∀ l : List Ex, l.length ≤ eJ l
 | [] => Nat.le_refl _
 | x :: r => by
   have := E3 r
   have h2 := sU x
   simp only [List.length_cons, eJ]
   omega
theorem MP {l : List Bytes} : ∀ r ∈ gQ l, r.length = 1 := fun r hr => by
 obtain ⟨s, _, rfl⟩ := List.mem_map.1 hr
 rfl
end Go.KX
namespace Go.KX
abbrev yN (t : Bytes × Bool) : Bytes := if t.2 = true then 40 :: (t.1 ++ [41]) else t.1
mutual
def bA : Ex → Bytes
 | .mk k n v kids => if k = 2 then 36 :: n else if k = 1 then (if v.k = 3 then UH else if v.k = 4 then UI else aG v) else match sV kids with
   | [a, b] => yN a ++ (32 :: n ++ (32 :: yN b))
   | a :: _ => if cY n then n ++ (40 :: (a.1 ++ [41])) else n ++ yN a
   | [] => []
def sV : List Ex → List (Bytes × Bool)
 | [] => []
 | .mk k n v kids :: l => (bA (.mk k n v kids), decide (kids.length = 2)) :: sV l
end
def nT (x : Ex) : Bytes := if x.kids.length = 2 then 40 :: (bA x ++ [41]) else bA x
theorem BM (x : Ex) : yN (bA x, decide (x.kids.length = 2)) = nT x := by
 unfold nT
 by_cases h : x.kids.length = 2
 ·simp [h]
 ·simp [h]
theorem nV (x : Ex) (l : List Ex) : sV (x :: l) = (bA x, decide (x.kids.length = 2)) :: sV l := by cases x; rfl
theorem sW (n : Bytes) (v : Val) (l : List Ex) : bA (.mk 2 n v l) = 36 :: n := by simp [bA]
theorem wV (n : Bytes) (v : Val) (l : List Ex) : bA (.mk 1 n v l) = if v.k = 3 then UH else if v.k = 4 then UI else aG v := by simp [bA]
theorem jY (n : Bytes) (a b : Ex) : bA (eU n [a, b]) = nT a ++ (32 :: n ++ (32 :: nT b)) := by
 rw [show bA (eU n [a, b]) = (match sV [a, b] with
  | [a, b] => yN a ++ (32 :: n ++ (32 :: yN b))
  | a :: _ => if cY n then n ++ (40 :: (a.1 ++ [41])) else n ++ yN a
  | [] => []) from rfl, nV, nV, ← BM a, ← BM b]
 rfl
theorem zI (n : Bytes) (a : Ex) : bA (eU n [a]) = if cY n then n ++ (40 :: (bA a ++ [41])) else n ++ nT a := by
 rw [show bA (eU n [a]) = (match sV [a] with
  | [a, b] => yN a ++ (32 :: n ++ (32 :: yN b))
  | a :: _ => if cY n then n ++ (40 :: (a.1 ++ [41])) else n ++ yN a
  | [] => []) from rfl, nV, ← BM a]
 rfl
def aAC (v : Val) : Prop := v = eI ∨ v = fG ∨ v = fE ∨ (cE v = true ∧ v.k = 1 ∧ 0 ≤ v.n)
inductive Wf : Ex → Prop where
 | num {v : Val} (h : aAC v) : Wf (mG v)
 | ref {n : Bytes} (h : lN n = true) : Wf (sK n)
 | sign {o : Bytes} {x : Ex} (h : o ∈ [a8, bZ]) (hx : Wf x) : Wf (eU o [x])
 | fn {o : Bytes} {x : Ex} (h : cY o = true) (hx : Wf x) : Wf (eU o [x])
 | bin {o : Bytes} {x y : Ex} (m : Nat) (hm : m ≤ 4) (h : o ∈ bY.getD (4 - m) []) (hx : Wf x) (hy : Wf y) : Wf (eU o [x, y])
theorem alive {p q : Ps} (g : Gone p q) (h : q.dead = false) : p.dead = false := by
 cases hp : p.dead with
 | false => rfl
 | true => have := (g hp).1; rw [h] at this; cases this
def W6 (f : Ps → Ex × Ps) : Prop := ∀ p, (f p).2.dead = false → Wf (f p).1
section
variable {s : Bytes}
theorem JX {f : Ps → Ex × Ps} (hf : W6 f) (hg : ∀ p, Gone p (f p).2) {m : Nat} (hm : m ≤ 4) {al : Bool} : ∀ (n : Nat) (x : Ex) (p : Ps), (p.dead = false → Wf x) → (bD (EI s) f (bY.getD (4 - m) []) al n x p).2.dead = false → Wf (bD (EI s) f (bY.getD (4 - m) []) al n x p).1
 | 0, x, p, hx, hd => hx hd
 | n + 1, x, p, hx, hd => by
   cases ht : takeT s (bY.getD (4 - m) []) p with
   | none =>
     rw [zF ht] at hd ⊢
     exact hx (alive (eX _ p) hd)
   | some o =>
     cases al with
     | true =>
       rw [wS ht] at hd ⊢
       have h1 := alive (hg _) hd
       exact .bin m hm (kD ht).1 (hx (alive (eX _ p) h1)) (hf _ hd)
     | false =>
       rw [zG ht] at hd ⊢
       refine JX hf hg hm n _ _ (fun h2 => ?_) hd
       have h1 := alive (hg _) h2
       exact .bin m hm (kD ht).1 (hx (alive (eX _ p) h1)) (hf _ h2)
theorem HY {f : Ps → Ex × Ps} (hf : W6 f) (hg : ∀ p, Gone p (f p).2) : ∀ n, n ≤ 5 → W6 (BB s f n)
 | 0, _ => hf
 | n + 1, hn => fun p hd => JX (HY hf hg n (by omega)) (v8 hg n) (by omega) _ _ _ (fun h => HY hf hg n (by omega) p h) hd
theorem JY {f : Ps → Ex × Ps} (hf : W6 f) (hg : ∀ p, Gone p (f p).2) (d : Nat) : W6 (i6 s f d) := fun p hd => HY hf hg 5 (Nat.le_refl _) _ hd
theorem iL (p : Ps) (e a : Int) : (p.fails e a).dead = true := by unfold Ps.fails; split <;> simp_all
theorem QE {c : UInt8} {r : Bytes} (hc : c ∈ b8) (h : (aB (c :: r)).2 = 0) : aAC (aB (c :: r)).1 := by
 obtain ⟨h1, h2⟩ := MC h
 have hd : TJ c := by
  have : ∀ c ∈ b8, TJ c := by decide
  exact this c hc
 rcases dL h1 with h3 | h3 | h3 | h3 | h3
 ·refine .inr (.inr (.inr ⟨h1, h3.1, ?_⟩))
  by_cases h0 : (aB (c :: r)).1.n < 0
  ·rw [jW h1 h3.1, if_pos h0] at h2
   injection h2 with h4 _
   exact absurd h4.symm (mI hd).2.1
  ·omega
 ·exact .inl h3
 ·exact .inr (.inl h3)
 ·exact .inr (.inr (.inl h3))
 ·rw [h3] at h2
  have : aG eF = [45, 73, 110, 102] := by decide
  rw [this] at h2
  injection h2 with h4 _
  exact absurd h4.symm (mI hd).2.1
theorem UT {ex : Ps → Ex × Ps} (hf : W6 ex) (hg : ∀ p, Gone p (ex p).2) : W6 (dW aB s ex) := fun p hd => by
 have hp := alive (oR ex p) hd
 cases hr : p.restT s with
 | nil => rw [E0 hp hr] at hd; simp only [iL] at hd; cases hd
 | cons c r =>
   rw [zE hp hr] at hd ⊢
   split
   ·rename_i h; rw [if_pos h] at hd
    exact hf _ (alive (lR _ _) hd)
   rename_i h40; rw [if_neg h40] at hd
   split
   ·rename_i h; rw [if_pos h] at hd
    unfold LX at hd ⊢
    simp only at hd ⊢
    refine .ref ?_
    by_cases hb : lN (((c :: r).drop 1).take (a7 kB ((c :: r).drop 1))) = true
    ·exact hb
    ·rw [if_neg hb] at hd; rw [iL] at hd; cases hd
   rename_i h36; rw [if_neg h36] at hd
   split
   ·rename_i h; rw [if_pos h] at hd
    unfold cG at hd ⊢
    simp only at hd ⊢
    refine .num ?_
    have h1 : (aB ((c :: r).take (bE (c :: r)))).2 = 0 := by
     by_cases hb : (aB ((c :: r).take (bE (c :: r)))).2 = 0
     ·exact hb
     ·rw [if_neg hb] at hd; rw [iL] at hd; cases hd
    obtain ⟨k, hk⟩ : ∃ k, bE (c :: r) = k + 1 := by
     have : a7 b8 (c :: r) = a7 b8 r + 1 := by conv => lhs; unfold a7
                                               rw [if_pos h]
     unfold bE
     rw [this]
     split
     ·exact ⟨_, by rw [show ∀ a b : Nat, a + 1 + 1 + b = (a + 1 + b) + 1 from fun a b => by omega]⟩
     ·exact ⟨_, rfl⟩
    rw [hk] at h1 ⊢
    exact QE h h1
   rename_i hdg; rw [if_neg hdg] at hd
   split
   ·rename_i h; rw [if_pos h] at hd
    unfold gJ at hd ⊢
    simp only at hd ⊢
    split
    ·exact .num (.inl rfl)
    rename_i h1; rw [if_neg h1] at hd
    split
    ·exact .num (.inr (.inl rfl))
    rename_i h2; rw [if_neg h2] at hd
    split
    ·exact .num (.inr (.inr (.inl rfl)))
    rename_i h3; rw [if_neg h3] at hd
    have h5 := alive (lR _ _) hd
    have h4 := alive (lR _ _) (alive (hg _) h5)
    refine .fn ?_ (hf _ h5)
    by_cases hb : cY ((c :: r).take (a7 kB (c :: r))) = true
    ·exact hb
    ·rw [if_neg hb] at h4; rw [iL] at h4; cases h4
   ·rename_i h; rw [if_neg h] at hd
    simp only [iL] at hd; cases hd
theorem QF : ∀ d, W6 (mZ aB s d)
 | 0 => fun p hd => by
   have h := alive ((eX [a8, bZ] (bU s 33 p)).trans (oR (pv := aB) (s := s) (fun q => (mY, q)) _)) hd
   rw [JW] at h; cases h
 | d + 1 => fun p hd => by
   cases ht : takeT s [a8, bZ] (bU s (32 - d) p) with
   | some o =>
     rw [JU ht] at hd ⊢
     exact .sign (kD ht).1 (QF d _ hd)
   | none =>
     rw [JV ht] at hd ⊢
     exact UT (JY (QF d) (uR d) _) (y5 (uR d) _) _ hd
theorem HZ (h : (bK aB s).2.1 = 0) : s.length ≤ 1024 ∧ bK aB s = ((i6 s (mZ aB s 33) 0 ⟨0, 0, 0, false⟩).1, 0, 0) ∧ (i6 s (mZ aB s 33) 0 ⟨0, 0, 0, false⟩).2.dead = false ∧ (i6 s (mZ aB s 33) 0 ⟨0, 0, 0, false⟩).2.restT s = [] := by
 unfold bK at h ⊢
 by_cases hL : 1024 < s.length
 ·rw [if_pos hL] at h; cases h
 rw [if_neg hL] at h ⊢
 have hS := (v6 (s := s) (BD (pv := aB) (s := s) 33) (d := 0) (p := ⟨0, 0, 0, false⟩) (q := ⟨0, 0, 0⟩) (.inl ⟨rfl, rfl, rfl⟩)).1
 simp only at h ⊢
 generalize i6 s (mZ aB s 33) 0 ⟨0, 0, 0, false⟩ = A at h hS ⊢
 have hdr := dG s A.2
 cases hd : A.2.dead with
 | true =>
   have hT : A.2.restT s = [] := by unfold Ps.restT; rw [if_pos hd]
   rw [if_pos hT, if_pos (hdr.trans hd)] at h
   have he : A.2.err ≠ 0 := by
    rcases hS with ⟨h1, _⟩ | ⟨_, h2, h3, _⟩
    ·rw [hd] at h1; cases h1
    ·rw [← h2]; exact h3
   have : (A.2.restP s).err = A.2.err := (lQ A.2 hd).2.1
   simp only [this] at h
   exact absurd h he
 | false =>
   by_cases hT : A.2.restT s = []
   ·rw [if_pos hT] at h ⊢
    rw [if_neg (by rw [hdr, hd]; simp)]
    exact ⟨by omega, rfl, rfl, hT⟩
   ·rw [if_neg hT, if_pos (iL _ _ _)] at h
    unfold Ps.fails at h
    rw [if_neg (by rw [hdr, hd]; simp)] at h
    simp at h
theorem QG (h : (bK aB s).2.1 = 0) : Wf (bK aB s).1 := by
 have h0 := HZ h
 have hw := JY (s := s) (QF (s := s) 33) (fun p => uR 33 p) 0 ⟨0, 0, 0, false⟩
 generalize i6 s (mZ aB s 33) 0 ⟨0, 0, 0, false⟩ = A at h0 hw
 rw [h0.2.1]
 exact hw h0.2.2.1
end
end Go.KX
namespace Go.KX
theorem nW {x : Ex} (h : ¬ x.kids.length = 2) : nT x = bA x := by unfold nT; rw [if_neg h]
theorem JZ (n : Bytes) (a b : Ex) : nT (eU n [a, b]) = 40 :: (bA (eU n [a, b]) ++ [41]) := rfl
structure Nd where
 ref : Bytes
 kind : Int
 source : Bytes
 input : Bytes
 how : Bytes
 strict : Bool
 low : Val
 high : Val
 text : Bytes
 deriving DecidableEq
def qY (n : Nd) : List Bytes := if n.kind = 2 then [n.input] else if n.kind = 4 then [n.input] else if n.kind = 3 then (if (bK aB n.text).2.1 = 0 then dX (bK aB n.text).1 else []) else []
def H2 (v : Val) : Bool := cE v && decide (v.k ≠ 2) && decide (v.k ≠ 3)
abbrev hGt : Bytes := [103, 116]
abbrev hLt : Bytes := [108, 116]
abbrev hIn : Bytes := [105, 110]
abbrev aAF : Bytes := [111, 117, 116]
abbrev X6 : Bytes := [99, 111, 117, 110, 116]
def aD0 : List Bytes := [[108, 97, 115, 116], [109, 105, 110], [109, 97, 120], [115, 117, 109], [109, 101, 97, 110], X6]
def X7 (n : Nd) : Nd :=
 if n.kind = 1 then ⟨n.ref, n.kind, n.source, [], [], false, zeroV, zeroV, []⟩ else
 if n.kind = 2 then ⟨n.ref, n.kind, [], n.input, n.how, n.strict, zeroV, zeroV, []⟩ else
 if n.kind = 3 then ⟨n.ref, n.kind, [], [], [], false, zeroV, zeroV, n.text⟩ else
 if n.kind = 4 then (if n.how = hIn ∨ n.how = aAF then ⟨n.ref, n.kind, [], n.input, n.how, false, n.low, n.high, []⟩ else ⟨n.ref, n.kind, [], n.input, n.how, false, n.low, zeroV, []⟩) else
 ⟨n.ref, n.kind, [], [], [], false, zeroV, zeroV, []⟩
def isK (n : Nd) : Bool :=
 if n.kind = 1 then decide (n.source ≠ []) && decide (n.source.length ≤ 64) else
 if n.kind = 2 then decide (n.how ∈ aD0) else
 if n.kind = 3 then decide ((bK aB n.text).2.1 = 0) else
 if n.kind = 4 then (if n.how = hGt ∨ n.how = hLt then H2 n.low else if n.how = hIn ∨ n.how = aAF then H2 n.low && H2 n.high else false) else false
def isN (n : Nd) : Bool := if (!lN n.ref || !decide (n = X7 n)) = true then false else isK n
def byR (l : List Nd) : List (Bytes × Nd) := l.foldl (fun m n => kN m n.ref n) []
def okN (l : List Nd) : Bool := decide ((byR l).length = l.length)
def X8 (out : List Bytes) (n : Nd) : Bool := (qY n).all fun i => decide (i ∈ out)
abbrev gtB (a b : Bytes) : Bool := !(blt a b || decide (a = b))
def aAG (out : List Bytes) (s : Bytes × Bool) (n : Nd) : Bytes × Bool := if (s.2 && gtB n.ref s.1) = true then s else if X8 out n = true then (n.ref, true) else s
def QH (out : List Bytes) (l : List Nd) : Bytes × Bool := l.foldl (aAG out) ([], false)
theorem kF : ∀ a : Bytes, blt a a = false
 | [] => rfl
 | x :: a => by
   have ih := kF a
   unfold blt at ih ⊢
   simp [Op.bytesLess, ih]
theorem zJ : ∀ {a b c : Bytes}, blt a b = true → blt b c = true → blt a c = true
 | _, _, [], _, h => by unfold blt at h; simp [Op.bytesLess] at h
 | _, [], _ :: _, h, _ => by unfold blt at h; simp [Op.bytesLess] at h
 | [], _ :: _, _ :: _, _, _ => by unfold blt; simp [Op.bytesLess]
 | x :: a, y :: b, z :: c, h1, h2 => by
   have ih := @zJ a b c
   unfold blt at *
   simp only [Op.bytesLess, Bool.or_eq_true, decide_eq_true_eq, Bool.and_eq_true, beq_iff_eq] at *
   rcases h1 with h1 | ⟨rfl, h1⟩
   ·rcases h2 with h2 | ⟨rfl, h2⟩
    ·exact .inl (UInt8.lt_trans h1 h2)
    ·exact .inl h1
   ·rcases h2 with h2 | ⟨rfl, h2⟩
    ·exact .inl h2
    ·exact .inr ⟨rfl, ih h1 h2⟩
theorem sX : ∀ (a b : Bytes), blt a b = true ∨ a = b ∨ blt b a = true
 | [], [] => .inr (.inl rfl)
 | [], _ :: _ => .inl (by unfold blt; simp [Op.bytesLess])
 | _ :: _, [] => .inr (.inr (by unfold blt; simp [Op.bytesLess]))
 | x :: a, y :: b => by
   have ih := sX a b
   unfold blt at *
   simp only [Op.bytesLess, Bool.or_eq_true, decide_eq_true_eq, Bool.and_eq_true, beq_iff_eq] at *
   rcases Nat.lt_trichotomy x.toNat y.toNat with h | h | h
   ·exact .inl (.inl (UInt8.lt_iff_toNat_lt.2 h))
   ·have hxy : x = y := UInt8.toNat_inj.1 h
    subst hxy
    rcases ih with h | rfl | h
    ·exact .inl (.inr ⟨rfl, h⟩)
    ·exact .inr (.inl rfl)
    ·exact .inr (.inr (.inr ⟨rfl, h⟩))
   ·exact .inr (.inr (.inl (UInt8.lt_iff_toNat_lt.2 h)))
theorem sY {a b : Bytes} (h : blt a b = true) : blt b a = false := by
 cases hq : blt b a with
 | false => rfl
 | true => have := zJ h hq; rw [kF] at this; cases this
theorem X9 {a b : Bytes} (h : blt a b = true) : a ≠ b := fun e => by subst e; rw [kF] at h; cases h
theorem J0 {a b : Bytes} : gtB a b = true ↔ blt b a = true := by
 unfold gtB
 rcases sX a b with h | h | h
 ·simp [h, sY h]
 ·subst h; simp [kF]
 ·have h2 := sY h
  have h3 := (X9 h).symm
  simp [h, h2, h3]
theorem sZ {α : Type} [DecidableEq α] : ∀ {js l : List α}, js.Nodup → (∀ i ∈ js, i ∈ l) → js.length ≤ l.length
 | [], _, _, _ => by simp
 | a :: js, l, h, h2 => by
   rw [List.nodup_cons] at h
   have ha := h2 a (.head _)
   have := sZ (l := l.erase a) h.2 (fun i hi => by
    have hne : i ≠ a := by rintro rfl; exact h.1 hi
    exact (List.mem_erase_of_ne hne).2 (h2 i (.tail _ hi)))
   rw [List.length_erase_of_mem ha] at this
   have := List.length_pos_of_mem ha
   simp only [List.length_cons]
   omega
def QI : Nat → List Bytes → List Nd → List Bytes × Int
 | 0, out, _ => (out, 0)
 | f + 1, out, left => if (QH out left).2 = false then ([], 121) else QI f (out ++ [(QH out left).1]) (left.filter fun n => decide (n.ref ≠ (QH out left).1))
def YA (l : List Nd) : List Bytes × Int := if okN l = false then ([], 8) else QI l.length [] l
def aAH (l : List Nd) (q : Bytes) : Option Nd := l.find? fun n => decide (n.ref = q)
def J2 (l : List Nd) : Nat → List Bytes → List Bytes → List Bytes
 | 0, _, out => out
 | _ + 1, [], out => out
 | f + 1, q :: t, out => match aAH l q with
   | none => J2 l f t out
   | some n => if n.ref ∈ out then J2 l f t out else J2 l f (t ++ qY n) (out ++ [n.ref])
def muN (l : List Nd) (todo out : List Bytes) : Nat := (l.length - out.length) * 3000 + todo.length
def aAI (l : List Nd) (todo out : List Bytes) : List Bytes := J2 l (muN l todo out) todo out
attribute [irreducible] muN aAI
def aAJ (cond : Bytes) (l : List Nd) : List Bytes := cond :: l.flatMap qY
end Go.KX
namespace Go.KX
abbrev nA : Nd := ⟨[65], 1, [115], [], [], false, zeroV, zeroV, []⟩
abbrev nB : Nd := ⟨[66], 2, [], [65], [108, 97, 115, 116], false, zeroV, zeroV, []⟩
theorem UU {a b : List Bytes} {j : Nat} (hj : j < a.length) (hb : j < b.length) (h : a.take j = b.take j) (e : a[j] = b[j]) : a.take (j + 1) = b.take (j + 1) := by
 rw [List.take_succ_eq_append_getElem hj, List.take_succ_eq_append_getElem hb, h, e]
structure Chk (ref : Bytes) (l : List Nd) : Prop where
 len : l.length ≤ 16
 is : ∀ n ∈ l, isN n = true
 nd : (l.map (·.ref)).Nodup
 refs : ∀ q ∈ aAJ ref l, q ∈ l.map (·.ref)
 ord : (YA l).2 = 0
section
variable {ref : Bytes} {l : List Nd} (hc : Chk ref l)
include hc
end
section
variable {ref : Bytes} {l : List Nd} (hc : Chk ref l)
include hc
end
def nmC (i : Nat) : Bytes := [UInt8.ofNat (65 + i)]
structure Chain (n : Nat) (g : Nat → Nd) : Prop where
 n1 : 1 ≤ n
 n10 : n ≤ 10
 ref : ∀ i < n, (g i).ref = nmC i
 is : ∀ i < n, isN (g i) = true
 low : ∀ i < n, ∀ q ∈ qY (g i), ∃ j < i, q = nmC j
 up : ∀ i, i + 1 < n → nmC i ∈ qY (g (i + 1))
section
variable {n : Nat} {g : Nat → Nd}
variable (hc : Chain n g)
include hc
end
theorem BN {a b T : Nat} {mb : MB} {g : GW} {ρ : Nat → Lc} {ms : List aH} : ¬ aR g ρ [(a, mb), (b, .c T [.s 0 [[]]])] ms := by
 intro h
 cases h with
 | cons _ t => exact X5 _ _ _ t
end Go.KX
