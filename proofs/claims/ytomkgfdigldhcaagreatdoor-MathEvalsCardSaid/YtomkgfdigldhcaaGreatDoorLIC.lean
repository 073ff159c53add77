/- XG XH XI XJ XK XL. -/
import Derived.Test.YtomkgfdigldhcaaGreatDoorLIB
import Derived.Scope
set_option maxRecDepth 100000
namespace Go.KX
def fU {β : Type} : SM → Nat → MB → (SM → Option β) → Option β
 | [], _, _, _ => none
 | (j, m) :: r, i, mb, K => match Nat.beq i j with
  | true => K ((j, mb) :: r)
  | false => fU r i mb (fun r' => K ((j, m) :: r'))
def pH (e : Nat → Option SV) (x : Operand) : Option (SV × List Prop) := match cO e x with
 | some sv => some (st1 sv, pB sv)
 | none => none
def vI (tb : TT) (L : SL) (M : SM) (d : Option Nat) : Op → Option (SL × SM × List Prop)
 | .box T x => match d, pH (aF L) x with
   | some d, some (sv, φ) => match N3 sv && Nat.blt d 1000, cU d L || eM d M with
     | true, false => some ((d, .l d 0) :: L, (d, .c T (aN sv)) :: M, φ)
     | _, _ => none
   | _, _ => none
 | .alloc T => match d, tb.get T with
   | some d, some t => match N3 (inj t.z) && Nat.blt d 1000, cU d L || eM d M with
     | true, false => some ((d, .l d 0) :: L, (d, .c T (aN (inj t.z))) :: M, [])
     | _, _ => none
   | _, _ => none
 | .store T x y => match d, pH (aF L) x, pH (aF L) y, tb.get T with
   | none, some (.l i off, φ), some (sv, ψ), some t => match fZ M i with
     | some (.c T0 cs) => match N3 sv, Nat.beq (aN sv).length t.sz with
       | true, true => yH cs off (aN sv) (fun cs' => fU M i (.c T0 cs') (fun M' => some (L, M', φ ++ ψ)))
       | _, _ => none
     | _ => none
   | _, _, _, _ => none
 | _ => none
theorem I4 {arr : Array Oper} {e : Nat → Option SV} {o : Oper} (h : gS arr e o = some none) : o.guard = none := by
 unfold gS at h
 split at h
 ·assumption
 ·split at h
  ·cases h
  ·split at h
   ·cases h
   ·split at h
    ·split at h <;> cases h
    ·split at h <;> cases h
    ·cases h
theorem OU {g ρ i off x} (h : bC g ρ (.l i off) x) : x = .pointer (some ⟨(ρ i).b, off, none⟩) := by cases h; rfl
theorem dH {g : GW} {ρ : Nat → Lc} {i : Nat} {y : Lc} : ∀ {M : SM} {ms : List aH}, aR g ρ M ms → eM i M = false → aR g (fun j => if j = i then y else ρ j) M ms
 | [], _, .nil, _ => .nil
 | (j, m) :: M, _, .cons hb t, h => by
  have hne : Nat.beq i j = false → (fun k => if k = i then y else ρ k) j = ρ j := by
   intro hb
   have : j ≠ i := by intro e; subst e; rw [Nat.beq_refl] at hb; cases hb
   simp [this]
  cases hb with
  | c xs hd h1 =>
    rename_i T cs
    simp only [eM, Bool.or_eq_false_iff] at h
    have e := hne h.1.1
    have : bQ g (fun k => if k = i then y else ρ k) j (.c T cs) (aH.blk ((fun k => if k = i then y else ρ k) j).b (.cells xs.toArray T (0, 0))) :=
     .c xs ⟨hd.1, fun n sv x h2 h3 => (hd.2 n sv x h2 h3).upd (j5 h.1.2 n sv h2)⟩ h1
    rw [e] at this
    exact .cons this (dH t h.2)
  | m raw hk hd =>
    simp only [eM, Bool.or_eq_false_iff] at h
    have e := hne h.1
    have : bQ g (fun k => if k = i then y else ρ k) j (.m _) (aH.mp str (fun v : Value => v) ((fun k => if k = i then y else ρ k) j).b raw) := .m raw hk hd
    rw [e] at this
    exact .cons this (dH t h.2)
  | it raw hk hd =>
    rename_i k' es js
    simp only [eM, Bool.or_eq_false_iff] at h
    have e := hne h.1.1
    have e2 : (fun k => if k = i then y else ρ k) k' = ρ k' := by
     have : k' ≠ i := by intro e; subst e; have := h.1.2; rw [Nat.beq_refl] at this; cases this
     simp [this]
    have : bQ g (fun k => if k = i then y else ρ k) j (.it k' es js) (aH.it str (fun v : Value => v) ((fun k => if k = i then y else ρ k) k').b ((fun k => if k = i then y else ρ k) j).b raw js) := .it raw hk hd
    rw [e, e2] at this
    exact .cons this (dH t h.2)
  | r hz xs hl hd =>
    rename_i T sz rows
    simp only [eM, Bool.or_eq_false_iff] at h
    have e := hne h.1
    have : bQ g (fun k => if k = i then y else ρ k) j (.r T sz rows) (aH.arr (aC sz hz) T ((fun k => if k = i then y else ρ k) j).ad ((fun k => if k = i then y else ρ k) j).c xs) := .r hz xs hl hd
    rw [e] at this
    exact .cons this (dH t h.2)
  | q hz xs hl hd =>
    rename_i T sz rows
    simp only [eM, Bool.or_eq_false_iff] at h
    have e := hne h.1
    have : bQ g (fun k => if k = i then y else ρ k) j (.q T sz rows) (aH.que (aC sz hz) T ((fun k => if k = i then y else ρ k) j).ad ((fun k => if k = i then y else ρ k) j).c xs) := .q hz xs hl hd
    rw [e] at this
    exact .cons this (dH t h.2)
theorem c8 {i : Nat} : ∀ {L : SL}, cU i L = false → ∀ t sv, aF L t = some sv → yG i sv = false
 | [], _, t, sv, h => by cases h
 | (j, v) :: r, hc, t, sv, h => by
  simp only [cU, Bool.or_eq_false_iff] at hc
  by_cases ht : t = j
  ·subst ht; rw [bF] at h; cases h; exact hc.1
  ·rw [bX _ _ ht] at h; exact c8 hc.2 t sv h
theorem aR.split {g : GW} {ρ : Nat → Lc} : ∀ {M : SM} {ms : List aH} {i : Nat} {mb : MB}, aR g ρ M ms → fZ M i = some mb → ∃ r m1 m2, ms = m1 ++ r :: m2 ∧ bQ g ρ i mb r ∧
 ∀ {β : Type} {mb' : MB} {K : SM → Option β} {res : β}, fU M i mb' K = some res → ∃ M', K M' = some res ∧ ∀ g' r', aR g' ρ M (m1 ++ r :: m2) → bQ g' ρ i mb' r' → aR g' ρ M' (m1 ++ r' :: m2)
 | [], _, _, _, .nil, h => by cases h
 | (j, m) :: M, _, i, mb, @aR.cons _ _ _ _ _ r0 ms0 hb t, h => by
  unfold fZ at h
  split at h
  ·rename_i hij
   cases h
   have hj := Nat.eq_of_beq_eq_true hij
   subst hj
   refine ⟨r0, [], ms0, rfl, hb, fun {β mb' K res} hu => ?_⟩
   simp only [fU, Nat.beq_refl] at hu
   exact ⟨_, hu, fun g' r' hM hB => by cases hM with | cons _ t' => exact .cons hB t'⟩
  ·rename_i hij
   obtain ⟨r, m1, m2, rfl, hB, hu⟩ := aR.split t h
   refine ⟨r, r0 :: m1, m2, rfl, hB, fun {β mb' K res} hu' => ?_⟩
   simp only [fU, hij] at hu'
   obtain ⟨M', h1, h2⟩ := hu hu'
   exact ⟨_, h1, fun g' r' hM hB => by cases hM with | cons hb' t' => exact .cons hb' (h2 g' r' t' hB)⟩
section
variable {X : Kx} {k : List It} {L : SL} {M : SM} {fs : List MF} {own : List aH} {arr : Array Oper} {l : List Oper} {o : Oper}
theorem vJ {a : Act} {g : GW} {ρ : Nat → Lc} {x : Operand} {sv : SV} {φ : List Prop} (h2 : ∀ t sv, aF L t = some sv → ∃ x, a.tmps[t]? = some x ∧ bC g ρ sv x) (h : pH (aF L) x = some (sv, φ)) (hφ : ∀ p ∈ φ, p) : bC g ρ sv (a.eval x) := by
 unfold pH at h
 split at h
 ·cases h; exact pQ (dJ h2 ‹_›) hφ
 ·cases h
theorem cV.new {d T : Nat} {cs : List SV} {ρ ms g a} {xs : List Value} (st : St X.toCx [] (F1 ρ M ms :: F2 X ρ L a :: fs) (ms ++ own) g a) (hn : Nat.blt d X.n = true) (hd : aI g ρ cs xs) (h1 : ∀ u ∈ xs, u.oneCell' = true) (ho : (cU d L || eM d M) = false) (hoc : sD d cs = false) (hlt : d < 1000) :
 ∃ g', g'.w = g.w.alloc (.cells xs.toArray T (0, 0)) ∧ cV X ((d, .l d 0) :: L) ((d, .c T cs) :: M) fs own g' (a.put (some d) (.pointer (some ⟨g.w.heap.size, 0, none⟩))) := by
 simp only [Bool.or_eq_false_iff] at ho
 have s' := st.alloc (.cells xs.toArray T (0, 0))
 refine ⟨⟨g.w.alloc (.cells xs.toArray T (0, 0)), g.fz, fun b hb => by have := g.lt b hb; rw [size_alloc]; omega⟩, rfl, ?_⟩
 let ρ' : Nat → Lc := fun j => if j = d then ⟨g.w.heap.size, none, 0⟩ else ρ j
 have hF : FExt g ⟨g.w.alloc (.cells xs.toArray T (0, 0)), g.fz, fun b hb => by have := g.lt b hb; rw [size_alloc]; omega⟩ := ⟨rfl, rfl, rfl, by rw [size_alloc]; omega, fun _ h => h, fun b hb => heap_alloc_old g.w _ (g.lt b hb)⟩
 have hM := s'.all _ (.head _)
 have hL : Sl X ρ L a _ := s'.all _ (.tail _ (.head _))
 have e : (ρ' d).b = g.w.heap.size := by simp [ρ']
 have hB : bQ ⟨g.w.alloc (.cells xs.toArray T (0, 0)), g.fz, fun b hb => by have := g.lt b hb; rw [size_alloc]; omega⟩ ρ' d (.c T cs) (aH.blk (ρ' d).b (.cells xs.toArray T (0, 0))) :=
  .c xs ⟨hd.1, fun n sv x h2 h3 => ((hd.2 n sv x h2 h3).mono hF).upd (j5 hoc n sv h2)⟩ h1
 rw [e] at hB
 have st2 : St X.toCx [] (F1 ρ' ((d, .c T cs) :: M) (aH.blk g.w.heap.size (.cells xs.toArray T (0, 0)) :: ms) :: F2 X ρ' L a :: fs) ((aH.blk g.w.heap.size (.cells xs.toArray T (0, 0)) :: ms) ++ own) _ a :=
  ⟨s'.kn, dF.cons (.cons hB (dH hM ho.2)) (dF.cons ⟨fun i hi => by
   have : i ≠ d := by omega
   simp only [ρ', if_neg this]; exact hL.pin i hi, fun t sv ht => by
   obtain ⟨x, hx, dx⟩ := hL.val t sv ht
   exact ⟨x, hx, dx.upd (c8 ho.1 t sv ht)⟩⟩ (fun f hf => s'.all f (.tail _ (.tail _ hf)))), s'.own, s'.ext, s'.new⟩
 refine cV.put st2 hn ?_
 have : bC _ ρ' (.l d 0) (.pointer (some ⟨(ρ' d).b, 0, none⟩)) := bC.l (g := ⟨g.w.alloc (.cells xs.toArray T (0, 0)), g.fz, fun b hb => by have := g.lt b hb; rw [size_alloc]; omega⟩)
 rw [e] at this
 exact this
theorem ZZ {d : Nat} {sv : SV} (h : yG d sv = false) : sD d (aN sv) = false := by
 cases sv <;> simp_all [aN, sD, yG]
theorem I5 (d : Nat) (v : Value) : yG d (inj v) = false := by
 have h1 : ∀ y, yG d (AW y) = false := by intro y; unfold AW; split <;> rfl
 unfold inj
 split
 ·rename_i cs
  simp only [yG]
  induction cs.toList with
  | nil => rfl
  | cons y ys ih => simp [sD, h1, ih]
 ·exact h1 _
theorem cA {L' : LL} (hg : o.guard = none) : live arr L' o = some true := by unfold live; rw [hg]
theorem OV {x : Operand} {sv : SV} {φ : List Prop} {d : Nat} (h : pH (aF L) x = some (sv, φ)) (ho : cU d L = false) : yG d sv = false := by
 unfold pH at h
 split at h
 ·rename_i s hs
  cases h
  have : yG d s = false := by
   cases x with
   | tmp t => exact c8 ho t s hs
   | const v =>
     cases v <;> cases hs <;> first | rfl | exact I5 d _
   | global i => cases hs; rfl
   | func f => cases hs; rfl
  cases s <;> first | exact this | skip
 ·cases h
theorem G2 {tb : TT} (hT : tb.Ok X.P) {L' M' φ} (hg : o.guard = none) (hn : ∀ d, o.dst = some d → Nat.blt d X.n = true) (hx : vI tb L M o.dst o.op = some (L', M', φ)) (hφ : ∀ p ∈ φ, p) (h : ES X arr l k L' M' fs own) : ES X arr (o :: l) k L M fs own := by
 intro g a hE
 obtain ⟨ρ, ms, st⟩ := hE.open
 have h2 : ∀ t sv, aF L t = some sv → ∃ x, a.tmps[t]? = some x ∧ bC g ρ sv x := (st.all (F2 X ρ L a) (.tail _ (.head _))).val
 have hw : Region.wanted o (yielded arr a.tmps) = true := aX (L := []) st.kn (cA hg)
 simp only [wl, hw, if_true]
 unfold vI at hx
 split at hx
 ·rename_i T x hop
  split at hx
  ·rename_i d sv ψ hd hb
   split at hx
   ·rename_i hok hoc
    cases hx
    simp only [Bool.and_eq_true, Nat.blt_eq] at hok
    obtain ⟨hok, hlt⟩ := hok
    have dv := vJ h2 hb hφ
    obtain ⟨d1, d2⟩ := iF hok dv
    have hoc' := hoc
    simp only [Bool.or_eq_false_iff] at hoc'
    obtain ⟨g', hw', s'⟩ := cV.new (T := T) st (hn d hd) d1 d2 hoc (ZZ (OV hb hoc'.1)) hlt
    have hr : (execOp a.eval o).run X.P g.w = .ok (.value (.pointer (some ⟨g.w.heap.size, 0, none⟩))) (g.w.alloc (.cells (a.eval x).cells T (0, 0))) := by
     simp only [execOp, hop]
     simp [Instr.box, newVar, newRow]
    simp only [wn, hr, hd]
    have := h g' _ s'
    rw [hw'] at this
    simpa using this
   ·cases hx
  ·cases hx
 ·rename_i T hop
  split at hx
  ·rename_i d t hd ht
   split at hx
   ·rename_i hok hoc
    cases hx
    simp only [Bool.and_eq_true, Nat.blt_eq] at hok
    obtain ⟨hok, hlt⟩ := hok
    obtain ⟨d1, d2⟩ := iF hok (uJ g ρ t.z)
    have hcl : yG d (inj t.z) = false := by
     exact I5 d t.z
    obtain ⟨g', hw', s'⟩ := cV.new (T := T) st (hn d hd) d1 d2 hoc (ZZ hcl) hlt
    have hr : (execOp a.eval o).run X.P g.w = .ok (.value (.pointer (some ⟨g.w.heap.size, 0, none⟩))) (g.w.alloc (.cells t.z.cells T (0, 0))) := by
     simp only [execOp, hop]
     simp [Instr.alloc, lA (TT.get_ok hT ht).ti, newVar, newRow]
    simp only [wn, hr, hd]
    have := h g' _ s'
    rw [hw'] at this
    simpa using this
   ·cases hx
  ·cases hx
 ·rename_i T x y hop
  split at hx
  ·rename_i i off ψ1 sv ψ2 t hd hb1 hb2 ht
   split at hx
   ·rename_i T0 cs hm
    split at hx
    ·rename_i hok hsz
     have hsz := Nat.eq_of_beq_eq_true hsz
     obtain ⟨hle, hx⟩ := oP hx
     have hM : aR g ρ M ms := st.all _ (.head _)
     obtain ⟨r, m1, m2, hms, hB, hu⟩ := hM.split hm
     subst hms
     obtain ⟨M2, hK, hM2⟩ := hu hx
     simp only [Option.some.injEq, Prod.mk.injEq] at hK
     obtain ⟨rfl, rfl, rfl⟩ := hK
     have dx := vJ h2 hb1 (fun p hp => hφ p (by simp [hp]))
     have dy := vJ h2 hb2 (fun p hp => hφ p (by simp [hp]))
     obtain ⟨d1, d2⟩ := iF hok dy
     cases hB with
     | c xs hdx h1 =>
       have hax : a.eval x = .pointer (some ⟨(ρ i).b, off, none⟩) := OU dx
       have hblk : g.w.heap[(ρ i).b]? = some (.cells xs.toArray T0 (0, 0)) := st.own.p (aH.blk (ρ i).b (.cells xs.toArray T0 (0, 0))) (by simp)
       have hbs : (ρ i).b < g.w.heap.size := by
        rcases Nat.lt_or_ge (ρ i).b g.w.heap.size with h | h
        ·exact h
        ·rw [Array.getElem?_eq_none h] at hblk; cases hblk
       have hlen : off + (a.eval y).cells.toList.length ≤ xs.length := by rw [d1.1, hdx.1]; exact hle
       have hst := run_storeCells_at X.P (ρ i).b off T0 (a.eval y).cells.toList 0 xs.toArray g.w hblk (by simpa using hlen) d2
       simp only [Nat.add_zero] at hst
       have hp : (m1 ++ aH.blk (ρ i).b (.cells xs.toArray T0 (0, 0)) :: m2 ++ own).Perm (aH.blk (ρ i).b (.cells xs.toArray T0 (0, 0)) :: (m1 ++ m2 ++ own)) := by
        simp only [List.append_assoc, List.cons_append]
        exact List.perm_middle
       have stp0 := st.perm hp
       have stp : St X.toCx [] (OT ρ cs xs :: OT ρ (aN sv) (a.eval y).cells.toList :: F1 ρ M _ :: F2 X ρ L a :: fs) _ g a := ⟨stp0.kn, dF.cons hdx (dF.cons d1 stp0.all), stp0.own, stp0.ext, stp0.new⟩
       obtain ⟨g', hw', s'⟩ := stp.turn .head (r' := aH.blk (ρ i).b (.cells (xs.take off ++ (a.eval y).cells.toList ++ xs.drop (off + (a.eval y).cells.toList.length)).toArray T0 (0, 0))) (w' := g.w.setRow (ρ i).b (xs.take off ++ (a.eval y).cells.toList ++ xs.drop (off + (a.eval y).cells.toList.length)).toArray)
        (fun b' _ hx' => setRow_other g.w _ b' _ (fun e => hx' (by rw [e]; exact .head _))) rfl rfl rfl (by simp) (setRow_heap g.w _ _ _ T0 _ hblk) (by simp [aH.blk]) (fun b' hb' => by
         have : b' = (ρ i).b := by simpa [aH.blk] using hb'
         subst this; simpa using hbs) (fun b' hb' => .inl hb')
       have hM' : aR g' ρ M _ := s'.all (F1 ρ M _) (.tail _ (.tail _ (.head _)))
       have hB' : bQ g' ρ i (.c T0 (cs.take off ++ aN sv ++ cs.drop (off + (aN sv).length))) (aH.blk (ρ i).b (.cells (xs.take off ++ (a.eval y).cells.toList ++ xs.drop (off + (a.eval y).cells.toList.length)).toArray T0 (0, 0))) := by
        have hF : aI g' ρ cs xs := s'.all _ (.head _)
        have hF2 : aI g' ρ (aN sv) (a.eval y).cells.toList := s'.all _ (.tail _ (.head _))
        refine .c _ (hF.put hF2 off) (fun u hu => ?_)
        simp only [List.mem_append] at hu
        rcases hu with (hu | hu) | hu
        ·exact h1 u (List.mem_of_mem_take hu)
        ·exact d2 u hu
        ·exact h1 u (List.mem_of_mem_drop hu)
       have hMn := hM2 g' _ hM' hB'
       have hp2 : (aH.blk (ρ i).b (.cells (xs.take off ++ (a.eval y).cells.toList ++ xs.drop (off + (a.eval y).cells.toList.length)).toArray T0 (0, 0)) :: (m1 ++ m2 ++ own)).Perm (m1 ++ aH.blk (ρ i).b (.cells (xs.take off ++ (a.eval y).cells.toList ++ xs.drop (off + (a.eval y).cells.toList.length)).toArray T0 (0, 0)) :: m2 ++ own) := by
        simp only [List.append_assoc, List.cons_append]
        exact List.perm_middle.symm
       have s2 := s'.perm hp2
       have hE' : cV X L M2 fs own g' a := ⟨ρ, _, ⟨s2.kn, fun f hf => s2.all f (.tail _ (.tail _ (.tail _ (.tail _ hf)))), s2.own, s2.ext, s2.new⟩, hMn, s2.all (F2 X ρ L a) (.tail _ (.tail _ (.tail _ (.head _))))⟩
       have hrun : (execOp a.eval o).run X.P g.w = .ok .skip g'.w := by
        rw [hw']
        have hsize : (a.eval y).cells.size = t.sz := by rw [← hsz, ← d1.1]; simp
        simp only [execOp, hop, hax]
        simp only [Instr.storeAt, Instr.sureAddr, storeVar, Sem.run_bind, Sem.run_pure, Result.andThen_ok, run_sizeOf (TT.get_ok hT ht).ti]
        simp only [hsize, ne_eq, not_true_eq_false, if_false, hst]
        rfl
       simp only [wn, hrun, hd]
       exact h g' a hE'
    ·cases hx
   ·cases hx
  ·cases hx
 ·cases hx
end
def aE : List Prop → Prop
 | [] => True
 | [p] => p
 | p :: r => p ∧ aE r
theorem gC : ∀ {φ : List Prop}, aE φ → ∀ p ∈ φ, p
 | [], _, p, hp => by cases hp
 | [q], h, p, hp => by cases hp with | head => exact h | tail _ hm => cases hm
 | q :: q2 :: r, h, p, hp => by
   have h : q ∧ aE (q2 :: r) := h
   cases hp with
   | head => exact h.1
   | tail _ hm => exact gC h.2 p hm
def pI {β : Type} : List Prop → List Prop → (List Prop → Option β) → Option β
 | [], acc, K => K acc
 | p :: r, acc, K => pI r (p :: acc) K
theorem gG {β : Type} : ∀ {xs acc : List Prop} {K : List Prop → Option β} {r : β}, pI xs acc K = some r → ∃ acc', K acc' = some r ∧ ∀ p, p ∈ xs ∨ p ∈ acc → p ∈ acc'
 | [], acc, K, r, h => ⟨acc, h, fun p hp => hp.elim (fun h => by cases h) id⟩
 | q :: xs, acc, K, r, h => by
   obtain ⟨acc', h1, h2⟩ := gG (xs := xs) h
   refine ⟨acc', h1, fun p hp => h2 p ?_⟩
   rcases hp with hp | hp
   ·cases hp with
    | head => exact .inr (.head _)
    | tail _ hm => exact .inl hm
   ·exact .inr (.tail _ hp)
def iY (tb : TT) (n : Nat) (arr : Array Oper) : Nat → List (List SV) → List Oper → SL → SM → List Prop → Option (List Oper × SL × SM × List Prop)
 | 0, _, l, L, M, acc => some (l, L, M, acc)
 | _ + 1, _, [], _, _, _ => none
 | m + 1, H, o :: r, L, M, acc => match gS arr (aF L) o with
   | none => none
   | some none => match I3 tb (aF L) M H o.op with
     | some (sv, φ) => match o.dst with
       | some d => match Nat.blt d n with
         | true => pI φ acc (fun acc => iY tb n arr m (match LH o.op with | true => H.tail | false => H) r ((d, sv) :: L) M acc)
         | false => none
       | none => none
     | none => match (match o.dst with | some d => Nat.blt d n | none => true) with
       | true => match vI tb L M o.dst o.op with
         | some (L2, M2, φ) => pI φ acc (fun acc => iY tb n arr m H r L2 M2 acc)
         | none => none
       | false => none
   | some (some b) => match I3 tb (aF L) M H o.op with
     | some (sv, φ) => match o.dst with
       | some d => match Nat.blt d n with
         | true => pI (φ.map fun p => b = true → p) acc (fun acc => iY tb n arr m (match LH o.op with | true => H.tail | false => H) r ((d, .g b sv) :: L) M acc)
         | false => none
       | none => none
     | none => none
def cQ (e : Nat → Option SV) : Nat → Nat → List It → List It
 | 0, _, k => k
 | f + 1, n, .code (.seq x y) :: k => cQ e f n (.code x :: .code y :: k)
 | f + 1, n, .code .skip :: k => cQ e f n k
 | f + 1, n, .code (.block id c) :: k => cQ e f n (.code c :: .blk id :: k)
 | f + 1, n, .blk _ :: k => cQ e f n k
 | f + 1, n, .code (.exit id) :: k => match kR id k with
   | some k' => cQ e f n k'
   | none => .code (.exit id) :: k
 | f + 1, n + 1, .code (.cond c x y) :: k => match cO e c with
   | some (.v (.bool true)) => cQ e f n (.code x :: k)
   | some (.v (.bool false)) => cQ e f n (.code y :: k)
   | _ => .code (.cond c x y) :: k
 | _ + 1, _, k => k
section
variable {X : Kx} {k : List It} {L : SL} {M : SM} {fs : List MF} {own : List aH} {arr : Array Oper} {l : List Oper} {o : Oper}
theorem uL {tb : TT} (hT : tb.Ok X.P) : ∀ (m : Nat) {H : List (List SV)} {l : List Oper} {L : SL} {M : SM} {acc : List Prop} {l' L' M' φ}, iY tb X.n arr m H l L M acc = some (l', L', M', φ) → (∀ p ∈ φ, p) →
 (∀ p ∈ acc, p) ∧ (ES X arr l' k L' M' fs own → ES X arr l k L M fs own)
 | 0, H, l, L, M, acc, l', L', M', φ, h, hφ => by
   simp only [iY, Option.some.injEq, Prod.mk.injEq] at h
   obtain ⟨rfl, rfl, rfl, rfl⟩ := h
   exact ⟨hφ, id⟩
 | m + 1, H, [], L, M, acc, l', L', M', φ, h, _ => by simp [iY] at h
 | m + 1, H, o :: r, L, M, acc, l', L', M', φ, h, hφ => by
   unfold iY at h
   split at h
   ·cases h
   ·rename_i hG
    split at h
    ·rename_i sv ψ hx
     split at h
     ·rename_i d hd
      split at h
      ·rename_i hn
       obtain ⟨acc', hr, hm⟩ := gG h
       obtain ⟨ha, hk⟩ := uL hT m hr hφ
       refine ⟨fun p hp => ha p (hm p (.inr hp)), fun he => ?_⟩
       have hs := j6 (fs := fs) (own := own) hT hG hd hn hx (fun p hp => ha p (hm p (.inl hp)))
       refine cP hs ?_
       rw [hd]
       exact hk he
      ·cases h
     ·cases h
    ·split at h
     ·rename_i hn
      split at h
      ·rename_i L2 M2 ψ hx
       obtain ⟨acc', hr, hm⟩ := gG h
       obtain ⟨ha, hk⟩ := uL hT m hr hφ
       refine ⟨fun p hp => ha p (hm p (.inr hp)), fun he => ?_⟩
       refine G2 hT (I4 hG) (fun d hd => ?_) hx (fun p hp => ha p (hm p (.inl hp))) (hk he)
       rw [hd] at hn
       exact hn
      ·cases h
     ·cases h
   ·rename_i b hG
    split at h
    ·rename_i sv ψ hx
     split at h
     ·rename_i d hd
      split at h
      ·rename_i hn
       obtain ⟨acc', hr, hm⟩ := gG h
       obtain ⟨ha, hk⟩ := uL hT m hr hφ
       refine ⟨fun p hp => ha p (hm p (.inr hp)), fun he => ?_⟩
       have hs := j6 (fs := fs) (own := own) hT hG hd hn hx (fun p hp => ha p (hm p (.inl hp)))
       refine cP hs ?_
       rw [hd]
       exact hk he
      ·cases h
     ·cases h
    ·cases h
theorem go {tb : TT} (hT : tb.Ok X.P) (m : Nat) (H : List (List SV)) {l' L' M' φ} (hk : ES X arr l' k L' M' fs own) (hr : iY tb X.n arr m H l L M [] = some (l', L', M', φ) := by rfl) (hφ : aE φ := by first | trivial | omega | (simp +contextual [aE]; done) | (simp +contextual [aE, *]; done) | (simp +contextual [aE, *] <;> omega)) : ES X arr l k L M fs own :=
 (uL hT m hr (gC hφ)).2 hk
theorem AZ {c : Operand} {a : Act} {g ρ} (h2 : ∀ t sv, aF L t = some sv → ∃ x, a.tmps[t]? = some x ∧ bC g ρ sv x) {x : Value} (h : cO (aF L) c = some (.v x)) : a.eval c = x := eH (dJ h2 h)
theorem Z0 {x y : Code} (h : E X (.code x :: .code y :: k) L M fs own) : E X (.code (.seq x y) :: k) L M fs own := fun g a s => wpIn_seq (h g a s)
theorem XS (h : E X k L M fs own) : E X (.code .skip :: k) L M fs own := fun g a s => wpIn_skip (h g a s)
theorem UA {id : Nat} {c : Code} (h : E X (.code c :: .blk id :: k) L M fs own) : E X (.code (.block id c) :: k) L M fs own := fun g a s => wpIn_block (h g a s)
theorem Z1 {id : Nat} (h : E X k L M fs own) : E X (.blk id :: k) L M fs own := fun g a s => h g a s
theorem XT {id : Nat} {k'} (hp : kR id k = some k') (h : E X k' L M fs own) : E X (.code (.exit id) :: k) L M fs own := fun g a s => wpIn_exit (by rw [iE hp]; exact h g a s)
theorem OW {c : Operand} {x y : Code} (hc : cO (aF L) c = some (.v (.bool true))) (h : E X (.code x :: k) L M fs own) : E X (.code (.cond c x y) :: k) L M fs own := by
 intro g a s
 obtain ⟨ρ, ms, _, _, h2⟩ := s.ex
 exact wpIn_cond_true (AZ h2.val hc) (h g a s)
theorem OX {c : Operand} {x y : Code} (hc : cO (aF L) c = some (.v (.bool false))) (h : E X (.code y :: k) L M fs own) : E X (.code (.cond c x y) :: k) L M fs own := by
 intro g a s
 obtain ⟨ρ, ms, _, _, h2⟩ := s.ex
 exact wpIn_cond_false (AZ h2.val hc) (h g a s)
theorem OY {c : Operand} {x y : Code} {b : Bool} (hc : cO (aF L) c = some (.v (.bool b))) (ht : b = true → E X (.code x :: k) L M fs own) (hf : b = false → E X (.code y :: k) L M fs own) : E X (.code (.cond c x y) :: k) L M fs own := by
 intro g a s
 obtain ⟨ρ, ms, _, _, h2⟩ := s.ex
 exact wpIn_cond_split (AZ h2.val hc) (fun h => ht h g a s) (fun h => hf h g a s)
theorem OZ {id : Nat} (h : ES X l.toArray l k L M fs own) : E X (.code (.region id l.toArray false) :: k) L M fs own :=
 fun g a s => by
  exact wpIn_region_lit (IV l a g.w (Q := jP X.P X.rd X.Q k) (h g a s))
theorem dK : ∀ (f n : Nat) {k : List It}, E X (cQ (aF L) f n k) L M fs own → E X k L M fs own
 | 0, _, _, h => h
 | f + 1, n, k, h => by
   unfold cQ at h
   split at h
   ·cases ‹_ + 1 = _›
   ·obtain ⟨rfl⟩ := Nat.succ.inj ‹_›; exact Z0 (dK f _ h)
   ·obtain ⟨rfl⟩ := Nat.succ.inj ‹_›; exact XS (dK f _ h)
   ·obtain ⟨rfl⟩ := Nat.succ.inj ‹_›; exact UA (dK f _ h)
   ·obtain ⟨rfl⟩ := Nat.succ.inj ‹_›; exact Z1 (dK f _ h)
   ·obtain ⟨rfl⟩ := Nat.succ.inj ‹_›
    split at h
    ·exact XT ‹_› (dK f _ h)
    ·exact h
   ·obtain ⟨rfl⟩ := Nat.succ.inj ‹_›
    split at h
    ·exact OW ‹_› (dK f _ h)
    ·exact OX ‹_› (dK f _ h)
    ·exact h
   ·exact h
theorem en {tb : TT} (hT : tb.Ok X.P) (n m : Nat) (H : List (List SV)) {id : Nat} {k' : List It} {l l' L' M' φ} (h : ES X l.toArray l' k' L' M' fs own) (hk : cQ (aF L) 64 n k = .code (.region id l.toArray false) :: k' := by rfl) (hr : iY tb X.n l.toArray m H l L M [] = some (l', L', M', φ) := by rfl)
 (hφ : aE φ := by first | trivial | omega | (simp +contextual [aE]; done) | (simp +contextual [aE, *]; done) | (simp +contextual [aE, *] <;> omega)) : E X k L M fs own :=
 dK 64 n (hk ▸ OZ (go hT m H h hr hφ))
theorem sn {tb : TT} (hT : tb.Ok X.P) (n m : Nat) (H : List (List SV)) {id : Nat} {k' : List It} {l l' L' M' φ} (h : ES X l.toArray l' k' L' M' fs own) (hk : cQ (aF L) 64 n k = .code (.region id l.toArray false) :: k' := by rfl) (hr : iY tb X.n l.toArray m H l L M [] = some (l', L', M', φ) := by rfl)
 (hφ : aE φ := by first | trivial | omega | (simp +contextual [aE]; done) | (simp +contextual [aE, *]; done) | (simp +contextual [aE, *] <;> omega)) : ES X arr [] k L M fs own :=
 jI (en hT n m H h hk hr hφ)
theorem el (n : Nat) {k'} (h : E X k' L M fs own) (hk : cQ (aF L) 64 n k = k' := by rfl) : E X k L M fs own := dK 64 n (hk ▸ h)
theorem sl (n : Nat) {k'} (h : E X k' L M fs own) (hk : cQ (aF L) 64 n k = k' := by rfl) : ES X arr [] k L M fs own := jI (el n h hk)
theorem ei (n : Nat) {k' : List It} {c : Operand} {x y : Code} {p : Prop} [Decidable p] (hk : cQ (aF L) 64 n k = .code (.cond c x y) :: k') (hc : cO (aF L) c = some (.v (.bool (decide p)))) (ht : p → E X (.code x :: k') L M fs own) (hf : ¬ p → E X (.code y :: k') L M fs own) : E X k L M fs own :=
 dK 64 n (hk ▸ OY hc (fun h => ht (of_decide_eq_true h)) (fun h => hf (of_decide_eq_false h)))
theorem Z2 (n : Nat) {k' : List It} {c : Operand} {x y : Code} {b : Bool} (hk : cQ (aF L) 64 n k = .code (.cond c x y) :: k') (hc : cO (aF L) c = some (.v (.bool b))) (ht : b = true → E X (.code x :: k') L M fs own) (hf : b = false → E X (.code y :: k') L M fs own) : E X k L M fs own :=
 dK 64 n (hk ▸ OY hc ht hf)
theorem si (n : Nat) {k' : List It} {c : Operand} {x y : Code} {p : Prop} [Decidable p] (hk : cQ (aF L) 64 n k = .code (.cond c x y) :: k') (hc : cO (aF L) c = some (.v (.bool (decide p)))) (ht : p → E X (.code x :: k') L M fs own) (hf : ¬ p → E X (.code y :: k') L M fs own) : ES X arr [] k L M fs own := jI (ei n hk hc ht hf)
theorem bM (n : Nat) {k' : List It} {c : Operand} {x y : Code} {b : Bool} (hk : cQ (aF L) 64 n k = .code (.cond c x y) :: k') (hc : cO (aF L) c = some (.v (.bool b))) (ht : b = true → E X (.code x :: k') L M fs own) (hf : b = false → E X (.code y :: k') L M fs own) : ES X arr [] k L M fs own := jI (Z2 n hk hc ht hf)
theorem sb (i : Nat) {b : Bool} (hi : aF L i = some (.v (.bool b))) (ht : b = true → ES X arr l k ((i, .v (.bool true)) :: L) M fs own) (hf : b = false → ES X arr l k ((i, .v (.bool false)) :: L) M fs own) : ES X arr l k L M fs own := by
 intro g a s
 have hs : ∀ {b' : Bool}, b = b' → cV X ((i, .v (.bool b')) :: L) M fs own g a := fun e => s.sub (fun t sv ht => by
  by_cases h : t = i
  ·subst h; rw [bF] at ht; cases ht; rw [hi, e]
  ·rw [bX _ _ h] at ht; exact ht)
 cases b with
 | true => exact ht rfl g a (hs rfl)
 | false => exact hf rfl g a (hs rfl)
theorem jR (i : Nat) {v v' : SV} (hi : aF L i = some v) (e : v = v') (h : ES X arr l k ((i, v') :: L) M fs own) : ES X arr l k L M fs own := by
 intro g a s
 refine h g a (s.sub (fun t sv ht => ?_))
 by_cases hti : t = i
 ·subst hti; rw [bF] at ht; cases ht; rw [hi, e]
 ·rw [bX _ _ hti] at ht; exact ht
theorem jG (i : Nat) {v v' : SV} (hi : aF L i = some v) (e : v = v') (h : E X k ((i, v') :: L) M fs own) : E X k L M fs own :=
 jR (arr := #[]) i hi e (jI h) |> fun h => h
def Fc (P : Program) (fs : List MF) (f : FuncId) (args : List SV) (res : SV) : Prop :=
 iV P f ∧ ∀ ρ g vs, dF fs g → aI g ρ args vs → Calls P f vs.toArray g.w fun e w' => ∃ v g', e = .returned v ∧ g'.w = w' ∧ oK [] g g' ∧ bC g' ρ res v
theorem sG {P : Program} {f : FuncId} (h : iV P f) {ot : Oper} {ρe : Operand → Value} {fo : Operand} {az : Array Operand} {ts : Array TypeId} {xs ys : List Value} (ho : ot.op = .call ⟨.value fo, az, ts⟩) (hfe : ρe fo = .func (.func f) xs.toArray ys.toArray) (w : World) :
 (execOp ρe ot).run P w = .ok (.enter f (xs ++ az.toList.map ρe ++ ys).toArray) w := by
 simp only [execOp, ho, resolve, hfe]
 show (callFunc f ((xs.toArray ++ az.map ρe) ++ ys.toArray)).run P w = _
 rw [mC h]
 congr 2
 exact Array.ext' (by simp)
theorem vK {g ρ fn fi ca x} (h : bC g ρ (.f fn fi ca) x) : ∃ xs ys, x = .func (.func fn) xs.toArray ys.toArray ∧ aI g ρ fi xs ∧ aI g ρ ca ys := by
 cases h with | f xs ys a b c d => exact ⟨xs, ys, rfl, ⟨a, b⟩, ⟨c, d⟩⟩
theorem cV.ext0 {g g' : GW} {a : Act} {ρ ms} (st : St X.toCx [] (F1 ρ M ms :: F2 X ρ L a :: fs) (ms ++ own) g a) (hE : oK [] g g') : St X.toCx [] (F1 ρ M ms :: F2 X ρ L a :: fs) (ms ++ own) g' a := by
 have := st.frame (fsc := []) (ownc := []) (fs' := []) (own' := []) .nil (by simpa using hE) (fun f hf => (by cases hf)) ⟨fun r hr => (by cases hr), List.nodup_nil, fun b hb => (by cases hb), fun b hb => (by cases hb)⟩ (fun b hb => (by cases hb)) .nil
 simpa using this
theorem vL {d : Nat} {f : FuncId} {fo : Operand} {az : Array Operand} {ts : Array TypeId} {sf : SV} {fi ca svs args : List SV} {res : SV} {G : Option Bool} (hG : gS arr (aF L) o = some G) (hd : o.dst = some d) (hn : Nat.blt d X.n = true) (ho : o.op = .call ⟨.value fo, az, ts⟩)
 (hfo : cO (aF L) fo = some sf) (hsf : st1 sf = .f f fi ca) (ha : evs (aF L) az.toList = some svs) (hφ : ∀ p ∈ wq G (pB sf ++ svs.flatMap pB), p) (hargs : fi ++ svs.map st1 ++ ca = args) (hs : sF G = true → Fc X.P fs f args res) : Stp X arr o L M fs own (wr G res) M := by
 intro L' hL g a hE
 obtain ⟨ρ, ms, st⟩ := hE.open
 have h2 : ∀ t sv, aF L' t = some sv → ∃ x, a.tmps[t]? = some x ∧ bC g ρ sv x := (st.all (F2 X ρ L' a) (.tail _ (.head _))).val
 have hw := D6 st.kn h2 ((nF hL).trans hG)
 have hsl : ∀ t ∈ (fo :: az.toList).filterMap mS, aF L' t = aF L t := fun t ht => hL t (by
  have : t ∈ o.op.operands.toList.filterMap mS := by rw [ho]; simpa [Op.operands, Call.operands] using ht
  exact List.mem_append_left _ this)
 have hall : evs (aF L) (fo :: az.toList) = some (sf :: svs) := by simp only [evs, hfo, ha]
 have hall' : evs (aF L') (fo :: az.toList) = some (sf :: svs) := (oO hsl).trans hall
 unfold rY
 rw [hw]
 by_cases hon : sF G = true
 ·rw [if_pos hon]
  obtain ⟨hc, hcall⟩ := hs hon
  have hden := mD (aT h2 hall') (by simpa using vH hφ hon)
  obtain ⟨x, r, e1, dx, dr⟩ := hden.uncons
  simp only [List.map_cons, List.cons.injEq] at e1
  obtain ⟨rfl, rfl⟩ := e1
  rw [hsf] at dx
  obtain ⟨xs, ys, hfe, d1, d2⟩ := vK dx
  have hargs' : aI g ρ args (xs ++ az.toList.map a.eval ++ ys) := by rw [← hargs]; exact (d1.append dr).append d2
  have hrun := sG hc (ρe := a.eval) ho hfe g.w
  simp only [wn, hrun, hd]
  refine (hcall ρ g _ (fun f hf => st.all f (.tail _ (.tail _ hf))) hargs').mono ?_
  rintro e w' ⟨v, g', rfl, rfl, hE', dv⟩
  refine ⟨v, rfl, g', rfl, cV.put (cV.ext0 st hE') hn ?_⟩
  cases G with
  | none => exact dv
  | some b => have hb : b = true := hon; subst hb; exact .gt dv
 ·rw [if_neg hon]
  simp only [hd, jQ]
  refine ⟨g, rfl, cV.put st hn ?_⟩
  cases G with
  | none => exact absurd rfl hon
  | some b =>
    have hb : b = false := by simpa [sF] using hon
    subst hb; exact .gf
theorem fc {tb : TT} (hT : tb.Ok X.P) (m : Nat) (H : List (List SV)) {d : Nat} {f : FuncId} {fo : Operand} {az : Array Operand} {ts : Array TypeId} {fi ca svs args : List SV} {res : SV} {l' L' M' φ} (hs : Fc X.P fs f args res) (hk : ES X arr l' k L' M' fs own) (hg : o.guard = none := by rfl) (hd : o.dst = some d := by rfl) (ho : o.op = .call ⟨.value fo, az, ts⟩ := by rfl) (hfo : cO (aF L) fo = some (.f f fi ca) := by rfl)
 (ha : evs (aF L) az.toList = some svs := by rfl) (hb : fi ++ svs.map st1 ++ ca = args := by rfl) (hc : svs.flatMap pB = [] := by rfl) (hn : Nat.blt d X.n = true := by rfl) (hr : iY tb X.n arr m H l ((d, res) :: L) M [] = some (l', L', M', φ) := by rfl) (hφ : aE φ := by first | trivial | omega | (simp +contextual [aE]; done) | (simp +contextual [aE, *]; done) | (simp +contextual [aE, *] <;> omega)) : ES X arr (o :: l) k L M fs own := by
 have hG : gS arr (aF L) o = some none := by unfold gS; rw [hg]
 have := vL (M := M) (fs := fs) (own := own) (res := res) hG hd hn ho hfo rfl ha (by rw [hc]; intro p hp; cases hp) hb (fun _ => hs)
 refine cP this ?_
 rw [hd]
 exact go hT m H hk hr hφ
theorem fg {tb : TT} (hT : tb.Ok X.P) (m : Nat) (H : List (List SV)) {d : Nat} {f : FuncId} {fo : Operand} {az : Array Operand} {ts : Array TypeId} {sf : SV} {fi ca svs args : List SV} {res : SV} {b : Bool} {l' L' M' φ ψ} (hs : b = true → Fc X.P fs f args res) (hk : ES X arr l' k L' M' fs own) (hG : gS arr (aF L) o = some (some b) := by rfl) (hd : o.dst = some d := by rfl) (ho : o.op = .call ⟨.value fo, az, ts⟩ := by rfl) (hfo : cO (aF L) fo = some sf := by rfl) (hsf : st1 sf = .f f fi ca := by rfl)
 (ha : evs (aF L) az.toList = some svs := by rfl) (hb : fi ++ svs.map st1 ++ ca = args := by rfl) (hc : wq (some b) (pB sf ++ svs.flatMap pB) = ψ := by rfl) (hψ : aE ψ := by first | trivial | exact id | exact ⟨id, id⟩ | exact ⟨id, id, id⟩ | (simp +contextual [aE]; done) | simp_all [aE]) (hn : Nat.blt d X.n = true := by rfl) (hr : iY tb X.n arr m H l ((d, .g b res) :: L) M [] = some (l', L', M', φ) := by rfl) (hφ : aE φ := by first | trivial | omega | (simp +contextual [aE]; done) | (simp +contextual [aE, *]; done) | (simp +contextual [aE, *] <;> omega)) : ES X arr (o :: l) k L M fs own := by
 have := vL (M := M) (fs := fs) (own := own) (res := res) hG hd hn ho hfo hsf ha (by rw [hc]; exact gC hψ) hb (fun h => hs h)
 refine cP this ?_
 rw [hd]
 exact go hT m H hk hr hφ
end
def fV (tb : TT) (L : SL) (M : SM) : List ResultVar → Option (List SV)
 | [] => some []
 | .tmp t :: r => match aF L t with
   | some v => match fV tb L M r with
     | some vs => some (v :: vs)
     | none => none
   | none => none
 | .cell c T :: r => match aF L c with
   | some p => match qH tb M T [p] with
     | some (v, _) => match fV tb L M r with
       | some vs => some (v :: vs)
       | none => none
     | none => none
   | none => none
def bB : List SV → SV
 | [v] => v
 | vs => .t vs
theorem LI {tb : TT} {M : SM} {T : Nat} {p : SV} {r} (h : qH tb M T [p] = some r) : ∃ cs, uK M p = some cs := by
 simp only [qH] at h
 split at h
 ·split at h
  ·exact ⟨_, ‹_›⟩
  ·cases h
 ·cases h
theorem G3 {P : Program} {w : World} {a : Addr} : (asAddr (.pointer (some a))).run P w = .ok a w := rfl
theorem A0 {tb : TT} {X : Kx} (hT : tb.Ok X.P) {L : SL} {M : SM} {ms own : List aH} {g : GW} {a : Act} {ρ : Nat → Lc} {fs : List MF} (st : St X.toCx [] fs (ms ++ own) g a) (hM : aR g ρ M ms) (hL : Sl X ρ L a g) (f : ResultVar → Sem Value)
 (hf : ∀ t, f (.tmp t) = pure (a.tmps.getD t undef)) (hf2 : ∀ c T, f (.cell c T) = (do loadVar T (← asAddr (a.tmps.getD c undef)))) :
 ∀ {rs : List ResultVar} {svs : List SV}, fV tb L M rs = some svs → ∃ xs, (rs.mapM f).run X.P g.w = .ok xs g.w ∧ aI g ρ svs xs
 | [], svs, h => by cases h; exact ⟨[], rfl, aI.nil⟩
 | .tmp t :: r, svs, h => by
   unfold fV at h
   split at h
   ·rename_i v hv
    split at h
    ·rename_i vs hr
     cases h
     obtain ⟨xs, h1, h2⟩ := A0 hT st hM hL f hf hf2 hr
     obtain ⟨x, hx, dx⟩ := hL.val t v hv
     refine ⟨x :: xs, ?_, aI.cons dx h2⟩
     rw [List.mapM_cons, hf t]
     have e : a.tmps.getD t undef = x := by simp [Array.getD_eq_getD_getElem?, hx]
     simp only [Sem.run_bind, Sem.run_pure, Result.andThen_ok, h1, e]
    ·cases h
   ·cases h
 | .cell c T :: r, svs, h => by
   unfold fV at h
   split at h
   ·rename_i p hp
    split at h
    ·rename_i v φ hv
     split at h
     ·rename_i vs hr
      cases h
      obtain ⟨xs, h1, h2⟩ := A0 hT st hM hL f hf hf2 hr
      obtain ⟨x, hx, dx⟩ := hL.val c p hp
      have e : a.tmps.getD c undef = x := by simp [Array.getD_eq_getD_getElem?, hx]
      obtain ⟨Lr, st', hev, _⟩ := st.slots (os := [.tmp c]) (e := aF L) (svs := [p]) (fun t sv ht => by obtain ⟨y, hy, _⟩ := hL.val t sv ht; exact ⟨y, hy⟩) (by simp [evs, cO, hp])
      have hload := vE (o := ⟨none, .load T (.tmp c), 0, "", #[], none⟩) hT st' hM rfl hev (by
       have : a.eval (.tmp c) = x := e
       simp only [List.map_cons, List.map_nil, this]
       exact aI.cons dx aI.nil) hv
      obtain ⟨y, hy, dy⟩ := hload
      refine ⟨y :: xs, ?_, aI.cons dy h2⟩
      rw [List.mapM_cons, hf2]
      obtain ⟨b, oo, hxe⟩ : ∃ b oo, x = .pointer (some ⟨b, oo, none⟩) := by
       obtain ⟨cs, hcs⟩ := LI hv
       obtain ⟨b, oo, _, h3, _⟩ := vD hM (fun r hr => st.own.p r (List.mem_append_left _ hr)) dx hcs
       exact ⟨b, oo, h3⟩
      have hlv : (loadVar T ⟨b, oo, none⟩).run X.P g.w = .ok y g.w := by
       have h3 : a.eval (.tmp c) = .pointer (some ⟨b, oo, none⟩) := by
        show a.tmps.getD c undef = _
        rw [e, hxe]
       simp only [execOp, h3] at hy
       simp only [Instr.loadAt, Instr.sureAddr, Sem.run_bind, Sem.run_pure, Result.andThen_ok] at hy
       cases hr2 : (loadVar T ⟨b, oo, none⟩).run X.P g.w with
       | ok v w =>
         rw [hr2] at hy
         simp only [Result.andThen_ok, Result.ok.injEq, Next.value.injEq] at hy
         rw [hy.1, hy.2]
       | halt h w =>
         rw [hr2] at hy
         cases hy
      simp only [Sem.run_bind, Sem.run_pure, Result.andThen_ok, e, hxe, G3, hlv, h1]
     ·cases h
    ·cases h
   ·cases h
theorem iG {tb : TT} {X : Kx} (hT : tb.Ok X.P) {L : SL} {M : SM} {ms own : List aH} {g : GW} {a : Act} {ρ : Nat → Lc} {fs : List MF} {fn : Func} {rs : List ResultVar} {svs : List SV} (st : St X.toCx [] fs (ms ++ own) g a) (hM : aR g ρ M ms) (hL : Sl X ρ L a g) (hr : fn.results = rs.toArray)
 (h : fV tb L M rs = some svs) : ∃ v, (results fn a.tmps).run X.P g.w = .ok v g.w ∧ bC g ρ (bB svs) v := by
 have key := A0 hT st hM hL (fun | .tmp t => pure (a.tmps.getD t undef) | .cell c T => do loadVar T (← asAddr (a.tmps.getD c undef))) (fun _ => rfl) (fun _ _ => rfl) h
 obtain ⟨xs, h1, h2⟩ := key
 refine ⟨N8 xs, ?_, ?_⟩
 ·unfold results
  rw [hr, List.mapM_toArray]
  show (do let vs' ← (List.toArray <$> (rs.mapM _)); pure (if h : vs'.size = 1 then vs'[0] else Value.tuple vs') : Sem Value).run X.P g.w = _
  have h1' : (List.toArray <$> (rs.mapM fun (x : ResultVar) => match x with | .tmp t => pure (a.tmps.getD t undef) | .cell c T => do loadVar T (← asAddr (a.tmps.getD c undef)) : Sem (List Value))).run X.P g.w = .ok xs.toArray g.w := by
   rw [map_eq_pure_bind]
   simp only [Sem.run_bind, h1, Result.andThen_ok, Sem.run_pure]
  rw [Sem.run_bind]
  refine (congrArg (fun r => Result.andThen r _) h1').trans ?_
  show Result.ok (if h : xs.toArray.size = 1 then xs.toArray[0] else Value.tuple xs.toArray) g.w = _
  match xs with
  | [] => rfl
  | [v] => rfl
  | v :: u :: us => simp [N8]
 ·match svs, xs, h2 with
  | [], xs, h2 => rw [h2.unnil]; exact .t [] rfl (fun j sv x h => by simp at h)
  | [sv], xs, h2 =>
    obtain ⟨x, r, rfl, dx, hr⟩ := h2.uncons
    rw [hr.unnil]
    exact dx
  | s1 :: s2 :: ss, xs, h2 =>
    obtain ⟨x, r, rfl, dx, hr⟩ := h2.uncons
    obtain ⟨y, r, rfl, dy, hr2⟩ := hr.uncons
    exact .t _ h2.1 h2.2
def vM : MB → Bool
 | .c _ cs => nC cs
 | .r _ _ _ => true
 | .m _ => true
 | .it _ _ _ => false
 | .q _ _ _ => true
theorem aI.swap {g : GW} {ρ svs xs} (h : aI g ρ svs xs) (hc : nC svs = true) (ρ' : Nat → Lc) : aI g ρ' svs xs := ⟨h.1, fun j sv x h1 h2 => (h.2 j sv x h1 h2).swap (gB hc j sv h1) ρ'⟩
theorem bQ.move {g : GW} {ρ ρ' : Nat → Lc} {i j : Nat} {mb : MB} {r : aH} (h : bQ g ρ i mb r) (hc : vM mb = true) (e : ρ' j = ρ i) : bQ g ρ' j mb r := by
 cases h with
 | c xs hd h1 =>
   rename_i T cs
   have : bQ g ρ' j (.c T cs) (aH.blk (ρ' j).b (.cells xs.toArray T (0, 0))) := .c xs (hd.swap hc ρ') h1
   rwa [e] at this
 | r hz xs hl hd =>
   rename_i T sz rows
   have : bQ g ρ' j (.r T sz rows) (aH.arr (aC sz hz) T (ρ' j).ad (ρ' j).c xs) := .r hz xs hl hd
   rwa [e] at this
 | m raw hk hd =>
   have : bQ g ρ' j (.m _) (aH.mp str (fun v : Value => v) (ρ' j).b raw) := .m raw hk hd
   rwa [e] at this
 | it raw hk hd => cases hc
 | q hz xs hl hd =>
   rename_i T sz rows
   have : bQ g ρ' j (.q T sz rows) (aH.que (aC sz hz) T (ρ' j).ad (ρ' j).c xs) := .q hz xs hl hd
   rwa [e] at this
def b9 (p : Nat → Bool) : SM → SM
 | [] => []
 | (i, m) :: r => match p i with
  | true => (i, m) :: b9 p r
  | false => b9 p r
theorem aR.keep {g : GW} {ρ : Nat → Lc} (p : Nat → Bool) : ∀ {M : SM} {ms : List aH}, aR g ρ M ms → ∃ m1 m2, aR g ρ (b9 p M) m1 ∧ ms.Perm (m1 ++ m2)
 | [], _, .nil => ⟨[], [], .nil, .nil⟩
 | (i, m) :: M, _, @aR.cons _ _ _ _ _ r ms hb t => by
  obtain ⟨m1, m2, h1, h2⟩ := aR.keep p t
  unfold b9
  split
  ·exact ⟨r :: m1, m2, .cons hb h1, by simpa using h2.cons r⟩
  ·exact ⟨m1, r :: m2, h1, (h2.cons r).trans (by simpa using (List.perm_middle (a := r) (l₁ := m1) (l₂ := m2)).symm)⟩
theorem St.drop {X : Cx} {L : LL} {fs A B g a} (s : St X L fs (A ++ B) g a) : St X L fs A g a :=
 ⟨s.kn, s.all, s.own.left, s.ext, fun b hb => s.new b (by simp [hb])⟩
def A1 (L : SL) : SL → Prop
 | [] => True
 | (i, v) :: r => aF L i = some v ∧ A1 L r
theorem A2 {L : SL} : ∀ {L' : SL}, A1 L L' → ∀ t sv, aF L' t = some sv → aF L t = some sv
 | [], _, t, sv, h => by cases h
 | (i, v) :: r, ⟨h1, h2⟩, t, sv, h => by
  by_cases ht : t = i
  ·subst ht; rw [bF] at h; cases h; exact h1
  ·rw [bX _ _ ht] at h; exact A2 h2 t sv h
theorem cV.weak {X : Kx} {L L' : SL} {M M' : SM} {fs own g a} (h : cV X L M fs own g a) (hL : A1 L L') (p : Nat → Bool) (hM : b9 p M = M') : cV X L' M' fs own g a := by
 obtain ⟨ρ, ms, h1, h2, h3⟩ := h
 obtain ⟨m1, m2, h4, h5⟩ := h2.keep p
 have hp : (ms ++ own).Perm ((m1 ++ own) ++ m2) := (h5.append_right own).trans (by
  simp only [List.append_assoc]
  exact List.Perm.append_left _ List.perm_append_comm)
 exact ⟨ρ, m1, (h1.perm hp).drop, hM ▸ h4, h3.pin, fun t sv ht => h3.val t sv (A2 hL t sv ht)⟩
def vN (M : SM) (i : Nat) : Bool := match fZ M i with
 | some _ => true
 | none => false
section
variable {X : Kx} {k : List It} {L : SL} {M : SM} {fs : List MF} {own : List aH} {arr : Array Oper} {l : List Oper} {o : Oper}
theorem vO {k : IntKind} {a b : Int} (h : a = b) : some (SV.v (.int k a)) = some (SV.v (.int k b)) := by rw [h]
theorem aD {σ : Type} (I : σ → Prop) (μ : σ → Nat) (Ls : σ → SL) (Ms : σ → SM) {body : Code} (s0 : σ) (h0 : I s0)
 (round : ∀ (J : Act → World → Prop) s, I s → (∀ s' {L' M'}, I s' → μ s' < μ s → (_ : A1 L' (Ls s') := by (repeat (first | exact trivial | refine ⟨rfl, ?_⟩ | refine ⟨vO (by omega), ?_⟩ | refine ⟨vO (by simp; done), ?_⟩ | refine ⟨vO (by simp <;> omega), ?_⟩))) → (_ : b9 (vN (Ms s')) M' = Ms s' := by rfl) → E X (.lp J :: k) L' M' fs own) →
  E X (.code body :: .lp J :: k) (Ls s) (Ms s) fs own)
 (hL : A1 L (Ls s0) := by (repeat (first | exact trivial | refine ⟨rfl, ?_⟩ | refine ⟨vO (by omega), ?_⟩ | refine ⟨vO (by simp; done), ?_⟩ | refine ⟨vO (by simp <;> omega), ?_⟩))) (hM : b9 (vN (Ms s0)) M = Ms s0 := by rfl) : E X (.code (.loop body) :: k) L M fs own := by
 intro g a hs
 exact tO (fun s a w => I s ∧ ∃ g', cV X (Ls s) (Ms s) fs own g' a ∧ g'.w = w) μ (fun s a w ⟨hI, g', hst, hw⟩ => by
  subst hw
  exact round (fun a' w' => ∃ s', (I s' ∧ ∃ g', cV X (Ls s') (Ms s') fs own g' a' ∧ g'.w = w') ∧ μ s' < μ s) s hI
   (fun s' {L' M'} h1 h2 h3 h4 g2 a' hst' => ⟨s', ⟨h1, g2, hst'.weak h3 _ h4, rfl⟩, h2⟩) g' a hst) s0 a g.w
  ⟨h0, g, hs.weak hL _ hM, rfl⟩
end
structure Z3 (ρ : Nat → Lc) (g : GW) (ms : List aH) (R : SV → SM → Prop) (e : Ending) (w' : World) : Prop where
 ex : ∃ v g' sv M' ms', e = .returned v ∧ g'.w = w' ∧ oK (bV ms) g g' ∧ R sv M' ∧ bC g' ρ sv v ∧ aR g' ρ M' ms' ∧ Own ms' g' ∧ ∀ b ∈ bV ms', b ∈ bV ms ∨ g.w.heap.size ≤ b
def FnM (P : Program) (fs : List MF) (f : FuncId) (args : List SV) (M : SM) (R : SV → SM → Prop) : Prop :=
 iV P f ∧ ∀ ρ g vs ms, dF fs g → aI g ρ args vs → aR g ρ M ms → Own ms g → Calls P f vs.toArray g.w (Z3 ρ g ms R)
mutual
def t8 : SV → Bool
 | .l j _ => Nat.ble 1000 j
 | .o j _ => Nat.ble 1000 j
 | .e j _ => Nat.ble 1000 j
 | .mp j => Nat.ble 1000 j
 | .fm _ => true
 | .ni => true
 | .a cs => WX cs
 | .f _ x y => WX x && WX y
 | .t vs => WX vs
 | .g _ x => t8 x
 | .v _ => true
 | .str _ => true
 | .s _ _ => true
 | .p _ => true
def WX : List SV → Bool
 | [] => true
 | x :: r => t8 x && WX r
end
theorem oQ : ∀ {l : List SV}, WX l = true → ∀ (j : Nat) sv, l[j]? = some sv → t8 sv = true
 | [], _, j, sv, h => by simp at h
 | x :: r, hc, j, sv, h => by
   simp only [WX, Bool.and_eq_true] at hc
   cases j with
   | zero => simp at h; exact h ▸ hc.1
   | succ j => exact oQ hc.2 j sv (by simpa using h)
theorem bC.hi {g : GW} {ρ sv x} (h : bC g ρ sv x) : t8 sv = true → ∀ ρ', (∀ i, 1000 ≤ i → ρ i = ρ' i) → bC g ρ' sv x := by
 have le : ∀ {j}, Nat.ble 1000 j = true → 1000 ≤ j := fun h => Nat.le_of_ble_eq_true h
 induction h with
 | v => exact fun _ _ _ => .v
 | str => exact fun _ _ _ => .str
 | s xs h1 h2 hl hr ho hne hd _ => exact fun _ _ _ => .s xs h1 h2 hl hr ho hne hd
 | p xs hl hf hc hd _ => exact fun _ _ _ => .p xs hl hf hc hd
 | l => intro h ρ' e; rw [e _ (le h)]; exact .l
 | a xs hl _ ih => exact fun hc ρ' e => .a xs hl (fun j sv x h1 h2 => ih j sv x h1 h2 (oQ hc j sv h1) ρ' e)
 | f xs ys hl _ hl2 _ ih ih2 =>
   intro hc ρ' e
   simp only [t8, Bool.and_eq_true] at hc
   exact .f xs ys hl (fun j sv x h1 h2 => ih j sv x h1 h2 (oQ hc.1 j sv h1) ρ' e) hl2 (fun j sv x h1 h2 => ih2 j sv x h1 h2 (oQ hc.2 j sv h1) ρ' e)
 | t xs hl _ ih => exact fun hc ρ' e => .t xs hl (fun j sv x h1 h2 => ih j sv x h1 h2 (oQ hc j sv h1) ρ' e)
 | gt _ ih => exact fun hc ρ' e => .gt (ih hc ρ' e)
 | gf => exact fun _ _ _ => .gf
 | o => intro h ρ' e; rw [e _ (le h)]; exact .o
 | e h' => intro h ρ' e; exact .e (by rw [← e _ (le h)]; exact h')
 | fm raw ms clk hf hh he hk hd _ => exact fun _ _ _ => .fm raw ms clk hf hh he hk hd
 | mp => intro h ρ' e; rw [e _ (le h)]; exact .mp
 | ni => exact fun _ _ _ => .ni
def Y6 : MB → Bool
 | .c _ cs => WX cs
 | .r _ _ _ => true
 | .m _ => true
 | .it _ _ _ => false
 | .q _ _ _ => true
def WY : SM → Bool
 | [] => true
 | (i, m) :: r => Nat.ble 1000 i && (Y6 m && WY r)
theorem bQ.hi {g : GW} {ρ ρ' : Nat → Lc} {i : Nat} {mb : MB} {r : aH} (h : bQ g ρ i mb r) (hb : Y6 mb = true) (hi : 1000 ≤ i) (e : ∀ i, 1000 ≤ i → ρ i = ρ' i) : bQ g ρ' i mb r := by
 cases h with
 | c xs hd h1 => rw [e i hi]; exact .c xs ⟨hd.1, fun j sv x h2 h3 => (hd.2 j sv x h2 h3).hi (oQ hb j sv h2) ρ' e⟩ h1
 | r hz xs hl hd => rw [e i hi]; exact .r hz xs hl hd
 | m raw hk hd => rw [e i hi]; exact .m raw hk hd
 | it raw hk hd => cases hb
 | q hz xs hl hd => rw [e i hi]; exact .q hz xs hl hd
theorem aR.hi {g : GW} {ρ ρ' : Nat → Lc} (e : ∀ i, 1000 ≤ i → ρ i = ρ' i) : ∀ {M : SM} {ms : List aH}, aR g ρ M ms → WY M = true → aR g ρ' M ms
 | [], _, .nil, _ => .nil
 | (i, m) :: M, _, .cons hb t, h => by
  simp only [WY, Bool.and_eq_true] at h
  exact .cons (hb.hi h.2.1 (Nat.le_of_ble_eq_true h.1) e) (aR.hi e t h.2.2)
structure Rt (X : Kx) (fs : List MF) (tb : TT) (rs : List ResultVar) (R : SV → SM → Prop) : Prop where
 ret : ∀ {k L M svs}, fV tb L M rs = some svs → t8 (bB svs) = true → WY (b9 (Nat.ble 1000) M) = true → R (bB svs) (b9 (Nat.ble 1000) M) → E X (.code .ret :: k) L M fs []
 fall : ∀ {L M svs}, fV tb L M rs = some svs → t8 (bB svs) = true → WY (b9 (Nat.ble 1000) M) = true → R (bB svs) (b9 (Nat.ble 1000) M) → E X [] L M fs []
 ng : ∀ l a w, ¬ X.Q (.goto l) a w
def mT : List SV → Nat → SL
 | [], _ => []
 | v :: vs, i => (i, v) :: mT vs (i + 1)
theorem lK : ∀ (vs : List SV) (k i : Nat) (v : SV), aF (mT vs k) i = some v → ∃ j, i = k + j ∧ vs[j]? = some v
 | [], _, _, _, h => by simp [mT, aF] at h
 | u :: us, k, i, v, h => by
   by_cases hi : i = k
   ·subst hi
    simp only [mT] at h
    rw [bF] at h
    cases h
    exact ⟨0, by simp, by simp⟩
   ·simp only [mT] at h
    rw [bX _ _ hi] at h
    obtain ⟨j, rfl, hj⟩ := lK us (k + 1) i v h
    exact ⟨j + 1, by omega, by simpa using hj⟩
theorem D8 {P : Program} {fs : List MF} {tb : TT} (hT : tb.Ok P) {f : FuncId} {fn : Func} {c : Code} {args : List SV} {M : SM} {R : SV → SM → Prop} (n : Nat) (rs : List ResultVar)
 (hf : P.funcs[f]? = some fn) (hb : fn.body = some c) (hname : (fn.name == "runtime.NumGoroutine") = false) (hn : fn.ntmps = n) (hle : args.length ≤ n) (hrs : fn.results = rs.toArray)
 (h : ∀ g0 B0 Q ρ0, Rt ⟨⟨P, n, g0, B0, Q, none, []⟩, ρ0⟩ fs tb rs R → E ⟨⟨P, n, g0, B0, Q, none, []⟩, ρ0⟩ [.code c] (mT args 0) M fs []) : FnM P fs f args M R := by
 refine ⟨⟨fn, hf, by simp [hb], hname⟩, fun ρ g vs ms hfs ha hM ho => ?_⟩
 refine calls_of_wp hf hb (wpIn_wide (n := 0) |>.1 ?_)
 have hpost : ∀ (a : Act) (g' : GW) L M' svs, fV tb L M' rs = some svs → t8 (bB svs) = true → WY (b9 (Nat.ble 1000) M') = true → R (bB svs) (b9 (Nat.ble 1000) M') → cV ⟨⟨P, n, g, bV ms, bodyPost P fn (Z3 ρ g ms R), none, []⟩, ρ⟩ L M' fs [] g' a →
  a.defers = [] ∧ ∃ v, (results fn a.tmps).run P g'.w = .ok v g'.w ∧ Z3 ρ g ms R (.returned v) g'.w := by
  intro a g' L M' svs h1 h2 h3 h4 hst
  obtain ⟨ρ', ms', s1, s2, s3⟩ := hst
  obtain ⟨v, hv, dv⟩ := iG (X := ⟨⟨P, n, g, bV ms, bodyPost P fn (Z3 ρ g ms R), none, []⟩, ρ⟩) hT s1 s2 s3 hrs h1
  obtain ⟨m1, m2, h5, h6⟩ := s2.keep (Nat.ble 1000)
  have s4 := (s1.perm (by simpa using h6)).drop
  exact ⟨s1.kn.defers, v, hv, v, g', _, _, m1, rfl, rfl, s1.ext, h4, dv.hi h2 ρ s3.pin, h5.hi s3.pin h3, s4.own, s4.new⟩
 refine h g (bV ms) (bodyPost P fn (Z3 ρ g ms R)) ρ ⟨?_, ?_, fun _ _ _ h => h⟩ g _ ?_
 ·intro k L M' svs h1 h2 h3 h4 g' a hst
  refine wpIn_ret ?_
  rw [dU]
  exact hpost a g' L M' svs h1 h2 h3 h4 hst
 ·intro L M' svs h1 h2 h3 h4 g' a hst
  exact hpost a g' L M' svs h1 h2 h3 h4 hst
 ·refine ⟨ρ, ms, ⟨⟨by simp [hn, ha.1]; omega, rfl, fun i v hi => by simp [lk] at hi⟩, hfs, by simpa using ho, oK.refl _ g, fun b hb => .inl (by simpa using hb)⟩, hM, fun i _ => rfl, fun t sv ht => ?_⟩
  obtain ⟨j, rfl, hj⟩ := lK args 0 t sv ht
  obtain ⟨x, hx, dx⟩ := ha.get hj
  refine ⟨x, ?_, dx⟩
  have hlt : j < vs.length := by
   rcases Nat.lt_or_ge j vs.length with h | h
   ·exact h
   ·rw [List.getElem?_eq_none h] at hx; cases hx
  simp only [Nat.zero_add]
  rw [Array.getElem?_append_left (by simpa using hlt)]
  simpa using hx
theorem Fc.of {P : Program} {fs : List MF} {f : FuncId} {args : List SV} {res : SV} (h : FnM P fs f args [] (fun sv _ => sv = res)) : Fc P fs f args res := by
 refine ⟨h.1, fun ρ g vs hfs ha => ?_⟩
 refine (h.2 ρ g vs [] hfs ha .nil ⟨fun r hr => (by cases hr), List.nodup_nil, fun b hb => (by cases hb), fun b hb => (by cases hb)⟩).mono ?_
 rintro e w' ⟨v, g', sv, M', ms', h1, h2, h3, rfl, h5, _⟩
 exact ⟨v, g', h1, h2, by simpa using h3, h5⟩
theorem fb {P : Program} {fs : List MF} {tb : TT} (hT : tb.Ok P) {f : FuncId} {fn : Func} {c : Code} {args : List SV} {res : SV} (n : Nat) (rs : List ResultVar)
 (hf : P.funcs[f]? = some fn) (hrs : fn.results = rs.toArray) (h : ∀ g0 B0 Q ρ0, Rt ⟨⟨P, n, g0, B0, Q, none, []⟩, ρ0⟩ fs tb rs (fun sv _ => sv = res) → E ⟨⟨P, n, g0, B0, Q, none, []⟩, ρ0⟩ [.code c] (mT args 0) [] fs []) (hb : fn.body = some c := by rfl)
 (hname : (fn.name == "runtime.NumGoroutine") = false := by kernel_rfl) (hn : fn.ntmps = n := by rfl) (hle : args.length ≤ n := by exact Nat.le_of_ble_eq_true rfl) : Fc P fs f args res := Fc.of (D8 hT n rs hf hb hname hn hle hrs h)
section
variable {X : Kx} {k : List It} {L : SL} {M : SM} {fs : List MF} {arr : Array Oper} {l : List Oper} {o : Oper} {tb : TT} {rs : List ResultVar}
theorem er {res : SV} {svs : List SV} {k' : List It} (n : Nat) (R : Rt X fs tb rs (fun sv _ => sv = res)) (he : bB svs = res) (hk : cQ (aF L) 64 n k = .code .ret :: k' := by rfl) (hr : fV tb L M rs = some svs := by rfl) (hh : t8 (bB svs) = true := by rfl) (hm : b9 (Nat.ble 1000) M = [] := by rfl) : E X k L M fs [] :=
 dK 64 n (hk ▸ R.ret hr hh (by rw [hm]; rfl) he)
theorem ef {res : SV} {svs : List SV} (n : Nat) (R : Rt X fs tb rs (fun sv _ => sv = res)) (he : bB svs = res) (hk : cQ (aF L) 64 n k = [] := by rfl) (hr : fV tb L M rs = some svs := by rfl) (hh : t8 (bB svs) = true := by rfl) (hm : b9 (Nat.ble 1000) M = [] := by rfl) : E X k L M fs [] :=
 dK 64 n (hk ▸ R.fall hr hh (by rw [hm]; rfl) he)
theorem sr {res : SV} {svs : List SV} {k' : List It} (n : Nat) (R : Rt X fs tb rs (fun sv _ => sv = res)) (he : bB svs = res) (hk : cQ (aF L) 64 n k = .code .ret :: k' := by rfl) (hr : fV tb L M rs = some svs := by rfl) (hh : t8 (bB svs) = true := by rfl) (hm : b9 (Nat.ble 1000) M = [] := by rfl) : ES X arr [] k L M fs [] := er n R he hk hr hh hm
theorem sf {res : SV} {svs : List SV} (n : Nat) (R : Rt X fs tb rs (fun sv _ => sv = res)) (he : bB svs = res) (hk : cQ (aF L) 64 n k = [] := by rfl) (hr : fV tb L M rs = some svs := by rfl) (hh : t8 (bB svs) = true := by rfl) (hm : b9 (Nat.ble 1000) M = [] := by rfl) : ES X arr [] k L M fs [] := ef n R he hk hr hh hm
end
end Go.KX
namespace Go.KX
def uns (n un : Nat) : List Nat := (List.range n).filter fun u => un.testBit u
def vP (D : List Nat) (i : Nat) : Nat := D.getD i 0
def pos : List Nat → Nat → Nat
 | [], _ => 0
 | x :: r, i => match Nat.beq x i with
   | true => 0
   | false => pos r i + 1
def TG (n un : Nat) (D : List Nat) (i : Nat) : Nat := ((uns n un).filter fun u => (vP D i).testBit u).length
def DY (n un : Nat) (D : List Nat) (i : Nat) : Nat := ((uns n un).filter fun u => !(vP D u).testBit i).length
def nG (o : Oper) : List Nat := (o.after.toList.filter fun e => Region.binds .any e).map (·.on)
structure vQ (arr : Array Oper) (un : Nat) (D π : List Nat) (u v : Nat) : Prop where
 all : ∀ i, i < arr.size → i ∈ π
 nd : π.Nodup
 lt : ∀ i ∈ π, i < arr.size
 back : ∀ (i : Nat) oi, arr[i]? = some oi → ∀ j ∈ nG oi, j < i
 just : ∀ (i : Nat) oi, arr[i]? = some oi → ∀ j, j < arr.size → (vP D i).testBit j = true → (i = v ∧ j = u) ∨ ∃ e ∈ nG oi, e = j ∨ (vP D e).testBit j = true
 slot : ∀ (i j : Nat) oi oj t, arr[i]? = some oi → arr[j]? = some oj → i ≠ j → oj.dst = some t → t ∈ nE arr oi → (pos π j < pos π i ∧ (vP D i).testBit j = true) ∨ (pos π i < pos π j ∧ (vP D j).testBit i = true)
 dist : ∀ (i j : Nat) oi oj t, arr[i]? = some oi → arr[j]? = some oj → i ≠ j → oi.dst = some t → oj.dst ≠ some t
 ord : ∀ i j, i < arr.size → j < arr.size → pos π i < pos π j → un.testBit i = true → un.testBit j = true → (vP D j).testBit i = true
def vR (arr : Array Oper) (un : Nat) (D π : List Nat) (u v : Nat) : Bool :=
 (decide π.Nodup && (π.all fun i => decide (i < arr.size)) && (List.range arr.size).all fun i => π.contains i) && (List.range arr.size).all fun i => match arr[i]? with
  | none => false
  | some oi => (nG oi).all (fun j => decide (j < i)) && (List.range arr.size).all fun j =>
    (!(vP D i).testBit j || (decide (i = v) && decide (j = u)) || (nG oi).any fun e => decide (e = j) || (vP D e).testBit j) && match arr[j]? with
     | none => false
     | some oj => decide (i = j) || ((match oj.dst with
       | none => true
       | some t => !(nE arr oi).contains t || (decide (pos π j < pos π i) && (vP D i).testBit j) || (decide (pos π i < pos π j) && (vP D j).testBit i)) &&
       (match oi.dst, oj.dst with | some t, some t' => !decide (t = t') | _, _ => true) && (!(decide (pos π i < pos π j) && un.testBit i && un.testBit j) || (vP D j).testBit i))
theorem vT {arr : Array Oper} {un : Nat} {D π : List Nat} {u v : Nat} (h0 : vR arr un D π u v = true) : vQ arr un D π u v := by
 simp only [vR, Bool.and_eq_true] at h0
 obtain ⟨⟨⟨hnd, hplt⟩, hpall⟩, h⟩ := h0
 have key : ∀ (i : Nat) oi, arr[i]? = some oi → ((nG oi).all (fun j => decide (j < i)) = true ∧ ∀ j, j < arr.size → (!(vP D i).testBit j || (decide (i = v) && decide (j = u)) || (nG oi).any fun e => decide (e = j) || (vP D e).testBit j) = true ∧ ∀ oj, arr[j]? = some oj → i ≠ j →
  (match oj.dst with
   | none => true
   | some t => !(nE arr oi).contains t || (decide (pos π j < pos π i) && (vP D i).testBit j) || (decide (pos π i < pos π j) && (vP D j).testBit i)) = true ∧
   (match oi.dst, oj.dst with | some t, some t' => !decide (t = t') | _, _ => true) = true ∧ (!(decide (pos π i < pos π j) && un.testBit i && un.testBit j) || (vP D j).testBit i) = true) := by
  intro i oi hi
  have hlt := (Array.getElem?_eq_some_iff.1 hi).1
  have h1 := List.all_eq_true.1 h i (List.mem_range.2 hlt)
  rw [hi] at h1
  simp only [Bool.and_eq_true] at h1
  refine ⟨h1.1, fun j hj => ?_⟩
  have h2 := List.all_eq_true.1 h1.2 j (List.mem_range.2 hj)
  simp only [Bool.and_eq_true] at h2
  refine ⟨h2.1, fun oj hoj hne => ?_⟩
  have h3 := h2.2
  rw [hoj] at h3
  simp only [Bool.or_eq_true, decide_eq_true_eq, Bool.and_eq_true] at h3
  rcases h3 with h3 | h3
  ·exact absurd h3 hne
  ·refine ⟨?_, ?_, ?_⟩
   ·cases hd : oj.dst with
    | none => rfl
    | some t => rw [hd] at h3; simpa [or_assoc] using h3.1.1
   ·cases hd : oi.dst <;> cases hd' : oj.dst <;> rw [hd, hd'] at h3 <;> first | rfl | exact h3.1.2
   ·simpa using h3.2
 refine ⟨fun i hi => by simpa using List.all_eq_true.1 hpall i (List.mem_range.2 hi), of_decide_eq_true hnd, fun i hi => by simpa using List.all_eq_true.1 hplt i hi, fun i oi hi j hj => ?_, fun i oi hi j hj hb => ?_, fun i j oi oj t hi hj hne hd ht => ?_, fun i j oi oj t hi hj hne hd => ?_, fun i j hilt hj hlt hi' hj' => ?_⟩
 ·have := List.all_eq_true.1 (key i oi hi).1 j hj
  simpa using this
 ·have := ((key i oi hi).2 j hj).1
  rw [hb] at this
  simp only [Bool.not_true, Bool.false_or, List.any_eq_true, Bool.or_eq_true, Bool.and_eq_true, decide_eq_true_eq] at this
  rcases this with h1 | ⟨e, he, h1⟩
  ·exact .inl h1
  ·exact .inr ⟨e, he, h1⟩
 ·have := (((key i oi hi).2 j (Array.getElem?_eq_some_iff.1 hj).1).2 oj hj hne).1
  rw [hd] at this
  simp only [Bool.or_eq_true, Bool.and_eq_true, decide_eq_true_eq] at this
  rcases this with (h1 | h1) | h1
  ·have h2 : (nE arr oi).contains t = true := by simpa using ht
   rw [h2] at h1; cases h1
  ·exact .inl h1
  ·exact .inr h1
 ·have := (((key i oi hi).2 j (Array.getElem?_eq_some_iff.1 hj).1).2 oj hj hne).2.1
  rw [hd] at this
  intro hd'
  rw [hd'] at this
  simp at this
 ·have hi : arr[i]? = some arr[i] := by simp [hilt]
  have hjj : arr[j]? = some arr[j] := by simp [hj]
  have := (((key i arr[i] hi).2 j hj).2 arr[j] hjj (by rintro rfl; omega)).2.2
  rw [hi', hj'] at this
  simpa [hlt] using this
theorem j7 {o : Oper} {j : Nat} : j ∈ nG o ↔ ∃ e ∈ o.after, Region.binds .any e = true ∧ e.on = j := by
 simp only [nG, List.mem_map, List.mem_filter, Array.mem_toList_iff]
 constructor
 ·rintro ⟨e, ⟨h1, h2⟩, h3⟩; exact ⟨e, h1, h2, h3⟩
 ·rintro ⟨e, h1, h2, h3⟩; exact ⟨e, ⟨h1, h2⟩, h3⟩
theorem pR {arr : Array Oper} {un : Nat} {D π : List Nat} {u v : Nat} {listed : Array Bool} (hO : vQ arr un D π u v) (hc : Closed arr listed) : ∀ (i : Nat) oi, arr[i]? = some oi → (∀ e ∈ oi.after, Region.binds .any e = true → listed.getD e.on false = true) → (listed.getD u false = true ∨ (i ≠ v ∧ listed.getD v false = false)) → ∀ j, j < arr.size → (vP D i).testBit j = true → listed.getD j false = true := by
 intro i
 induction i using Nat.strongRecOn with
 | _ i ih =>
   intro oi hi hall hg j hj hb
   rcases hO.just i oi hi j hj hb with ⟨h1, h2⟩ | ⟨e, he, h1⟩
   ·rcases hg with hg | hg
    ·rw [h2]; exact hg
    ·exact absurd h1 hg.1
   have hlt := hO.back i oi hi e he
   obtain ⟨ed, hed, hbd, rfl⟩ := j7.1 he
   have hle := hall ed hed hbd
   rcases h1 with rfl | h1
   ·exact hle
   ·have hsz : ed.on < arr.size := by have := (Array.getElem?_eq_some_iff.1 hi).1; omega
    have hoe : arr[ed.on]? = some arr[ed.on] := by simp [hsz]
    exact ih ed.on hlt arr[ed.on] hoe (fun e' he' hb' => hc.2 ed.on _ hoe hle e' he' hb') (hg.imp id fun hg => ⟨(fun e => by rw [e, hg.2] at hle; cases hle), hg.2⟩) j hj h1
def fD (arr : Array Oper) (j : Nat) : Option Nat := match arr[j]? with
 | some o => o.dst
 | none => none
def LS (arr : Array Oper) (L0 : SL) : List (Nat × SV) → SL
 | [] => L0
 | (i, sv) :: r => jQ (fD arr i) sv (LS arr L0 r)
theorem I6 {arr : Array Oper} {L0 : SL} (t : Nat) : ∀ (l : List (Nat × SV)), (∀ p ∈ l, fD arr p.1 ≠ some t) ∧ aF (LS arr L0 l) t = aF L0 t ∨ ∃ p ∈ l, fD arr p.1 = some t ∧ ((∀ q ∈ l, fD arr q.1 = some t → q = p) → aF (LS arr L0 l) t = some p.2)
 | [] => .inl ⟨fun p hp => (by cases hp), rfl⟩
 | (i, sv) :: r => by
  unfold LS
  cases hd : fD arr i with
  | none =>
    simp only [jQ]
    rcases I6 (arr := arr) (L0 := L0) t r with ⟨h1, h2⟩ | ⟨p, h1, h2, h3⟩
    ·refine .inl ⟨fun p hp => ?_, h2⟩
     cases hp with
     | head => rw [hd]; simp
     | tail _ hm => exact h1 p hm
    ·exact .inr ⟨p, .tail _ h1, h2, fun hu => h3 (fun q hq => hu q (.tail _ hq))⟩
  | some d =>
    simp only [jQ]
    by_cases htd : t = d
    ·subst htd
     exact .inr ⟨(i, sv), .head _, hd, fun _ => by rw [bF]⟩
    ·rw [bX _ _ htd]
     rcases I6 (arr := arr) (L0 := L0) t r with ⟨h1, h2⟩ | ⟨p, h1, h2, h3⟩
     ·refine .inl ⟨fun p hp => ?_, h2⟩
      cases hp with
      | head => rw [hd]; simp; exact Ne.symm htd
      | tail _ hm => exact h1 p hm
     ·exact .inr ⟨p, .tail _ h1, h2, fun hu => h3 (fun q hq => hu q (.tail _ hq))⟩
theorem WZ {arr : Array Oper} {L0 : SL} {all l m : List (Nat × SV)} {t : Nat} (hu : ∀ p ∈ all, ∀ q ∈ all, fD arr p.1 = some t → fD arr q.1 = some t → p = q) (hl : ∀ p ∈ l, p ∈ all) (hm : ∀ p ∈ m, p ∈ all)
 (h : ∀ p ∈ all, fD arr p.1 = some t → (p ∈ l ↔ p ∈ m)) : aF (LS arr L0 l) t = aF (LS arr L0 m) t := by
 rcases I6 (arr := arr) (L0 := L0) t l with ⟨h1, h2⟩ | ⟨p, h1, h2, h3⟩ <;> rcases I6 (arr := arr) (L0 := L0) t m with ⟨g1, g2⟩ | ⟨q, g1, g2, g3⟩
 ·rw [h2, g2]
 ·exact absurd g2 (h1 q ((h q (hm q g1) g2).2 g1))
 ·exact absurd h2 (g1 p ((h p (hl p h1) h2).1 h1))
 ·have hpq := hu p (hl p h1) q (hm q g1) h2 g2
  subst hpq
  rw [h3 (fun r hr hd => hu r (hl r hr) p (hl p h1) hd h2), g3 (fun r hr hd => hu r (hm r hr) p (hm p g1) hd g2)]
def O0 (o : Oper) : Option Nat := match o.op with
 | .alloc _ => o.dst
 | .call ⟨.builtin .append, _, _⟩ => o.dst
 | .buildSlice _ 0 _ => o.dst
 | _ => none
def exm (arr : Array Oper) (D : List Nat) (i t : Nat) : Bool := (List.range arr.size).any fun k => (Nat.beq k i || (vP D k).testBit i) && (match fD arr k with | some t' => Nat.beq t' t | none => false)
def LJ (arr : Array Oper) (D : List Nat) (L : SL) : Bool := (List.range arr.size).all fun i => match arr[i]? with
 | none => true
 | some o => match O0 o with
   | none => true
   | some d => L.all fun p => exm arr D i p.1 || !yG d p.2
def G4 (X : Kx) (arr : Array Oper) (o : Oper) (L : SL) (M : SM) (fs : List MF) (own : List aH) (sv : SV) (M' : SM) : Prop :=
 ∀ L', agree arr o L L' → (∀ d, O0 o = some d → cU d L = false → cU d L' = false) → ∀ g a, cV X L' M fs own g a → rY X.P arr o (fun a' w' => ∃ g', g'.w = w' ∧ cV X (jQ o.dst sv L') M' fs own g' a') a g.w
theorem Stp.u {X : Kx} {arr : Array Oper} {o : Oper} {L : SL} {M : SM} {fs : List MF} {own : List aH} {sv : SV} {M' : SM} (h : Stp X arr o L M fs own sv M') : G4 X arr o L M fs own sv M' := fun L' hL _ => h L' hL
def ED (X : Kx) (arr : Array Oper) (k : List It) (fs : List MF) (own : List aH) (un : Nat) (D : List Nat) : List Nat → SL → SM → List SM → Prop
 | [], L, M, _ => E X k L M fs own ∧ LJ arr D L = true
 | i :: r, L, M, Ms => ∃ o sv, arr[i]? = some o ∧ match un.testBit i with
   | false => ((DY arr.size un D i ≤ Ms.length ∧ Stp X arr o L M fs own sv M ∧ ∀ q M', Ms[q]? = some M' → TG arr.size un D i ≤ Ms.length - 1 - q → Stp X arr o L M' fs own sv M') ∨ ∀ M', Stp X arr o L M' fs own sv M') ∧ ED X arr k fs own un D r (jQ o.dst sv L) M Ms
   | true => ∃ M', G4 X arr o L M fs own sv M' ∧ ED X arr k fs own un D r (jQ o.dst sv L) M' (M :: Ms)
abbrev O1 (arr : Array Oper) (un : Nat) (D π : List Nat) : Bool := vR arr un D π 0 arr.size
theorem O2 {π σ : List Nat} {j : Nat} : ∀ {A : List Nat}, j ∈ A → pos (A ++ σ) j < A.length
 | x :: r, h => by
   unfold pos
   simp only [List.cons_append]
   split
   ·simp
   ·rename_i hb
    cases h with
    | head => rw [Nat.beq_refl] at hb; cases hb
    | tail _ hm => have := O2 (π := π) (σ := σ) hm; simp; omega
theorem A3 {σ : List Nat} {j : Nat} : ∀ {A : List Nat}, j ∉ A → pos (A ++ σ) j = A.length + pos σ j
 | [], _ => by simp
 | x :: r, h => by
   simp only [List.mem_cons, not_or] at h
   have hb : Nat.beq x j = false := by cases hb : Nat.beq x j with | false => rfl | true => exact absurd (Nat.eq_of_beq_eq_true hb).symm h.1
   simp only [List.cons_append, pos, hb, List.length_cons]
   rw [A3 h.2]; omega
theorem sH {α : Type} {p q : α → Bool} : ∀ {l : List α}, (∀ x ∈ l, p x = true → q x = true) → (l.filter p).length ≤ (l.filter q).length
 | [], _ => by simp
 | x :: r, h => by
   have ih := sH (p := p) (q := q) (l := r) (fun y hy => h y (.tail _ hy))
   simp only [List.filter_cons]
   split
   ·rw [if_pos (h x (.head _) ‹_›)]; simp; omega
   ·split <;> simp <;> omega
def fF (un : Nat) (l : List (Nat × SV)) : Nat := (l.filter fun p => un.testBit p.1).length
theorem vU (un : Nat) (p : Nat × SV) (l) : fF un (p :: l) = (if un.testBit p.1 then 1 else 0) + fF un l := by
 unfold fF
 simp only [List.filter_cons]
 split <;> simp <;> omega
section
variable {X : Kx} {arr : Array Oper} {k : List It} {fs : List MF} {own : List aH} {un : Nat} {D π : List Nat} {L0 : SL}
def O3 (X : Kx) (arr : Array Oper) (fs : List MF) (own : List aH) (un : Nat) (D : List Nat) (Ph : List SM) (i : Nat) (sv : SV) (Lx : SL) (r : Nat) : Prop :=
 ∃ o, arr[i]? = some o ∧ (un.testBit i = false → ∀ q M', Ph[q]? = some M' → TG arr.size un D i ≤ q → q ≤ DY arr.size un D i → Stp X arr o Lx M' fs own sv M') ∧
  (un.testBit i = true → ∃ M1 M2, Ph[r]? = some M1 ∧ Ph[r + 1]? = some M2 ∧ G4 X arr o Lx M1 fs own sv M2)
theorem qI : ∀ (todo : List Nat) (done : List (Nat × SV)) (M : SM) (Ms : List SM), ED X arr k fs own un D todo (LS arr L0 done) M Ms → Ms.length = fF un done →
 ∃ new ext Mf, (new.map (·.1)).reverse = todo ∧ (M :: Ms).length + ext.length = fF un (new ++ done) + 1 ∧ ((M :: Ms).reverse ++ ext).getLast? = some Mf ∧ (E X k (LS arr L0 (new ++ done)) Mf fs own ∧ LJ arr D (LS arr L0 (new ++ done)) = true) ∧
  ∀ pre i sv suf, new = pre ++ (i, sv) :: suf → O3 X arr fs own un D ((M :: Ms).reverse ++ ext) i sv (LS arr L0 (suf ++ done)) (fF un (suf ++ done))
 | [], done, M, Ms, h, hl => ⟨[], [], M, rfl, by simp [hl], by simp, h, fun pre i sv suf h => by simp at h⟩
 | i :: r, done, M, Ms, h, hl => by
   obtain ⟨o, sv, ho, h⟩ := h
   have hdst : fD arr i = o.dst := by simp [fD, ho]
   have eL : jQ o.dst sv (LS arr L0 done) = LS arr L0 ((i, sv) :: done) := by simp only [LS, hdst]
   split at h
   ·rename_i hu
    obtain ⟨hc, h⟩ := h
    rw [eL] at h
    obtain ⟨new, ext, Mf, h1, h2, h3, h4, h5⟩ := qI r ((i, sv) :: done) M Ms h (by rw [vU, hu]; simpa using hl)
    refine ⟨new ++ [(i, sv)], ext, Mf, by simp [h1], by simpa using h2, h3, by simpa using h4, fun pre j sv' suf e => ?_⟩
    rcases List.eq_nil_or_concat suf with rfl | ⟨suf', x, rfl⟩
    ·have e2 := List.append_inj_right' e rfl
     simp only [List.cons.injEq, Prod.mk.injEq, and_true] at e2
     obtain ⟨rfl, rfl⟩ := e2
     refine ⟨o, ho, fun _ q M' hq hlo hhi => ?_, fun h => (by rw [hu] at h; cases h)⟩
     rcases hc with ⟨c1, c2, c3⟩ | c
     ·have hql : q ≤ Ms.length := Nat.le_trans hhi c1
      rw [List.getElem?_append_left (by simp; omega), List.getElem?_reverse (by simp; omega)] at hq
      by_cases hqe : q = Ms.length
      ·subst hqe
       simp at hq; subst hq; exact c2
      ·have : (M :: Ms).length - 1 - q = (Ms.length - 1 - q) + 1 := by simp; omega
       rw [this] at hq
       have hq' : Ms[Ms.length - 1 - q]? = some M' := by simpa using hq
       exact c3 _ M' hq' (by
        have : Ms.length - 1 - (Ms.length - 1 - q) = q := by omega
        rw [this]; exact hlo)
     ·exact c M'
    ·have e' : new ++ [(i, sv)] = (pre ++ (j, sv') :: suf') ++ [x] := by simpa using e
     obtain ⟨e1, e2⟩ := List.append_inj' e' rfl
     cases e2
     have := h5 pre j sv' suf' e1
     simpa using this
   ·rename_i hu
    obtain ⟨M', hs, h⟩ := h
    rw [eL] at h
    obtain ⟨new, ext, Mf, h1, h2, h3, h4, h5⟩ := qI r ((i, sv) :: done) M' (M :: Ms) h (by rw [vU, hu]; simp [hl]; omega)
    have ePh : (M' :: M :: Ms).reverse ++ ext = (M :: Ms).reverse ++ (M' :: ext) := by simp
    refine ⟨new ++ [(i, sv)], M' :: ext, Mf, by simp [h1], by simp at h2 ⊢; omega, by rw [← ePh]; exact h3, by simpa using h4, fun pre j sv' suf e => ?_⟩
    rcases List.eq_nil_or_concat suf with rfl | ⟨suf', x, rfl⟩
    ·have e2 := List.append_inj_right' e rfl
     simp only [List.cons.injEq, Prod.mk.injEq, and_true] at e2
     obtain ⟨rfl, rfl⟩ := e2
     refine ⟨o, ho, fun h => (by rw [hu] at h; cases h), fun _ => ⟨M, M', ?_, ?_, hs⟩⟩
     ·simp only [List.nil_append, ← hl]
      rw [List.getElem?_append_left (by simp), List.getElem?_reverse (by simp)]
      simp
     ·simp only [List.nil_append, ← hl]
      rw [List.getElem?_append_right (by simp)]
      simp
    ·have e' : new ++ [(i, sv)] = (pre ++ (j, sv') :: suf') ++ [x] := by simpa using e
     obtain ⟨e1, e2⟩ := List.append_inj' e' rfl
     cases e2
     have := h5 pre j sv' suf' e1
     rw [← ePh]
     simpa using this
theorem LK {d : Nat} {x : Option Nat} {sv : SV} {L : SL} : cU d (jQ x sv L) = false ↔ cU d L = false ∧ ∀ t, x = some t → yG d sv = false := by
 cases x with
 | none => simp [jQ]
 | some t =>
   simp only [jQ, cU, Bool.or_eq_false_iff, Option.some.injEq]
   exact ⟨fun h => ⟨h.2, fun _ _ => h.1⟩, fun h => ⟨h.2 t rfl, h.1⟩⟩
theorem G5 {arr : Array Oper} {L0 : SL} {d : Nat} : ∀ {l : List (Nat × SV)}, cU d (LS arr L0 l) = false ↔ cU d L0 = false ∧ ∀ p ∈ l, ∀ t, fD arr p.1 = some t → yG d p.2 = false
 | [] => by simp [LS]
 | (i, sv) :: r => by
  simp only [LS]
  rw [LK, G5 (l := r)]
  constructor
  ·rintro ⟨⟨h1, h2⟩, h3⟩
   refine ⟨h1, fun p hp t ht => ?_⟩
   cases hp with
   | head => exact h3 t ht
   | tail _ hp => exact h2 p hp t ht
  ·rintro ⟨h1, h2⟩
   exact ⟨⟨h1, fun p hp => h2 p (.tail _ hp)⟩, fun t ht => h2 (i, sv) (.head _) t ht⟩
theorem O4 {arr : Array Oper} {L0 : SL} {p : Nat × SV} {t : Nat} (ht : fD arr p.1 = some t) : ∀ {l : List (Nat × SV)}, p ∈ l → (t, p.2) ∈ LS arr L0 l
 | q :: r, h => by
   cases h with
   | head =>
     simp only [LS, ht, jQ]
     exact .head _
   | tail _ h =>
     have := O4 (L0 := L0) ht h
     obtain ⟨i, sv⟩ := q
     simp only [LS]
     cases fD arr i with
     | none => exact this
     | some u => exact .tail _ this
def fK (listed : Array Bool) (p : Nat × SV) : Bool := listed.getD p.1 false
theorem gI {u v : Nat} (hO : vQ arr un D π u v) {all : List (Nat × SV)} {Ph : List SM} (hall : (all.map (·.1)).reverse = π) (hE2 : LJ arr D (LS arr L0 all) = true)
 (hst : ∀ pre i sv suf, all = pre ++ (i, sv) :: suf → O3 X arr fs own un D Ph i sv (LS arr L0 suf) (fF un suf)) {listed : Array Bool} {a : Act} {g : GW} {M : SM} (hc : Closed arr listed) (hM : Ph[fF un (all.filter (fK listed))]? = some M) (hs : cV X (LS arr L0 (all.filter (fK listed))) M fs own g a) {i : Nat} (hi : i ∈ Region.ready .any arr listed) (hg : listed.getD u false = true ∨ (i ≠ v ∧ listed.getD v false = false))
 {K : Act → World → Prop} (hK : ∀ {g' : GW} {a' : Act} {M' : SM}, Ph[fF un (all.filter (fK (listed.setIfInBounds i true)))]? = some M' → cV X (LS arr L0 (all.filter (fK (listed.setIfInBounds i true)))) M' fs own g' a' → K a' g'.w) : (all.filter fun p => !fK (listed.setIfInBounds i true) p).length < (all.filter fun p => !fK listed p).length ∧ Y4 X.P arr i K a g.w := by
 have hndA : (all.map (·.1)).Nodup := by have := hO.nd; rw [← hall] at this; exact (List.reverse_perm _).nodup_iff.1 this
 have huniq : ∀ p ∈ all, ∀ q ∈ all, p.1 = q.1 → p = q := by
  intro p hp q hq e
  have : ∀ (l : List (Nat × SV)), (l.map (·.1)).Nodup → ∀ p ∈ l, ∀ q ∈ l, p.1 = q.1 → p = q := by
   intro l
   induction l with
   | nil => intro _ p hp; cases hp
   | cons x r ih =>
     intro hn p hp q hq e
     simp only [List.map_cons, List.nodup_cons] at hn
     cases hp with
     | head => cases hq with
       | head => rfl
       | tail _ hm => exact absurd (List.mem_map.2 ⟨q, hm, e.symm⟩) hn.1
     | tail _ hm => cases hq with
       | head => exact absurd (List.mem_map.2 ⟨p, hm, e⟩) hn.1
       | tail _ hm' => exact ih hn.2 p hm q hm' e
  exact this all hndA p hp q hq e
 have hmem : ∀ i, i < arr.size → ∃ sv, (i, sv) ∈ all := by
  intro i hi
  have := hO.all i hi
  rw [← hall] at this
  obtain ⟨p, hp, rfl⟩ := List.mem_map.1 (List.mem_reverse.1 this)
  exact ⟨p.2, hp⟩
 have hlt : ∀ p ∈ all, p.1 < arr.size := by
  intro p hp
  refine hO.lt p.1 ?_
  rw [← hall]
  exact List.mem_reverse.2 (List.mem_map.2 ⟨p, hp, rfl⟩)
 have hdist : ∀ (t : Nat), ∀ p ∈ all, ∀ q ∈ all, fD arr p.1 = some t → fD arr q.1 = some t → p = q := by
  intro t p hp q hq h1 h2
  refine huniq p hp q hq (Decidable.byContradiction fun hne => ?_)
  have hp1 := Array.getElem?_eq_getElem (hlt p hp)
  have hq1 := Array.getElem?_eq_getElem (hlt q hq)
  simp only [fD, hp1] at h1
  simp only [fD, hq1] at h2
  exact hO.dist p.1 q.1 _ _ t hp1 hq1 hne h1 h2
 have hperm : (all.map (·.1)).Perm (List.range arr.size) := by
  refine (List.perm_ext_iff_of_nodup hndA List.nodup_range).2 (fun i => ?_)
  constructor
  ·intro h
   obtain ⟨p, hp, rfl⟩ := List.mem_map.1 h
   exact List.mem_range.2 (hlt p hp)
  ·intro h
   obtain ⟨sv, hsv⟩ := hmem i (List.mem_range.1 h)
   exact List.mem_map.2 ⟨_, hsv, rfl⟩
 have hcnt : ∀ (P : Nat → Bool), (all.filter fun p => P p.1).length = ((List.range arr.size).filter P).length := by
  intro P
  have := (hperm.filter P).length_eq
  rw [List.filter_map, List.length_map] at this
  exact this
 obtain ⟨hun, o, ho, hdeps⟩ := mem_ready.1 hi
 have hin : i < arr.size := (Array.getElem?_eq_some_iff.1 ho).1
 have hil : i < listed.size := by rw [hc.1]; exact hin
 have hunf : listed.getD i false = false := by
  simp only [Array.getD_eq_getD_getElem?, hil, getElem?_pos, Option.getD_some] at hun ⊢
  exact hun
 obtain ⟨sv, hsv⟩ := hmem i hin
 obtain ⟨pre, suf, hsplit⟩ := List.append_of_mem hsv
 obtain ⟨o', ho', c1, c2⟩ := hst pre i sv suf hsplit
 obtain rfl : o' = o := Option.some.inj (ho'.symm.trans ho)
 have eπ : π = (suf.map (·.1)).reverse ++ i :: (pre.map (·.1)).reverse := by rw [← hall, hsplit]; simp
 have hnd := hO.nd
 rw [eπ] at hnd
 have t8 : i ∉ (suf.map (·.1)).reverse := fun h => (List.nodup_append.1 hnd).2.2 i h i (.head _) rfl
 have posi : pos π i = (suf.map (·.1)).reverse.length := by rw [eπ, A3 t8]; simp [pos, Nat.beq_refl]
 have pos_suf : ∀ p ∈ suf, pos π p.1 < pos π i := by
  intro p hp
  rw [posi, eπ]
  exact O2 (π := π) (List.mem_reverse.2 (List.mem_map.2 ⟨p, hp, rfl⟩))
 have pos_pre : ∀ p ∈ pre, pos π i < pos π p.1 := by
  intro p hp
  have hpm : p.1 ∈ (pre.map (·.1)).reverse := List.mem_reverse.2 (List.mem_map.2 ⟨p, hp, rfl⟩)
  have h1 : p.1 ∉ (suf.map (·.1)).reverse := fun h => (List.nodup_append.1 hnd).2.2 p.1 h p.1 (.tail _ hpm) rfl
  have h2 : p.1 ≠ i := by
   intro e
   have := (List.nodup_append.1 hnd).2.1
   simp only [List.nodup_cons] at this
   exact this.1 (e ▸ hpm)
  rw [posi, eπ, A3 h1]
  have hb : Nat.beq i p.1 = false := by cases hb : Nat.beq i p.1 with | false => rfl | true => exact absurd (Nat.eq_of_beq_eq_true hb).symm h2
  simp only [pos, hb]; omega
 have in_suf : ∀ p ∈ all, pos π p.1 < pos π i → p ∈ suf := by
  intro p hp hlt
  rw [hsplit] at hp
  simp only [List.mem_append, List.mem_cons] at hp
  rcases hp with hp | rfl | hp
  ·have := pos_pre p hp; omega
  ·exact absurd hlt (Nat.lt_irrefl _)
  ·exact hp
 have dep : ∀ j, j < arr.size → (vP D i).testBit j = true → listed.getD j false = true := pR hO hc i o' ho hdeps hg
 have ndep : ∀ j, j < arr.size → listed.getD j false = true → (vP D j).testBit i = false := by
  intro j hj hl
  cases hb : (vP D j).testBit i with
  | false => rfl
  | true =>
    have hoj : arr[j]? = some arr[j] := by simp [hj]
    have := pR hO hc j _ hoj (fun e he hb' => hc.2 j _ hoj hl e he hb') (hg.imp id fun hg => ⟨(fun e => by rw [e, hg.2] at hl; cases hl), hg.2⟩) i hin hb
    rw [hunf] at this; cases this
 have hag : agree arr o' (LS arr L0 suf) (LS arr L0 (all.filter (fK listed))) := by
  intro t ht
  refine WZ (all := all) (hdist t) (fun p hp => (List.mem_filter.1 hp).1) (fun p hp => by rw [hsplit]; simp [hp]) (fun p hp hd => ?_)
  have hp1 := Array.getElem?_eq_getElem (hlt p hp)
  simp only [fD, hp1] at hd
  by_cases hpi : p.1 = i
  ·have hpe := huniq p hp (i, sv) hsv hpi
   subst hpe
   constructor
   ·intro h
    have := (List.mem_filter.1 h).2
    simp only [fK] at this
    rw [hunf] at this; cases this
   ·intro h
    exact absurd (List.mem_reverse.2 (List.mem_map.2 ⟨_, h, rfl⟩)) t8
  ·rcases hO.slot i p.1 o' _ t ho hp1 (Ne.symm hpi) hd ht with ⟨h1, h2⟩ | ⟨h1, h2⟩
   ·exact ⟨fun _ => in_suf p hp h1, fun _ => List.mem_filter.2 ⟨hp, dep p.1 (hlt p hp) h2⟩⟩
   ·constructor
    ·intro h
     have := ndep p.1 (hlt p hp) (List.mem_filter.1 h).2
     rw [h2] at this; cases this
    ·intro h
     have := pos_suf p h
     omega
 have hcu : fF un (all.filter (fK listed)) = ((List.range arr.size).filter fun u => un.testBit u && listed.getD u false).length := by
  unfold fF
  rw [List.filter_filter]
  exact hcnt (fun u => un.testBit u && listed.getD u false)
 have hset : ∀ p ∈ all, p ∈ all.filter (fK (listed.setIfInBounds i true)) ↔ p ∈ (i, sv) :: all.filter (fK listed) := by
  intro p hp
  simp only [List.mem_filter, List.mem_cons, hp, true_and]
  constructor
  ·intro h
   by_cases hpi : p.1 = i
   ·exact .inl (huniq p hp (i, sv) hsv hpi)
   ·right
    simp only [fK] at h ⊢
    rwa [getD_set_ne false (Ne.symm hpi)] at h
  ·rintro (rfl | h)
   ·simp [fK, hil]
   ·exact getD_set_true h
 have hcs : fF un (all.filter (fK (listed.setIfInBounds i true))) = (if un.testBit i then 1 else 0) + fF un (all.filter (fK listed)) := by
  have hnda : all.Nodup := List.Pairwise.of_map (fun x => x.1) (fun a b h e => h (by rw [e])) hndA
  have hni : (i, sv) ∉ all.filter (fK listed) := fun h => by
   have := (List.mem_filter.1 h).2
   simp only [fK] at this
   rw [hunf] at this; cases this
  have hpm : (all.filter (fK (listed.setIfInBounds i true))).Perm ((i, sv) :: all.filter (fK listed)) := by
   refine (List.perm_ext_iff_of_nodup (hnda.filter _) (List.nodup_cons.2 ⟨hni, hnda.filter _⟩)).2 (fun p => ?_)
   by_cases hp : p ∈ all
   ·exact hset p hp
   ·constructor
    ·intro h; exact absurd ((List.mem_filter.1 h).1) hp
    ·intro h
     rcases List.mem_cons.1 h with rfl | h
     ·exact absurd hsv hp
     ·exact absurd ((List.mem_filter.1 h).1) hp
  have := (hpm.filter (fun p => un.testBit p.1)).length_eq
  rw [← vU un (i, sv)]
  exact this
 have hfu : (all.filter fun p => !fK (listed.setIfInBounds i true) p).length < (all.filter fun p => !fK listed p).length := by
  have hnda : all.Nodup := List.Pairwise.of_map (fun x => x.1) (fun a b h e => h (by rw [e])) hndA
  have hpm : (all.filter fun p => !fK listed p).Perm ((i, sv) :: all.filter fun p => !fK (listed.setIfInBounds i true) p) := by
   refine (List.perm_ext_iff_of_nodup (hnda.filter _) (List.nodup_cons.2 ⟨fun h => ?_, hnda.filter _⟩)).2 (fun p => ?_)
   ·have := (List.mem_filter.1 h).2
    simp [fK, hil] at this
   ·simp only [List.mem_filter, List.mem_cons]
    constructor
    ·rintro ⟨hp, h⟩
     by_cases hpi : p.1 = i
     ·exact .inl (huniq p hp (i, sv) hsv hpi)
     ·right
      refine ⟨hp, ?_⟩
      simp only [fK] at h ⊢
      rwa [getD_set_ne false (Ne.symm hpi)]
    ·rintro (rfl | ⟨hp, h⟩)
     ·exact ⟨hsv, by simp [fK, hunf]⟩
     ·refine ⟨hp, ?_⟩
      have hpi : p.1 ≠ i := by
       intro e
       have := huniq p hp (i, sv) hsv e
       subst this
       simp [fK, hil] at h
      simp only [fK] at h ⊢
      rwa [getD_set_ne false (Ne.symm hpi)] at h
  have := hpm.length_eq
  simp only [List.length_cons] at this
  omega
 have hnext : ∀ {g' : GW} {a' : Act} {M' : SM}, Ph[fF un (all.filter (fK (listed.setIfInBounds i true)))]? = some M' → cV X (jQ o'.dst sv (LS arr L0 (all.filter (fK listed)))) M' fs own g' a' → K a' g'.w := by
  intro g' a' M' hM' hs'
  refine hK hM' (hs'.sub (fun t sv' ht => ?_))
  have e : jQ o'.dst sv (LS arr L0 (all.filter (fK listed))) = LS arr L0 ((i, sv) :: all.filter (fK listed)) := by simp only [LS, fD, ho]
  rw [e, ← ht]
  exact (WZ (all := all) (hdist t) (fun p hp => (List.mem_filter.1 hp).1) (fun p hp => by
   rcases List.mem_cons.1 hp with rfl | hp
   ·exact hsv
   ·exact (List.mem_filter.1 hp).1) (fun p hp _ => hset p hp)).symm
 have hopQ : ∀ {K : Act → World → Prop}, rY X.P arr o' K a g.w → Y4 X.P arr i K a g.w := by
  intro K h
  unfold Y4
  rw [ho]
  exact h
 refine ⟨hfu, hopQ ?_⟩
 cases hu : un.testBit i with
 | false =>
   have hp1 : TG arr.size un D i ≤ fF un (all.filter (fK listed)) := by
    rw [hcu]
    unfold TG uns
    rw [List.filter_filter]
    refine sH (fun u hu => ?_)
    intro h
    simp only [Bool.and_eq_true] at h ⊢
    exact ⟨h.2, dep u (List.mem_range.1 hu) h.1⟩
   have hp2 : fF un (all.filter (fK listed)) ≤ DY arr.size un D i := by
    rw [hcu]
    unfold DY uns
    rw [List.filter_filter]
    refine sH (fun u hu => ?_)
    intro h
    simp only [Bool.and_eq_true] at h ⊢
    exact ⟨by rw [ndep u (List.mem_range.1 hu) h.2]; rfl, h.1⟩
   have hstp := c1 hu _ M hM hp1 hp2
   refine lJ (fun a' w' ⟨g', hw, s'⟩ => hw ▸ hnext (by rw [hcs, hu]; simpa using hM) s') (hstp _ hag g a hs)
 | true =>
   have hr : fF un (all.filter (fK listed)) = fF un suf := by
    unfold fF
    have e1 : ((all.filter (fK listed)).filter fun p => un.testBit p.1) = suf.filter fun p => un.testBit p.1 := by
     rw [hsplit]
     simp only [List.filter_append, List.filter_cons, List.filter_filter]
     have h1 : (pre.filter fun p => un.testBit p.1 && fK listed p) = [] := by
      refine List.filter_eq_nil_iff.2 (fun p hp h => ?_)
      simp only [Bool.and_eq_true] at h
      have hpa : p ∈ all := by rw [hsplit]; simp [hp]
      have := hO.ord i p.1 hin (hlt p hpa) (pos_pre p hp) hu h.1
      rw [ndep p.1 (hlt p hpa) h.2] at this; cases this
     have h2 : fK listed (i, sv) = false := hunf
     rw [h1, h2]
     simp only [List.nil_append, Bool.false_eq_true, if_false, List.filter_filter]
     refine List.filter_congr (fun p hp => ?_)
     have hpa : p ∈ all := by rw [hsplit]; simp [hp]
     cases hup : un.testBit p.1 with
     | false => rfl
     | true =>
       have := dep p.1 (hlt p hpa) (hO.ord p.1 i (hlt p hpa) hin (pos_suf p hp) hup hu)
       simp [fK, this]
    rw [e1]
   obtain ⟨M1, M2, h1, h2, hstp⟩ := c2 hu
   rw [hr] at hM
   obtain rfl : M1 = M := Option.some.inj (h1.symm.trans hM)
   refine lJ (fun a' w' ⟨g', hw, s'⟩ => hw ▸ hnext (by rw [hcs, hu, hr]; simp; rw [Nat.add_comm]; exact h2) s') (hstp _ hag (fun d hal hoc0 => ?_) g a hs)
   have h0 := G5.1 hoc0
   refine G5.2 ⟨h0.1, fun p hp t ht => ?_⟩
   have hpa := (List.mem_filter.1 hp).1
   have hpl : listed.getD p.1 false = true := (List.mem_filter.1 hp).2
   have hch := hE2
   unfold LJ at hch
   have h3 := List.all_eq_true.1 hch i (List.mem_range.2 hin)
   simp only [ho, hal] at h3
   have h4 := List.all_eq_true.1 h3 (t, p.2) (O4 ht hpa)
   have h5 : exm arr D i t = false := by
    unfold exm
    rw [List.any_eq_false]
    intro k hk hc
    have hk := List.mem_range.1 hk
    simp only [Bool.and_eq_true, Bool.or_eq_true] at hc
    obtain ⟨hc1, hc2⟩ := hc
    have hdk : fD arr k = some t := by
     split at hc2
     ·rename_i t' ht'
      rw [ht', Nat.eq_of_beq_eq_true hc2]
     ·cases hc2
    obtain ⟨svk, hsk⟩ := hmem k hk
    have hpk := hdist t p hpa (k, svk) hsk ht hdk
    have hpk1 : p.1 = k := by rw [hpk]
    rcases hc1 with hc1 | hc1
    ·have := Nat.eq_of_beq_eq_true hc1
     rw [hpk1, this, hunf] at hpl
     cases hpl
    ·have := ndep p.1 (hlt p hpa) hpl
     rw [hpk1, hc1] at this
     cases this
   simp only [h5, Bool.false_or, Bool.not_eq_true'] at h4
   exact h4
theorem A4 {u v : Nat} (hO : vQ arr un D π u v) {all : List (Nat × SV)} {Ph : List SM} {Mf : SM} (hall : (all.map (·.1)).reverse = π) (hlen : Ph.length = fF un all + 1) (hMf : Ph.getLast? = some Mf) (hE : E X k (LS arr L0 all) Mf fs own ∧ LJ arr D (LS arr L0 all) = true)
 (hst : ∀ pre i sv suf, all = pre ++ (i, sv) :: suf → O3 X arr fs own un D Ph i sv (LS arr L0 suf) (fF un suf)) : ∀ (f : Nat) (listed : Array Bool) (a : Act) (g : GW) (M : SM), Closed arr listed → (listed.getD u false = true ∨ arr.size ≤ v) → (all.filter fun p => !fK listed p).length ≤ f →
  Ph[fF un (all.filter (fK listed))]? = some M → cV X (LS arr L0 (all.filter (fK listed))) M fs own g a → N5 X.P arr (jP X.P X.rd X.Q k .normal) f listed a g.w := by
 have hmem : ∀ i, i < arr.size → ∃ sv, (i, sv) ∈ all := by
  intro i hi
  have := hO.all i hi
  rw [← hall] at this
  obtain ⟨p, hp, rfl⟩ := List.mem_map.1 (List.mem_reverse.1 this)
  exact ⟨p.2, hp⟩
 have hlt : ∀ p ∈ all, p.1 < arr.size := by
  intro p hp
  refine hO.lt p.1 ?_
  rw [← hall]
  exact List.mem_reverse.2 (List.mem_map.2 ⟨p, hp, rfl⟩)
 have done : ∀ (listed : Array Bool) (a : Act) (g : GW) (M : SM), (∀ i, i < arr.size → listed.getD i false = true) → Ph[fF un (all.filter (fK listed))]? = some M → cV X (LS arr L0 (all.filter (fK listed))) M fs own g a → jP X.P X.rd X.Q k .normal a g.w := by
  intro listed a g M hl hM hs
  have e : all.filter (fK listed) = all := List.filter_eq_self.2 (fun p hp => hl p.1 (hlt p hp))
  rw [e] at hM hs
  have : M = Mf := by
   rw [List.getLast?_eq_getElem?, hlen] at hMf
   simp only [Nat.add_sub_cancel] at hMf
   rw [hM] at hMf; exact Option.some.inj hMf
  subst this
  exact hE.1 g a hs
 have ready_nil : ∀ (listed : Array Bool), listed.size = arr.size → Region.ready .any arr listed = [] → ∀ i, i < arr.size → listed.getD i false = true := by
  intro listed hsz hr i
  induction i using Nat.strongRecOn with
  | _ i ih =>
    intro hi
    refine Decidable.byContradiction fun hne => ?_
    have hne : listed.getD i false = false := by simpa using hne
    have hoi : arr[i]? = some arr[i] := by simp [hi]
    have : i ∈ Region.ready .any arr listed := mem_ready.2 ⟨by
     have h1 : i < listed.size := by omega
     simp only [Array.getD_eq_getD_getElem?, h1, getElem?_pos, Option.getD_some] at hne ⊢
     exact hne, _, hoi, fun e he hb => ih e.on (hO.back i _ hoi e.on (j7.2 ⟨e, he, hb, rfl⟩)) (by have := hO.back i _ hoi e.on (j7.2 ⟨e, he, hb, rfl⟩); omega)⟩
    rw [hr] at this
    cases this
 intro f
 induction f with
 | zero =>
   intro listed a g M hc _ hf hM hs
   have hl : ∀ i, i < arr.size → listed.getD i false = true := by
    intro i hi
    obtain ⟨sv, hsv⟩ := hmem i hi
    refine Decidable.byContradiction fun hne => ?_
    have : (i, sv) ∈ all.filter fun p => !fK listed p := List.mem_filter.2 ⟨hsv, by simpa [fK] using hne⟩
    rw [List.eq_nil_of_length_eq_zero (Nat.le_zero.1 hf)] at this
    cases this
   refine ⟨?_, done listed a g M hl hM hs⟩
   refine List.eq_nil_iff_forall_not_mem.2 (fun i hi => ?_)
   obtain ⟨h1, oi, hoi, _⟩ := mem_ready.1 hi
   have h2 := hl i (Array.getElem?_eq_some_iff.1 hoi).1
   have hlt' : i < listed.size := by rw [hc.1]; exact (Array.getElem?_eq_some_iff.1 hoi).1
   simp only [Array.getD_eq_getD_getElem?, hlt', getElem?_pos, Option.getD_some] at h1 h2
   rw [h1] at h2; cases h2
 | succ f ih =>
   intro listed a g M hc hg hf hM hs
   refine ⟨fun hr => done listed a g M (ready_nil listed hc.1 hr) hM hs, fun i hi => ?_⟩
   have hin : i < arr.size := by
    obtain ⟨_, o, ho, _⟩ := mem_ready.1 hi
    exact (Array.getElem?_eq_some_iff.1 ho).1
   have hgi : listed.getD u false = true ∨ (i ≠ v ∧ listed.getD v false = false) := hg.imp id fun h => ⟨by omega, by
    have hsz := hc.1
    simp only [Array.getD_eq_getD_getElem?]
    rw [Array.getElem?_eq_none (by omega)]
    rfl⟩
   have hlt2 := (gI hO hall hE.2 hst hc hM hs hi hgi (K := fun _ _ => True) (fun _ _ => trivial)).1
   exact (gI hO hall hE.2 hst hc hM hs hi hgi (fun hM' hs' => ih _ _ _ _ (hc.set hi) (hg.imp (fun h => getD_set_true h) id) (by omega) hM' hs')).2
theorem XU {id : Nat} {l : List Oper} {L0 : SL} {M0 : SM} (hm : X.P.follows .mixedOrders = true) (hB : O1 l.toArray un D π = true) (h : ED X l.toArray k fs own un D π L0 M0 []) : E X (.code (.region id l.toArray true) :: k) L0 M0 fs own := by
 have hO := vT (u := 0) (v := l.toArray.size) hB
 obtain ⟨new, ext, Mf, h1, h2, h3, h4, h5⟩ := qI π [] M0 [] h rfl
 simp only [List.append_nil] at h2 h4 h5
 intro g a s
 refine wpIn_region_any hm ?_
 obtain ⟨ρ, ms, s1, s2, s3⟩ := s
 have e : FExt g ⟨{ g.w with drawn := g.w.drawn + 1 }, g.fz, g.lt⟩ := ⟨rfl, rfl, rfl, Nat.le_refl _, fun _ h => h, fun _ _ => rfl⟩
 have s' : cV X L0 M0 fs own ⟨{ g.w with drawn := g.w.drawn + 1 }, g.fz, g.lt⟩ a :=
  ⟨ρ, ms, ⟨s1.kn, s1.all.mono e, ⟨fun r hr => r.loc (w := g.w) (fun _ _ => rfl) (s1.own.p r hr), s1.own.nodup, s1.own.lt, s1.own.nfz⟩, ⟨s1.ext.toFExt.trans e, s1.ext.keep, s1.ext.nofz⟩, s1.new⟩, s2.mono e, s3.pin, fun t sv ht => by
   obtain ⟨x, hx, dx⟩ := s3.val t sv ht
   exact ⟨x, hx, dx.mono e⟩⟩
 have hnone : (new.filter (fK (Array.replicate l.length false))) = [] := List.filter_eq_nil_iff.2 (fun p _ h => by
  simp only [fK, Array.getD_eq_getD_getElem?, Array.getElem?_replicate] at h
  split at h <;> simp at h)
 have := A4 (X := X) (k := k) hO (all := new) (Ph := [M0] ++ ext) (Mf := Mf) (L0 := L0) h1 (by simp at h2 ⊢; omega) (by simpa using h3) h4 (by simpa using h5) l.length (Array.replicate l.length false) a ⟨{ g.w with drawn := g.w.drawn + 1 }, g.fz, g.lt⟩ M0
  ⟨by simp, fun j oj _ hl => by
   simp only [Array.getD_eq_getD_getElem?, Array.getElem?_replicate] at hl
   split at hl <;> simp at hl⟩ (.inr (Nat.le_refl _))
  (by
   refine Nat.le_trans (List.length_filter_le _ _) ?_
   have hπ := hO.nd
   have : π.length ≤ l.toArray.size := by
    have := List.Nodup.length_le_of_subset hπ (l₂ := List.range l.toArray.size) (fun i hi => List.mem_range.2 (hO.lt i hi))
    simpa using this
   have e2 : new.length = π.length := by rw [← h1]; simp
   simp at this; omega)
  (by rw [hnone]; simp [fF]) (by rw [hnone]; exact s')
 simpa using vB _ _ _ _ this
end
end Go.KX
