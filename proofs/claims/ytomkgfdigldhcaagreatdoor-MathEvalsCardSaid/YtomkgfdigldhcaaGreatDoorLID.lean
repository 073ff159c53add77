/- XM XN XO XP PV PW YA YB PZ PP. -/
import Derived.Test.YtomkgfdigldhcaaGreatDoorLIC
import Derived.Lib.LaidTab
import Derived.Below
import Derived.Sort.Grow
import Derived.Lib.ItoaNum
import Derived.Lib.TrimByte
set_option maxRecDepth 100000
namespace Go.KX
section
variable {X : Kx} {k : List It} {L : SL} {M : SM} {fs : List MF} {own : List aH} {arr : Array Oper} {l : List Oper} {o : Oper}
theorem tQ {L L' : SL} {x : Operand} (h : ∀ t, mS x = some t → aF L' t = aF L t) : pH (aF L') x = pH (aF L) x := by
 cases x with
 | tmp t => simp only [pH, cO, h t rfl]
 | const v => cases v <;> rfl
 | _ => rfl
theorem LM {tb : TT} (hT : tb.Ok X.P) {M' φ L2} (hg : o.guard = none) {T x y} (hop : o.op = .store T x y) (hx : vI tb L M o.dst o.op = some (L2, M', φ)) (hφ : ∀ p ∈ φ, p) (sv : SV) : Stp X arr o L M fs own sv M' := by
 intro L' hL g a hE
 have hd : o.dst = none := by
  cases hd : o.dst with
  | none => rfl
  | some d => simp only [hop, hd, vI] at hx; cases hx
 have hsl : ∀ t, (mS x = some t ∨ mS y = some t) → aF L' t = aF L t := by
  intro t ht
  refine hL t ?_
  have : t ∈ o.op.operands.toList.filterMap mS := by
   rw [hop]
   simp only [Op.operands]
   show t ∈ List.filterMap mS [x, y]
   rw [List.mem_filterMap]
   rcases ht with ht | ht
   ·exact ⟨x, .head _, ht⟩
   ·exact ⟨y, .tail _ (.head _), ht⟩
  exact List.mem_append_left _ this
 have hx' : vI tb L' M o.dst o.op = some (L', M', φ) := by
  simp only [hop, hd, vI, tQ (fun t h => hsl t (.inl h)), tQ (fun t h => hsl t (.inr h))] at hx ⊢
  split at hx
  ·split at hx
   ·split at hx
    ·obtain ⟨h1, h2⟩ := oP hx
     have upd : ∀ {M : SM} {i : Nat} {mb : MB} {K : SM → Option (SL × SM × List Prop)} {r}, fU M i mb K = some r → ∃ M1, ∀ {K' : SM → Option (SL × SM × List Prop)}, fU M i mb K' = K' M1 := by
      intro M i mb
      induction M with
      | nil => intro K r h; cases h
      | cons p M ih =>
        intro K r h
        obtain ⟨j, m⟩ := p
        simp only [fU] at h ⊢
        cases hb : Nat.beq i j with
        | true => exact ⟨_, fun {K'} => rfl⟩
        | false =>
          rw [hb] at h
          obtain ⟨M1, h1⟩ := ih h
          exact ⟨(j, m) :: M1, fun {K'} => h1⟩
     have put : ∀ {cs : List SV} {off : Nat} {ns : List SV} {K : List SV → Option (SL × SM × List Prop)} {r}, yH cs off ns K = some r → ∀ {K' : List SV → Option (SL × SM × List Prop)}, yH cs off ns K' = K' (cs.take off ++ ns ++ cs.drop (off + ns.length)) := by
      intro cs
      induction cs with
      | nil =>
        intro off ns K r h K'
        cases off with
        | zero => cases ns with
          | nil => rfl
          | cons _ _ => cases h
        | succ _ => cases h
      | cons c cs ih =>
        intro off ns K r h K'
        cases off with
        | zero =>
          cases ns with
          | nil => simp [yH]
          | cons n ns =>
            have := ih (off := 0) (ns := ns) (K := fun r => K (n :: r)) h (K' := fun r => K' (n :: r))
            simp only [yH]
            rw [this]
            have e : 0 + (n :: ns).length = 0 + ns.length + 1 := by simp
            rw [e]; simp
        | succ off =>
          have := ih (off := off) (ns := ns) (K := fun r => K (c :: r)) h (K' := fun r => K' (c :: r))
          simp only [yH]
          rw [this]
          have e : off + 1 + ns.length = off + ns.length + 1 := by omega
          rw [e]; simp
     obtain ⟨M1, hM1⟩ := upd h2
     rw [hM1] at h2
     rw [put hx, hM1]
     simp only [Option.some.injEq, Prod.mk.injEq] at h2 ⊢
     exact ⟨trivial, h2.2⟩
    ·cases hx
   ·cases hx
  ·cases hx
 have := G2 (l := []) (arr := arr) (k := [.lp fun a' w' => ∃ g', g'.w = w' ∧ cV X L' M' fs own g' a']) hT hg (fun d h => by rw [hd] at h; cases h) hx' hφ (fun g' a' h => ⟨g', rfl, h⟩) g a hE
 have h2 : rY X.P arr o (fun a' w' => ∃ g', g'.w = w' ∧ cV X L' M' fs own g' a') a g.w := this
 rw [hd]
 exact h2
def j8 (e : Nat → Option SV) : Op → Bool
 | .load _ x => match cO e x with
   | some (.p _) => true
   | some (.g _ (.p _)) => true
   | _ => false
 | _ => true
theorem G6 {tb : TT} {e : Nat → Option SV} {M M' : SM} {op : Op} (h : j8 e op = true) : yW tb e M op = yW tb e M' op := by
 unfold yW
 split
 ·rename_i svs hsv
  rw [sE, sE]
  have : pP tb M op (svs.map st1) = pP tb M' op (svs.map st1) := by
   cases op with
   | load T x =>
     simp only [j8] at h
     have hs : evs e [x] = some svs := hsv
     unfold evs at hs
     split at hs
     ·rename_i v hv
      rw [hv] at h
      simp only [evs, Option.some.injEq] at hs
      subst hs
      show qH tb M T [st1 v] = qH tb M' T [st1 v]
      split at h
      ·rename_i cs he; cases he; rfl
      ·rename_i b cs he; cases he; rfl
      ·cases h
     ·cases hs
   | unOp u T x => cases u <;> rfl
   | makeFunc fn a b => cases fn <;> rfl
   | call c =>
     obtain ⟨callee, az, ts⟩ := c
     cases callee with
     | builtin b => cases b <;> rfl
     | _ => rfl
   | _ => rfl
  rw [this]
 ·rfl
theorem O5 {tb : TT} {e : Nat → Option SV} {M M' : SM} {H : List (List SV)} {op : Op} (h : j8 e op = true) : Y5 tb e M H op = Y5 tb e M' H op := by
 unfold Y5
 split <;> first | rfl | exact G6 h
theorem qJ {tb : TT} {e : Nat → Option SV} {M M' : SM} {H : List (List SV)} {op : Op} (h : j8 e op = true) : I3 tb e M H op = I3 tb e M' H op := by
 unfold I3
 split <;> first | rfl | exact O5 h
def f9 (tb : TT) (n : Nat) (arr : Array Oper) (un : Nat) (D : List Nat) : Nat → List (List SV) → List Nat → SL → SM → List SM → List Prop → Option (List Nat × SL × SM × List SM × List Prop)
 | 0, _, π, L, M, Ms, acc => some (π, L, M, Ms, acc)
 | _ + 1, _, [], _, _, _, _ => none
 | m + 1, H, i :: r, L, M, Ms, acc => match arr[i]? with
   | none => none
   | some o => match gS arr (aF L) o with
     | none => none
     | some none => match un.testBit i with
       | false => match j8 (aF L) o.op || (Nat.ble (DY arr.size un D i) Ms.length && Nat.ble Ms.length (TG arr.size un D i)) with
         | true => match I3 tb (aF L) M H o.op with
           | some (sv, φ) => match o.dst with
             | some d => match Nat.blt d n with
               | true => pI φ acc (fun acc => f9 tb n arr un D m (match LH o.op with | true => H.tail | false => H) r ((d, sv) :: L) M Ms acc)
               | false => none
             | none => none
           | none => none
         | false => none
       | true => match o.op with
         | .store _ _ _ => match vI tb L M o.dst o.op with
           | some (_, M2, φ) => pI φ acc (fun acc => f9 tb n arr un D m H r L M2 (M :: Ms) acc)
           | none => none
         | _ => none
     | some (some b) => match un.testBit i with
       | false => match j8 (aF L) o.op || (Nat.ble (DY arr.size un D i) Ms.length && Nat.ble Ms.length (TG arr.size un D i)) with
         | true => match I3 tb (aF L) M H o.op with
           | some (sv, φ) => match o.dst with
             | some d => match Nat.blt d n with
               | true => pI (φ.map fun p => b = true → p) acc (fun acc => f9 tb n arr un D m (match LH o.op with | true => H.tail | false => H) r ((d, .g b sv) :: L) M Ms acc)
               | false => none
             | none => none
           | none => none
         | false => none
       | true => none
theorem stb {un i : Nat} {D : List Nat} {Ms : List SM} {sv : SV} (h : (j8 (aF L) o.op || (Nat.ble (DY arr.size un D i) Ms.length && Nat.ble Ms.length (TG arr.size un D i))) = true)
 (hs : Stp X arr o L M fs own sv M) (hf : j8 (aF L) o.op = true → ∀ M', Stp X arr o L M' fs own sv M') :
 ((DY arr.size un D i ≤ Ms.length ∧ Stp X arr o L M fs own sv M ∧ ∀ q M', Ms[q]? = some M' → TG arr.size un D i ≤ Ms.length - 1 - q → Stp X arr o L M' fs own sv M') ∨ ∀ M', Stp X arr o L M' fs own sv M') := by
 cases hfr : j8 (aF L) o.op with
 | true => exact .inr (hf hfr)
 | false =>
   rw [hfr] at h
   simp only [Bool.false_or, Bool.and_eq_true] at h
   have h1 := Nat.le_of_ble_eq_true h.1
   have h2 := Nat.le_of_ble_eq_true h.2
   refine .inl ⟨h1, hs, fun q M' hq hlo => ?_⟩
   have : q < Ms.length := by
    rcases Nat.lt_or_ge q Ms.length with h | h
    ·exact h
    ·rw [List.getElem?_eq_none h] at hq; cases hq
   omega
theorem uM {tb : TT} (hT : tb.Ok X.P) {un : Nat} {D : List Nat} : ∀ (m : Nat) {H : List (List SV)} {π : List Nat} {L : SL} {M : SM} {Ms : List SM} {acc : List Prop} {π' L' M' Ms' φ}, f9 tb X.n arr un D m H π L M Ms acc = some (π', L', M', Ms', φ) → (∀ p ∈ φ, p) →
 (∀ p ∈ acc, p) ∧ (ED X arr k fs own un D π' L' M' Ms' → ED X arr k fs own un D π L M Ms)
 | 0, H, π, L, M, Ms, acc, π', L', M', Ms', φ, h, hφ => by
   simp only [f9, Option.some.injEq, Prod.mk.injEq] at h
   obtain ⟨rfl, rfl, rfl, rfl, rfl⟩ := h
   exact ⟨hφ, id⟩
 | m + 1, H, [], L, M, Ms, acc, π', L', M', Ms', φ, h, _ => by simp [f9] at h
 | m + 1, H, i :: r, L, M, Ms, acc, π', L', M', Ms', φ, h, hφ => by
   unfold f9 at h
   split at h
   ·cases h
   ·rename_i o ho
    split at h
    ·cases h
    ·rename_i hG
     split at h
     ·rename_i hu
      split at h
      ·rename_i hc
       split at h
       ·rename_i sv ψ hx
        split at h
        ·rename_i d hd
         split at h
         ·rename_i hn
          obtain ⟨acc', hr, hm⟩ := gG h
          obtain ⟨ha, hk⟩ := uM hT m hr hφ
          refine ⟨fun p hp => ha p (hm p (.inr hp)), fun he => ⟨o, sv, ho, ?_⟩⟩
          rw [hu]
          have hψ : ∀ p ∈ wq none ψ, p := fun p hp => ha p (hm p (.inl hp))
          refine ⟨stb hc (j6 hT hG hd hn hx hψ) (fun hf M' => j6 hT hG hd hn ((qJ hf).trans hx) hψ), ?_⟩
          rw [hd]
          exact hk he
         ·cases h
        ·cases h
       ·cases h
      ·cases h
     ·rename_i hu
      split at h
      ·rename_i T x y hop
       split at h
       ·rename_i L2 M2 ψ hx
        obtain ⟨acc', hr, hm⟩ := gG h
        obtain ⟨ha, hk⟩ := uM hT m hr hφ
        refine ⟨fun p hp => ha p (hm p (.inr hp)), fun he => ⟨o, .v undef, ho, ?_⟩⟩
        rw [hu]
        have hd : o.dst = none := by
         cases hd : o.dst with
         | none => rfl
         | some d => rw [hop, hd] at hx; simp [vI] at hx
        refine ⟨M2, (LM hT (I4 hG) hop hx (fun p hp => ha p (hm p (.inl hp))) _).u, ?_⟩
        rw [hd]
        exact hk he
       ·cases h
      ·cases h
    ·rename_i b hG
     split at h
     ·rename_i hu
      split at h
      ·rename_i hc
       split at h
       ·rename_i sv ψ hx
        split at h
        ·rename_i d hd
         split at h
         ·rename_i hn
          obtain ⟨acc', hr, hm⟩ := gG h
          obtain ⟨ha, hk⟩ := uM hT m hr hφ
          refine ⟨fun p hp => ha p (hm p (.inr hp)), fun he => ⟨o, .g b sv, ho, ?_⟩⟩
          rw [hu]
          have hψ : ∀ p ∈ wq (some b) ψ, p := fun p hp => ha p (hm p (.inl hp))
          refine ⟨stb hc (j6 hT hG hd hn hx hψ) (fun hf M' => j6 hT hG hd hn ((qJ hf).trans hx) hψ), ?_⟩
          rw [hd]
          exact hk he
         ·cases h
        ·cases h
       ·cases h
      ·cases h
     ·cases h
theorem xd {tb : TT} (hT : tb.Ok X.P) (m : Nat) (H : List (List SV)) {un : Nat} {D π π' : List Nat} {Ms Ms' : List SM} {L' M' φ} (hk : ED X arr k fs own un D π' L' M' Ms') (hr : f9 tb X.n arr un D m H π L M Ms [] = some (π', L', M', Ms', φ) := by rfl)
 (hφ : aE φ := by first | trivial | omega | (simp +contextual [aE]; done) | (simp +contextual [aE, *]; done) | (simp +contextual [aE, *] <;> omega)) : ED X arr k fs own un D π L M Ms := (uM hT m hr (gC hφ)).2 hk
theorem jH (n un : Nat) (D π : List Nat) {id : Nat} {k' : List It} {l : List Oper} (h : ED X l.toArray k' fs own un D π L M []) (hk : cQ (aF L) 64 n k = .code (.region id l.toArray true) :: k' := by rfl) (hB : O1 l.toArray un D π = true := by kernel_rfl) (hm : X.P.follows .mixedOrders = true := by rfl) : E X k L M fs own :=
 dK 64 n (hk ▸ XU hm hB h)
theorem DZ (n un : Nat) (D π : List Nat) {id : Nat} {k' : List It} {l : List Oper} (h : ED X l.toArray k' fs own un D π L M []) (hk : cQ (aF L) 64 n k = .code (.region id l.toArray true) :: k' := by rfl) (hB : O1 l.toArray un D π = true := by kernel_rfl) (hm : X.P.follows .mixedOrders = true := by rfl) : ES X arr [] k L M fs own :=
 jI (jH n un D π h hk hB hm)
theorem xe {un : Nat} {D : List Nat} {Ms : List SM} (h : ES X arr [] k L M fs own) (hc : LJ arr D L = true := by rfl) : ED X arr k fs own un D [] L M Ms := ⟨h, hc⟩
theorem dc {tb : TT} (hT : tb.Ok X.P) (m : Nat) (H : List (List SV)) {un i d : Nat} {D r π' : List Nat} {Ms Ms' : List SM} {f : FuncId} {fo : Operand} {az : Array Operand} {ts : Array TypeId} {fi ca svs args : List SV} {res : SV} {L' M' φ} (hs : Fc X.P fs f args res) (hk : ED X arr k fs own un D π' L' M' Ms') (hi : arr[i]? = some o := by rfl) (hu : un.testBit i = false := by rfl) (hg : o.guard = none := by rfl) (hd : o.dst = some d := by rfl)
 (ho : o.op = .call ⟨.value fo, az, ts⟩ := by rfl) (hfo : cO (aF L) fo = some (.f f fi ca) := by rfl) (ha : evs (aF L) az.toList = some svs := by rfl) (hb : fi ++ svs.map st1 ++ ca = args := by rfl) (hc : svs.flatMap pB = [] := by rfl) (hn : Nat.blt d X.n = true := by rfl) (hr : f9 tb X.n arr un D m H r ((d, res) :: L) M Ms [] = some (π', L', M', Ms', φ) := by rfl)
 (hφ : aE φ := by first | trivial | omega | (simp +contextual [aE]; done) | (simp +contextual [aE, *]; done) | (simp +contextual [aE, *] <;> omega)) : ED X arr k fs own un D (i :: r) L M Ms := by
 have hG : gS arr (aF L) o = some none := by unfold gS; rw [hg]
 refine ⟨o, res, hi, ?_⟩
 rw [hu]
 refine ⟨.inr (fun M' => vL hG hd hn ho hfo rfl ha (by rw [hc]; intro p hp; cases hp) hb (fun _ => hs)), ?_⟩
 rw [hd]
 exact xd hT m H hk hr hφ
theorem dg {tb : TT} (hT : tb.Ok X.P) (m : Nat) (H : List (List SV)) {un i d : Nat} {D r π' : List Nat} {Ms Ms' : List SM} {f : FuncId} {fo : Operand} {az : Array Operand} {ts : Array TypeId} {sf : SV} {fi ca svs args : List SV} {res : SV} {b : Bool} {L' M' φ ψ} (hs : b = true → Fc X.P fs f args res) (hk : ED X arr k fs own un D π' L' M' Ms') (hi : arr[i]? = some o := by rfl) (hu : un.testBit i = false := by rfl) (hG : gS arr (aF L) o = some (some b) := by rfl) (hd : o.dst = some d := by rfl)
 (ho : o.op = .call ⟨.value fo, az, ts⟩ := by rfl) (hfo : cO (aF L) fo = some sf := by rfl) (hsf : st1 sf = .f f fi ca := by rfl) (ha : evs (aF L) az.toList = some svs := by rfl) (hb : fi ++ svs.map st1 ++ ca = args := by rfl) (hc : wq (some b) (pB sf ++ svs.flatMap pB) = ψ := by rfl) (hψ : aE ψ := by first | trivial | exact id | simp_all [aE]) (hn : Nat.blt d X.n = true := by rfl) (hr : f9 tb X.n arr un D m H r ((d, .g b res) :: L) M Ms [] = some (π', L', M', Ms', φ) := by rfl)
 (hφ : aE φ := by first | trivial | omega | (simp +contextual [aE]; done) | (simp +contextual [aE, *]; done) | (simp +contextual [aE, *] <;> omega)) : ED X arr k fs own un D (i :: r) L M Ms := by
 refine ⟨o, .g b res, hi, ?_⟩
 rw [hu]
 refine ⟨.inr (fun M' => vL hG hd hn ho hfo hsf ha (by rw [hc]; exact gC hψ) hb (fun h => hs h)), ?_⟩
 rw [hd]
 exact xd hT m H hk hr hφ
end
mutual
def W0 (i : Nat) (mb : MB) : SV → SV
 | .l j off => match Nat.beq i j, mb with
   | true, .c _ cs => .p (cs.drop off)
   | _, _ => .l j off
 | .mp j => match Nat.beq i j, mb with
   | true, .m es => .fm es
   | _, _ => .mp j
 | .a cs => .a (O6 i mb cs)
 | .f fn x y => .f fn (O6 i mb x) (O6 i mb y)
 | .t vs => .t (O6 i mb vs)
 | .g b x => .g b (W0 i mb x)
 | .v x => .v x
 | .str s => .str s
 | .s sz rows => .s sz rows
 | .p cs => .p cs
 | .o j n => .o j n
 | .e j off => .e j off
 | .fm es => .fm es
 | .ni => .ni
def O6 (i : Nat) (mb : MB) : List SV → List SV
 | [] => []
 | x :: r => W0 i mb x :: O6 i mb r
end
theorem qK {i : Nat} {mb : MB} : ∀ {l : List SV} {j : Nat} {sv}, (O6 i mb l)[j]? = some sv → ∃ s0, l[j]? = some s0 ∧ sv = W0 i mb s0
 | [], j, sv, h => by simp [O6] at h
 | x :: r, 0, sv, h => by simp [O6] at h; exact ⟨x, rfl, h.symm⟩
 | x :: r, j + 1, sv, h => by
   simp only [O6, List.getElem?_cons_succ] at h
   obtain ⟨s0, h1, h2⟩ := qK h
   exact ⟨s0, by rw [List.getElem?_cons_succ]; exact h1, h2⟩
theorem qL {i : Nat} {mb : MB} : ∀ (l : List SV), (O6 i mb l).length = l.length
 | [] => rfl
 | x :: r => by simp [O6, qL r]
def Z4 (ρ : Nat → Lc) (i : Nat) (mb : MB) (g : GW) : Prop := (∀ T cs, mb = .c T cs → ∀ off, bC g ρ (.p (cs.drop off)) (.pointer (some ⟨(ρ i).b, off, none⟩))) ∧ ∀ es, mb = .m es → bC g ρ (.fm es) (.map (some (ρ i).b))
theorem bC.fr {g : GW} {ρ sv x} (h : bC g ρ sv x) {i : Nat} {mb : MB} : Z4 ρ i mb g → bC g ρ (W0 i mb sv) x := by
 induction h with
 | v => exact fun _ => .v
 | str => exact fun _ => .str
 | s xs h1 h2 hl hr ho hne hd _ => exact fun _ => .s xs h1 h2 hl hr ho hne hd
 | p xs hl hf hc hd _ => exact fun _ => .p xs hl hf hc hd
 | @l ρ j off =>
   intro hf
   simp only [W0]
   split
   ·rename_i hb
    have := Nat.eq_of_beq_eq_true hb
    subst this
    exact hf.1 _ _ rfl off
   ·exact .l
 | a xs hl _ ih => exact fun hf => .a xs (by rw [qL]; exact hl) (fun j sv x h1 h2 => by
    obtain ⟨s0, h3, rfl⟩ := qK h1
    exact ih j s0 x h3 h2 hf)
 | f xs ys hl _ hl2 _ ih ih2 =>
   intro hf
   refine .f xs ys ?_ ?_ ?_ ?_
   ·rw [qL]; exact hl
   ·intro j sv x h1 h2
    obtain ⟨s0, h3, rfl⟩ := qK h1
    exact ih j s0 x h3 h2 hf
   ·rw [qL]; exact hl2
   ·intro j sv x h1 h2
    obtain ⟨s0, h3, rfl⟩ := qK h1
    exact ih2 j s0 x h3 h2 hf
 | t xs hl _ ih => exact fun hf => .t xs (by rw [qL]; exact hl) (fun j sv x h1 h2 => by
    obtain ⟨s0, h3, rfl⟩ := qK h1
    exact ih j s0 x h3 h2 hf)
 | gt _ ih => exact fun hf => .gt (ih hf)
 | gf => exact fun _ => .gf
 | o => exact fun _ => .o
 | e h => exact fun _ => .e h
 | fm raw ms clk hf hh he hk hd _ => exact fun _ => .fm raw ms clk hf hh he hk hd
 | ni => exact fun _ => .ni
 | @mp ρ j =>
   intro hf
   simp only [W0]
   split
   ·rename_i hb
    have := Nat.eq_of_beq_eq_true hb
    subst this
    exact hf.2 _ rfl
   ·exact .mp
def A5 (i : Nat) (mb : MB) : SL → SL
 | [] => []
 | (t, sv) :: r => (t, W0 i mb sv) :: A5 i mb r
def G7 (i : Nat) (mb : MB) : SM → SM
 | [] => []
 | (j, m) :: r => match Nat.beq i j with
  | true => r
  | false => (j, m) :: G7 i mb r
def LN (i : Nat) : SM → Bool
 | [] => false
 | (j, .c _ cs) :: r => match Nat.beq i j with
  | true => LN i r
  | false => sD i cs || LN i r
 | (_, _) :: r => LN i r
def XV : MB → Bool
 | .r _ _ _ => false
 | .it _ _ _ => false
 | .q _ _ _ => false
 | _ => true
theorem I7 {i : Nat} {mb : MB} : ∀ {L : SL} {t sv}, aF (A5 i mb L) t = some sv → ∃ s0, aF L t = some s0 ∧ sv = W0 i mb s0
 | [], t, sv, h => by simp [A5, aF] at h
 | (j, v) :: r, t, sv, h => by
  by_cases htj : t = j
  ·subst htj
   simp only [A5, bF] at h
   cases h
   exact ⟨v, bF _ _ _, rfl⟩
  ·simp only [A5] at h
   rw [bX _ _ htj] at h
   obtain ⟨s0, h1, h2⟩ := I7 h
   exact ⟨s0, by rw [bX _ _ htj]; exact h1, h2⟩
theorem aR.take {g : GW} {ρ : Nat → Lc} : ∀ {M : SM} {ms : List aH} {i : Nat} {mb : MB}, aR g ρ M ms → fZ M i = some mb → ∃ r m1 m2, ms = m1 ++ r :: m2 ∧ bQ g ρ i mb r ∧ ∀ g', aR g' ρ M (m1 ++ r :: m2) → aR g' ρ (G7 i mb M) (m1 ++ m2)
 | [], _, _, _, .nil, h => by cases h
 | (j, m) :: M, _, i, mb, @aR.cons _ _ _ _ _ r0 ms0 hb t, h => by
  unfold fZ at h
  split at h
  ·rename_i hij
   cases h
   have hj := Nat.eq_of_beq_eq_true hij
   subst hj
   refine ⟨r0, [], ms0, rfl, hb, fun g' hM => ?_⟩
   cases hM with
   | cons _ t' => simp only [G7, hij]; exact t'
  ·rename_i hij
   obtain ⟨r, m1, m2, rfl, hB, hu⟩ := aR.take t h
   refine ⟨r, r0 :: m1, m2, rfl, hB, fun g' hM => ?_⟩
   cases hM with
   | cons hb' t' => simp only [G7, hij]; exact .cons hb' (hu g' t')
theorem St.freezeM {X : Cx} {L : LL} {fs : List MF} {own own' : List aH} {g a} {b : Nat} {raw : List (Bytes × Value)} (hr : m7 own (aH.mp str (fun v : Value => v) b raw) own') (s : St X L fs own g a) :
 ∃ g', g'.w = g.w ∧ FExt g g' ∧ g'.fz b ∧ St X L fs own' g' a := by
 have hp := hr.perm
 have ho := s.own.perm hp
 have hnew := s.new b ((cX hp).symm.subset (by simp [aH.mp]))
 let g' : GW := ⟨g.w, fun x => g.fz x ∨ x = b, fun x hx => hx.elim (g.lt x) (fun h => by subst h; exact ho.lt x (by simp [aH.mp]))⟩
 have hF : FExt g g' := ⟨rfl, rfl, rfl, Nat.le_refl _, fun _ h => .inl h, fun _ _ => rfl⟩
 have hnd : (b :: bV own').Nodup := ho.nodup
 refine ⟨g', rfl, hF, .inr rfl, s.kn, s.all.mono hF, ?_, ?_, fun x hx => s.new x ((cX hp).symm.subset (by simp [hx]))⟩
 ·refine ⟨fun r hr' => ho.p r (.tail _ hr'), (List.nodup_cons.1 hnd).2, fun x hx => ho.lt x (by simp [hx]), fun x hx hf => ?_⟩
  rcases hf with hf | rfl
  ·exact ho.nfz x (by simp [hx]) hf
  ·exact (List.nodup_cons.1 hnd).1 hx
 ·refine ⟨s.ext.toFExt.trans hF, s.ext.keep, fun x hx hn hf => ?_⟩
  rcases hf with hf | rfl
  ·exact s.ext.nofz x hx hn hf
  ·rcases hnew with h | h
   ·exact absurd h hn
   ·omega
section
variable {X : Kx} {k : List It} {L : SL} {M : SM} {fs : List MF} {own : List aH} {arr : Array Oper} {l : List Oper} {o : Oper}
theorem cV.fr {i : Nat} {mb : MB} {g a} (hl : fZ M i = some mb) (hc : vM mb = true) (_hx : LN i M = false) (hb : XV mb = true) (h : cV X L M fs own g a) : ∃ g', g'.w = g.w ∧ cV X (A5 i mb L) (G7 i mb M) fs own g' a := by
 obtain ⟨ρ, ms, st⟩ := h.open
 have hM : aR g ρ M ms := st.all _ (.head _)
 obtain ⟨r, m1, m2, rfl, hB, hu⟩ := hM.take hl
 have hp : (m1 ++ r :: m2 ++ own).Perm (r :: (m1 ++ m2 ++ own)) := by
  simp only [List.append_assoc, List.cons_append]
  exact List.perm_middle
 have fin : ∀ g', Z4 ρ i mb g' → St X.toCx [] (F1 ρ M (m1 ++ r :: m2) :: F2 X ρ L a :: fs) (m1 ++ m2 ++ own) g' a → cV X (A5 i mb L) (G7 i mb M) fs own g' a := by
  intro g' hf s'
  have hs : Sl X ρ L a g' := s'.all _ (.tail _ (.head _))
  exact ⟨ρ, m1 ++ m2, ⟨s'.kn, fun f hf => s'.all f (.tail _ (.tail _ hf)), s'.own, s'.ext, s'.new⟩, hu g' (s'.all _ (.head _)), hs.pin, fun t sv ht => by
   obtain ⟨s0, h1, rfl⟩ := I7 ht
   obtain ⟨x, hx, dx⟩ := hs.val t s0 h1
   exact ⟨x, hx, dx.fr hf⟩⟩
 cases hB with
 | c xs hd h1 =>
   rename_i T cs
   have stp0 := st.perm hp
   have stp : St X.toCx [] (OT ρ cs xs :: F1 ρ M _ :: F2 X ρ L a :: fs) _ g a := ⟨stp0.kn, dF.cons hd stp0.all, stp0.own, stp0.ext, stp0.new⟩
   obtain ⟨g', hw, s'⟩ := stp.freeze .head
   have hpt : (PtM (ρ i).b 0 xs).p g' := s'.all _ (.head _)
   have hdl : aI g' ρ cs xs := s'.all (OT ρ cs xs) (.tail _ (.head _))
   refine ⟨g', hw, fin g' ⟨fun T' cs' e off => ?_, (fun es e => by cases e)⟩ ⟨s'.kn, fun f hf => s'.all f (.tail _ (.tail _ hf)), s'.own, s'.ext, s'.new⟩⟩
   cases e
   refine .p (xs.drop off) (by simp [hdl.1]) hpt.1 (fun k y hy => ?_) (fun ρ' j sv y h2 h3 => ?_)
   ·rw [List.getElem?_drop] at hy
    have := hpt.2 _ y hy
    simpa using this
   ·have h2' : cs[off + j]? = some sv := by simpa using h2
    have h3' : xs[off + j]? = some y := by simpa using h3
    exact (hdl.2 _ sv y h2' h3').swap (gB hc _ sv h2') ρ'
 | r hz xs hl' hd => cases hb
 | it raw hk hd => cases hb
 | q hz xs hl' hd => cases hb
 | m raw hk hd =>
   rename_i es
   have stp := st.perm hp
   obtain ⟨g', hw, hF, hfz, s'⟩ := stp.freezeM .head
   obtain ⟨ms', clk, hh, he, _⟩ := stp.own.p (aH.mp str (fun v : Value => v) (ρ i).b raw) (.head _)
   refine ⟨g', hw, fin g' ⟨(fun T cs e => by cases e), fun es' e => ?_⟩ s'⟩
   cases e
   exact .fm raw ms' clk hfz (by rw [hw]; exact hh) he hk (fun ρ' j k sv x h1 h2 => (hd ρ' j k sv x h1 h2).mono hF)
theorem ez (i : Nat) {mb : MB} (h : E X k (A5 i mb L) (G7 i mb M) fs own) (hl : fZ M i = some mb := by rfl) (hc : vM mb = true := by rfl) (hx : LN i M = false := by rfl) (hb : XV mb = true := by rfl) : E X k L M fs own := by
 intro g a s
 obtain ⟨g', hw, s'⟩ := s.fr hl hc hx hb
 exact hw ▸ h g' a s'
theorem sz (i : Nat) {mb : MB} (h : ES X arr l k (A5 i mb L) (G7 i mb M) fs own) (hl : fZ M i = some mb := by rfl) (hc : vM mb = true := by rfl) (hx : LN i M = false := by rfl) (hb : XV mb = true := by rfl) : ES X arr l k L M fs own := by
 intro g a s
 obtain ⟨g', hw, s'⟩ := s.fr hl hc hx hb
 exact hw ▸ h g' a s'
theorem smk {d T : Nat} (h : ES X arr l k ((d, .mp d) :: L) ((d, .m []) :: M) fs own) (ho : o.op = .makeMap T none := by rfl) (hg : o.guard = none := by rfl) (hd : o.dst = some d := by rfl) (hn : Nat.blt d X.n = true := by rfl) (hoc : (cU d L || eM d M) = false := by rfl) (hlt : Nat.blt d 1000 = true := by rfl) : ES X arr (o :: l) k L M fs own := by
 intro g a hE
 obtain ⟨ρ, ms, st⟩ := hE.open
 have hw : Region.wanted o (yielded arr a.tmps) = true := aX (L := []) st.kn (cA hg)
 simp only [wl, hw, if_true]
 simp only [Bool.or_eq_false_iff] at hoc
 have hlt : d < 1000 := by simpa [Nat.blt_eq] using hlt
 have s' := st.alloc (.map #[] 0)
 have hr : (execOp a.eval o).run X.P g.w = .ok (.value (.map (some g.w.heap.size))) (g.w.alloc (.map #[] 0)) := by
  simp only [execOp, ho]
  simp [Instr.makeMap]
 simp only [wn, hr, hd]
 let g1 : GW := ⟨g.w.alloc (.map #[] 0), g.fz, fun b hb => by have := g.lt b hb; rw [size_alloc]; omega⟩
 let ρ' : Nat → Lc := fun j => if j = d then ⟨g.w.heap.size, none, 0⟩ else ρ j
 have e : (ρ' d).b = g.w.heap.size := by simp [ρ']
 have hM : aR g1 ρ M ms := s'.all _ (.head _)
 have hL : Sl X ρ L a g1 := s'.all _ (.tail _ (.head _))
 have hB : bQ g1 ρ' d (.m []) (aH.mp str (fun v : Value => v) (ρ' d).b []) := .m [] rfl (fun ρ' j k sv x h => by simp at h)
 rw [e] at hB
 refine h g1 _ (cV.put (ρ := ρ') (ms := aH.mp str (fun v : Value => v) g.w.heap.size [] :: ms) ⟨s'.kn, dF.cons (.cons hB (dH hM hoc.2)) (dF.cons ⟨fun i hi => by
  have : i ≠ d := by omega
  simp only [ρ', if_neg this]; exact hL.pin i hi, fun t sv ht => by
  obtain ⟨x, hx, dx⟩ := hL.val t sv ht
  exact ⟨x, hx, dx.upd (c8 hoc.1 t sv ht)⟩⟩ (fun f hf => s'.all f (.tail _ (.tail _ hf)))), ?_, s'.ext, s'.new⟩ hn ?_)
 ·refine ⟨fun r hr' => ?_, s'.own.nodup, s'.own.lt, s'.own.nfz⟩
  cases hr' with
  | head => exact ⟨#[], 0, s'.own.p _ (.head _), rfl, by simp, by simp⟩
  | tail _ hm => exact s'.own.p r (.tail _ hm)
 ·have : bC g1 ρ' (.mp d) (.map (some (ρ' d).b)) := .mp
  rw [e] at this
  exact this
theorem LO {es : List (Bytes × SV)} {raw : List (Bytes × Value)} (hk : raw.map (·.1) = es.map (·.1)) (q : Bytes) (x : Value) (sv : SV) : (kN raw q x).map (·.1) = (kN es q sv).map (·.1) := by
 induction raw generalizing es with
 | nil => cases es with
   | nil => rfl
   | cons _ _ => simp at hk
 | cons p r ih =>
   cases es with
   | nil => simp at hk
   | cons e es =>
     simp only [List.map_cons, List.cons.injEq] at hk
     unfold kN
     rw [hk.1]
     split
     ·simp [hk.2]
     ·simp [hk.1, ih hk.2]
theorem D9 {P : SV → Value → Prop} : ∀ {es : List (Bytes × SV)} {raw : List (Bytes × Value)}, raw.map (·.1) = es.map (·.1) → (∀ (j : Nat) k sv x, es[j]? = some (k, sv) → raw[j]? = some (k, x) → P sv x) → ∀ {q : Bytes} {x : Value} {sv : SV}, P sv x →
 ∀ (j : Nat) k sv' x', (kN es q sv)[j]? = some (k, sv') → (kN raw q x)[j]? = some (k, x') → P sv' x'
 | [], raw, hk, h, q, x, sv, hp, j, k, sv', x', h1, h2 => by
   cases raw with
   | nil =>
     cases j with
     | zero => simp [kN] at h1 h2; rw [← h1.2, ← h2.2]; exact hp
     | succ j => simp [kN] at h1
   | cons _ _ => simp at hk
 | e :: es, raw, hk, h, q, x, sv, hp, j, k, sv', x', h1, h2 => by
   cases raw with
   | nil => simp at hk
   | cons p r =>
     simp only [List.map_cons, List.cons.injEq] at hk
     unfold kN at h1 h2
     rw [hk.1] at h2
     split at h1
     ·rename_i hq
      rw [if_pos hq] at h2
      cases j with
      | zero => simp at h1 h2; rw [← h1.2, ← h2.2]; exact hp
      | succ j => exact h (j + 1) k sv' x' (by simpa using h1) (by simpa using h2)
     ·rename_i hq
      rw [if_neg hq] at h2
      cases j with
      | zero => exact h 0 k sv' x' (by simpa using h1) (by simpa using h2)
      | succ j => exact D9 hk.2 (fun j k sv x h3 h4 => h (j + 1) k sv x (by simpa using h3) (by simpa using h4)) hp j k sv' x' (by simpa using h1) (by simpa using h2)
theorem lL {tb : TT} (hT : tb.Ok X.P) {T kT eT i : Nat} {dT dk : TD} {x y z : Operand} {q : Bytes} {sv : SV} {es : List (Bytes × SV)} {M' : SM} (h : ES X arr l k L M' fs own) (ho : o.op = .insert T x y z ∨ o.op = .mapUpdate T x y z := by first | exact .inl rfl | exact .inr rfl) (hg : o.guard = none := by rfl) (hd : o.dst = none := by rfl)
 (hx : cO (aF L) x = some (.mp i) := by rfl) (hy : cO (aF L) y = some (.str q) := by rfl) (hz : cO (aF L) z = some sv := by rfl) (hc : TF sv = true := by rfl) (hT1 : tb.get T = some dT := by rfl) (hk1 : dT.kd = .mp kT eT := by rfl) (hT2 : tb.get kT = some dk := by rfl) (hk2 : dk.kd = .str := by rfl)
 (hm : fZ M i = some (.m es) := by rfl) (hu : fU M i (.m (kN es q sv)) some = some M' := by rfl) : ES X arr (o :: l) k L M fs own := by
 intro g a hE
 obtain ⟨ρ, ms, st⟩ := hE.open
 have hSl : Sl X ρ L a g := st.all _ (.tail _ (.head _))
 have hw : Region.wanted o (yielded arr a.tmps) = true := aX (L := []) st.kn (cA hg)
 have dx := dJ hSl.val hx
 have dy := dJ hSl.val hy
 have dz := dJ hSl.val hz
 have hM : aR g ρ M ms := st.all _ (.head _)
 obtain ⟨r, m1, m2, rfl, hB, hup⟩ := hM.split hm
 obtain ⟨M2, hK, hM2⟩ := hup hu
 cases hK
 have u := (TT.get_ok hT hT1).kd
 rw [hk1] at u
 have uk := (TT.get_ok hT hT2).kd
 rw [hk2] at uk
 have hev : ∃ svs, evs (aF L) [x, y, z] = some svs := ⟨[.mp i, .str q, sv], by simp only [evs, hx, hy, hz]⟩
 obtain ⟨svs, hev⟩ := hev
 obtain ⟨Lr, st', hevl, hfr⟩ := st.slots (fun t sv ht => by obtain ⟨x, hx, _⟩ := hSl.val t sv ht; exact ⟨x, hx⟩) hev
 obtain ⟨_, _, e1, hx', hr1⟩ := bR hevl
 obtain ⟨_, _, e2, hy', hr2⟩ := bR hr1
 obtain ⟨_, _, e3, hz', _⟩ := bR hr2
 simp only [List.map_cons, List.cons.injEq] at e1
 obtain ⟨rfl, rfl⟩ := e1
 simp only [List.cons.injEq] at e2
 obtain ⟨rfl, rfl⟩ := e2
 simp only [List.cons.injEq] at e3
 obtain ⟨rfl, _⟩ := e3
 have ex : a.eval x = .map (some (ρ i).b) := by cases hax : a.eval x <;> rw [hax] at dx <;> cases dx <;> rfl
 rw [ex] at hx'
 rw [eS dy] at hy'
 cases hB with
 | m raw hk hdd =>
   let vF : MF := ⟨fun g => (∀ ρ', bC g ρ' sv (a.eval z)) ∧ ∀ (ρ' : Nat → Lc) (j : Nat) k sv x, es[j]? = some (k, sv) → raw[j]? = some (k, x) → bC g ρ' sv x, fun e h => ⟨fun ρ' => (h.1 ρ').mono e, fun ρ' j k sv x h1 h2 => (h.2 ρ' j k sv x h1 h2).mono e⟩⟩
   have hp : (m1 ++ aH.mp str (fun v : Value => v) (ρ i).b raw :: m2 ++ own).Perm (aH.mp str (fun v : Value => v) (ρ i).b raw :: (m1 ++ m2 ++ own)) := by
    simp only [List.append_assoc, List.cons_append]
    exact List.perm_middle
   have st2 := st'.perm hp
   have st3 : St X.toCx Lr (vF :: F1 ρ M _ :: F2 X ρ L a :: fs) _ g a := ⟨st2.kn, dF.cons ⟨fun ρ' => dz.swap hc ρ', hdd⟩ st2.all, st2.own, st2.ext, st2.new⟩
   have key : rY X.P arr o (fun a' w' => ∃ g', g'.w = w' ∧ cV X L M' fs own g' a') a g.w := by
    have hS : ∀ o', o'.op = Op.mapUpdate T x y z → o'.guard = none → o'.dst = none → rY X.P #[] o' (fun a' w' => ∃ g', g'.w = w' ∧ cV X L M' fs own g' a') a g.w := fun o' ho' hg' hd' =>
     ZY (arr := #[]) (o := o') (K := fun a' w' => ∃ g', g'.w = w' ∧ cV X L M' fs own g' a') st3
      (XK (K := str) (V := fun v : Value => v) ho' (cA hg') hd' hx' hy' hz' u (GV uk) .head (S_J (fun g' a' s' => by
       refine ⟨g', rfl, ρ, m1 ++ aH.mp str (fun v : Value => v) (ρ i).b (kN raw q (a.eval z)) :: m2, ?_, ?_, ?_⟩
       ·have hp2 : (aH.mp str (fun v : Value => v) (ρ i).b (kN raw q (a.eval z)) :: (m1 ++ m2 ++ own)).Perm (m1 ++ aH.mp str (fun v : Value => v) (ρ i).b (kN raw q (a.eval z)) :: m2 ++ own) := by
         simp only [List.append_assoc, List.cons_append]
         exact List.perm_middle.symm
        have s2 := s'.perm hp2
        exact ⟨⟨s2.kn.size, s2.kn.defers, fun i v hv => by simp [lk] at hv⟩, fun f hf => s2.all f (.tail _ (.tail _ (.tail _ hf))), s2.own, s2.ext, s2.new⟩
       ·have hv : vF.p g' := s'.all _ (.head _)
        exact hM2 g' _ (s'.all _ (.tail _ (.head _))) (.m _ (LO hk q _ sv) (fun ρ' => D9 hk (hv.2 ρ') (hv.1 ρ')))
       ·have hs : Sl X ρ L a g' := s'.all (F2 X ρ L a) (.tail _ (.tail _ (.head _)))
        exact ⟨hs.pin, fun t sv ht => by
         obtain ⟨x, hx, dx⟩ := hs.val t sv ht
         exact ⟨x, s'.kn.val t x (hfr t x hx), dx⟩⟩)))
    have h1 := hS { o with op := .mapUpdate T x y z } rfl hg hd
    unfold rY at h1 ⊢
    have hw1 : Region.wanted { o with op := .mapUpdate T x y z } (yielded #[] a.tmps) = true := by unfold Region.wanted; rw [hg]
    rw [if_pos hw1] at h1
    rw [if_pos hw]
    have he : execOp a.eval o = execOp a.eval { o with op := .mapUpdate T x y z } := by
     rcases ho with ho | ho <;> simp only [execOp, ho]
    unfold wn at h1 ⊢
    rw [he]
    exact h1
   exact lJ (fun a' w' ⟨g', hw, s'⟩ => hw ▸ h g' a' s') key
theorem UB {tb : TT} (hT : tb.Ok X.P) {T kT eT d : Nat} {dT dk de : TD} {x y : Operand} {q : Bytes} {es : List (Bytes × SV)} {r : Option SV} (ho : o.op = .lookup T x y true) (hg : o.guard = none) (hd : o.dst = some d) (hn : Nat.blt d X.n = true) (hx : cO (aF L) x = some (.fm es)) (hy : cO (aF L) y = some (.str q))
 (hT1 : tb.get T = some dT) (hk1 : dT.kd = .mp kT eT) (hT2 : tb.get kT = some dk) (hk2 : dk.kd = .str) (hT3 : tb.get eT = some de) (hr : bL es q = r) : Stp X arr o L M fs own (.t [r.getD (inj de.z), .v (.bool r.isSome)]) M := by
 have hG : gS arr (aF L) o = some none := by unfold gS; rw [hg]
 refine bT (sv := .t [r.getD (inj de.z), .v (.bool r.isSome)]) hG hd hn (fun L' hL _ g a ρ ms st => ?_)
 have hSl : Sl X ρ L' a g := st.all _ (.tail _ (.head _))
 have hev : evs (aF L) o.op.operands.toList = some [.fm es, .str q] := by rw [ho]; show evs (aF L) [x, y] = _; simp only [evs, hx, hy]
 have hev' := (aW hL).trans hev
 rw [ho] at hev'
 have hev' : evs (aF L') [x, y] = some [.fm es, .str q] := hev'
 obtain ⟨_, _, e1, dx, hr1⟩ := (aT hSl.val hev').uncons
 obtain ⟨_, _, e2, dy, _⟩ := hr1.uncons
 simp only [List.map_cons, List.cons.injEq] at e1
 obtain ⟨rfl, rfl⟩ := e1
 simp only [List.cons.injEq] at e2
 obtain ⟨rfl, _⟩ := e2
 have u := (TT.get_ok hT hT1).kd
 rw [hk1] at u
 have uk := (TT.get_ok hT hT2).kd
 rw [hk2] at uk
 have dys := eS dy
 generalize hax : a.eval x = vx at dx
 cases dx with
 | fm raw msr clk hf hh he hk hdd =>
   rename_i b
   obtain ⟨rr, hfr, hfd⟩ := D3 (K := str) (V := fun v : Value => v) (P := X.P) (T := kT) (GV uk) q g.w he
   obtain ⟨d0, _, _, hck, _⟩ := (GV (P := X.P) uk).ex
   have hz := lA (w := g.w) (TT.get_ok hT hT3).ti
   have hget : ∀ {es : List (Bytes × SV)} {raw : List (Bytes × Value)}, raw.map (·.1) = es.map (·.1) → (∀ (j : Nat) k sv x, es[j]? = some (k, sv) → raw[j]? = some (k, x) → bC g ρ sv x) → (bL raw q = none ∧ bL es q = none) ∨ ∃ x sv, bL raw q = some x ∧ bL es q = some sv ∧ bC g ρ sv x := by
    intro es
    induction es with
    | nil => intro raw hk _; cases raw with
      | nil => exact .inl ⟨rfl, rfl⟩
      | cons _ _ => simp at hk
    | cons e es ih =>
      intro raw hk hd'
      cases raw with
      | nil => simp at hk
      | cons p rw' =>
        simp only [List.map_cons, List.cons.injEq] at hk
        unfold bL
        rw [hk.1]
        by_cases hq : q = e.1
        ·rw [if_pos hq, if_pos hq]
         exact .inr ⟨p.2, e.2, rfl, rfl, hd' 0 e.1 e.2 p.2 rfl (by simp [← hk.1])⟩
        ·rw [if_neg hq, if_neg hq]
         exact ih hk.2 (fun j k sv x h1 h2 => hd' (j + 1) k sv x (by simpa using h1) (by simpa using h2))
   have hrun : ∃ vt, (Instr.lookup T (.map (some b)) (str q) true).run X.P g.w = .ok (.tuple #[vt, .bool r.isSome]) g.w ∧ bC g ρ (r.getD (inj de.z)) vt := by
    simp only [Instr.lookup, Sem.run_bind, run_underlying u, Result.andThen_ok, run_getObj_map hh, hck, hfr, Sem.run_pure]
    rcases hget hk (hdd ρ) with ⟨h1, h2⟩ | ⟨xv, sv, h1, h2, h3⟩
    ·rw [h2] at hr
     subst hr
     cases rr with
     | none => exact ⟨de.z, by simp only [hz, Result.andThen_ok, Sem.run_pure, Sem.run_bind]; rfl, uJ g ρ de.z⟩
     | some p =>
       obtain ⟨⟨x', hx', _⟩, _⟩ := hfd
       rw [h1] at hx'; cases hx'
    ·rw [h2] at hr
     subst hr
     cases rr with
     | none =>
       obtain ⟨h4, _⟩ := hfd
       rw [h1] at h4; cases h4
     | some p =>
       obtain ⟨j, v⟩ := p
       obtain ⟨⟨x', hx', hv⟩, _⟩ := hfd
       rw [h1] at hx'
       cases hx'
       exact ⟨v, rfl, by rw [hv]; exact h3⟩
   obtain ⟨vt, h1, h2⟩ := hrun
   refine ⟨.tuple #[vt, .bool r.isSome], ?_, .t [vt, .bool r.isSome] rfl (aI.cons h2 (aI.cons .v aI.nil)).2⟩
   simp only [execOp, ho, hax, dys]
   simp [h1]
theorem slk {tb : TT} (hT : tb.Ok X.P) (m : Nat) {T kT eT d : Nat} {dT dk de : TD} {x y : Operand} {q : Bytes} {es : List (Bytes × SV)} (r : Option SV) {l' L' M' φ} (hr : bL es q = r) (hk : ES X arr l' k L' M' fs own) (ho : o.op = .lookup T x y true := by rfl) (hg : o.guard = none := by rfl) (hd : o.dst = some d := by rfl)
 (hx : cO (aF L) x = some (.fm es) := by rfl) (hy : cO (aF L) y = some (.str q) := by rfl) (hT1 : tb.get T = some dT := by rfl) (hk1 : dT.kd = .mp kT eT := by rfl) (hT2 : tb.get kT = some dk := by rfl) (hk2 : dk.kd = .str := by rfl) (hT3 : tb.get eT = some de := by rfl) (hn : Nat.blt d X.n = true := by rfl)
 (hrn : iY tb X.n arr m [] l ((d, .t [r.getD (inj de.z), .v (.bool r.isSome)]) :: L) M [] = some (l', L', M', φ) := by rfl) (hφ : aE φ := by first | trivial | omega | (simp +contextual [aE]; done)) : ES X arr (o :: l) k L M fs own := by
 refine cP (UB hT ho hg hd hn hx hy hT1 hk1 hT2 hk2 hT3 hr) ?_
 rw [hd]
 exact go hT m [] hk hrn hφ
theorem Z5 {g ρ sz rows x} (h : bC g ρ (.s sz rows) x) : rows.length ≤ 9223372036854775807 := by
 cases h with | s xs h1 _ _ _ _ _ _ => simpa [maxLen] using h1
theorem lM (i : Nat) {sz : Nat} {rows : List (List SV)} (hi : aF L i = some (.s sz rows)) (h : rows.length ≤ 9223372036854775807 → E X k L M fs own) : E X k L M fs own := by
 intro g a s
 obtain ⟨ρ, ms, s1, s2, s3⟩ := s
 obtain ⟨x, _, dx⟩ := s3.val i _ hi
 exact h (Z5 dx) g a ⟨ρ, ms, s1, s2, s3⟩
end
end Go.KX
namespace Go.KX
def nH : List SV → Option (List Value)
 | [] => some []
 | .v x :: r => match nH r with
   | some l => some (x :: l)
   | none => none
 | .str s :: r => match nH r with
   | some l => some (str s :: l)
   | none => none
 | _ => none
theorem nJ {g ρ} : ∀ {cs : List SV} {xs vs : List Value}, nH cs = some vs → aI g ρ cs xs → xs = vs
 | [], xs, vs, h, d => by cases h; exact d.unnil
 | c :: r, xs, vs, h, d => by
   obtain ⟨x, ys, rfl, dx, dr⟩ := d.uncons
   unfold nH at h
   split at h
   ·cases ‹_ :: _ = []›
   ·rename_i e
    cases e
    split at h
    ·rename_i l hl
     cases h
     rw [eH dx, nJ hl dr]
    ·cases h
   ·rename_i e
    cases e
    split at h
    ·rename_i l hl
     cases h
     rw [eS dx, nJ hl dr]
    ·cases h
   ·cases h
theorem W3 {g ρ cs x} (h : bC g ρ (.a cs) x) : ∃ xs : List Value, x = .agg xs.toArray ∧ aI g ρ cs xs := by
 cases h with | a xs hl hd => exact ⟨xs, rfl, hl, hd⟩
abbrev O7 : Bool → BinOp
 | true => .neq
 | false => .eql
abbrev N4 : Bool → Bool → Bool
 | true, b => !b
 | false, b => b
section
variable {X : Kx} {k : List It} {L : SL} {M : SM} {fs : List MF} {own : List aH} {arr : Array Oper} {l : List Oper} {o : Oper}
theorem I8 {ne b : Bool} {d T yT : Nat} {x y : Operand} {svs cs ds : List SV} {xs ys : List Value} {fl : Array Field} {G : Option Bool} (hG : gS arr (aF L) o = some G) (hd : o.dst = some d) (hn : Nat.blt d X.n = true) (ho : o.op = .binOp (O7 ne) T x y yT)
 (hev : evs (aF L) [x, y] = some svs) (hst : svs.map st1 = [.a cs, .a ds]) (hφ : ∀ p ∈ wq G (svs.flatMap pB), p) (v1 : nH cs = some xs) (v2 : nH ds = some ys) (hu : X.P.underlying T = some (.struct fl)) (hp : X.P.stoodInHeld T = false)
 (hm : ∀ w, (eqGuard (O7 ne) T x y (.agg xs.toArray) (.agg ys.toArray)).run X.P w = .ok () w) (hr : ∀ w, (Op.eqFields 9999 xs.toArray ys.toArray fl.toList).run X.P w = .ok b w) : Stp X arr o L M fs own (wr G (.v (.bool (N4 ne b)))) M := by
 refine bT hG hd hn (fun L' hL hon g a ρ ms st => ?_)
 have hSl : Sl X ρ L' a g := st.all _ (.tail _ (.head _))
 have hop : o.op.operands.toList = [x, y] := by rw [ho]; cases ne <;> rfl
 have hev' : evs (aF L') [x, y] = some svs := by
  have := aW hL
  rw [hop] at this
  exact this.trans hev
 have hden := mD (aT hSl.val hev') (vH hφ hon)
 rw [hst] at hden
 obtain ⟨_, _, e1, dx, hr1⟩ := hden.uncons
 obtain ⟨_, _, e2, dy, _⟩ := hr1.uncons
 simp only [List.map_cons, List.cons.injEq] at e1
 obtain ⟨rfl, rfl⟩ := e1
 simp only [List.cons.injEq] at e2
 obtain ⟨rfl, _⟩ := e2
 obtain ⟨xs', ex, d1⟩ := W3 dx
 obtain ⟨ys', ey, d2⟩ := W3 dy
 obtain rfl := nJ v1 d1
 obtain rfl := nJ v2 d2
 have hf : X.P.fieldsOf T = fl := by simp [Program.fieldsOf, hu]
 have he := run_equalIn_struct g.w 9999 T xs'.toArray ys'.toArray (by rw [hf]; exact hu) hp
 rw [hf, hr] at he
 cases ne with
 | true =>
   refine ⟨.bool (!b), ?_, .v⟩
   have hm := hm g.w
   simp only [O7] at ho hm
   simp only [execOp, ho, ex, ey]
   simp [hm, run_neq_struct, he]
 | false =>
   refine ⟨.bool b, ?_, .v⟩
   have hm := hm g.w
   simp only [O7] at ho hm
   simp only [execOp, ho, ex, ey]
   simp [hm, run_eql_struct, he]
theorem sq {tb : TT} (hT : tb.Ok X.P) (m : Nat) (H : List (List SV)) (ne : Bool) {b : Bool} {d T yT : Nat} {x y : Operand} {svs cs ds : List SV} {xs ys : List Value} {fl : Array Field} {G : Option Bool} {l' L' M' φ ψ} (hu : X.P.underlying T = some (.struct fl)) (hp : X.P.stoodInHeld T = false)
 (hr : ∀ w, (Op.eqFields 9999 xs.toArray ys.toArray fl.toList).run X.P w = .ok b w) (hk : ES X arr l' k L' M' fs own) (hG : gS arr (aF L) o = some G := by rfl) (hd : o.dst = some d := by rfl) (hn : Nat.blt d X.n = true := by rfl) (ho : o.op = .binOp (O7 ne) T x y yT := by rfl)
 (hev : evs (aF L) [x, y] = some svs := by rfl) (hst : svs.map st1 = [.a cs, .a ds] := by rfl) (v1 : nH cs = some xs := by rfl) (v2 : nH ds = some ys := by rfl)
 (hm : ∀ w, (eqGuard (O7 ne) T x y (.agg xs.toArray) (.agg ys.toArray)).run X.P w = .ok () w := by intro w; kernel_rfl)
 (hc : wq G (svs.flatMap pB) = ψ := by rfl) (hψ : aE ψ := by first | trivial | exact id | exact ⟨id, id⟩ | (simp +contextual [aE]; done) | simp_all [aE])
 (hrn : iY tb X.n arr m H l ((d, wr G (.v (.bool (N4 ne b)))) :: L) M [] = some (l', L', M', φ) := by rfl) (hφ : aE φ := by first | trivial | omega | (simp +contextual [aE]; done) | (simp +contextual [aE, *]; done) | (simp +contextual [aE, *] <;> omega)) : ES X arr (o :: l) k L M fs own := by
 refine cP (I8 (ne := ne) hG hd hn ho hev hst (by rw [hc]; exact gC hψ) v1 v2 hu hp hm hr) ?_
 rw [hd]
 exact go hT m H hk hrn hφ
end
open Go.RowKit Go.Sort
def I9 (F : World → Prop) : MF where
 p g := ∃ w0, F w0 ∧ Below w0.heap.size w0 g.w ∧ ∀ b, b < w0.heap.size → g.fz b
 mono e h := by
  obtain ⟨w0, h1, h2, h3⟩ := h
  exact ⟨w0, h1, ⟨e.os.trans h2.os, e.tape.trans h2.tape, e.output.trans h2.output, Nat.le_trans h2.size e.size, fun k hk => (e.same k (h3 k hk)).trans (h2.block k hk)⟩, fun b hb => e.fz b (h3 b hb)⟩
theorem O8 {F : World → Prop} (hF : ∀ w w', F w → Below w.heap.size w w' → F w') {g : GW} (h : (I9 F).p g) : F g.w := by
 obtain ⟨w0, h1, h2, _⟩ := h
 exact hF w0 g.w h1 h2
theorem tab_below {P : Program} {n : String} {b : Nat} {k : IntKind} {zs : List Int} {w w' : World} (hg : P.globalNamed n = some b) (h : Lib.TabIs P w n k zs) (hb : Below w.heap.size w w') : Lib.TabIs P w' n k zs := by
 unfold Lib.TabIs World.var? at h ⊢
 rw [hg] at h ⊢
 simp only [Option.bind_some] at h ⊢
 have hlt : b < w.heap.size := by
  rcases Nat.lt_or_ge b w.heap.size with h' | h'
  ·exact h'
  ·rw [Array.getElem?_eq_none h'] at h; cases h
 rw [hb.block b hlt]
 exact h
theorem cell_below {w w' : World} (hb : Below w.heap.size w w') {a : Addr} {v : Value} (hc : w.cell? a = some v) : w'.cell? a = some v := (hb.cell (World.block_lt_of_cell? w a hc)).trans hc
theorem below_drewN (w : World) (n : Nat) : Below w.heap.size w (w.drewN n) := ⟨rfl, rfl, rfl, Nat.le_refl _, fun _ _ => rfl⟩
theorem below_grow (w : World) (os : Array Obj) : Below w.heap.size w (grow w os) := ⟨rfl, rfl, rfl, by simp [grow], fun k hk => by simp [grow, Array.getElem?_append_left hk]⟩
theorem LP {g : GW} {w' : World} (h : Below g.w.heap.size g.w w') : ∃ g', g'.w = w' ∧ oK [] g g' :=
 ⟨⟨w', g.fz, fun b hb => Nat.lt_of_lt_of_le (g.lt b hb) h.size⟩, rfl, ⟨h.os, h.tape, h.output, h.size, fun _ hb => hb, fun b hb => h.block b (g.lt b hb)⟩, fun b hb _ => h.block b hb, fun _ _ _ hb => hb⟩
theorem jJ {P : Program} {fs : List MF} {f : FuncId} {args : List SV} {res : SV} (hc : iV P f)
 (h : ∀ ρ g vs, dF fs g → aI g ρ args vs → Calls P f vs.toArray g.w fun e w' => ∃ v, e = .returned v ∧ Below g.w.heap.size g.w w' ∧ ∀ g' ρ', bC g' ρ' res v) : Fc P fs f args res := by
 refine ⟨hc, fun ρ g vs hf ha => (h ρ g vs hf ha).mono ?_⟩
 rintro e w' ⟨v, rfl, hb, hd⟩
 obtain ⟨g', hw, he⟩ := LP hb
 exact ⟨v, g', rfl, hw, he, hd g' ρ⟩
theorem jK {g ρ} : ∀ {args : List SV} {vs xs : List Value}, nH args = some xs → aI g ρ args vs → vs = xs := fun h d => nJ h d
end Go.KX
namespace Go.KX
structure Val where
 k : Int
 n : Int
 deriving DecidableEq
abbrev eI : Val := ⟨2, 0⟩
abbrev fG : Val := ⟨3, 0⟩
abbrev fE : Val := ⟨4, 0⟩
abbrev eF : Val := ⟨5, 0⟩
abbrev zeroV : Val := ⟨0, 0⟩
def aK (n : Int) : Val := if 1000000000000000 < n then fE else if n < -1000000000000000 then eF else ⟨1, n⟩
def aL (b : Bool) : Val := if b then ⟨1, 1000⟩ else ⟨1, 0⟩
def cE (v : Val) : Bool := if v.k = 1 then decide (-1000000000000000 ≤ v.n ∧ v.n ≤ 1000000000000000) else decide (2 ≤ v.k ∧ v.k ≤ 5 ∧ v.n = 0)
def kS (v : Val) : Bool := decide (v.k ≠ 2 ∧ v.k ≠ 0 ∧ (v.k ≠ 1 ∨ v.n ≠ 0))
def cJ (v : Val) : Int := if v.k = 4 then 1000000000000001 else if v.k = 5 then -1000000000000001 else v.n
def rZ (n : Int) : Int := if 0 < n then 1 else if n < 0 then -1 else 0
def cK (v : Val) : Int := rZ (cJ v)
def mV (s : Int) : Val := if s = 0 then fG else if 0 < s then fE else eF
def fL (v : Val) : Bool := decide (v.k = 1)
def pC (a b : Val) : Val := if a.k = 1 ∧ b.k = 1 then aK (a.n + b.n) else if a.k ≠ 1 ∧ b.k ≠ 1 ∧ a ≠ b then fG else if a.k = 1 then b else a
def gX (n : Int) : Int := max n (-n)
def uA (a b : Val) : Val :=
 if a.k ≠ 1 ∨ b.k ≠ 1 then mV (cK a * cK b) else
 if 1000000000000000 < gX a.n * gX b.n / 1000 then mV (cK a * cK b) else aK (cK a * cK b * (gX a.n * gX b.n / 1000))
def divV (a b : Val) : Val :=
 if a.k ≠ 1 ∧ b.k ≠ 1 then fG else if b.k ≠ 1 then aK 0 else if a.k ≠ 1 ∧ b.n < 0 then aK (-cJ a) else if a.k ≠ 1 then a else
 if b.n = 0 then mV a.n else aK ((a.n * 1000).tdiv b.n)
def A6 (v : Val) : Val := aK (-cJ v)
def cL (f : Val → Val → Val) (a b : Val) : Val := if a.k = 3 ∨ b.k = 3 then fG else f a b
def cZ (no : Bool) (f : Int → Int → Bool) (a b : Val) : Val := if a.k = 3 ∨ b.k = 3 then aL no else aL (f (cJ a) (cJ b))
abbrev iH : Bytes := [43]
abbrev a8 : Bytes := [45]
abbrev iI : Bytes := [42]
abbrev jL : Bytes := [47]
abbrev yI : Bytes := [61, 61]
abbrev yJ : Bytes := [33, 61]
abbrev yE : Bytes := [60]
abbrev yK : Bytes := [60, 61]
abbrev yF : Bytes := [62]
abbrev yL : Bytes := [62, 61]
abbrev gY : Bytes := [38, 38]
abbrev mU : Bytes := [124, 124]
abbrev bZ : Bytes := [33]
abbrev mW : Bytes := [97, 98, 115]
abbrev fH : Bytes := [102, 108, 111, 111, 114]
abbrev vV : Bytes := [105, 115, 95, 110, 117, 108, 108]
abbrev G8 : Bytes := [105, 115, 95, 110, 97, 110]
abbrev G9 : Bytes := [105, 115, 95, 105, 110, 102]
abbrev HA : Bytes := [105, 115, 95, 110, 117, 109, 98, 101, 114]
def fM : List (Bytes × (Val → Val → Val)) :=
 [(iH, cL pC), (a8, cL fun a b => pC a (A6 b)), (iI, cL uA), (jL, cL divV),
  (yI, cZ false fun x y => decide (x = y)), (yJ, cZ true fun x y => decide (x ≠ y)), (yE, cZ false fun x y => decide (x < y)), (yK, cZ false fun x y => decide (x ≤ y)),
  (yF, cZ false fun x y => decide (y < x)), (yL, cZ false fun x y => decide (y ≤ x)), (gY, fun a b => aL (kS a && kS b)), (mU, fun a b => aL (kS a || kS b))]
def HB (op : Bytes) (a b : Val) : Option Val := (bL fM op).map fun f => f a b
def j9 (f : Int → Int) (v : Val) : Val := if v.k = 2 ∨ v.k = 3 then v else aK (f (cJ v))
def nK (v : Val) : Val := if v.k = 1 then aK (v.n - (v.n.tmod 1000 + 1000).tmod 1000) else v
def HC (v : Val) : Val := if v.k = 2 then v else aL (!kS v)
def sJ : List (Bytes × (Val → Val)) :=
 [(a8, j9 fun n => -n), (mW, j9 fun n => max n (-n)), (fH, nK), (bZ, HC), (vV, fun v => aL (decide (v.k = 2))), (G8, fun v => aL (decide (v.k = 3))),
  (G9, fun v => aL (decide (v.k = 4 ∨ v.k = 5))), (HA, fun v => aL (decide (v.k = 1)))]
def LQ (op : Bytes) (v : Val) : Option Val := (bL sJ op).map fun f => f v
def mA (op : Bytes) (l : List Val) : Val × Int :=
 if l.all cE then match l with
  | [a] => match LQ op a with
    | some v => (v, 0)
    | none => (zeroV, 2)
  | [a, b] => match HB op a b with
    | some v => if a.k = 2 ∨ b.k = 2 then (eI, 0) else (v, 0)
    | none => (zeroV, 2)
  | _ => (zeroV, 2)
 else (zeroV, 80)
theorem dL {v : Val} (h : cE v = true) : (v.k = 1 ∧ -1000000000000000 ≤ v.n ∧ v.n ≤ 1000000000000000) ∨ v = eI ∨ v = fG ∨ v = fE ∨ v = eF := by
 obtain ⟨k, n⟩ := v
 simp only [cE] at h
 split at h
 ·exact .inl ⟨by assumption, by simpa using h⟩
 ·simp only [decide_eq_true_eq] at h
  obtain ⟨h1, h2, rfl⟩ := h
  have : k = 2 ∨ k = 3 ∨ k = 4 ∨ k = 5 := by omega
  rcases this with rfl | rfl | rfl | rfl <;> simp
theorem uN (n : Int) : cE (aK n) = true := by
 unfold aK cE
 split
 ·decide
 ·split
  ·decide
  ·simp; omega
def dV (v : Val) : Bool := decide (v.k = 1 ∧ v.n ≠ 0 ∨ v.k = 3 ∨ v.k = 4 ∨ v.k = 5)
def cC (v : Val) : Int := if v.k = 4 ∨ 0 < v.n then 1 else if v.k = 5 ∨ v.n < 0 then -1 else 0
def dR (s : Int) : Val := if 0 < s then fE else if s < 0 then eF else fG
def bO (v : Val) : Val := if v.k = 4 then eF else if v.k = 5 then fE else ⟨v.k, -v.n⟩
def nL (a b : Val) : Val := if a.k = 1 ∧ b.k = 1 then aK (a.n + b.n) else if a.k = 1 then b else if b.k = 1 ∨ a = b then a else fG
def dB (n : Int) : Int := if n < 0 then -n else n
def jM (a b : Val) : Val :=
 if a.k ≠ 1 ∨ b.k ≠ 1 then dR (cC a * cC b) else
 if 0 < (dB a.n).tdiv 1000 ∧ (1000000000000000 : Int).tdiv ((dB a.n).tdiv 1000) < dB b.n then dR (cC a * cC b) else
 aK (cC a * cC b * ((dB a.n).tdiv 1000 * dB b.n + ((dB a.n).tmod 1000 * dB b.n).tdiv 1000))
def overR (a b : Val) : Val :=
 if a.k = 1 ∧ b.k = 1 ∧ b.n = 0 then dR (cC a) else if a.k = 1 ∧ b.k = 1 then aK ((a.n * 1000).tdiv b.n) else if a.k = 1 then aK 0 else
 if b.k = 1 ∧ b.n < 0 then bO a else if b.k = 1 then a else fG
def fN (a b : Val) : Bool := if a.k = 1 ∧ b.k = 1 then decide (a.n < b.n) else if a.k = b.k then false else decide (a.k = 5 ∨ b.k = 4)
def cT (op : Bytes) (a b : Val) : Option Val :=
 if op = iH ∨ op = a8 ∨ op = iI ∨ op = jL ∨ op = yI ∨ op = yJ ∨ op = yE ∨ op = yK ∨ op = yF ∨ op = yL ∨ op = gY ∨ op = mU then
  some (if a.k = 2 ∨ b.k = 2 then eI else
   if op = gY then aL (dV a && dV b) else if op = mU then aL (dV a || dV b) else
   if op = yI then aL (decide (¬ (a.k = 3 ∨ b.k = 3) ∧ a = b)) else if op = yJ then aL (decide ((a.k = 3 ∨ b.k = 3) ∨ a ≠ b)) else
   if op = yE then aL (decide (¬ (a.k = 3 ∨ b.k = 3) ∧ fN a b = true)) else if op = yK then aL (decide (¬ (a.k = 3 ∨ b.k = 3) ∧ fN b a = false)) else
   if op = yF then aL (decide (¬ (a.k = 3 ∨ b.k = 3) ∧ fN b a = true)) else if op = yL then aL (decide (¬ (a.k = 3 ∨ b.k = 3) ∧ fN a b = false)) else
   if a.k = 3 ∨ b.k = 3 then fG else if op = iH then nL a b else if op = a8 then nL a (bO b) else if op = iI then jM a b else overR a b)
 else none
def bW (op : Bytes) (a : Val) : Option Val :=
 if op = vV then some (aL (decide (a.k = 2))) else if op = G8 then some (aL (decide (a.k = 3))) else if op = G9 then some (aL (decide (a.k = 4 ∨ a.k = 5))) else
 if op = HA then some (aL (decide (a.k = 1))) else
 if op = a8 ∨ op = mW ∨ op = fH ∨ op = bZ then
  some (if a.k = 2 then a else if op = bZ then aL (!dV a) else if a.k = 3 then a else if op = a8 ∨ op = mW ∧ cC a < 0 then bO a else
   if op = fH ∧ a.k = 1 then aK (a.n - (if a.n.tmod 1000 < 0 then a.n.tmod 1000 + 1000 else a.n.tmod 1000)) else a)
 else none
def GN (op : Bytes) (l : List Val) : Val × Int :=
 if l.all cE then match (match l with | [a] => bW op a | [a, b] => cT op a b | _ => none) with
  | some v => (v, 0)
  | none => (zeroV, 2)
 else (zeroV, 80)
theorem nM {v : Val} (h : cE v = true) : dV v = kS v := by
 rcases dL h with ⟨h, _⟩ | rfl | rfl | rfl | rfl
 ·obtain ⟨k, n⟩ := v; simp only at h; subst h; simp [dV, kS]
 all_goals decide
theorem qM {v : Val} (h : cE v = true) : cC v = cK v := by
 rcases dL h with ⟨h, _⟩ | rfl | rfl | rfl | rfl
 ·obtain ⟨k, n⟩ := v; simp only at h; subst h; simp [cC, cK, cJ, rZ]
 all_goals decide
theorem vW (s : Int) : dR s = mV s := by
 unfold dR mV
 by_cases h : s = 0
 ·subst h; decide
 ·by_cases h2 : 0 < s
  ·rw [if_pos h2, if_neg h, if_pos h2]
  ·rw [if_neg h2, if_pos (by omega), if_neg h, if_neg h2]
theorem A7 {n : Int} (h1 : -1000000000000000 ≤ n) (h2 : n ≤ 1000000000000000) : aK n = ⟨1, n⟩ := by
 unfold aK; rw [if_neg (by omega), if_neg (by omega)]
theorem mF {v : Val} (h : cE v = true) (h2 : v ≠ eI) (h3 : v ≠ fG) : bO v = A6 v := by
 rcases dL h with ⟨h, h4, h5⟩ | rfl | rfl | rfl | rfl
 ·obtain ⟨k, n⟩ := v; simp only at h h4 h5; subst h
  simp only [bO, A6, cJ]
  rw [if_neg (by decide), if_neg (by decide), if_neg (by decide), if_neg (by decide), A7 (by omega) (by omega)]
 ·exact absurd rfl h2
 ·exact absurd rfl h3
 all_goals decide
theorem JA (a b : Val) : nL a b = pC a b := by
 unfold nL pC
 by_cases ha : a.k = 1
 ·by_cases hb : b.k = 1
  ·simp [ha, hb]
  ·simp [ha, hb]
 ·by_cases hb : b.k = 1
  ·simp [ha, hb]
  ·by_cases hab : a = b
   ·simp [hb, hab]
   ·simp [ha, hb, hab]
theorem EA (n : Int) : dB n = gX n := by unfold dB gX; split <;> omega
theorem LR {a b : Val} (ha : cE a = true) (hb : cE b = true) : jM a b = uA a b := by
 unfold jM uA
 rw [qM ha, qM hb, vW, EA, EA]
 by_cases h : a.k ≠ 1 ∨ b.k ≠ 1
 ·rw [if_pos h, if_pos h]
 ·rw [if_neg h, if_neg h]
  obtain ⟨x, hx⟩ : ∃ x : Nat, gX a.n = x := ⟨(gX a.n).toNat, by unfold gX; omega⟩
  obtain ⟨y, hy⟩ : ∃ y : Nat, gX b.n = y := ⟨(gX b.n).toNat, by unfold gX; omega⟩
  rw [hx, hy]
  have e1 : ((x : Int)).tdiv 1000 = ((x / 1000 : Nat) : Int) := by rw [show (1000 : Int) = ((1000 : Nat) : Int) from rfl, ← Int.ofNat_tdiv]
  have e2 : ((x : Int)).tmod 1000 = ((x % 1000 : Nat) : Int) := by rw [show (1000 : Int) = ((1000 : Nat) : Int) from rfl, ← Int.ofNat_tmod]
  rw [e1, e2]
  have e3 : ((x % 1000 : Nat) : Int) * (y : Int) = ((x % 1000 * y : Nat) : Int) := (Int.natCast_mul _ _).symm
  rw [e3]
  have e4 : (((x % 1000 * y : Nat) : Int)).tdiv 1000 = ((x % 1000 * y / 1000 : Nat) : Int) := by rw [show (1000 : Int) = ((1000 : Nat) : Int) from rfl, ← Int.ofNat_tdiv]
  rw [e4]
  have e5 : (x : Int) * (y : Int) / 1000 = ((x * y / 1000 : Nat) : Int) := by rw [← Int.natCast_mul]; rfl
  have e6 : x * y / 1000 = x / 1000 * y + x % 1000 * y / 1000 := by
   have h1 : x * y = 1000 * (x / 1000 * y) + x % 1000 * y := by
    conv => lhs; rw [← Nat.div_add_mod x 1000]
    rw [Nat.add_mul, Nat.mul_assoc]
   rw [h1, Nat.mul_add_div (by decide)]
  have e7 : ((x / 1000 : Nat) : Int) * (y : Int) + ((x % 1000 * y / 1000 : Nat) : Int) = ((x * y / 1000 : Nat) : Int) := by rw [e6, ← Int.natCast_mul, ← Int.natCast_add]
  rw [e5, e7]
  by_cases hw : 0 < x / 1000
  ·have e8 : (1000000000000000 : Int).tdiv ((x / 1000 : Nat) : Int) = ((1000000000000000 / (x / 1000) : Nat) : Int) := by rw [show (1000000000000000 : Int) = ((1000000000000000 : Nat) : Int) from rfl, ← Int.ofNat_tdiv]
   rw [e8]
   by_cases hy2 : 1000000000000000 / (x / 1000) < y
   ·rw [if_pos ⟨by omega, by omega⟩]
    have : 1000000000000000 < x / 1000 * y := by rw [Nat.mul_comm]; exact (Nat.div_lt_iff_lt_mul hw).1 hy2
    rw [if_pos (by omega)]
   ·rw [if_neg (by omega)]
    by_cases hbig : 1000000000000000 < ((x * y / 1000 : Nat) : Int)
    ·rw [if_pos hbig]
     exact num_inf hbig (a.n) (b.n) hx hy (signV_num (Decidable.byContradiction fun q => h (.inl q))) (signV_num (Decidable.byContradiction fun q => h (.inr q)))
    ·rw [if_neg hbig]
  ·rw [if_neg (by omega)]
   by_cases hbig : 1000000000000000 < ((x * y / 1000 : Nat) : Int)
   ·rw [if_pos hbig]
    exact num_inf hbig (a.n) (b.n) hx hy (signV_num (Decidable.byContradiction fun q => h (.inl q))) (signV_num (Decidable.byContradiction fun q => h (.inr q)))
   ·rw [if_neg hbig]
where
 signV_num {v : Val} (h : v.k = 1) : cK v = rZ v.n := by simp [cK, cJ, h]
 num_inf {x y : Nat} (h : 1000000000000000 < ((x * y / 1000 : Nat) : Int)) (p q : Int) (hx : gX p = x) (hy : gX q = y) {s t : Int} (hs : s = rZ p) (ht : t = rZ q) : aK (s * t * ((x * y / 1000 : Nat) : Int)) = mV (s * t) := by
  subst hs ht
  have hx0 : x ≠ 0 := by rintro rfl; simp at h
  have hy0 : y ≠ 0 := by rintro rfl; simp at h
  have hp : rZ p = 1 ∨ rZ p = -1 := by unfold rZ; unfold gX at hx; split; exact .inl rfl; split; exact .inr rfl; omega
  have hq : rZ q = 1 ∨ rZ q = -1 := by unfold rZ; unfold gX at hy; split; exact .inl rfl; split; exact .inr rfl; omega
  have key : rZ p * rZ q = 1 ∨ rZ p * rZ q = -1 := by rcases hp with h | h <;> rcases hq with h' | h' <;> rw [h, h'] <;> simp
  rcases key with h' | h' <;> rw [h']
  ·unfold aK; rw [if_pos (by omega)]; rfl
  ·unfold aK; rw [if_neg (by omega), if_pos (by omega)]; rfl
theorem O9 {a b : Val} (ha : cE a = true) (h2 : a ≠ eI) (h3 : a ≠ fG) : overR a b = divV a b := by
 unfold overR divV
 by_cases h1 : a.k = 1
 ·by_cases hb : b.k = 1
  ·by_cases hz : b.n = 0
   ·have : cC a = rZ a.n := by rw [qM ha]; simp [cK, cJ, h1]
    simp only [h1, hb, hz, vW, this]
    simp
    unfold mV rZ
    by_cases h : 0 < a.n
    ·simp [h]; omega
    ·by_cases h' : a.n < 0
     ·simp [h, h']; omega
     ·have : a.n = 0 := by omega
      simp [this]
   ·simp [h1, hb, hz]
  ·simp [h1, hb]
 ·by_cases hb : b.k = 1
  ·by_cases hz : b.n < 0
   ·simp [h1, hb, hz, mF ha h2 h3, A6]
   ·simp [h1, hb, hz]
  ·simp [h1, hb]
theorem nN {v : Val} (h : cE v = true) (h2 : v.k ≠ 2) (h3 : v.k ≠ 3) : (v.k = 1 ∧ -1000000000000000 ≤ v.n ∧ v.n ≤ 1000000000000000 ∧ cJ v = v.n) ∨ (v = fE ∧ cJ v = 1000000000000001) ∨ (v = eF ∧ cJ v = -1000000000000001) := by
 rcases dL h with ⟨h, h4, h5⟩ | rfl | rfl | rfl | rfl
 ·exact .inl ⟨h, h4, h5, by simp [cJ, h]⟩
 ·exact absurd rfl h2
 ·exact absurd rfl h3
 ·exact .inr (.inl ⟨rfl, rfl⟩)
 ·exact .inr (.inr ⟨rfl, rfl⟩)
theorem EB {a b : Val} (ha : cE a = true) (hb : cE b = true) (h2 : a.k ≠ 2) (h3 : a.k ≠ 3) (g2 : b.k ≠ 2) (g3 : b.k ≠ 3) : fN a b = decide (cJ a < cJ b) := by
 unfold fN
 rcases nN ha h2 h3 with ⟨h, h4, h5, e⟩ | ⟨rfl, e⟩ | ⟨rfl, e⟩ <;> rcases nN hb g2 g3 with ⟨h', h6, h7, e'⟩ | ⟨rfl, e'⟩ | ⟨rfl, e'⟩ <;> simp only [e, e']
 ·rw [if_pos ⟨h, h'⟩]
 ·rw [h]; simp; omega
 ·rw [h]; simp; omega
 ·rw [h']; simp; omega
 ·simp
 ·simp
 ·rw [h']; simp; omega
 ·simp
 ·simp
theorem UC {a b : Val} (ha : cE a = true) (hb : cE b = true) (h2 : a.k ≠ 2) (h3 : a.k ≠ 3) (g2 : b.k ≠ 2) (g3 : b.k ≠ 3) : a = b ↔ cJ a = cJ b := by
 constructor
 ·rintro rfl; rfl
 ·intro he
  rcases nN ha h2 h3 with ⟨h, h4, h5, e⟩ | ⟨rfl, e⟩ | ⟨rfl, e⟩ <;> rcases nN hb g2 g3 with ⟨h', h6, h7, e'⟩ | ⟨rfl, e'⟩ | ⟨rfl, e'⟩ <;> simp only [e, e'] at he
  ·obtain ⟨k, n⟩ := a; obtain ⟨k', n'⟩ := b; simp_all
  all_goals first | rfl | omega
theorem UD {op : Bytes} {a b : Val} (ha : cE a = true) (hb : cE b = true) : cT op a b = (HB op a b).map fun v => if a.k = 2 ∨ b.k = 2 then eI else v := by
 have hk : ∀ {v : Val}, cE v = true → v.k ≠ 2 → v ≠ eI := fun _ h e => h (by rw [e])
 have hk3 : ∀ {v : Val}, v.k ≠ 3 → v ≠ fG := fun h e => h (by rw [e])
 by_cases hn : a.k = 2 ∨ b.k = 2
 ·simp only [HB, fM, bL, cT, hn, if_true, Option.map_map]
  by_cases h1 : op = iH; · subst h1; rfl
  by_cases h2 : op = a8; · subst h2; rfl
  by_cases h3 : op = iI; · subst h3; rfl
  by_cases h4 : op = jL; · subst h4; rfl
  by_cases h5 : op = yI; · subst h5; rfl
  by_cases h6 : op = yJ; · subst h6; rfl
  by_cases h7 : op = yE; · subst h7; rfl
  by_cases h8 : op = yK; · subst h8; rfl
  by_cases h9 : op = yF; · subst h9; rfl
  by_cases h10 : op = yL; · subst h10; rfl
  by_cases h11 : op = gY; · subst h11; rfl
  by_cases h12 : op = mU; · subst h12; rfl
  rw [if_neg (by simp only [h1, h2, h3, h4, h5, h6, h7, h8, h9, h10, h11, h12, or_self, not_false_eq_true])]
  simp only [h1, h2, h3, h4, h5, h6, h7, h8, h9, h10, h11, h12, if_false, Option.map_none]
 ·have hid : (fun v : Val => if a.k = 2 ∨ b.k = 2 then eI else v) = id := by funext v; rw [if_neg hn]; rfl
  rw [hid, Option.map_id]
  have na : a.k ≠ 2 := fun h => hn (.inl h)
  have nb : b.k ≠ 2 := fun h => hn (.inr h)
  unfold HB
  by_cases h11 : op = gY
  ·subst h11; simp [cT, hn, fM, bL, nM ha, nM hb]
  by_cases h12 : op = mU
  ·subst h12; simp [cT, hn, fM, bL, nM ha, nM hb]
  by_cases hx : a.k = 3 ∨ b.k = 3
  ·by_cases h1 : op = iH; · subst h1; simp [cT, hn, hx, fM, bL, cL]
   by_cases h2 : op = a8; · subst h2; simp [cT, hn, hx, fM, bL, cL]
   by_cases h3 : op = iI; · subst h3; simp [cT, hn, hx, fM, bL, cL]
   by_cases h4 : op = jL; · subst h4; simp [cT, hn, hx, fM, bL, cL]
   by_cases h5 : op = yI; · subst h5; simp [cT, hn, hx, fM, bL, cZ]
   by_cases h6 : op = yJ; · subst h6; simp [cT, hn, hx, fM, bL, cZ]
   by_cases h7 : op = yE; · subst h7; simp [cT, hn, hx, fM, bL, cZ]
   by_cases h8 : op = yK; · subst h8; simp [cT, hn, hx, fM, bL, cZ]
   by_cases h9 : op = yF; · subst h9; simp [cT, hn, hx, fM, bL, cZ]
   by_cases h10 : op = yL; · subst h10; simp [cT, hn, hx, fM, bL, cZ]
   unfold cT
   rw [if_neg (by simp only [h1, h2, h3, h4, h5, h6, h7, h8, h9, h10, h11, h12, or_self, not_false_eq_true])]
   simp only [fM, bL, h1, h2, h3, h4, h5, h6, h7, h8, h9, h10, h11, h12, if_false, Option.map_none, id]
  ·have xa : a.k ≠ 3 := fun h => hx (.inl h)
   have xb : b.k ≠ 3 := fun h => hx (.inr h)
   have e1 := EB ha hb na xa nb xb
   have e2 := EB hb ha nb xb na xa
   have e3 := UC ha hb na xa nb xb
   by_cases h1 : op = iH; · subst h1; simp [cT, hn, hx, fM, bL, cL, JA]
   by_cases h2 : op = a8; · subst h2; simp [cT, hn, hx, fM, bL, cL, JA, mF hb (hk hb nb) (hk3 xb)]
   by_cases h3 : op = iI; · subst h3; simp [cT, hn, hx, fM, bL, cL, LR ha hb]
   by_cases h4 : op = jL; · subst h4; simp [cT, hn, hx, fM, bL, cL, O9 ha (hk ha na) (hk3 xa)]
   by_cases h5 : op = yI; · subst h5; simp [cT, hn, hx, fM, bL, cZ, e3]
   by_cases h6 : op = yJ; · subst h6; simp [cT, hn, hx, fM, bL, cZ, e3]
   by_cases h7 : op = yE; · subst h7; simp [cT, hn, hx, fM, bL, cZ, e1]
   by_cases h8 : op = yK; · subst h8; simp [cT, hn, hx, fM, bL, cZ, e2]
   by_cases h9 : op = yF; · subst h9; simp [cT, hn, hx, fM, bL, cZ, e2]
   by_cases h10 : op = yL; · subst h10; simp [cT, hn, hx, fM, bL, cZ, e1]
   unfold cT
   rw [if_neg (by simp only [h1, h2, h3, h4, h5, h6, h7, h8, h9, h10, h11, h12, or_self, not_false_eq_true])]
   simp only [fM, bL, h1, h2, h3, h4, h5, h6, h7, h8, h9, h10, h11, h12, if_false, Option.map_none, id]
theorem EC (v : Val) : cC v = 1 ∨ cC v = -1 ∨ cC v = 0 := by unfold cC; split <;> (try split) <;> omega
theorem PC (a b : Val) : -1 ≤ cC a * cC b ∧ cC a * cC b ≤ 1 := by
 rcases EC a with h | h | h <;> rcases EC b with h' | h' | h' <;> rw [h, h'] <;> decide
theorem EE {n : Int} (h : -1000000000000000 ≤ n ∧ n ≤ 1000000000000000) : 0 ≤ dB n ∧ dB n ≤ 1000000000000000 := by unfold dB; split <;> omega
theorem HD {s : Int} (hs : -1 ≤ s ∧ s ≤ 1) {n : Int} (hn : 0 ≤ n ∧ n ≤ 4000000000000000) : -4000000000000000 ≤ s * n ∧ s * n ≤ 4000000000000000 := by
 have : s = -1 ∨ s = 0 ∨ s = 1 := by omega
 rcases this with h | h | h <;> subst h <;> omega
theorem EF {x y : Int} (hx : 0 ≤ x ∧ x ≤ 1000000000000000) (hy : 0 ≤ y ∧ y ≤ 1000000000000000) (h : ¬ (0 < x.tdiv 1000 ∧ (1000000000000000 : Int).tdiv (x.tdiv 1000) < y)) :
 (0 ≤ x.tdiv 1000 * y ∧ x.tdiv 1000 * y ≤ 1000000000000000) ∧ (0 ≤ x.tmod 1000 * y ∧ x.tmod 1000 * y ≤ 999000000000000000 ∧ 0 ≤ (x.tmod 1000 * y).tdiv 1000 ∧ (x.tmod 1000 * y).tdiv 1000 ≤ 999000000000000) ∧ (0 ≤ x.tdiv 1000 * y + (x.tmod 1000 * y).tdiv 1000 ∧ x.tdiv 1000 * y + (x.tmod 1000 * y).tdiv 1000 ≤ 4000000000000000) := by
 obtain ⟨X, rfl⟩ := Int.eq_ofNat_of_zero_le hx.1
 obtain ⟨Y, rfl⟩ := Int.eq_ofNat_of_zero_le hy.1
 have e1 : ((X : Int)).tdiv 1000 = ((X / 1000 : Nat) : Int) := by rw [show (1000 : Int) = ((1000 : Nat) : Int) from rfl, ← Int.ofNat_tdiv]
 have e2 : ((X : Int)).tmod 1000 = ((X % 1000 : Nat) : Int) := by rw [show (1000 : Int) = ((1000 : Nat) : Int) from rfl, ← Int.ofNat_tmod]
 have m : X % 1000 * Y ≤ 999 * 1000000000000000 := Nat.mul_le_mul (by omega) (by omega)
 have p : X / 1000 * Y ≤ 1000000000000000 := by
  rcases Nat.eq_zero_or_pos (X / 1000) with h0 | h0
  ·rw [h0]; omega
  ·have h2 : ¬ (1000000000000000 : Int).tdiv ((X : Int).tdiv 1000) < (Y : Int) := fun q => h ⟨by rw [e1]; omega, q⟩
   rw [e1, show (1000000000000000 : Int) = ((1000000000000000 : Nat) : Int) from rfl, ← Int.ofNat_tdiv] at h2
   have h3 : Y ≤ 1000000000000000 / (X / 1000) := by omega
   calc X / 1000 * Y ≤ X / 1000 * (1000000000000000 / (X / 1000)) := Nat.mul_le_mul_left _ h3
    _ ≤ 1000000000000000 := Nat.mul_div_le _ _
 rw [e1, e2, ← Int.natCast_mul, ← Int.natCast_mul, show (1000 : Int) = ((1000 : Nat) : Int) from rfl, ← Int.ofNat_tdiv]
 omega
theorem PD (n : Int) : (n.tmod 1000 + 1000).tmod 1000 = if n.tmod 1000 < 0 then n.tmod 1000 + 1000 else n.tmod 1000 := by
 have h1 : n.tmod 1000 < 1000 := Int.tmod_lt_of_pos _ (by decide)
 have h2 : -1000 < n.tmod 1000 := Int.lt_tmod_of_pos _ (by decide)
 split
 ·rw [Int.tmod_eq_of_lt (by omega) (by omega)]
 ·rw [Int.tmod_eq_emod_of_nonneg (by omega)]; omega
theorem UE {op : Bytes} {a : Val} (ha : cE a = true) : bW op a = LQ op a := by
 unfold LQ
 by_cases h1 : op = vV; · subst h1; simp [bW, sJ, bL]
 by_cases h2 : op = G8; · subst h2; simp [bW, sJ, bL]
 by_cases h3 : op = G9; · subst h3; simp [bW, sJ, bL]
 by_cases h4 : op = HA; · subst h4; simp [bW, sJ, bL]
 by_cases h5 : op = bZ; · subst h5; simp [bW, sJ, bL, HC, nM ha]
 by_cases h6 : op = a8
 ·subst h6
  show _ = some (j9 _ a)
  simp only [bW, j9]
  by_cases n2 : a.k = 2; · simp [n2]
  by_cases n3 : a.k = 3; · simp [n3]
  simp [n2, n3, mF ha (fun e => n2 (by rw [e])) (fun e => n3 (by rw [e])), A6]
 by_cases h7 : op = mW
 ·subst h7
  show _ = some (j9 (fun n => max n (-n)) a)
  simp only [bW, j9]
  by_cases n2 : a.k = 2; · simp [n2]
  by_cases n3 : a.k = 3; · simp [n3]
  simp [n2, n3, mF ha (fun e => n2 (by rw [e])) (fun e => n3 (by rw [e])), qM ha]
  rcases nN ha n2 n3 with ⟨h, h4, h5, e⟩ | ⟨rfl, e⟩ | ⟨rfl, e⟩
  ·simp only [cK, e, A6]
   by_cases hl : a.n < 0
   ·rw [if_pos (by unfold rZ; rw [if_neg (by omega), if_pos hl]; decide)]; congr 1; omega
   ·rw [if_neg (by unfold rZ; split <;> (try split) <;> omega), show max a.n (-a.n) = a.n by omega, A7 h4 h5]
    obtain ⟨k, n⟩ := a; simp_all
  ·decide
  ·decide
 by_cases h8 : op = fH
 ·subst h8
  show _ = some (nK a)
  simp only [bW, nK]
  by_cases n1 : a.k = 1
  ·simp [n1, PD]
  ·simp [n1]
 simp [bW, sJ, bL, h1, h2, h3, h4, h5, h6, h7, h8]
theorem A8 (op : Bytes) (l : List Val) : GN op l = mA op l := by
 unfold GN mA
 by_cases hl : l.all cE = true
 ·rw [if_pos hl, if_pos hl]
  match l, hl with
  | [], _ => rfl
  | [a], hl =>
    have ha : cE a = true := by simpa using hl
    dsimp only
    rw [UE ha]
    first | done | (cases LQ op a <;> rfl)
  | [a, b], hl =>
    have hab : cE a = true ∧ cE b = true := by simpa using hl
    dsimp only
    rw [UD hab.1 hab.2]
    cases HB op a b with
    | none => rfl
    | some v =>
      simp only [Option.map_some]
      split <;> rfl
  | _ :: _ :: _ :: _, _ => rfl
 ·rw [if_neg hl, if_neg hl]
abbrev nI (n : Int) : SV := .v (.int .i64 n)
abbrev bS (b : Bool) : SV := .v (.bool b)
abbrev vS (v : Val) : SV := .a [.v (.int .i64 v.k), .v (.int .i64 v.n)]
theorem PE (n : Int) : min (max n (-1)) 1 = rZ n := by unfold rZ; split <;> (try split) <;> omega
theorem XW {n : Int} (h : ¬ n = 0) : aK (min (max n (-1)) 1 * 1000000000000001) = mV n := by
 rw [PE]
 unfold mV rZ
 rw [if_neg h]
 by_cases h1 : 0 < n
 ·rw [if_pos h1, if_pos h1]; rfl
 ·rw [if_neg h1, if_pos (by omega), if_neg h1]; rfl
def jS {α : Type} (p : α → Bool) : List α → Int
 | [] => -1
 | x :: r => if p x then 0 else if jS p r < 0 then -1 else jS p r + 1
theorem uO {α : Type} (p : α → Bool) : ∀ l : List α, -1 ≤ jS p l
 | [] => by simp [jS]
 | x :: r => by have := uO p r; unfold jS; split <;> (try split) <;> omega
theorem iJ {α : Type} {p : α → Bool} : ∀ {l : List α}, (∀ x ∈ l, p x = false) → jS p l = -1
 | [], _ => rfl
 | x :: r, h => by
   unfold jS
   rw [iJ (fun y hy => h y (.tail _ hy)), if_neg (by simp [h x (.head _)])]
   rfl
theorem iK {α : Type} {p : α → Bool} : ∀ {l : List α} {j : Nat} (hj : j < l.length), (∀ x ∈ l.take j, p x = false) → p l[j] = true → jS p l = j
 | [], j, hj, _, _ => by simp at hj
 | x :: r, 0, hj, _, h => by unfold jS; simp at h; simp [h]
 | x :: r, j + 1, hj, h0, h => by
   have hj' : j < r.length := by simpa using hj
   have e := iK (l := r) hj' (fun y hy => h0 y (by simp [hy])) (by simpa using h)
   unfold jS
   rw [if_neg (by simp [h0 x (by simp)]), e]
   rw [if_neg (by omega)]; simp
theorem kA {α : Type} (p : α → Bool) : ∀ l : List α, decide (0 ≤ jS p l) = l.any p
 | [] => rfl
 | x :: r => by
   have h := kA p r
   have h2 := uO p r
   unfold jS
   rw [List.any_cons, ← h]
   by_cases hp : p x = true
   ·rw [if_pos hp, hp]; rfl
   ·rw [if_neg hp, Bool.eq_false_iff.2 hp]
    by_cases h0 : jS p r < 0
    ·rw [if_pos h0]; simp; omega
    ·rw [if_neg h0]; simp; omega
theorem bH {α : Type} {P : α → Prop} {l : List α} {j : Nat} (hj : j < l.length) (h : ∀ x ∈ l.take j, P x) (h2 : P l[j]) : ∀ x ∈ l.take (j + 1), P x := by
 intro x hx
 rw [List.take_succ_eq_append_getElem hj] at hx
 rcases List.mem_append.1 hx with h1 | h1
 ·exact h x h1
 ·simp at h1; exact h1 ▸ h2
theorem aO {α : Type} (f : α → List SV) {l : List α} {j : Nat} (hj : j < l.length) : (l.map f)[((j : Nat) : Int).toNat]? = some (f l[j]) := by
 simp [hj]
abbrev rI (l : List Int) : SV := .s 1 (l.map fun n => [nI n])
abbrev rV (l : List Val) : SV := .s 2 (l.map fun v => [nI v.k, nI v.n])
theorem kU {v : Val} (h : cE v = true) : -1000000000000000 ≤ v.n ∧ v.n ≤ 1000000000000000 := by
 rcases dL h with ⟨_, h1, h2⟩ | rfl | rfl | rfl | rfl
 ·exact ⟨h1, h2⟩
 all_goals decide
theorem uP {v : Val} (h : cE v = true) : -1000000000000001 ≤ cJ v ∧ cJ v ≤ 1000000000000001 := by
 have := kU h
 unfold cJ
 split <;> (try split) <;> omega
theorem tmod_lt (n : Int) : -1000 < n.tmod 1000 ∧ n.tmod 1000 < 1000 := ⟨Int.lt_tmod_of_pos _ (by decide), Int.tmod_lt_of_pos _ (by decide)⟩
theorem vX {a b : Int} (h1 : -9000000000000000000 ≤ a) (h2 : a ≤ 9000000000000000000) : IntKind.wrap .i64 (a.tdiv b) = a.tdiv b := by
 have := Int.natAbs_tdiv_le_natAbs a b
 exact wrap_i64 (by omega) (by omega)
theorem yX (n : Int) : rZ n = 1 ∨ rZ n = -1 ∨ rZ n = 0 := by unfold rZ; split <;> (try split) <;> omega
theorem UF (a b : Val) : -1 ≤ cK a * cK b ∧ cK a * cK b ≤ 1 := by
 unfold cK
 rcases yX (cJ a) with h | h | h <;> rcases yX (cJ b) with h' | h' | h' <;> rw [h, h'] <;> decide
theorem LU {s : Int} (hs : -1 ≤ s ∧ s ≤ 1) {n : Nat} (hn : n ≤ 1000000000000000) : -1000000000000000 ≤ s * (n : Int) ∧ s * (n : Int) ≤ 1000000000000000 := by
 have : s = -1 ∨ s = 0 ∨ s = 1 := by omega
 rcases this with h | h | h <;> subst h <;> omega
theorem JB {v : Val} (h : v.k = 1) {A : Nat} (hA : gX v.n = A) : v.n * cK v = A := by
 have : cK v = rZ v.n := by simp [cK, cJ, h]
 rw [this, ← hA]
 unfold rZ gX
 split
 ·omega
 ·split <;> omega
theorem LV {a b : Val} (ha : a.k = 1) (hb : b.k = 1) {A B : Nat} (hA : gX a.n = A) (hB : gX b.n = B) : uA a b = if 1000000000000000 < ((A * B / 1000 : Nat) : Int) then mV (cK a * cK b) else aK (cK a * cK b * ((A * B / 1000 : Nat) : Int)) := by
 unfold uA
 rw [if_neg (by simp [ha, hb]), hA, hB, show (A : Int) * (B : Int) / 1000 = ((A * B / 1000 : Nat) : Int) by rw [← Int.natCast_mul]; rfl]
theorem PG {x y : Int} (hx : 0 ≤ x ∧ x ≤ 1000000000000000) (_ : 0 ≤ y ∧ y ≤ 1000000000000000) : IntKind.wrap .i64 (x.tdiv 1000) = x.tdiv 1000 ∧ True := ⟨vX (by omega) (by omega), trivial⟩
def pJ (r : Nat) : Bytes := if r = 0 then [] else 46 :: Lib.trimRightB ((Lib.decDigits (1000 + r)).drop 1) 48
def dP (n : Nat) : Bytes := Lib.decDigits (n / 1000) ++ pJ (n % 1000)
def aG (v : Val) : Bytes :=
 if cE v = false then [] else if v.k = 2 then [110, 117, 108, 108] else if v.k = 3 then [78, 97, 78] else if v.k = 4 then [43, 73, 110, 102] else if v.k = 5 then [45, 73, 110, 102] else
 if v.n < 0 then 45 :: dP v.n.natAbs else dP v.n.natAbs
theorem A9 {n : Nat} (h : n < 10) : Lib.decDigits n = (([48, 49, 50, 51, 52, 53, 54, 55, 56, 57] : Bytes).drop n).take 1 := by
 rw [Lib.decDigits_one h]
 have : n = 0 ∨ n = 1 ∨ n = 2 ∨ n = 3 ∨ n = 4 ∨ n = 5 ∨ n = 6 ∨ n = 7 ∨ n = 8 ∨ n = 9 := by omega
 rcases this with rfl | rfl | rfl | rfl | rfl | rfl | rfl | rfl | rfl | rfl <;> rfl
theorem EG {n : Nat} (h : ¬ n < 10) : Lib.decDigits n = Lib.decDigits (n / 10) ++ (([48, 49, 50, 51, 52, 53, 54, 55, 56, 57] : Bytes).drop (n % 10)).take 1 := by
 rw [← A9 (show n % 10 < 10 by omega), Lib.decDigits_one (show n % 10 < 10 by omega)]
 conv => lhs; rw [Lib.decDigits]
 rw [dif_neg h]
theorem qN {n : Nat} (h : n < 10000000000000000) : (Lib.decDigits n).length ≤ 20 := by
 have key : ∀ (k n : Nat), n < 10 ^ (k + 1) → (Lib.decDigits n).length ≤ k + 1 := by
  intro k
  induction k with
  | zero => intro n hn; rw [Lib.decDigits_one (by simpa using hn)]; simp
  | succ k ih =>
    intro n hn
    by_cases h10 : n < 10
    ·rw [Lib.decDigits_one h10]; simp
    ·rw [EG h10, List.length_append]
     have := ih (n / 10) (by rw [Nat.pow_succ] at hn; omega)
     have h2 : ((([48, 49, 50, 51, 52, 53, 54, 55, 56, 57] : Bytes).drop (n % 10)).take 1).length ≤ 1 := by rw [List.length_take]; omega
     omega
 exact Nat.le_trans (key 15 n (by omega)) (by omega)
theorem HE {r : Nat} (h : r < 1000) : (Lib.decDigits (1000 + r)).drop 1 = [UInt8.ofNat (48 + r / 100), UInt8.ofNat (48 + r / 10 % 10), UInt8.ofNat (48 + r % 10)] := by
 rw [Lib.decDigits, dif_neg (by omega), Lib.decDigits, dif_neg (by omega), Lib.decDigits_two (by omega) (by omega)]
 simp only [List.cons_append, List.nil_append, List.drop_succ_cons, List.drop_zero]
 rw [show (1000 + r) / 10 / 10 % 10 = r / 100 by omega, show (1000 + r) / 10 % 10 = r / 10 % 10 by omega, show (1000 + r) % 10 = r % 10 by omega]
theorem yY {p : UInt8 → Bool} : ∀ {l : Bytes}, l.dropWhile p = [] → ∀ x ∈ l, p x = true
 | [], _, x, hx => by cases hx
 | y :: r, h, x, hx => by
   unfold List.dropWhile at h
   split at h
   ·cases hx with
    | head => assumption
    | tail _ hm => exact yY h x hm
   ·cases h
theorem HF {d : Nat} (h : d < 10) (h2 : UInt8.ofNat (48 + d) = 48) : d = 0 := by
 have := congrArg UInt8.toNat h2
 simp at this
 omega
theorem BA {r : Nat} (h0 : r ≠ 0) (h : r < 1000) : Lib.trimRightB ((Lib.decDigits (1000 + r)).drop 1) 48 ≠ [] := by
 rw [HE h, Lib.trimRightB]
 intro hn
 have hn := List.reverse_eq_nil_iff.1 hn
 have hn := yY hn
 have a1 := HF (d := r / 100) (by omega) (by simpa using hn (UInt8.ofNat (48 + r / 100)) (by simp))
 have a2 := HF (d := r / 10 % 10) (by omega) (by simpa using hn (UInt8.ofNat (48 + r / 10 % 10)) (by simp))
 have a3 := HF (d := r % 10) (by omega) (by simpa using hn (UInt8.ofNat (48 + r % 10)) (by simp))
 omega
theorem pS {l : Bytes} (h : 0 < l.length) : l = l.take (l.length - 1) ++ [l.getD (l.length - 1) 0] := by
 have e := List.take_append_drop (l.length - 1) l
 rw [List.drop_eq_getElem_cons (by omega), List.drop_of_length_le (by omega)] at e
 rw [List.getD_eq_getElem?_getD, List.getElem?_eq_getElem (by omega)]
 exact e.symm
theorem yZ {l : Bytes} (h : 0 < l.length) (h2 : l.getD (l.length - 1) 0 = 48) : Lib.trimRightB l 48 = Lib.trimRightB (l.take (l.length - 1)) 48 := by
 conv => lhs; rw [pS h, h2]
 unfold Lib.trimRightB
 rw [List.reverse_append, List.reverse_singleton, List.singleton_append, List.dropWhile_cons_of_pos (by rfl)]
theorem y3 {l : Bytes} (h : 0 < l.length) (h2 : l.getD (l.length - 1) 0 ≠ 48) : Lib.trimRightB l 48 = l := by
 conv => lhs; rw [pS h]
 unfold Lib.trimRightB
 rw [List.reverse_append, List.reverse_singleton, List.singleton_append, List.dropWhile_cons_of_neg (by simpa using h2)]
 conv => rhs; rw [pS h]
 simp
theorem EH {l : Bytes} (h : Lib.trimRightB l 48 ≠ []) : 0 < l.length := by
 cases l with
 | nil => exact absurd rfl h
 | cons _ _ => simp
theorem y4 {n : Int} (h0 : 0 ≤ n) (h1 : n ≤ 1000000000000000) : aG ⟨1, n⟩ = dP n.natAbs := by
 unfold aG
 rw [if_neg (by unfold cE; simp; omega), if_neg (by simp), if_neg (by simp), if_neg (by simp), if_neg (by simp), if_neg (by simp; omega)]
theorem vY (l : Bytes) : (Lib.trimRightB l 48).length ≤ l.length := by
 unfold Lib.trimRightB
 rw [List.length_reverse]
 have := (List.dropWhile_sublist (fun x : UInt8 => x == 48) (l := l.reverse)).length_le
 simpa using this
theorem UG {n : Nat} (h : n ≤ 1000000000000000) : (dP n).length ≤ 24 := by
 have h1 := qN (n := n / 1000) (by omega)
 unfold dP pJ
 rw [List.length_append]
 split
 ·simp; omega
 ·have h2 := vY ((Lib.decDigits (1000 + n % 1000)).drop 1)
  have h3 : ((Lib.decDigits (1000 + n % 1000)).drop 1).length = 3 := by rw [HE (by omega)]; rfl
  simp only [List.length_cons]
  omega
theorem LW (v : Val) : (aG v).length ≤ 30 := by
 unfold aG
 split
 ·simp
 ·rename_i hv
  have hv : cE v = true := by simpa using hv
  have hn : v.n.natAbs ≤ 1000000000000000 := by
   rcases dL hv with ⟨_, h1, h2⟩ | rfl | rfl | rfl | rfl <;> first | omega | decide
  have := UG hn
  repeat' split
  all_goals simp <;> omega
inductive Ex where
 | mk (k : Int) (name : Bytes) (v : Val) (kids : List Ex)
namespace Ex
def kind : Ex → Int | .mk k _ _ _ => k
def name : Ex → Bytes | .mk _ n _ _ => n
def val : Ex → Val | .mk _ _ v _ => v
def kids : Ex → List Ex | .mk _ _ _ l => l
end Ex
abbrev mY : Ex := .mk 0 [] zeroV []
abbrev mG (v : Val) : Ex := .mk 1 [] v []
abbrev sK (n : Bytes) : Ex := .mk 2 n zeroV []
abbrev eU (n : Bytes) (l : List Ex) : Ex := .mk 3 n zeroV l
abbrev b8 : Bytes := [48, 49, 50, 51, 52, 53, 54, 55, 56, 57]
abbrev pT : Bytes := [65, 66, 67, 68, 69, 70, 71, 72, 73, 74, 75, 76, 77, 78, 79, 80, 81, 82, 83, 84, 85, 86, 87, 88, 89, 90]
abbrev pD : Bytes := [97, 98, 99, 100, 101, 102, 103, 104, 105, 106, 107, 108, 109, 110, 111, 112, 113, 114, 115, 116, 117, 118, 119, 120, 121, 122, 95, 65, 66, 67, 68, 69, 70, 71, 72, 73, 74, 75, 76, 77, 78, 79, 80, 81, 82, 83, 84, 85, 86, 87, 88, 89, 90]
abbrev kB : Bytes := [97, 98, 99, 100, 101, 102, 103, 104, 105, 106, 107, 108, 109, 110, 111, 112, 113, 114, 115, 116, 117, 118, 119, 120, 121, 122, 95, 65, 66, 67, 68, 69, 70, 71, 72, 73, 74, 75, 76, 77, 78, 79, 80, 81, 82, 83, 84, 85, 86, 87, 88, 89, 90, 48, 49, 50, 51, 52, 53, 54, 55, 56, 57]
def a7 (g : Bytes) : Bytes → Nat
 | [] => 0
 | c :: r => if c ∈ g then a7 g r + 1 else 0
abbrev iZ : Bytes := [40]
abbrev GO : Bytes := [41]
def bJ : List Bytes := [mU, gY, yI, yJ, yK, yL, yE, yF, iH, a8, iI, jL, bZ, iZ, GO]
def bY : List (List Bytes) := [[mU], [gY], [yI, yJ, yK, yL, yE, yF], [iH, a8], [iI, jL]]
structure Ps where
 i : Nat
 err : Int
 at_ : Int
 dead : Bool
 deriving DecidableEq
namespace Ps
def fails (p : Ps) (e a : Int) : Ps := if p.dead then p else ⟨p.i, e, a, true⟩
def restP (s : Bytes) (p : Ps) : Ps := if p.dead then p else { p with i := p.i + a7 [32] (s.drop p.i) }
def restT (s : Bytes) (p : Ps) : Bytes := if p.dead then [] else s.drop (p.restP s).i
end Ps
def dY (r : Bytes) : Option Bytes := bJ.find? fun x => Lib.hasPrefix r x
def takeT (s : Bytes) (l : List Bytes) (p : Ps) : Option Bytes := match dY (p.restT s) with
 | some x => if x ∈ l then some x else none
 | none => none
def takeP (s : Bytes) (l : List Bytes) (p : Ps) : Ps := match takeT s l p with
 | some x => { p.restP s with i := (p.restP s).i + x.length }
 | none => p.restP s
def dC (s : Bytes) (x : Bytes) (p : Ps) : Ps := match takeT s [x] p with
 | some _ => takeP s [x] p
 | none => (takeP s [x] p).fails 110 (takeP s [x] p).i
def bU (s : Bytes) (deep : Nat) (p : Ps) : Ps := if 32 < deep then (p.restP s).fails 111 (p.restP s).i else p.restP s
def bD {σ : Type} (tk : List Bytes → σ → Option Bytes × σ) (sub : σ → Ex × σ) (ops : List Bytes) (alone : Bool) : Nat → Ex → σ → Ex × σ
 | 0, x, p => (x, p)
 | n + 1, x, p => match (tk ops p).1 with
   | none => (x, (tk ops p).2)
   | some o => match alone with
     | true => (eU o [x, (sub (tk ops p).2).1], (sub (tk ops p).2).2)
     | false => bD tk sub ops alone n (eU o [x, (sub (tk ops p).2).1]) (sub (tk ops p).2).2
def PH {σ : Type} (tk : List Bytes → σ → Option Bytes × σ) (fuel : Nat) (u : σ → Ex × σ) : Nat → σ → Ex × σ
 | 0, p => u p
 | n + 1, p => bD tk (PH tk fuel u n) (bY.getD (4 - n) []) (n == 2) fuel (PH tk fuel u n p).1 (PH tk fuel u n p).2
abbrev EI (s : Bytes) (l : List Bytes) (p : Ps) : Option Bytes × Ps := (takeT s l p, takeP s l p)
abbrev BB (s : Bytes) (u : Ps → Ex × Ps) : Nat → Ps → Ex × Ps := PH (EI s) (s.length + 1) u
def i6 (s : Bytes) (u : Ps → Ex × Ps) (deep : Nat) (p : Ps) : Ex × Ps := BB s u 5 (bU s deep p)
def cY (w : Bytes) : Bool := decide (w ∈ [mW, fH, vV, G8, G9, HA])
def lN (w : Bytes) : Bool := match w with
 | [] => false
 | c :: _ => decide (w.length ≤ 16) && decide (c ∈ pT) && decide (a7 kB w = w.length)
def bE (r : Bytes) : Nat := if a7 b8 r + 1 < r.length ∧ r.getD (a7 b8 r) 0 = 46 ∧ 0 < a7 b8 (r.drop (a7 b8 r + 1)) then a7 b8 r + 1 + a7 b8 (r.drop (a7 b8 r + 1)) else a7 b8 r
section
variable (pv : Bytes → Val × Int) (s : Bytes)
def cG (r : Bytes) (p : Ps) : Ex × Ps :=
 (mG (pv (r.take (bE r))).1, { (if (pv (r.take (bE r))).2 = 0 then p else p.fails 110 p.i) with i := p.i + bE r })
abbrev W4 : Bytes := [110, 117, 108, 108]
abbrev UH : Bytes := [110, 97, 110]
abbrev UI : Bytes := [105, 110, 102]
def sM (ex : Ps → Ex × Ps) (p : Ps) : Ex × Ps := ((ex p).1, dC s GO (ex p).2)
def gJ (ex : Ps → Ex × Ps) (r : Bytes) (p : Ps) : Ex × Ps :=
 let w := r.take (a7 kB r)
 let p1 : Ps := { p with i := p.i + w.length }
 if w = W4 then (mG eI, p1) else if w = UH then (mG fG, p1) else if w = UI then (mG fE, p1) else
 (eU w [(sM s ex (dC s iZ (if cY w then p1 else p1.fails 110 p.i))).1], (sM s ex (dC s iZ (if cY w then p1 else p1.fails 110 p.i))).2)
def LX (r : Bytes) (p : Ps) : Ex × Ps :=
 let w := (r.drop 1).take (a7 kB (r.drop 1))
 (sK w, { (if lN w then p else p.fails 110 p.i) with i := p.i + (1 + w.length) })
def dW (ex : Ps → Ex × Ps) (p0 : Ps) : Ex × Ps :=
 let p := p0.restP s
 match p0.dead, p0.restT s with
 | true, _ => (mY, p)
 | false, [] => (mY, p.fails 110 p.i)
 | false, c :: r => if c = 40 then sM s ex { p with i := p.i + 1 } else if c = 36 then LX (c :: r) p else if c ∈ b8 then cG pv (c :: r) p else if c ∈ pD then gJ s ex (c :: r) p else (mY, p.fails 110 p.i)
def mZ : Nat → Ps → Ex × Ps
 | 0, p => dW pv s (fun q => (mY, q)) (takeP s [a8, bZ] (bU s 33 p))
 | d + 1, p => match takeT s [a8, bZ] (bU s (32 - d) p) with
   | some o => (eU o [(mZ d (takeP s [a8, bZ] (bU s (32 - d) p))).1], (mZ d (takeP s [a8, bZ] (bU s (32 - d) p))).2)
   | none => dW pv s (i6 s (mZ d) (33 - d)) (takeP s [a8, bZ] (bU s (32 - d) p))
def bK : Ex × Int × Int :=
 if 1024 < s.length then (mY, 1, 0) else
 let r := i6 s (mZ pv s 33) 0 ⟨0, 0, 0, false⟩
 let q := r.2.restP s
 let q2 := if r.2.restT s = [] then q else q.fails 110 q.i
 if q2.dead then (mY, q2.err, q2.at_) else (r.1, 0, 0)
end
end Go.KX
