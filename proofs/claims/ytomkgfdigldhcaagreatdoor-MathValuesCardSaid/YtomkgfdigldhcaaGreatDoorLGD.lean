/- XM XN XO XP PV PW YA YB PZ PP. -/
import Derived.Test.YtomkgfdigldhcaaGreatDoorLGC
import Derived.Lib.LaidTab
import Derived.Below
import Derived.Sort.Grow
import Derived.Lib.ItoaNum
import Derived.Lib.TrimByte
namespace Go.KX
section
variable {X : Kx} {k : List It} {L : SL} {M : SM} {fs : List MF} {own : List Res} {arr : Array Oper} {l : List Oper} {o : Oper}
theorem bareS_agree {L L' : SL} {x : Operand} (h : ∀ t, tmpOf x = some t → lkS L' t = lkS L t) : bareS (lkS L') x = bareS (lkS L) x := by
  cases x with
  | tmp t => simp only [bareS, evS, h t rfl]
  | const v => cases v <;> rfl
  | _ => rfl
/-- A store, whatever else is known. -/
theorem Stp_store {tb : TT} (hT : tb.Ok X.P) {M' φ L2} (hg : o.guard = none) {T x y} (hop : o.op = .store T x y) (hx : xeff tb L M o.dst o.op = some (L2, M', φ)) (hφ : ∀ p ∈ φ, p) (sv : SV) : Stp X arr o L M fs own sv M' := by
  intro L' hL g a hE
  have hd : o.dst = none := by
    cases hd : o.dst with
    | none => rfl
    | some d => simp only [hop, hd, xeff] at hx; cases hx
  have hsl : ∀ t, (tmpOf x = some t ∨ tmpOf y = some t) → lkS L' t = lkS L t := by
    intro t ht
    refine hL t ?_
    have : t ∈ o.op.operands.toList.filterMap tmpOf := by
      rw [hop]
      simp only [Op.operands]
      show t ∈ List.filterMap tmpOf [x, y]
      rw [List.mem_filterMap]
      rcases ht with ht | ht
      · exact ⟨x, .head _, ht⟩
      · exact ⟨y, .tail _ (.head _), ht⟩
    exact List.mem_append_left _ this
  have hx' : xeff tb L' M o.dst o.op = some (L', M', φ) := by
    simp only [hop, hd, xeff, bareS_agree (fun t h => hsl t (.inl h)), bareS_agree (fun t h => hsl t (.inr h))] at hx ⊢
    split at hx
    · split at hx
      · split at hx
        · obtain ⟨h1, h2⟩ := putK_ok hx
          have upd : ∀ {M : SM} {i : Nat} {mb : MB} {K : SM → Option (SL × SM × List Prop)} {r}, updK M i mb K = some r → ∃ M1, ∀ {K' : SM → Option (SL × SM × List Prop)}, updK M i mb K' = K' M1 := by
            intro M i mb
            induction M with
            | nil => intro K r h; cases h
            | cons p M ih =>
              intro K r h
              obtain ⟨j, m⟩ := p
              simp only [updK] at h ⊢
              cases hb : Nat.beq i j with
              | true => exact ⟨_, fun {K'} => rfl⟩
              | false =>
                rw [hb] at h
                obtain ⟨M1, h1⟩ := ih h
                exact ⟨(j, m) :: M1, fun {K'} => h1⟩
          have put : ∀ {cs : List SV} {off : Nat} {ns : List SV} {K : List SV → Option (SL × SM × List Prop)} {r}, putK cs off ns K = some r → ∀ {K' : List SV → Option (SL × SM × List Prop)}, putK cs off ns K' = K' (cs.take off ++ ns ++ cs.drop (off + ns.length)) := by
            intro cs
            induction cs with
            | nil =>
              intro off ns K r h K'
              cases off with
              | zero => cases ns with
                | nil => rfl
                | cons _ _ => cases h
              | succ _ => cases h
            | cons c cs ih =>
              intro off ns K r h K'
              cases off with
              | zero =>
                cases ns with
                | nil => simp [putK]
                | cons n ns =>
                  have := ih (off := 0) (ns := ns) (K := fun r => K (n :: r)) h (K' := fun r => K' (n :: r))
                  simp only [putK]
                  rw [this]
                  have e : 0 + (n :: ns).length = 0 + ns.length + 1 := by simp
                  rw [e]; simp
              | succ off =>
                have := ih (off := off) (ns := ns) (K := fun r => K (c :: r)) h (K' := fun r => K' (c :: r))
                simp only [putK]
                rw [this]
                have e : off + 1 + ns.length = off + ns.length + 1 := by omega
                rw [e]; simp
          obtain ⟨M1, hM1⟩ := upd h2
          rw [hM1] at h2
          rw [put hx, hM1]
          simp only [Option.some.injEq, Prod.mk.injEq] at h2 ⊢
          exact ⟨trivial, h2.2⟩
        · cases hx
      · cases hx
    · cases hx
  have := ES_eff (l := []) (arr := arr) (k := [.lp fun a' w' => ∃ g', g'.w = w' ∧ ESt X L' M' fs own g' a']) hT hg (fun d h => by rw [hd] at h; cases h) hx' hφ (fun g' a' h => ⟨g', rfl, h⟩) g a hE
  have h2 : opQ X.P arr o (fun a' w' => ∃ g', g'.w = w' ∧ ESt X L' M' fs own g' a') a g.w := this
  rw [hd]
  exact h2
/-- Does it read nothing that a store may change? -/
def freeOp (e : Nat → Option SV) : Op → Bool
  | .load _ x => match evS e x with
    | some (.p _) => true
    | some (.g _ (.p _)) => true
    | _ => false
  | _ => true
theorem xread_free {tb : TT} {e : Nat → Option SV} {M M' : SM} {op : Op} (h : freeOp e op = true) : xread tb e M op = xread tb e M' op := by
  unfold xread
  split
  · rename_i svs hsv
    rw [stK_eq, stK_eq]
    have : xopv tb M op (svs.map st1) = xopv tb M' op (svs.map st1) := by
      cases op with
      | load T x =>
        simp only [freeOp] at h
        have hs : evs e [x] = some svs := hsv
        unfold evs at hs
        split at hs
        · rename_i v hv
          rw [hv] at h
          simp only [evs, Option.some.injEq] at hs
          subst hs
          show xLoad tb M T [st1 v] = xLoad tb M' T [st1 v]
          split at h
          · rename_i cs he; cases he; rfl
          · rename_i b cs he; cases he; rfl
          · cases h
        · cases hs
      | unOp u T x => cases u <;> rfl
      | makeFunc fn a b => cases fn <;> rfl
      | call c =>
        obtain ⟨callee, az, ts⟩ := c
        cases callee with
        | builtin b => cases b <;> rfl
        | _ => rfl
      | _ => rfl
    rw [this]
  · rfl
theorem xrd_free {tb : TT} {e : Nat → Option SV} {M M' : SM} {H : List (List SV)} {op : Op} (h : freeOp e op = true) : xrd tb e M H op = xrd tb e M' H op := by
  unfold xrd
  split <;> first | rfl | exact xread_free h
theorem xst_free {tb : TT} {e : Nat → Option SV} {M M' : SM} {H : List (List SV)} {op : Op} (h : freeOp e op = true) : xst tb e M H op = xst tb e M' H op := by
  unfold xst
  split <;> first | rfl | exact xrd_free h
/-- m operations of the order π; p: how many stores were ahead. -/
def xdrw (tb : TT) (n : Nat) (arr : Array Oper) (un : Nat) (D : List Nat) : Nat → List (List SV) → List Nat → SL → SM → List SM → List Prop → Option (List Nat × SL × SM × List SM × List Prop)
  | 0, _, π, L, M, Ms, acc => some (π, L, M, Ms, acc)
  | _ + 1, _, [], _, _, _, _ => none
  | m + 1, H, i :: r, L, M, Ms, acc => match arr[i]? with
    | none => none
    | some o => match gS arr (lkS L) o with
      | none => none
      | some none => match un.testBit i with
        | false => match freeOp (lkS L) o.op || (Nat.ble (hiU arr.size un D i) Ms.length && Nat.ble Ms.length (loU arr.size un D i)) with
          | true => match xst tb (lkS L) M H o.op with
            | some (sv, φ) => match o.dst with
              | some d => match Nat.blt d n with
                | true => pushK φ acc (fun acc => xdrw tb n arr un D m (match isIx o.op with | true => H.tail | false => H) r ((d, sv) :: L) M Ms acc)
                | false => none
              | none => none
            | none => none
          | false => none
        | true => match o.op with
          | .store _ _ _ => match xeff tb L M o.dst o.op with
            | some (_, M2, φ) => pushK φ acc (fun acc => xdrw tb n arr un D m H r L M2 (M :: Ms) acc)
            | none => none
          | _ => none
      | some (some b) => match un.testBit i with
        | false => match freeOp (lkS L) o.op || (Nat.ble (hiU arr.size un D i) Ms.length && Nat.ble Ms.length (loU arr.size un D i)) with
          | true => match xst tb (lkS L) M H o.op with
            | some (sv, φ) => match o.dst with
              | some d => match Nat.blt d n with
                | true => pushK (φ.map fun p => b = true → p) acc (fun acc => xdrw tb n arr un D m (match isIx o.op with | true => H.tail | false => H) r ((d, .g b sv) :: L) M Ms acc)
                | false => none
              | none => none
            | none => none
          | false => none
        | true => none
theorem stb {un i : Nat} {D : List Nat} {Ms : List SM} {sv : SV} (h : (freeOp (lkS L) o.op || (Nat.ble (hiU arr.size un D i) Ms.length && Nat.ble Ms.length (loU arr.size un D i))) = true)
    (hs : Stp X arr o L M fs own sv M) (hf : freeOp (lkS L) o.op = true → ∀ M', Stp X arr o L M' fs own sv M') :
    ((hiU arr.size un D i ≤ Ms.length ∧ Stp X arr o L M fs own sv M ∧ ∀ q M', Ms[q]? = some M' → loU arr.size un D i ≤ Ms.length - 1 - q → Stp X arr o L M' fs own sv M') ∨ ∀ M', Stp X arr o L M' fs own sv M') := by
  cases hfr : freeOp (lkS L) o.op with
  | true => exact .inr (hf hfr)
  | false =>
    rw [hfr] at h
    simp only [Bool.false_or, Bool.and_eq_true] at h
    have h1 := Nat.le_of_ble_eq_true h.1
    have h2 := Nat.le_of_ble_eq_true h.2
    refine .inl ⟨h1, hs, fun q M' hq hlo => ?_⟩
    have : q < Ms.length := by
      rcases Nat.lt_or_ge q Ms.length with h | h
      · exact h
      · rw [List.getElem?_eq_none h] at hq; cases hq
    omega
theorem xdrw_ok {tb : TT} (hT : tb.Ok X.P) {un : Nat} {D : List Nat} : ∀ (m : Nat) {H : List (List SV)} {π : List Nat} {L : SL} {M : SM} {Ms : List SM} {acc : List Prop} {π' L' M' Ms' φ}, xdrw tb X.n arr un D m H π L M Ms acc = some (π', L', M', Ms', φ) → (∀ p ∈ φ, p) →
    (∀ p ∈ acc, p) ∧ (ED X arr k fs own un D π' L' M' Ms' → ED X arr k fs own un D π L M Ms)
  | 0, H, π, L, M, Ms, acc, π', L', M', Ms', φ, h, hφ => by
    simp only [xdrw, Option.some.injEq, Prod.mk.injEq] at h
    obtain ⟨rfl, rfl, rfl, rfl, rfl⟩ := h
    exact ⟨hφ, id⟩
  | m + 1, H, [], L, M, Ms, acc, π', L', M', Ms', φ, h, _ => by simp [xdrw] at h
  | m + 1, H, i :: r, L, M, Ms, acc, π', L', M', Ms', φ, h, hφ => by
    unfold xdrw at h
    split at h
    · cases h
    · rename_i o ho
      split at h
      · cases h
      · rename_i hG
        split at h
        · rename_i hu
          split at h
          · rename_i hc
            split at h
            · rename_i sv ψ hx
              split at h
              · rename_i d hd
                split at h
                · rename_i hn
                  obtain ⟨acc', hr, hm⟩ := pushK_ok h
                  obtain ⟨ha, hk⟩ := xdrw_ok hT m hr hφ
                  refine ⟨fun p hp => ha p (hm p (.inr hp)), fun he => ⟨o, sv, ho, ?_⟩⟩
                  rw [hu]
                  have hψ : ∀ p ∈ wq none ψ, p := fun p hp => ha p (hm p (.inl hp))
                  refine ⟨stb hc (Stp_st hT hG hd hn hx hψ) (fun hf M' => Stp_st hT hG hd hn ((xst_free hf).trans hx) hψ), ?_⟩
                  rw [hd]
                  exact hk he
                · cases h
              · cases h
            · cases h
          · cases h
        · rename_i hu
          split at h
          · rename_i T x y hop
            split at h
            · rename_i L2 M2 ψ hx
              obtain ⟨acc', hr, hm⟩ := pushK_ok h
              obtain ⟨ha, hk⟩ := xdrw_ok hT m hr hφ
              refine ⟨fun p hp => ha p (hm p (.inr hp)), fun he => ⟨o, .v undef, ho, ?_⟩⟩
              rw [hu]
              have hd : o.dst = none := by
                cases hd : o.dst with
                | none => rfl
                | some d => rw [hop, hd] at hx; simp [xeff] at hx
              refine ⟨M2, (Stp_store hT (gS_none hG) hop hx (fun p hp => ha p (hm p (.inl hp))) _).u, ?_⟩
              rw [hd]
              exact hk he
            · cases h
          · cases h
      · rename_i b hG
        split at h
        · rename_i hu
          split at h
          · rename_i hc
            split at h
            · rename_i sv ψ hx
              split at h
              · rename_i d hd
                split at h
                · rename_i hn
                  obtain ⟨acc', hr, hm⟩ := pushK_ok h
                  obtain ⟨ha, hk⟩ := xdrw_ok hT m hr hφ
                  refine ⟨fun p hp => ha p (hm p (.inr hp)), fun he => ⟨o, .g b sv, ho, ?_⟩⟩
                  rw [hu]
                  have hψ : ∀ p ∈ wq (some b) ψ, p := fun p hp => ha p (hm p (.inl hp))
                  refine ⟨stb hc (Stp_st hT hG hd hn hx hψ) (fun hf M' => Stp_st hT hG hd hn ((xst_free hf).trans hx) hψ), ?_⟩
                  rw [hd]
                  exact hk he
                · cases h
              · cases h
            · cases h
          · cases h
        · cases h
theorem xd {tb : TT} (hT : tb.Ok X.P) (m : Nat) (H : List (List SV)) {un : Nat} {D π π' : List Nat} {Ms Ms' : List SM} {L' M' φ} (hk : ED X arr k fs own un D π' L' M' Ms') (hr : xdrw tb X.n arr un D m H π L M Ms [] = some (π', L', M', Ms', φ) := by rfl)
    (hφ : conj φ := by first | trivial | omega | (simp +contextual [conj]; done) | (simp +contextual [conj, *]; done) | (simp +contextual [conj, *] <;> omega)) : ED X arr k fs own un D π L M Ms := (xdrw_ok hT m hr (conj_all hφ)).2 hk
/-- A region that draws its order. -/
theorem edr (n un : Nat) (D π : List Nat) {id : Nat} {k' : List It} {l : List Oper} (h : ED X l.toArray k' fs own un D π L M []) (hk : normS (lkS L) 64 n k = .code (.region id l.toArray true) :: k' := by rfl) (hB : drawB l.toArray un D π = true := by kernel_rfl) (hm : X.P.follows .mixedOrders = true := by rfl) : E X k L M fs own :=
  norm_E 64 n (hk ▸ E_draw hm hB h)
theorem sdr (n un : Nat) (D π : List Nat) {id : Nat} {k' : List It} {l : List Oper} (h : ED X l.toArray k' fs own un D π L M []) (hk : normS (lkS L) 64 n k = .code (.region id l.toArray true) :: k' := by rfl) (hB : drawB l.toArray un D π = true := by kernel_rfl) (hm : X.P.follows .mixedOrders = true := by rfl) : ES X arr [] k L M fs own :=
  ES_nil (edr n un D π h hk hB hm)
theorem xe {un : Nat} {D : List Nat} {Ms : List SM} (h : ES X arr [] k L M fs own) (hc : chkL arr D L = true := by rfl) : ED X arr k fs own un D [] L M Ms := ⟨h, hc⟩
/-- A call that computes a value, in such a region. -/
theorem dc {tb : TT} (hT : tb.Ok X.P) (m : Nat) (H : List (List SV)) {un i d : Nat} {D r π' : List Nat} {Ms Ms' : List SM} {f : FuncId} {fo : Operand} {az : Array Operand} {ts : Array TypeId} {fi ca svs args : List SV} {res : SV} {L' M' φ} (hs : Fc X.P fs f args res) (hk : ED X arr k fs own un D π' L' M' Ms') (hi : arr[i]? = some o := by rfl) (hu : un.testBit i = false := by rfl) (hg : o.guard = none := by rfl) (hd : o.dst = some d := by rfl)
    (ho : o.op = .call ⟨.value fo, az, ts⟩ := by rfl) (hfo : evS (lkS L) fo = some (.f f fi ca) := by rfl) (ha : evs (lkS L) az.toList = some svs := by rfl) (hb : fi ++ svs.map st1 ++ ca = args := by rfl) (hc : svs.flatMap cd1 = [] := by rfl) (hn : Nat.blt d X.n = true := by rfl) (hr : xdrw tb X.n arr un D m H r ((d, res) :: L) M Ms [] = some (π', L', M', Ms', φ) := by rfl)
    (hφ : conj φ := by first | trivial | omega | (simp +contextual [conj]; done) | (simp +contextual [conj, *]; done) | (simp +contextual [conj, *] <;> omega)) : ED X arr k fs own un D (i :: r) L M Ms := by
  have hG : gS arr (lkS L) o = some none := by unfold gS; rw [hg]
  refine ⟨o, res, hi, ?_⟩
  rw [hu]
  refine ⟨.inr (fun M' => Stp_fn hG hd hn ho hfo rfl ha (by rw [hc]; intro p hp; cases hp) hb (fun _ => hs)), ?_⟩
  rw [hd]
  exact xd hT m H hk hr hφ
theorem dg {tb : TT} (hT : tb.Ok X.P) (m : Nat) (H : List (List SV)) {un i d : Nat} {D r π' : List Nat} {Ms Ms' : List SM} {f : FuncId} {fo : Operand} {az : Array Operand} {ts : Array TypeId} {sf : SV} {fi ca svs args : List SV} {res : SV} {b : Bool} {L' M' φ ψ} (hs : b = true → Fc X.P fs f args res) (hk : ED X arr k fs own un D π' L' M' Ms') (hi : arr[i]? = some o := by rfl) (hu : un.testBit i = false := by rfl) (hG : gS arr (lkS L) o = some (some b) := by rfl) (hd : o.dst = some d := by rfl)
    (ho : o.op = .call ⟨.value fo, az, ts⟩ := by rfl) (hfo : evS (lkS L) fo = some sf := by rfl) (hsf : st1 sf = .f f fi ca := by rfl) (ha : evs (lkS L) az.toList = some svs := by rfl) (hb : fi ++ svs.map st1 ++ ca = args := by rfl) (hc : wq (some b) (cd1 sf ++ svs.flatMap cd1) = ψ := by rfl) (hψ : conj ψ := by first | trivial | exact id | simp_all [conj]) (hn : Nat.blt d X.n = true := by rfl) (hr : xdrw tb X.n arr un D m H r ((d, .g b res) :: L) M Ms [] = some (π', L', M', Ms', φ) := by rfl)
    (hφ : conj φ := by first | trivial | omega | (simp +contextual [conj]; done) | (simp +contextual [conj, *]; done) | (simp +contextual [conj, *] <;> omega)) : ED X arr k fs own un D (i :: r) L M Ms := by
  refine ⟨o, .g b res, hi, ?_⟩
  rw [hu]
  refine ⟨.inr (fun M' => Stp_fn hG hd hn ho hfo hsf ha (by rw [hc]; exact conj_all hψ) hb (fun h => hs h)), ?_⟩
  rw [hd]
  exact xd hT m H hk hr hφ
end
end Go.KX
namespace Go.KX
mutual
def frS (i : Nat) (mb : MB) : SV → SV
  | .l j off => match Nat.beq i j, mb with
    | true, .c _ cs => .p (cs.drop off)
    | _, _ => .l j off
  | .mp j => match Nat.beq i j, mb with
    | true, .m es => .fm es
    | _, _ => .mp j
  | .a cs => .a (frL i mb cs)
  | .f fn x y => .f fn (frL i mb x) (frL i mb y)
  | .t vs => .t (frL i mb vs)
  | .g b x => .g b (frS i mb x)
  | .v x => .v x
  | .str s => .str s
  | .s sz rows => .s sz rows
  | .p cs => .p cs
  | .o j n => .o j n
  | .e j off => .e j off
  | .fm es => .fm es
  | .ni => .ni
def frL (i : Nat) (mb : MB) : List SV → List SV
  | [] => []
  | x :: r => frS i mb x :: frL i mb r
end
theorem frL_get {i : Nat} {mb : MB} : ∀ {l : List SV} {j : Nat} {sv}, (frL i mb l)[j]? = some sv → ∃ s0, l[j]? = some s0 ∧ sv = frS i mb s0
  | [], j, sv, h => by simp [frL] at h
  | x :: r, 0, sv, h => by simp [frL] at h; exact ⟨x, rfl, h.symm⟩
  | x :: r, j + 1, sv, h => by
    simp only [frL, List.getElem?_cons_succ] at h
    obtain ⟨s0, h1, h2⟩ := frL_get h
    exact ⟨s0, by rw [List.getElem?_cons_succ]; exact h1, h2⟩
theorem frL_len {i : Nat} {mb : MB} : ∀ (l : List SV), (frL i mb l).length = l.length
  | [] => rfl
  | x :: r => by simp [frL, frL_len r]
/-- The block i is what mb says, and is never written again. -/
def FrOK (ρ : Nat → Lc) (i : Nat) (mb : MB) (g : GW) : Prop := (∀ T cs, mb = .c T cs → ∀ off, Den g ρ (.p (cs.drop off)) (.pointer (some ⟨(ρ i).b, off, none⟩))) ∧ ∀ es, mb = .m es → Den g ρ (.fm es) (.map (some (ρ i).b))
theorem Den.fr {g : GW} {ρ sv x} (h : Den g ρ sv x) {i : Nat} {mb : MB} : FrOK ρ i mb g → Den g ρ (frS i mb sv) x := by
  induction h with
  | v => exact fun _ => .v
  | str => exact fun _ => .str
  | s xs h1 h2 hl hr ho hne hd _ => exact fun _ => .s xs h1 h2 hl hr ho hne hd
  | p xs hl hf hc hd _ => exact fun _ => .p xs hl hf hc hd
  | @l ρ j off =>
    intro hf
    simp only [frS]
    split
    · rename_i hb
      have := Nat.eq_of_beq_eq_true hb
      subst this
      exact hf.1 _ _ rfl off
    · exact .l
  | a xs hl _ ih => exact fun hf => .a xs (by rw [frL_len]; exact hl) (fun j sv x h1 h2 => by
      obtain ⟨s0, h3, rfl⟩ := frL_get h1
      exact ih j s0 x h3 h2 hf)
  | f xs ys hl _ hl2 _ ih ih2 =>
    intro hf
    refine .f xs ys ?_ ?_ ?_ ?_
    · rw [frL_len]; exact hl
    · intro j sv x h1 h2
      obtain ⟨s0, h3, rfl⟩ := frL_get h1
      exact ih j s0 x h3 h2 hf
    · rw [frL_len]; exact hl2
    · intro j sv x h1 h2
      obtain ⟨s0, h3, rfl⟩ := frL_get h1
      exact ih2 j s0 x h3 h2 hf
  | t xs hl _ ih => exact fun hf => .t xs (by rw [frL_len]; exact hl) (fun j sv x h1 h2 => by
      obtain ⟨s0, h3, rfl⟩ := frL_get h1
      exact ih j s0 x h3 h2 hf)
  | gt _ ih => exact fun hf => .gt (ih hf)
  | gf => exact fun _ => .gf
  | o => exact fun _ => .o
  | e h => exact fun _ => .e h
  | fm raw ms clk hf hh he hk hd _ => exact fun _ => .fm raw ms clk hf hh he hk hd
  | ni => exact fun _ => .ni
  | @mp ρ j =>
    intro hf
    simp only [frS]
    split
    · rename_i hb
      have := Nat.eq_of_beq_eq_true hb
      subst this
      exact hf.2 _ rfl
    · exact .mp
def frSL (i : Nat) (mb : MB) : SL → SL
  | [] => []
  | (t, sv) :: r => (t, frS i mb sv) :: frSL i mb r
def frM (i : Nat) (mb : MB) : SM → SM
  | [] => []
  | (j, m) :: r => match Nat.beq i j with
    | true => r
    | false => (j, m) :: frM i mb r
def occX (i : Nat) : SM → Bool
  | [] => false
  | (j, .c _ cs) :: r => match Nat.beq i j with
    | true => occX i r
    | false => occL i cs || occX i r
  | (_, _) :: r => occX i r
def notR : MB → Bool
  | .r _ _ _ => false
  | .it _ _ _ => false
  | .q _ _ _ => false
  | _ => true
theorem frSL_lk {i : Nat} {mb : MB} : ∀ {L : SL} {t sv}, lkS (frSL i mb L) t = some sv → ∃ s0, lkS L t = some s0 ∧ sv = frS i mb s0
  | [], t, sv, h => by simp [frSL, lkS] at h
  | (j, v) :: r, t, sv, h => by
    by_cases htj : t = j
    · subst htj
      simp only [frSL, lkS_same] at h
      cases h
      exact ⟨v, lkS_same _ _ _, rfl⟩
    · simp only [frSL] at h
      rw [lkS_ne _ _ htj] at h
      obtain ⟨s0, h1, h2⟩ := frSL_lk h
      exact ⟨s0, by rw [lkS_ne _ _ htj]; exact h1, h2⟩
theorem DenM.take {g : GW} {ρ : Nat → Lc} : ∀ {M : SM} {ms : List Res} {i : Nat} {mb : MB}, DenM g ρ M ms → lkM M i = some mb → ∃ r m1 m2, ms = m1 ++ r :: m2 ∧ DenB g ρ i mb r ∧ ∀ g', DenM g' ρ M (m1 ++ r :: m2) → DenM g' ρ (frM i mb M) (m1 ++ m2)
  | [], _, _, _, .nil, h => by cases h
  | (j, m) :: M, _, i, mb, @DenM.cons _ _ _ _ _ r0 ms0 hb t, h => by
    unfold lkM at h
    split at h
    · rename_i hij
      cases h
      have hj := Nat.eq_of_beq_eq_true hij
      subst hj
      refine ⟨r0, [], ms0, rfl, hb, fun g' hM => ?_⟩
      cases hM with
      | cons _ t' => simp only [frM, hij]; exact t'
    · rename_i hij
      obtain ⟨r, m1, m2, rfl, hB, hu⟩ := DenM.take t h
      refine ⟨r, r0 :: m1, m2, rfl, hB, fun g' hM => ?_⟩
      cases hM with
      | cons hb' t' => simp only [frM, hij]; exact .cons hb' (hu g' t')
/-- A map that is owned becomes a fact. -/
theorem St.freezeM {X : Cx} {L : LL} {fs : List MF} {own own' : List Res} {g a} {b : Nat} {raw : List (Bytes × Value)} (hr : Pick own (Res.mp str (fun v : Value => v) b raw) own') (s : St X L fs own g a) :
    ∃ g', g'.w = g.w ∧ FExt g g' ∧ g'.fz b ∧ St X L fs own' g' a := by
  have hp := hr.perm
  have ho := s.own.perm hp
  have hnew := s.new b ((blks_perm hp).symm.subset (by simp [Res.mp]))
  let g' : GW := ⟨g.w, fun x => g.fz x ∨ x = b, fun x hx => hx.elim (g.lt x) (fun h => by subst h; exact ho.lt x (by simp [Res.mp]))⟩
  have hF : FExt g g' := ⟨rfl, rfl, rfl, Nat.le_refl _, fun _ h => .inl h, fun _ _ => rfl⟩
  have hnd : (b :: blks own').Nodup := ho.nodup
  refine ⟨g', rfl, hF, .inr rfl, s.kn, s.all.mono hF, ?_, ?_, fun x hx => s.new x ((blks_perm hp).symm.subset (by simp [hx]))⟩
  · refine ⟨fun r hr' => ho.p r (.tail _ hr'), (List.nodup_cons.1 hnd).2, fun x hx => ho.lt x (by simp [hx]), fun x hx hf => ?_⟩
    rcases hf with hf | rfl
    · exact ho.nfz x (by simp [hx]) hf
    · exact (List.nodup_cons.1 hnd).1 hx
  · refine ⟨s.ext.toFExt.trans hF, s.ext.keep, fun x hx hn hf => ?_⟩
    rcases hf with hf | rfl
    · exact s.ext.nofz x hx hn hf
    · rcases hnew with h | h
      · exact absurd h hn
      · omega
section
variable {X : Kx} {k : List It} {L : SL} {M : SM} {fs : List MF} {own : List Res} {arr : Array Oper} {l : List Oper} {o : Oper}
theorem ESt.fr {i : Nat} {mb : MB} {g a} (hl : lkM M i = some mb) (hc : cloB mb = true) (_hx : occX i M = false) (hb : notR mb = true) (h : ESt X L M fs own g a) : ∃ g', g'.w = g.w ∧ ESt X (frSL i mb L) (frM i mb M) fs own g' a := by
  obtain ⟨ρ, ms, st⟩ := h.open
  have hM : DenM g ρ M ms := st.all _ (.head _)
  obtain ⟨r, m1, m2, rfl, hB, hu⟩ := hM.take hl
  have hp : (m1 ++ r :: m2 ++ own).Perm (r :: (m1 ++ m2 ++ own)) := by
    simp only [List.append_assoc, List.cons_append]
    exact List.perm_middle
  have fin : ∀ g', FrOK ρ i mb g' → St X.toCx [] (F1 ρ M (m1 ++ r :: m2) :: F2 X ρ L a :: fs) (m1 ++ m2 ++ own) g' a → ESt X (frSL i mb L) (frM i mb M) fs own g' a := by
    intro g' hf s'
    have hs : Sl X ρ L a g' := s'.all _ (.tail _ (.head _))
    exact ⟨ρ, m1 ++ m2, ⟨s'.kn, fun f hf => s'.all f (.tail _ (.tail _ hf)), s'.own, s'.ext, s'.new⟩, hu g' (s'.all _ (.head _)), hs.pin, fun t sv ht => by
      obtain ⟨s0, h1, rfl⟩ := frSL_lk ht
      obtain ⟨x, hx, dx⟩ := hs.val t s0 h1
      exact ⟨x, hx, dx.fr hf⟩⟩
  cases hB with
  | c xs hd h1 =>
    rename_i T cs
    have stp0 := st.perm hp
    have stp : St X.toCx [] (denF ρ cs xs :: F1 ρ M _ :: F2 X ρ L a :: fs) _ g a := ⟨stp0.kn, All.cons hd stp0.all, stp0.own, stp0.ext, stp0.new⟩
    obtain ⟨g', hw, s'⟩ := stp.freeze .head
    have hpt : (PtM (ρ i).b 0 xs).p g' := s'.all _ (.head _)
    have hdl : DenL g' ρ cs xs := s'.all (denF ρ cs xs) (.tail _ (.head _))
    refine ⟨g', hw, fin g' ⟨fun T' cs' e off => ?_, (fun es e => by cases e)⟩ ⟨s'.kn, fun f hf => s'.all f (.tail _ (.tail _ hf)), s'.own, s'.ext, s'.new⟩⟩
    cases e
    refine .p (xs.drop off) (by simp [hdl.1]) hpt.1 (fun k y hy => ?_) (fun ρ' j sv y h2 h3 => ?_)
    · rw [List.getElem?_drop] at hy
      have := hpt.2 _ y hy
      simpa using this
    · have h2' : cs[off + j]? = some sv := by simpa using h2
      have h3' : xs[off + j]? = some y := by simpa using h3
      exact (hdl.2 _ sv y h2' h3').swap (cloL_get hc _ sv h2') ρ'
  | r hz xs hl' hd => cases hb
  | it raw hk hd => cases hb
  | q hz xs hl' hd => cases hb
  | m raw hk hd =>
    rename_i es
    have stp := st.perm hp
    obtain ⟨g', hw, hF, hfz, s'⟩ := stp.freezeM .head
    obtain ⟨ms', clk, hh, he, _⟩ := stp.own.p (Res.mp str (fun v : Value => v) (ρ i).b raw) (.head _)
    refine ⟨g', hw, fin g' ⟨(fun T cs e => by cases e), fun es' e => ?_⟩ s'⟩
    cases e
    exact .fm raw ms' clk hfz (by rw [hw]; exact hh) he hk (fun ρ' j k sv x h1 h2 => (hd ρ' j k sv x h1 h2).mono hF)
/-- From now on the local thing i is never written. -/
theorem ez (i : Nat) {mb : MB} (h : E X k (frSL i mb L) (frM i mb M) fs own) (hl : lkM M i = some mb := by rfl) (hc : cloB mb = true := by rfl) (hx : occX i M = false := by rfl) (hb : notR mb = true := by rfl) : E X k L M fs own := by
  intro g a s
  obtain ⟨g', hw, s'⟩ := s.fr hl hc hx hb
  exact hw ▸ h g' a s'
theorem sz (i : Nat) {mb : MB} (h : ES X arr l k (frSL i mb L) (frM i mb M) fs own) (hl : lkM M i = some mb := by rfl) (hc : cloB mb = true := by rfl) (hx : occX i M = false := by rfl) (hb : notR mb = true := by rfl) : ES X arr l k L M fs own := by
  intro g a s
  obtain ⟨g', hw, s'⟩ := s.fr hl hc hx hb
  exact hw ▸ h g' a s'
theorem smk {d T : Nat} (h : ES X arr l k ((d, .mp d) :: L) ((d, .m []) :: M) fs own) (ho : o.op = .makeMap T none := by rfl) (hg : o.guard = none := by rfl) (hd : o.dst = some d := by rfl) (hn : Nat.blt d X.n = true := by rfl) (hoc : (occSL d L || occM d M) = false := by rfl) (hlt : Nat.blt d 1000 = true := by rfl) : ES X arr (o :: l) k L M fs own := by
  intro g a hE
  obtain ⟨ρ, ms, st⟩ := hE.open
  have hw : Region.wanted o (yielded arr a.tmps) = true := live_wanted (L := []) st.kn (live_none hg)
  simp only [wl, hw, if_true]
  simp only [Bool.or_eq_false_iff] at hoc
  have hlt : d < 1000 := by simpa [Nat.blt_eq] using hlt
  have s' := st.alloc (.map #[] 0)
  have hr : (execOp a.eval o).run X.P g.w = .ok (.value (.map (some g.w.heap.size))) (g.w.alloc (.map #[] 0)) := by
    simp only [execOp, ho]
    simp [Instr.makeMap]
  simp only [wn, hr, hd]
  let g1 : GW := ⟨g.w.alloc (.map #[] 0), g.fz, fun b hb => by have := g.lt b hb; rw [size_alloc]; omega⟩
  let ρ' : Nat → Lc := fun j => if j = d then ⟨g.w.heap.size, none, 0⟩ else ρ j
  have e : (ρ' d).b = g.w.heap.size := by simp [ρ']
  have hM : DenM g1 ρ M ms := s'.all _ (.head _)
  have hL : Sl X ρ L a g1 := s'.all _ (.tail _ (.head _))
  have hB : DenB g1 ρ' d (.m []) (Res.mp str (fun v : Value => v) (ρ' d).b []) := .m [] rfl (fun ρ' j k sv x h => by simp at h)
  rw [e] at hB
  refine h g1 _ (ESt.put (ρ := ρ') (ms := Res.mp str (fun v : Value => v) g.w.heap.size [] :: ms) ⟨s'.kn, All.cons (.cons hB (occ_upd hM hoc.2)) (All.cons ⟨fun i hi => by
      have : i ≠ d := by omega
      simp only [ρ', if_neg this]; exact hL.pin i hi, fun t sv ht => by
      obtain ⟨x, hx, dx⟩ := hL.val t sv ht
      exact ⟨x, hx, dx.upd (occSL_get hoc.1 t sv ht)⟩⟩ (fun f hf => s'.all f (.tail _ (.tail _ hf)))), ?_, s'.ext, s'.new⟩ hn ?_)
  · refine ⟨fun r hr' => ?_, s'.own.nodup, s'.own.lt, s'.own.nfz⟩
    cases hr' with
    | head => exact ⟨#[], 0, s'.own.p _ (.head _), rfl, by simp, by simp⟩
    | tail _ hm => exact s'.own.p r (.tail _ hm)
  · have : Den g1 ρ' (.mp d) (.map (some (ρ' d).b)) := .mp
    rw [e] at this
    exact this
theorem mset_keys {es : List (Bytes × SV)} {raw : List (Bytes × Value)} (hk : raw.map (·.1) = es.map (·.1)) (q : Bytes) (x : Value) (sv : SV) : (mset raw q x).map (·.1) = (mset es q sv).map (·.1) := by
  induction raw generalizing es with
  | nil => cases es with
    | nil => rfl
    | cons _ _ => simp at hk
  | cons p r ih =>
    cases es with
    | nil => simp at hk
    | cons e es =>
      simp only [List.map_cons, List.cons.injEq] at hk
      unfold mset
      rw [hk.1]
      split
      · simp [hk.2]
      · simp [hk.1, ih hk.2]
theorem mset_den {P : SV → Value → Prop} : ∀ {es : List (Bytes × SV)} {raw : List (Bytes × Value)}, raw.map (·.1) = es.map (·.1) → (∀ (j : Nat) k sv x, es[j]? = some (k, sv) → raw[j]? = some (k, x) → P sv x) → ∀ {q : Bytes} {x : Value} {sv : SV}, P sv x →
    ∀ (j : Nat) k sv' x', (mset es q sv)[j]? = some (k, sv') → (mset raw q x)[j]? = some (k, x') → P sv' x'
  | [], raw, hk, h, q, x, sv, hp, j, k, sv', x', h1, h2 => by
    cases raw with
    | nil =>
      cases j with
      | zero => simp [mset] at h1 h2; rw [← h1.2, ← h2.2]; exact hp
      | succ j => simp [mset] at h1
    | cons _ _ => simp at hk
  | e :: es, raw, hk, h, q, x, sv, hp, j, k, sv', x', h1, h2 => by
    cases raw with
    | nil => simp at hk
    | cons p r =>
      simp only [List.map_cons, List.cons.injEq] at hk
      unfold mset at h1 h2
      rw [hk.1] at h2
      split at h1
      · rename_i hq
        rw [if_pos hq] at h2
        cases j with
        | zero => simp at h1 h2; rw [← h1.2, ← h2.2]; exact hp
        | succ j => exact h (j + 1) k sv' x' (by simpa using h1) (by simpa using h2)
      · rename_i hq
        rw [if_neg hq] at h2
        cases j with
        | zero => exact h 0 k sv' x' (by simpa using h1) (by simpa using h2)
        | succ j => exact mset_den hk.2 (fun j k sv x h3 h4 => h (j + 1) k sv x (by simpa using h3) (by simpa using h4)) hp j k sv' x' (by simpa using h1) (by simpa using h2)
/-- m[q] = v. -/
theorem sins {tb : TT} (hT : tb.Ok X.P) {T kT eT i : Nat} {dT dk : TD} {x y z : Operand} {q : Bytes} {sv : SV} {es : List (Bytes × SV)} {M' : SM} (h : ES X arr l k L M' fs own) (ho : o.op = .insert T x y z ∨ o.op = .mapUpdate T x y z := by first | exact .inl rfl | exact .inr rfl) (hg : o.guard = none := by rfl) (hd : o.dst = none := by rfl)
    (hx : evS (lkS L) x = some (.mp i) := by rfl) (hy : evS (lkS L) y = some (.str q) := by rfl) (hz : evS (lkS L) z = some sv := by rfl) (hc : clo sv = true := by rfl) (hT1 : tb.get T = some dT := by rfl) (hk1 : dT.kd = .mp kT eT := by rfl) (hT2 : tb.get kT = some dk := by rfl) (hk2 : dk.kd = .str := by rfl)
    (hm : lkM M i = some (.m es) := by rfl) (hu : updK M i (.m (mset es q sv)) some = some M' := by rfl) : ES X arr (o :: l) k L M fs own := by
  intro g a hE
  obtain ⟨ρ, ms, st⟩ := hE.open
  have hSl : Sl X ρ L a g := st.all _ (.tail _ (.head _))
  have hw : Region.wanted o (yielded arr a.tmps) = true := live_wanted (L := []) st.kn (live_none hg)
  have dx := eval_den hSl.val hx
  have dy := eval_den hSl.val hy
  have dz := eval_den hSl.val hz
  have hM : DenM g ρ M ms := st.all _ (.head _)
  obtain ⟨r, m1, m2, rfl, hB, hup⟩ := hM.split hm
  obtain ⟨M2, hK, hM2⟩ := hup hu
  cases hK
  have u := (TT.get_ok hT hT1).kd
  rw [hk1] at u
  have uk := (TT.get_ok hT hT2).kd
  rw [hk2] at uk
  have hev : ∃ svs, evs (lkS L) [x, y, z] = some svs := ⟨[.mp i, .str q, sv], by simp only [evs, hx, hy, hz]⟩
  obtain ⟨svs, hev⟩ := hev
  obtain ⟨Lr, st', hevl, hfr⟩ := st.slots (fun t sv ht => by obtain ⟨x, hx, _⟩ := hSl.val t sv ht; exact ⟨x, hx⟩) hev
  obtain ⟨_, _, e1, hx', hr1⟩ := evl_cons hevl
  obtain ⟨_, _, e2, hy', hr2⟩ := evl_cons hr1
  obtain ⟨_, _, e3, hz', _⟩ := evl_cons hr2
  simp only [List.map_cons, List.cons.injEq] at e1
  obtain ⟨rfl, rfl⟩ := e1
  simp only [List.cons.injEq] at e2
  obtain ⟨rfl, rfl⟩ := e2
  simp only [List.cons.injEq] at e3
  obtain ⟨rfl, _⟩ := e3
  have ex : a.eval x = .map (some (ρ i).b) := by cases hax : a.eval x <;> rw [hax] at dx <;> cases dx <;> rfl
  rw [ex] at hx'
  rw [den_str dy] at hy'
  cases hB with
  | m raw hk hdd =>
    let vF : MF := ⟨fun g => (∀ ρ', Den g ρ' sv (a.eval z)) ∧ ∀ (ρ' : Nat → Lc) (j : Nat) k sv x, es[j]? = some (k, sv) → raw[j]? = some (k, x) → Den g ρ' sv x, fun e h => ⟨fun ρ' => (h.1 ρ').mono e, fun ρ' j k sv x h1 h2 => (h.2 ρ' j k sv x h1 h2).mono e⟩⟩
    have hp : (m1 ++ Res.mp str (fun v : Value => v) (ρ i).b raw :: m2 ++ own).Perm (Res.mp str (fun v : Value => v) (ρ i).b raw :: (m1 ++ m2 ++ own)) := by
      simp only [List.append_assoc, List.cons_append]
      exact List.perm_middle
    have st2 := st'.perm hp
    have st3 : St X.toCx Lr (vF :: F1 ρ M _ :: F2 X ρ L a :: fs) _ g a := ⟨st2.kn, All.cons ⟨fun ρ' => dz.swap hc ρ', hdd⟩ st2.all, st2.own, st2.ext, st2.new⟩
    have key : opQ X.P arr o (fun a' w' => ∃ g', g'.w = w' ∧ ESt X L M' fs own g' a') a g.w := by
      have hS : ∀ o', o'.op = Op.mapUpdate T x y z → o'.guard = none → o'.dst = none → opQ X.P #[] o' (fun a' w' => ∃ g', g'.w = w' ∧ ESt X L M' fs own g' a') a g.w := fun o' ho' hg' hd' =>
        viaS (arr := #[]) (o := o') (K := fun a' w' => ∃ g', g'.w = w' ∧ ESt X L M' fs own g' a') st3
          (S_mset (K := str) (V := fun v : Value => v) ho' (live_none hg') hd' hx' hy' hz' u (keyStr uk) .head (S_J (fun g' a' s' => by
            refine ⟨g', rfl, ρ, m1 ++ Res.mp str (fun v : Value => v) (ρ i).b (mset raw q (a.eval z)) :: m2, ?_, ?_, ?_⟩
            · have hp2 : (Res.mp str (fun v : Value => v) (ρ i).b (mset raw q (a.eval z)) :: (m1 ++ m2 ++ own)).Perm (m1 ++ Res.mp str (fun v : Value => v) (ρ i).b (mset raw q (a.eval z)) :: m2 ++ own) := by
                simp only [List.append_assoc, List.cons_append]
                exact List.perm_middle.symm
              have s2 := s'.perm hp2
              exact ⟨⟨s2.kn.size, s2.kn.defers, fun i v hv => by simp [lk] at hv⟩, fun f hf => s2.all f (.tail _ (.tail _ (.tail _ hf))), s2.own, s2.ext, s2.new⟩
            · have hv : vF.p g' := s'.all _ (.head _)
              exact hM2 g' _ (s'.all _ (.tail _ (.head _))) (.m _ (mset_keys hk q _ sv) (fun ρ' => mset_den hk (hv.2 ρ') (hv.1 ρ')))
            · have hs : Sl X ρ L a g' := s'.all (F2 X ρ L a) (.tail _ (.tail _ (.head _)))
              exact ⟨hs.pin, fun t sv ht => by
                obtain ⟨x, hx, dx⟩ := hs.val t sv ht
                exact ⟨x, s'.kn.val t x (hfr t x hx), dx⟩⟩)))
      have h1 := hS { o with op := .mapUpdate T x y z } rfl hg hd
      unfold opQ at h1 ⊢
      have hw1 : Region.wanted { o with op := .mapUpdate T x y z } (yielded #[] a.tmps) = true := by unfold Region.wanted; rw [hg]
      rw [if_pos hw1] at h1
      rw [if_pos hw]
      have he : execOp a.eval o = execOp a.eval { o with op := .mapUpdate T x y z } := by
        rcases ho with ho | ho <;> simp only [execOp, ho]
      unfold wn at h1 ⊢
      rw [he]
      exact h1
    exact opQ_mono (fun a' w' ⟨g', hw, s'⟩ => hw ▸ h g' a' s') key
/-- v, ok = m[q], m never written. -/
theorem Stp_lk2 {tb : TT} (hT : tb.Ok X.P) {T kT eT d : Nat} {dT dk de : TD} {x y : Operand} {q : Bytes} {es : List (Bytes × SV)} {r : Option SV} (ho : o.op = .lookup T x y true) (hg : o.guard = none) (hd : o.dst = some d) (hn : Nat.blt d X.n = true) (hx : evS (lkS L) x = some (.fm es)) (hy : evS (lkS L) y = some (.str q))
    (hT1 : tb.get T = some dT) (hk1 : dT.kd = .mp kT eT) (hT2 : tb.get kT = some dk) (hk2 : dk.kd = .str) (hT3 : tb.get eT = some de) (hr : mget es q = r) : Stp X arr o L M fs own (.t [r.getD (inj de.z), .v (.bool r.isSome)]) M := by
  have hG : gS arr (lkS L) o = some none := by unfold gS; rw [hg]
  refine Stp_read (sv := .t [r.getD (inj de.z), .v (.bool r.isSome)]) hG hd hn (fun L' hL _ g a ρ ms st => ?_)
  have hSl : Sl X ρ L' a g := st.all _ (.tail _ (.head _))
  have hev : evs (lkS L) o.op.operands.toList = some [.fm es, .str q] := by rw [ho]; show evs (lkS L) [x, y] = _; simp only [evs, hx, hy]
  have hev' := (evs_agree' hL).trans hev
  rw [ho] at hev'
  have hev' : evs (lkS L') [x, y] = some [.fm es, .str q] := hev'
  obtain ⟨_, _, e1, dx, hr1⟩ := (evals_den hSl.val hev').uncons
  obtain ⟨_, _, e2, dy, _⟩ := hr1.uncons
  simp only [List.map_cons, List.cons.injEq] at e1
  obtain ⟨rfl, rfl⟩ := e1
  simp only [List.cons.injEq] at e2
  obtain ⟨rfl, _⟩ := e2
  have u := (TT.get_ok hT hT1).kd
  rw [hk1] at u
  have uk := (TT.get_ok hT hT2).kd
  rw [hk2] at uk
  have dys := den_str dy
  generalize hax : a.eval x = vx at dx
  cases dx with
  | fm raw msr clk hf hh he hk hdd =>
    rename_i b
    obtain ⟨rr, hfr, hfd⟩ := find_get (K := str) (V := fun v : Value => v) (P := X.P) (T := kT) (keyStr uk) q g.w he
    obtain ⟨d0, _, _, hck, _⟩ := (keyStr (P := X.P) uk).ex
    have hz := run_zeroValue (w := g.w) (TT.get_ok hT hT3).ti
    have hget : ∀ {es : List (Bytes × SV)} {raw : List (Bytes × Value)}, raw.map (·.1) = es.map (·.1) → (∀ (j : Nat) k sv x, es[j]? = some (k, sv) → raw[j]? = some (k, x) → Den g ρ sv x) → (mget raw q = none ∧ mget es q = none) ∨ ∃ x sv, mget raw q = some x ∧ mget es q = some sv ∧ Den g ρ sv x := by
      intro es
      induction es with
      | nil => intro raw hk _; cases raw with
        | nil => exact .inl ⟨rfl, rfl⟩
        | cons _ _ => simp at hk
      | cons e es ih =>
        intro raw hk hd'
        cases raw with
        | nil => simp at hk
        | cons p rw' =>
          simp only [List.map_cons, List.cons.injEq] at hk
          unfold mget
          rw [hk.1]
          by_cases hq : q = e.1
          · rw [if_pos hq, if_pos hq]
            exact .inr ⟨p.2, e.2, rfl, rfl, hd' 0 e.1 e.2 p.2 rfl (by simp [← hk.1])⟩
          · rw [if_neg hq, if_neg hq]
            exact ih hk.2 (fun j k sv x h1 h2 => hd' (j + 1) k sv x (by simpa using h1) (by simpa using h2))
    have hrun : ∃ vt, (Instr.lookup T (.map (some b)) (str q) true).run X.P g.w = .ok (.tuple #[vt, .bool r.isSome]) g.w ∧ Den g ρ (r.getD (inj de.z)) vt := by
      simp only [Instr.lookup, Sem.run_bind, run_underlying u, Result.andThen_ok, run_getObj_map hh, hck, hfr, Sem.run_pure]
      rcases hget hk (hdd ρ) with ⟨h1, h2⟩ | ⟨xv, sv, h1, h2, h3⟩
      · rw [h2] at hr
        subst hr
        cases rr with
        | none => exact ⟨de.z, by simp only [hz, Result.andThen_ok, Sem.run_pure, Sem.run_bind]; rfl, den_inj g ρ de.z⟩
        | some p =>
          obtain ⟨⟨x', hx', _⟩, _⟩ := hfd
          rw [h1] at hx'; cases hx'
      · rw [h2] at hr
        subst hr
        cases rr with
        | none =>
          obtain ⟨h4, _⟩ := hfd
          rw [h1] at h4; cases h4
        | some p =>
          obtain ⟨j, v⟩ := p
          obtain ⟨⟨x', hx', hv⟩, _⟩ := hfd
          rw [h1] at hx'
          cases hx'
          exact ⟨v, rfl, by rw [hv]; exact h3⟩
    obtain ⟨vt, h1, h2⟩ := hrun
    refine ⟨.tuple #[vt, .bool r.isSome], ?_, .t [vt, .bool r.isSome] rfl (DenL.cons h2 (DenL.cons .v DenL.nil)).2⟩
    simp only [execOp, ho, hax, dys]
    simp [h1]
theorem slk {tb : TT} (hT : tb.Ok X.P) (m : Nat) {T kT eT d : Nat} {dT dk de : TD} {x y : Operand} {q : Bytes} {es : List (Bytes × SV)} (r : Option SV) {l' L' M' φ} (hr : mget es q = r) (hk : ES X arr l' k L' M' fs own) (ho : o.op = .lookup T x y true := by rfl) (hg : o.guard = none := by rfl) (hd : o.dst = some d := by rfl)
    (hx : evS (lkS L) x = some (.fm es) := by rfl) (hy : evS (lkS L) y = some (.str q) := by rfl) (hT1 : tb.get T = some dT := by rfl) (hk1 : dT.kd = .mp kT eT := by rfl) (hT2 : tb.get kT = some dk := by rfl) (hk2 : dk.kd = .str := by rfl) (hT3 : tb.get eT = some de := by rfl) (hn : Nat.blt d X.n = true := by rfl)
    (hrn : xrun tb X.n arr m [] l ((d, .t [r.getD (inj de.z), .v (.bool r.isSome)]) :: L) M [] = some (l', L', M', φ) := by rfl) (hφ : conj φ := by first | trivial | omega | (simp +contextual [conj]; done)) : ES X arr (o :: l) k L M fs own := by
  refine ES_step (Stp_lk2 hT ho hg hd hn hx hy hT1 hk1 hT2 hk2 hT3 hr) ?_
  rw [hd]
  exact go hT m [] hk hrn hφ
theorem s_len {g ρ sz rows x} (h : Den g ρ (.s sz rows) x) : rows.length ≤ 9223372036854775807 := by
  cases h with | s xs h1 _ _ _ _ _ _ => simpa [maxLen] using h1
/-- A slice is not too long. -/
theorem elen (i : Nat) {sz : Nat} {rows : List (List SV)} (hi : lkS L i = some (.s sz rows)) (h : rows.length ≤ 9223372036854775807 → E X k L M fs own) : E X k L M fs own := by
  intro g a s
  obtain ⟨ρ, ms, s1, s2, s3⟩ := s
  obtain ⟨x, _, dx⟩ := s3.val i _ hi
  exact h (s_len dx) g a ⟨ρ, ms, s1, s2, s3⟩
end
end Go.KX
namespace Go.KX
/-- Plain values, as they stand in cells. -/
def valsL : List SV → Option (List Value)
  | [] => some []
  | .v x :: r => match valsL r with
    | some l => some (x :: l)
    | none => none
  | .str s :: r => match valsL r with
    | some l => some (str s :: l)
    | none => none
  | _ => none
theorem valsL_ok {g ρ} : ∀ {cs : List SV} {xs vs : List Value}, valsL cs = some vs → DenL g ρ cs xs → xs = vs
  | [], xs, vs, h, d => by cases h; exact d.unnil
  | c :: r, xs, vs, h, d => by
    obtain ⟨x, ys, rfl, dx, dr⟩ := d.uncons
    unfold valsL at h
    split at h
    · cases ‹_ :: _ = []›
    · rename_i e
      cases e
      split at h
      · rename_i l hl
        cases h
        rw [den_v dx, valsL_ok hl dr]
      · cases h
    · rename_i e
      cases e
      split at h
      · rename_i l hl
        cases h
        rw [den_str dx, valsL_ok hl dr]
      · cases h
    · cases h
theorem den_a {g ρ cs x} (h : Den g ρ (.a cs) x) : ∃ xs : List Value, x = .agg xs.toArray ∧ DenL g ρ cs xs := by
  cases h with | a xs hl hd => exact ⟨xs, rfl, hl, hd⟩
abbrev neO : Bool → BinOp
  | true => .neq
  | false => .eql
abbrev neB : Bool → Bool → Bool
  | true, b => !b
  | false, b => b
section
variable {X : Kx} {k : List It} {L : SL} {M : SM} {fs : List MF} {own : List Res} {arr : Array Oper} {l : List Oper} {o : Oper}
theorem Stp_eqS {ne b : Bool} {d T yT : Nat} {x y : Operand} {svs cs ds : List SV} {xs ys : List Value} {fl : Array Field} {G : Option Bool} (hG : gS arr (lkS L) o = some G) (hd : o.dst = some d) (hn : Nat.blt d X.n = true) (ho : o.op = .binOp (neO ne) T x y yT)
    (hev : evs (lkS L) [x, y] = some svs) (hst : svs.map st1 = [.a cs, .a ds]) (hφ : ∀ p ∈ wq G (svs.flatMap cd1), p) (v1 : valsL cs = some xs) (v2 : valsL ds = some ys) (hu : X.P.underlying T = some (.struct fl)) (hp : X.P.stoodInHeld T = false)
    (hm : ∀ w, (eqGuard (neO ne) T x y (.agg xs.toArray) (.agg ys.toArray)).run X.P w = .ok () w) (hr : ∀ w, (Op.eqFields 9999 xs.toArray ys.toArray fl.toList).run X.P w = .ok b w) : Stp X arr o L M fs own (wr G (.v (.bool (neB ne b)))) M := by
  refine Stp_read hG hd hn (fun L' hL hon g a ρ ms st => ?_)
  have hSl : Sl X ρ L' a g := st.all _ (.tail _ (.head _))
  have hop : o.op.operands.toList = [x, y] := by rw [ho]; cases ne <;> rfl
  have hev' : evs (lkS L') [x, y] = some svs := by
    have := evs_agree' hL
    rw [hop] at this
    exact this.trans hev
  have hden := sts_ok (evals_den hSl.val hev') (wq_ok hφ hon)
  rw [hst] at hden
  obtain ⟨_, _, e1, dx, hr1⟩ := hden.uncons
  obtain ⟨_, _, e2, dy, _⟩ := hr1.uncons
  simp only [List.map_cons, List.cons.injEq] at e1
  obtain ⟨rfl, rfl⟩ := e1
  simp only [List.cons.injEq] at e2
  obtain ⟨rfl, _⟩ := e2
  obtain ⟨xs', ex, d1⟩ := den_a dx
  obtain ⟨ys', ey, d2⟩ := den_a dy
  obtain rfl := valsL_ok v1 d1
  obtain rfl := valsL_ok v2 d2
  have hf : X.P.fieldsOf T = fl := by simp [Program.fieldsOf, hu]
  have he := run_equalIn_struct g.w 9999 T xs'.toArray ys'.toArray (by rw [hf]; exact hu) hp
  rw [hf, hr] at he
  cases ne with
  | true =>
    refine ⟨.bool (!b), ?_, .v⟩
    have hm := hm g.w
    simp only [neO] at ho hm
    simp only [execOp, ho, ex, ey]
    simp [hm, run_neq_struct, he]
  | false =>
    refine ⟨.bool b, ?_, .v⟩
    have hm := hm g.w
    simp only [neO] at ho hm
    simp only [execOp, ho, ex, ey]
    simp [hm, run_eql_struct, he]
/-- Structs compared, then m operations. -/
theorem sq {tb : TT} (hT : tb.Ok X.P) (m : Nat) (H : List (List SV)) (ne : Bool) {b : Bool} {d T yT : Nat} {x y : Operand} {svs cs ds : List SV} {xs ys : List Value} {fl : Array Field} {G : Option Bool} {l' L' M' φ ψ} (hu : X.P.underlying T = some (.struct fl)) (hp : X.P.stoodInHeld T = false)
    (hr : ∀ w, (Op.eqFields 9999 xs.toArray ys.toArray fl.toList).run X.P w = .ok b w) (hk : ES X arr l' k L' M' fs own) (hG : gS arr (lkS L) o = some G := by rfl) (hd : o.dst = some d := by rfl) (hn : Nat.blt d X.n = true := by rfl) (ho : o.op = .binOp (neO ne) T x y yT := by rfl)
    (hev : evs (lkS L) [x, y] = some svs := by rfl) (hst : svs.map st1 = [.a cs, .a ds] := by rfl) (v1 : valsL cs = some xs := by rfl) (v2 : valsL ds = some ys := by rfl)
    (hm : ∀ w, (eqGuard (neO ne) T x y (.agg xs.toArray) (.agg ys.toArray)).run X.P w = .ok () w := by intro w; kernel_rfl)
    (hc : wq G (svs.flatMap cd1) = ψ := by rfl) (hψ : conj ψ := by first | trivial | exact id | exact ⟨id, id⟩ | (simp +contextual [conj]; done) | simp_all [conj])
    (hrn : xrun tb X.n arr m H l ((d, wr G (.v (.bool (neB ne b)))) :: L) M [] = some (l', L', M', φ) := by rfl) (hφ : conj φ := by first | trivial | omega | (simp +contextual [conj]; done) | (simp +contextual [conj, *]; done) | (simp +contextual [conj, *] <;> omega)) : ES X arr (o :: l) k L M fs own := by
  refine ES_step (Stp_eqS (ne := ne) hG hd hn ho hev hst (by rw [hc]; exact conj_all hψ) v1 v2 hu hp hm hr) ?_
  rw [hd]
  exact go hT m H hk hrn hφ
end
end Go.KX
namespace Go.KX
open Go.RowKit Go.Sort
/-- What held of the first world, of which nothing is written. -/
def factF (F : World → Prop) : MF where
  p g := ∃ w0, F w0 ∧ Below w0.heap.size w0 g.w ∧ ∀ b, b < w0.heap.size → g.fz b
  mono e h := by
    obtain ⟨w0, h1, h2, h3⟩ := h
    exact ⟨w0, h1, ⟨e.os.trans h2.os, e.tape.trans h2.tape, e.output.trans h2.output, Nat.le_trans h2.size e.size, fun k hk => (e.same k (h3 k hk)).trans (h2.block k hk)⟩, fun b hb => e.fz b (h3 b hb)⟩
theorem factF_at {F : World → Prop} (hF : ∀ w w', F w → Below w.heap.size w w' → F w') {g : GW} (h : (factF F).p g) : F g.w := by
  obtain ⟨w0, h1, h2, _⟩ := h
  exact hF w0 g.w h1 h2
theorem tab_below {P : Program} {n : String} {b : Nat} {k : IntKind} {zs : List Int} {w w' : World} (hg : P.globalNamed n = some b) (h : Lib.TabIs P w n k zs) (hb : Below w.heap.size w w') : Lib.TabIs P w' n k zs := by
  unfold Lib.TabIs World.var? at h ⊢
  rw [hg] at h ⊢
  simp only [Option.bind_some] at h ⊢
  have hlt : b < w.heap.size := by
    rcases Nat.lt_or_ge b w.heap.size with h' | h'
    · exact h'
    · rw [Array.getElem?_eq_none h'] at h; cases h
  rw [hb.block b hlt]
  exact h
theorem cell_below {w w' : World} (hb : Below w.heap.size w w') {a : Addr} {v : Value} (hc : w.cell? a = some v) : w'.cell? a = some v := (hb.cell (World.block_lt_of_cell? w a hc)).trans hc
theorem below_drewN (w : World) (n : Nat) : Below w.heap.size w (w.drewN n) := ⟨rfl, rfl, rfl, Nat.le_refl _, fun _ _ => rfl⟩
theorem below_grow (w : World) (os : Array Obj) : Below w.heap.size w (grow w os) := ⟨rfl, rfl, rfl, by simp [grow], fun k hk => by simp [grow, Array.getElem?_append_left hk]⟩
theorem ext_below {g : GW} {w' : World} (h : Below g.w.heap.size g.w w') : ∃ g', g'.w = w' ∧ Ext [] g g' :=
  ⟨⟨w', g.fz, fun b hb => Nat.lt_of_lt_of_le (g.lt b hb) h.size⟩, rfl, ⟨h.os, h.tape, h.output, h.size, fun _ hb => hb, fun b hb => h.block b (g.lt b hb)⟩, fun b hb _ => h.block b hb, fun _ _ _ hb => hb⟩
/-- A contract of the library's, told on symbolic values. -/
theorem Fc_lib {P : Program} {fs : List MF} {f : FuncId} {args : List SV} {res : SV} (hc : Callable P f)
    (h : ∀ ρ g vs, All fs g → DenL g ρ args vs → Calls P f vs.toArray g.w fun e w' => ∃ v, e = .returned v ∧ Below g.w.heap.size g.w w' ∧ ∀ g' ρ', Den g' ρ' res v) : Fc P fs f args res := by
  refine ⟨hc, fun ρ g vs hf ha => (h ρ g vs hf ha).mono ?_⟩
  rintro e w' ⟨v, rfl, hb, hd⟩
  obtain ⟨g', hw, he⟩ := ext_below hb
  exact ⟨v, g', rfl, hw, he, hd g' ρ⟩
theorem args_v {g ρ} : ∀ {args : List SV} {vs xs : List Value}, valsL args = some xs → DenL g ρ args vs → vs = xs := fun h d => valsL_ok h d
end Go.KX
namespace Go.KX
structure Val where
  k : Int
  n : Int
  deriving DecidableEq
def encVal (v : Val) : List Value := [.int .i64 v.k, .int .i64 v.n]
def elVal : El Val := ⟨2, encVal, fun _ => rfl, by decide, fun _ u h => by simp [encVal] at h; rcases h with rfl | rfl <;> rfl⟩
abbrev nullV : Val := ⟨2, 0⟩
abbrev nanV : Val := ⟨3, 0⟩
abbrev plusV : Val := ⟨4, 0⟩
abbrev minusV : Val := ⟨5, 0⟩
abbrev zeroV : Val := ⟨0, 0⟩
def numV (n : Int) : Val := if 1000000000000000 < n then plusV else if n < -1000000000000000 then minusV else ⟨1, n⟩
def truthV (b : Bool) : Val := if b then ⟨1, 1000⟩ else ⟨1, 0⟩
def isV (v : Val) : Bool := if v.k = 1 then decide (-1000000000000000 ≤ v.n ∧ v.n ≤ 1000000000000000) else decide (2 ≤ v.k ∧ v.k ≤ 5 ∧ v.n = 0)
def trueV (v : Val) : Bool := decide (v.k ≠ 2 ∧ v.k ≠ 0 ∧ (v.k ≠ 1 ∨ v.n ≠ 0))
def rankV (v : Val) : Int := if v.k = 4 then 1000000000000001 else if v.k = 5 then -1000000000000001 else v.n
def sgn (n : Int) : Int := if 0 < n then 1 else if n < 0 then -1 else 0
def signV (v : Val) : Int := sgn (rankV v)
def infV (s : Int) : Val := if s = 0 then nanV else if 0 < s then plusV else minusV
def finV (v : Val) : Bool := decide (v.k = 1)
def addV (a b : Val) : Val := if a.k = 1 ∧ b.k = 1 then numV (a.n + b.n) else if a.k ≠ 1 ∧ b.k ≠ 1 ∧ a ≠ b then nanV else if a.k = 1 then b else a
def absI (n : Int) : Int := max n (-n)
def mulV (a b : Val) : Val :=
  if a.k ≠ 1 ∨ b.k ≠ 1 then infV (signV a * signV b) else
  if 1000000000000000 < absI a.n * absI b.n / 1000 then infV (signV a * signV b) else numV (signV a * signV b * (absI a.n * absI b.n / 1000))
def divV (a b : Val) : Val :=
  if a.k ≠ 1 ∧ b.k ≠ 1 then nanV else if b.k ≠ 1 then numV 0 else if a.k ≠ 1 ∧ b.n < 0 then numV (-rankV a) else if a.k ≠ 1 then a else
  if b.n = 0 then infV a.n else numV ((a.n * 1000).tdiv b.n)
def negV (v : Val) : Val := numV (-rankV v)
/-- An operation on two that are neither null nor NaN. -/
def numbersV (f : Val → Val → Val) (a b : Val) : Val := if a.k = 3 ∨ b.k = 3 then nanV else f a b
def orderV (no : Bool) (f : Int → Int → Bool) (a b : Val) : Val := if a.k = 3 ∨ b.k = 3 then truthV no else truthV (f (rankV a) (rankV b))
abbrev oAdd : Bytes := [43]
abbrev oSub : Bytes := [45]
abbrev oMul : Bytes := [42]
abbrev oDiv : Bytes := [47]
abbrev oEq : Bytes := [61, 61]
abbrev oNe : Bytes := [33, 61]
abbrev oLt : Bytes := [60]
abbrev oLe : Bytes := [60, 61]
abbrev oGt : Bytes := [62]
abbrev oGe : Bytes := [62, 61]
abbrev oAnd : Bytes := [38, 38]
abbrev oOr : Bytes := [124, 124]
abbrev oNot : Bytes := [33]
abbrev oAbs : Bytes := [97, 98, 115]
abbrev oFloor : Bytes := [102, 108, 111, 111, 114]
abbrev oNull : Bytes := [105, 115, 95, 110, 117, 108, 108]
abbrev oNan : Bytes := [105, 115, 95, 110, 97, 110]
abbrev oInf : Bytes := [105, 115, 95, 105, 110, 102]
abbrev oNum : Bytes := [105, 115, 95, 110, 117, 109, 98, 101, 114]
/-- The operations with two operands. -/
def twoT : List (Bytes × (Val → Val → Val)) :=
  [(oAdd, numbersV addV), (oSub, numbersV fun a b => addV a (negV b)), (oMul, numbersV mulV), (oDiv, numbersV divV),
   (oEq, orderV false fun x y => decide (x = y)), (oNe, orderV true fun x y => decide (x ≠ y)), (oLt, orderV false fun x y => decide (x < y)), (oLe, orderV false fun x y => decide (x ≤ y)),
   (oGt, orderV false fun x y => decide (y < x)), (oGe, orderV false fun x y => decide (y ≤ x)), (oAnd, fun a b => truthV (trueV a && trueV b)), (oOr, fun a b => truthV (trueV a || trueV b))]
def twoV (op : Bytes) (a b : Val) : Option Val := (mget twoT op).map fun f => f a b
def plainV (f : Int → Int) (v : Val) : Val := if v.k = 2 ∨ v.k = 3 then v else numV (f (rankV v))
def floorV (v : Val) : Val := if v.k = 1 then numV (v.n - (v.n.tmod 1000 + 1000).tmod 1000) else v
def notV (v : Val) : Val := if v.k = 2 then v else truthV (!trueV v)
/-- The operations with one operand. -/
def oneT : List (Bytes × (Val → Val)) :=
  [(oSub, plainV fun n => -n), (oAbs, plainV fun n => max n (-n)), (oFloor, floorV), (oNot, notV), (oNull, fun v => truthV (decide (v.k = 2))), (oNan, fun v => truthV (decide (v.k = 3))),
   (oInf, fun v => truthV (decide (v.k = 4 ∨ v.k = 5))), (oNum, fun v => truthV (decide (v.k = 1)))]
def oneV (op : Bytes) (v : Val) : Option Val := (mget oneT op).map fun f => f v
/-- An operation: the value, the error's number. -/
def doV (op : Bytes) (l : List Val) : Val × Int :=
  if l.all isV then match l with
    | [a] => match oneV op a with
      | some v => (v, 0)
      | none => (zeroV, 2)
    | [a, b] => match twoV op a b with
      | some v => if a.k = 2 ∨ b.k = 2 then (nullV, 0) else (v, 0)
      | none => (zeroV, 2)
    | _ => (zeroV, 2)
  else (zeroV, 80)
theorem isV_cases {v : Val} (h : isV v = true) : (v.k = 1 ∧ -1000000000000000 ≤ v.n ∧ v.n ≤ 1000000000000000) ∨ v = nullV ∨ v = nanV ∨ v = plusV ∨ v = minusV := by
  obtain ⟨k, n⟩ := v
  simp only [isV] at h
  split at h
  · exact .inl ⟨by assumption, by simpa using h⟩
  · simp only [decide_eq_true_eq] at h
    obtain ⟨h1, h2, rfl⟩ := h
    have : k = 2 ∨ k = 3 ∨ k = 4 ∨ k = 5 := by omega
    rcases this with rfl | rfl | rfl | rfl <;> simp
theorem isV_num (n : Int) : isV (numV n) = true := by
  unfold numV isV
  split
  · decide
  · split
    · decide
    · simp; omega
theorem isV_truth (b : Bool) : isV (truthV b) = true := by cases b <;> decide
theorem isV_inf (s : Int) : isV (infV s) = true := by unfold infV; repeat (first | decide | split)
theorem isV_add {a b : Val} (ha : isV a = true) (hb : isV b = true) : isV (addV a b) = true := by
  unfold addV; repeat (first | exact isV_num _ | assumption | decide | split)
theorem isV_mul (a b : Val) : isV (mulV a b) = true := by
  unfold mulV; repeat (first | exact isV_num _ | exact isV_inf _ | split)
theorem isV_div {a b : Val} (ha : isV a = true) : isV (divV a b) = true := by
  unfold divV; repeat (first | exact isV_num _ | exact isV_inf _ | assumption | decide | split)
theorem isV_order (no : Bool) (f : Int → Int → Bool) (a b : Val) : isV (orderV no f a b) = true := by
  unfold orderV; repeat (first | exact isV_truth _ | split)
theorem isV_numbers {f : Val → Val → Val} {a b : Val} (h : isV (f a b) = true) : isV (numbersV f a b) = true := by
  unfold numbersV; repeat (first | exact h | decide | split)
theorem mget_mem {α β : Type} [DecidableEq α] : ∀ {m : List (α × β)} {k : α} {x : β}, mget m k = some x → (k, x) ∈ m
  | [], _, _, h => by cases h
  | p :: r, k, x, h => by
    unfold mget at h
    by_cases hk : k = p.1
    · rw [if_pos hk] at h; cases h; subst hk; exact .head _
    · rw [if_neg hk] at h; exact .tail _ (mget_mem h)
theorem isV_two {op : Bytes} {a b v : Val} (ha : isV a = true) (hb : isV b = true) (h : twoV op a b = some v) : isV v = true := by
  obtain ⟨f, hf, rfl⟩ := Option.map_eq_some_iff.1 h
  have hm : f ∈ twoT.map (·.2) := List.mem_map.2 ⟨_, mget_mem hf, rfl⟩
  simp only [twoT, List.map_cons, List.map_nil, List.mem_cons, List.not_mem_nil, or_false] at hm
  rcases hm with rfl | rfl | rfl | rfl | rfl | rfl | rfl | rfl | rfl | rfl | rfl | rfl
  · exact isV_numbers (isV_add ha hb)
  · exact isV_numbers (isV_add ha (isV_num _))
  · exact isV_numbers (isV_mul _ _)
  · exact isV_numbers (isV_div ha)
  all_goals first | exact isV_order _ _ _ _ | exact isV_truth _
theorem isV_one {op : Bytes} {a v : Val} (ha : isV a = true) (h : oneV op a = some v) : isV v = true := by
  obtain ⟨f, hf, rfl⟩ := Option.map_eq_some_iff.1 h
  have hm : f ∈ oneT.map (·.2) := List.mem_map.2 ⟨_, mget_mem hf, rfl⟩
  simp only [oneT, List.map_cons, List.map_nil, List.mem_cons, List.not_mem_nil, or_false] at hm
  rcases hm with rfl | rfl | rfl | rfl | rfl | rfl | rfl | rfl
  · unfold plainV; repeat (first | exact isV_num _ | exact ha | split)
  · unfold plainV; repeat (first | exact isV_num _ | exact ha | split)
  · unfold floorV; repeat (first | exact isV_num _ | exact ha | split)
  · unfold notV; repeat (first | exact isV_truth _ | exact ha | split)
  all_goals exact isV_truth _
theorem isV_do {op : Bytes} {l : List Val} (h : (doV op l).2 = 0) : isV (doV op l).1 = true := by
  unfold doV at h ⊢
  split
  · rename_i hl
    rw [if_pos hl] at h
    split
    · rename_i a
      dsimp only at h
      have ha : isV a = true := by simpa using hl
      split
      · exact isV_one ha ‹_›
      · rename_i hn; simp [hn] at h
    · rename_i a b
      dsimp only at h
      have hab : isV a = true ∧ isV b = true := by simpa using hl
      split
      · split
        · decide
        · exact isV_two hab.1 hab.2 ‹_›
      · rename_i hn; simp [hn] at h
    · simp at h
  · rename_i hl; rw [if_neg hl] at h; simp at h
end Go.KX
namespace Go.KX
def trueR (v : Val) : Bool := decide (v.k = 1 ∧ v.n ≠ 0 ∨ v.k = 3 ∨ v.k = 4 ∨ v.k = 5)
def signR (v : Val) : Int := if v.k = 4 ∨ 0 < v.n then 1 else if v.k = 5 ∨ v.n < 0 then -1 else 0
def beyondR (s : Int) : Val := if 0 < s then plusV else if s < 0 then minusV else nanV
def turnedR (v : Val) : Val := if v.k = 4 then minusV else if v.k = 5 then plusV else ⟨v.k, -v.n⟩
def addR (a b : Val) : Val := if a.k = 1 ∧ b.k = 1 then numV (a.n + b.n) else if a.k = 1 then b else if b.k = 1 ∨ a = b then a else nanV
def sizeR (n : Int) : Int := if n < 0 then -n else n
def timesR (a b : Val) : Val :=
  if a.k ≠ 1 ∨ b.k ≠ 1 then beyondR (signR a * signR b) else
  if 0 < (sizeR a.n).tdiv 1000 ∧ (1000000000000000 : Int).tdiv ((sizeR a.n).tdiv 1000) < sizeR b.n then beyondR (signR a * signR b) else
  numV (signR a * signR b * ((sizeR a.n).tdiv 1000 * sizeR b.n + ((sizeR a.n).tmod 1000 * sizeR b.n).tdiv 1000))
def overR (a b : Val) : Val :=
  if a.k = 1 ∧ b.k = 1 ∧ b.n = 0 then beyondR (signR a) else if a.k = 1 ∧ b.k = 1 then numV ((a.n * 1000).tdiv b.n) else if a.k = 1 then numV 0 else
  if b.k = 1 ∧ b.n < 0 then turnedR a else if b.k = 1 then a else nanV
def lessR (a b : Val) : Bool := if a.k = 1 ∧ b.k = 1 then decide (a.n < b.n) else if a.k = b.k then false else decide (a.k = 5 ∨ b.k = 4)
def twoR (op : Bytes) (a b : Val) : Option Val :=
  if op = oAdd ∨ op = oSub ∨ op = oMul ∨ op = oDiv ∨ op = oEq ∨ op = oNe ∨ op = oLt ∨ op = oLe ∨ op = oGt ∨ op = oGe ∨ op = oAnd ∨ op = oOr then
    some (if a.k = 2 ∨ b.k = 2 then nullV else
      if op = oAnd then truthV (trueR a && trueR b) else if op = oOr then truthV (trueR a || trueR b) else
      if op = oEq then truthV (decide (¬ (a.k = 3 ∨ b.k = 3) ∧ a = b)) else if op = oNe then truthV (decide ((a.k = 3 ∨ b.k = 3) ∨ a ≠ b)) else
      if op = oLt then truthV (decide (¬ (a.k = 3 ∨ b.k = 3) ∧ lessR a b = true)) else if op = oLe then truthV (decide (¬ (a.k = 3 ∨ b.k = 3) ∧ lessR b a = false)) else
      if op = oGt then truthV (decide (¬ (a.k = 3 ∨ b.k = 3) ∧ lessR b a = true)) else if op = oGe then truthV (decide (¬ (a.k = 3 ∨ b.k = 3) ∧ lessR a b = false)) else
      if a.k = 3 ∨ b.k = 3 then nanV else if op = oAdd then addR a b else if op = oSub then addR a (turnedR b) else if op = oMul then timesR a b else overR a b)
  else none
def oneR (op : Bytes) (a : Val) : Option Val :=
  if op = oNull then some (truthV (decide (a.k = 2))) else if op = oNan then some (truthV (decide (a.k = 3))) else if op = oInf then some (truthV (decide (a.k = 4 ∨ a.k = 5))) else
  if op = oNum then some (truthV (decide (a.k = 1))) else
  if op = oSub ∨ op = oAbs ∨ op = oFloor ∨ op = oNot then
    some (if a.k = 2 then a else if op = oNot then truthV (!trueR a) else if a.k = 3 then a else if op = oSub ∨ op = oAbs ∧ signR a < 0 then turnedR a else
      if op = oFloor ∧ a.k = 1 then numV (a.n - (if a.n.tmod 1000 < 0 then a.n.tmod 1000 + 1000 else a.n.tmod 1000)) else a)
  else none
def doR (op : Bytes) (l : List Val) : Val × Int :=
  if l.all isV then match (match l with | [a] => oneR op a | [a, b] => twoR op a b | _ => none) with
    | some v => (v, 0)
    | none => (zeroV, 2)
  else (zeroV, 80)
theorem trueR_eq {v : Val} (h : isV v = true) : trueR v = trueV v := by
  rcases isV_cases h with ⟨h, _⟩ | rfl | rfl | rfl | rfl
  · obtain ⟨k, n⟩ := v; simp only at h; subst h; simp [trueR, trueV]
  all_goals decide
theorem signR_eq {v : Val} (h : isV v = true) : signR v = signV v := by
  rcases isV_cases h with ⟨h, _⟩ | rfl | rfl | rfl | rfl
  · obtain ⟨k, n⟩ := v; simp only at h; subst h; simp [signR, signV, rankV, sgn]
  all_goals decide
theorem beyondR_eq (s : Int) : beyondR s = infV s := by
  unfold beyondR infV
  by_cases h : s = 0
  · subst h; decide
  · by_cases h2 : 0 < s
    · rw [if_pos h2, if_neg h, if_pos h2]
    · rw [if_neg h2, if_pos (by omega), if_neg h, if_neg h2]
theorem numV_in {n : Int} (h1 : -1000000000000000 ≤ n) (h2 : n ≤ 1000000000000000) : numV n = ⟨1, n⟩ := by
  unfold numV; rw [if_neg (by omega), if_neg (by omega)]
theorem turnedR_eq {v : Val} (h : isV v = true) (h2 : v ≠ nullV) (h3 : v ≠ nanV) : turnedR v = negV v := by
  rcases isV_cases h with ⟨h, h4, h5⟩ | rfl | rfl | rfl | rfl
  · obtain ⟨k, n⟩ := v; simp only at h h4 h5; subst h
    simp only [turnedR, negV, rankV]
    rw [if_neg (by decide), if_neg (by decide), if_neg (by decide), if_neg (by decide), numV_in (by omega) (by omega)]
  · exact absurd rfl h2
  · exact absurd rfl h3
  all_goals decide
theorem addR_eq (a b : Val) : addR a b = addV a b := by
  unfold addR addV
  by_cases ha : a.k = 1
  · by_cases hb : b.k = 1
    · simp [ha, hb]
    · simp [ha, hb]
  · by_cases hb : b.k = 1
    · simp [ha, hb]
    · by_cases hab : a = b
      · simp [hb, hab]
      · simp [ha, hb, hab]
theorem sizeR_eq (n : Int) : sizeR n = absI n := by unfold sizeR absI; split <;> omega
theorem timesR_eq {a b : Val} (ha : isV a = true) (hb : isV b = true) : timesR a b = mulV a b := by
  unfold timesR mulV
  rw [signR_eq ha, signR_eq hb, beyondR_eq, sizeR_eq, sizeR_eq]
  by_cases h : a.k ≠ 1 ∨ b.k ≠ 1
  · rw [if_pos h, if_pos h]
  · rw [if_neg h, if_neg h]
    obtain ⟨x, hx⟩ : ∃ x : Nat, absI a.n = x := ⟨(absI a.n).toNat, by unfold absI; omega⟩
    obtain ⟨y, hy⟩ : ∃ y : Nat, absI b.n = y := ⟨(absI b.n).toNat, by unfold absI; omega⟩
    rw [hx, hy]
    have e1 : ((x : Int)).tdiv 1000 = ((x / 1000 : Nat) : Int) := by rw [show (1000 : Int) = ((1000 : Nat) : Int) from rfl, ← Int.ofNat_tdiv]
    have e2 : ((x : Int)).tmod 1000 = ((x % 1000 : Nat) : Int) := by rw [show (1000 : Int) = ((1000 : Nat) : Int) from rfl, ← Int.ofNat_tmod]
    rw [e1, e2]
    have e3 : ((x % 1000 : Nat) : Int) * (y : Int) = ((x % 1000 * y : Nat) : Int) := (Int.natCast_mul _ _).symm
    rw [e3]
    have e4 : (((x % 1000 * y : Nat) : Int)).tdiv 1000 = ((x % 1000 * y / 1000 : Nat) : Int) := by rw [show (1000 : Int) = ((1000 : Nat) : Int) from rfl, ← Int.ofNat_tdiv]
    rw [e4]
    have e5 : (x : Int) * (y : Int) / 1000 = ((x * y / 1000 : Nat) : Int) := by rw [← Int.natCast_mul]; rfl
    have e6 : x * y / 1000 = x / 1000 * y + x % 1000 * y / 1000 := by
      have h1 : x * y = 1000 * (x / 1000 * y) + x % 1000 * y := by
        conv => lhs; rw [← Nat.div_add_mod x 1000]
        rw [Nat.add_mul, Nat.mul_assoc]
      rw [h1, Nat.mul_add_div (by decide)]
    have e7 : ((x / 1000 : Nat) : Int) * (y : Int) + ((x % 1000 * y / 1000 : Nat) : Int) = ((x * y / 1000 : Nat) : Int) := by rw [e6, ← Int.natCast_mul, ← Int.natCast_add]
    rw [e5, e7]
    by_cases hw : 0 < x / 1000
    · have e8 : (1000000000000000 : Int).tdiv ((x / 1000 : Nat) : Int) = ((1000000000000000 / (x / 1000) : Nat) : Int) := by rw [show (1000000000000000 : Int) = ((1000000000000000 : Nat) : Int) from rfl, ← Int.ofNat_tdiv]
      rw [e8]
      by_cases hy2 : 1000000000000000 / (x / 1000) < y
      · rw [if_pos ⟨by omega, by omega⟩]
        have : 1000000000000000 < x / 1000 * y := by rw [Nat.mul_comm]; exact (Nat.div_lt_iff_lt_mul hw).1 hy2
        rw [if_pos (by omega)]
      · rw [if_neg (by omega)]
        by_cases hbig : 1000000000000000 < ((x * y / 1000 : Nat) : Int)
        · rw [if_pos hbig]
          exact num_inf hbig (a.n) (b.n) hx hy (signV_num (Decidable.byContradiction fun q => h (.inl q))) (signV_num (Decidable.byContradiction fun q => h (.inr q)))
        · rw [if_neg hbig]
    · rw [if_neg (by omega)]
      by_cases hbig : 1000000000000000 < ((x * y / 1000 : Nat) : Int)
      · rw [if_pos hbig]
        exact num_inf hbig (a.n) (b.n) hx hy (signV_num (Decidable.byContradiction fun q => h (.inl q))) (signV_num (Decidable.byContradiction fun q => h (.inr q)))
      · rw [if_neg hbig]
where
  signV_num {v : Val} (h : v.k = 1) : signV v = sgn v.n := by simp [signV, rankV, h]
  num_inf {x y : Nat} (h : 1000000000000000 < ((x * y / 1000 : Nat) : Int)) (p q : Int) (hx : absI p = x) (hy : absI q = y) {s t : Int} (hs : s = sgn p) (ht : t = sgn q) : numV (s * t * ((x * y / 1000 : Nat) : Int)) = infV (s * t) := by
    subst hs ht
    have hx0 : x ≠ 0 := by rintro rfl; simp at h
    have hy0 : y ≠ 0 := by rintro rfl; simp at h
    have hp : sgn p = 1 ∨ sgn p = -1 := by unfold sgn; unfold absI at hx; split; exact .inl rfl; split; exact .inr rfl; omega
    have hq : sgn q = 1 ∨ sgn q = -1 := by unfold sgn; unfold absI at hy; split; exact .inl rfl; split; exact .inr rfl; omega
    have key : sgn p * sgn q = 1 ∨ sgn p * sgn q = -1 := by rcases hp with h | h <;> rcases hq with h' | h' <;> rw [h, h'] <;> simp
    rcases key with h' | h' <;> rw [h']
    · unfold numV; rw [if_pos (by omega)]; rfl
    · unfold numV; rw [if_neg (by omega), if_pos (by omega)]; rfl
theorem overR_eq {a b : Val} (ha : isV a = true) (h2 : a ≠ nullV) (h3 : a ≠ nanV) : overR a b = divV a b := by
  unfold overR divV
  by_cases h1 : a.k = 1
  · by_cases hb : b.k = 1
    · by_cases hz : b.n = 0
      · have : signR a = sgn a.n := by rw [signR_eq ha]; simp [signV, rankV, h1]
        simp only [h1, hb, hz, beyondR_eq, this]
        simp
        unfold infV sgn
        by_cases h : 0 < a.n
        · simp [h]; omega
        · by_cases h' : a.n < 0
          · simp [h, h']; omega
          · have : a.n = 0 := by omega
            simp [this]
      · simp [h1, hb, hz]
    · simp [h1, hb]
  · by_cases hb : b.k = 1
    · by_cases hz : b.n < 0
      · simp [h1, hb, hz, turnedR_eq ha h2 h3, negV]
      · simp [h1, hb, hz]
    · simp [h1, hb]
theorem num_rank {v : Val} (h : isV v = true) (h2 : v.k ≠ 2) (h3 : v.k ≠ 3) : (v.k = 1 ∧ -1000000000000000 ≤ v.n ∧ v.n ≤ 1000000000000000 ∧ rankV v = v.n) ∨ (v = plusV ∧ rankV v = 1000000000000001) ∨ (v = minusV ∧ rankV v = -1000000000000001) := by
  rcases isV_cases h with ⟨h, h4, h5⟩ | rfl | rfl | rfl | rfl
  · exact .inl ⟨h, h4, h5, by simp [rankV, h]⟩
  · exact absurd rfl h2
  · exact absurd rfl h3
  · exact .inr (.inl ⟨rfl, rfl⟩)
  · exact .inr (.inr ⟨rfl, rfl⟩)
theorem lessR_eq {a b : Val} (ha : isV a = true) (hb : isV b = true) (h2 : a.k ≠ 2) (h3 : a.k ≠ 3) (g2 : b.k ≠ 2) (g3 : b.k ≠ 3) : lessR a b = decide (rankV a < rankV b) := by
  unfold lessR
  rcases num_rank ha h2 h3 with ⟨h, h4, h5, e⟩ | ⟨rfl, e⟩ | ⟨rfl, e⟩ <;> rcases num_rank hb g2 g3 with ⟨h', h6, h7, e'⟩ | ⟨rfl, e'⟩ | ⟨rfl, e'⟩ <;> simp only [e, e']
  · rw [if_pos ⟨h, h'⟩]
  · rw [h]; simp; omega
  · rw [h]; simp; omega
  · rw [h']; simp; omega
  · simp
  · simp
  · rw [h']; simp; omega
  · simp
  · simp
theorem eq_rank {a b : Val} (ha : isV a = true) (hb : isV b = true) (h2 : a.k ≠ 2) (h3 : a.k ≠ 3) (g2 : b.k ≠ 2) (g3 : b.k ≠ 3) : a = b ↔ rankV a = rankV b := by
  constructor
  · rintro rfl; rfl
  · intro he
    rcases num_rank ha h2 h3 with ⟨h, h4, h5, e⟩ | ⟨rfl, e⟩ | ⟨rfl, e⟩ <;> rcases num_rank hb g2 g3 with ⟨h', h6, h7, e'⟩ | ⟨rfl, e'⟩ | ⟨rfl, e'⟩ <;> simp only [e, e'] at he
    · obtain ⟨k, n⟩ := a; obtain ⟨k', n'⟩ := b; simp_all
    all_goals first | rfl | omega
theorem twoR_eq {op : Bytes} {a b : Val} (ha : isV a = true) (hb : isV b = true) : twoR op a b = (twoV op a b).map fun v => if a.k = 2 ∨ b.k = 2 then nullV else v := by
  have hk : ∀ {v : Val}, isV v = true → v.k ≠ 2 → v ≠ nullV := fun _ h e => h (by rw [e])
  have hk3 : ∀ {v : Val}, v.k ≠ 3 → v ≠ nanV := fun h e => h (by rw [e])
  by_cases hn : a.k = 2 ∨ b.k = 2
  · simp only [twoV, twoT, mget, twoR, hn, if_true, Option.map_map]
    by_cases h1 : op = oAdd; · subst h1; rfl
    by_cases h2 : op = oSub; · subst h2; rfl
    by_cases h3 : op = oMul; · subst h3; rfl
    by_cases h4 : op = oDiv; · subst h4; rfl
    by_cases h5 : op = oEq; · subst h5; rfl
    by_cases h6 : op = oNe; · subst h6; rfl
    by_cases h7 : op = oLt; · subst h7; rfl
    by_cases h8 : op = oLe; · subst h8; rfl
    by_cases h9 : op = oGt; · subst h9; rfl
    by_cases h10 : op = oGe; · subst h10; rfl
    by_cases h11 : op = oAnd; · subst h11; rfl
    by_cases h12 : op = oOr; · subst h12; rfl
    rw [if_neg (by simp only [h1, h2, h3, h4, h5, h6, h7, h8, h9, h10, h11, h12, or_self, not_false_eq_true])]
    simp only [h1, h2, h3, h4, h5, h6, h7, h8, h9, h10, h11, h12, if_false, Option.map_none]
  · have hid : (fun v : Val => if a.k = 2 ∨ b.k = 2 then nullV else v) = id := by funext v; rw [if_neg hn]; rfl
    rw [hid, Option.map_id]
    have na : a.k ≠ 2 := fun h => hn (.inl h)
    have nb : b.k ≠ 2 := fun h => hn (.inr h)
    unfold twoV
    by_cases h11 : op = oAnd
    · subst h11; simp [twoR, hn, twoT, mget, trueR_eq ha, trueR_eq hb]
    by_cases h12 : op = oOr
    · subst h12; simp [twoR, hn, twoT, mget, trueR_eq ha, trueR_eq hb]
    by_cases hx : a.k = 3 ∨ b.k = 3
    · by_cases h1 : op = oAdd; · subst h1; simp [twoR, hn, hx, twoT, mget, numbersV]
      by_cases h2 : op = oSub; · subst h2; simp [twoR, hn, hx, twoT, mget, numbersV]
      by_cases h3 : op = oMul; · subst h3; simp [twoR, hn, hx, twoT, mget, numbersV]
      by_cases h4 : op = oDiv; · subst h4; simp [twoR, hn, hx, twoT, mget, numbersV]
      by_cases h5 : op = oEq; · subst h5; simp [twoR, hn, hx, twoT, mget, orderV]
      by_cases h6 : op = oNe; · subst h6; simp [twoR, hn, hx, twoT, mget, orderV]
      by_cases h7 : op = oLt; · subst h7; simp [twoR, hn, hx, twoT, mget, orderV]
      by_cases h8 : op = oLe; · subst h8; simp [twoR, hn, hx, twoT, mget, orderV]
      by_cases h9 : op = oGt; · subst h9; simp [twoR, hn, hx, twoT, mget, orderV]
      by_cases h10 : op = oGe; · subst h10; simp [twoR, hn, hx, twoT, mget, orderV]
      unfold twoR
      rw [if_neg (by simp only [h1, h2, h3, h4, h5, h6, h7, h8, h9, h10, h11, h12, or_self, not_false_eq_true])]
      simp only [twoT, mget, h1, h2, h3, h4, h5, h6, h7, h8, h9, h10, h11, h12, if_false, Option.map_none, id]
    · have xa : a.k ≠ 3 := fun h => hx (.inl h)
      have xb : b.k ≠ 3 := fun h => hx (.inr h)
      have e1 := lessR_eq ha hb na xa nb xb
      have e2 := lessR_eq hb ha nb xb na xa
      have e3 := eq_rank ha hb na xa nb xb
      by_cases h1 : op = oAdd; · subst h1; simp [twoR, hn, hx, twoT, mget, numbersV, addR_eq]
      by_cases h2 : op = oSub; · subst h2; simp [twoR, hn, hx, twoT, mget, numbersV, addR_eq, turnedR_eq hb (hk hb nb) (hk3 xb)]
      by_cases h3 : op = oMul; · subst h3; simp [twoR, hn, hx, twoT, mget, numbersV, timesR_eq ha hb]
      by_cases h4 : op = oDiv; · subst h4; simp [twoR, hn, hx, twoT, mget, numbersV, overR_eq ha (hk ha na) (hk3 xa)]
      by_cases h5 : op = oEq; · subst h5; simp [twoR, hn, hx, twoT, mget, orderV, e3]
      by_cases h6 : op = oNe; · subst h6; simp [twoR, hn, hx, twoT, mget, orderV, e3]
      by_cases h7 : op = oLt; · subst h7; simp [twoR, hn, hx, twoT, mget, orderV, e1]
      by_cases h8 : op = oLe; · subst h8; simp [twoR, hn, hx, twoT, mget, orderV, e2]
      by_cases h9 : op = oGt; · subst h9; simp [twoR, hn, hx, twoT, mget, orderV, e2]
      by_cases h10 : op = oGe; · subst h10; simp [twoR, hn, hx, twoT, mget, orderV, e1]
      unfold twoR
      rw [if_neg (by simp only [h1, h2, h3, h4, h5, h6, h7, h8, h9, h10, h11, h12, or_self, not_false_eq_true])]
      simp only [twoT, mget, h1, h2, h3, h4, h5, h6, h7, h8, h9, h10, h11, h12, if_false, Option.map_none, id]
theorem signR_in (v : Val) : signR v = 1 ∨ signR v = -1 ∨ signR v = 0 := by unfold signR; split <;> (try split) <;> omega
theorem sgnR_mul (a b : Val) : -1 ≤ signR a * signR b ∧ signR a * signR b ≤ 1 := by
  rcases signR_in a with h | h | h <;> rcases signR_in b with h' | h' | h' <;> rw [h, h'] <;> decide
theorem sizeR_in {n : Int} (h : -1000000000000000 ≤ n ∧ n ≤ 1000000000000000) : 0 ≤ sizeR n ∧ sizeR n ≤ 1000000000000000 := by unfold sizeR; split <;> omega
theorem sgn_timesI {s : Int} (hs : -1 ≤ s ∧ s ≤ 1) {n : Int} (hn : 0 ≤ n ∧ n ≤ 4000000000000000) : -4000000000000000 ≤ s * n ∧ s * n ≤ 4000000000000000 := by
  have : s = -1 ∨ s = 0 ∨ s = 1 := by omega
  rcases this with h | h | h <;> subst h <;> omega
theorem times_small {x y : Int} (hx : 0 ≤ x ∧ x ≤ 1000000000000000) (hy : 0 ≤ y ∧ y ≤ 1000000000000000) (h : ¬ (0 < x.tdiv 1000 ∧ (1000000000000000 : Int).tdiv (x.tdiv 1000) < y)) :
    (0 ≤ x.tdiv 1000 * y ∧ x.tdiv 1000 * y ≤ 1000000000000000) ∧ (0 ≤ x.tmod 1000 * y ∧ x.tmod 1000 * y ≤ 999000000000000000 ∧ 0 ≤ (x.tmod 1000 * y).tdiv 1000 ∧ (x.tmod 1000 * y).tdiv 1000 ≤ 999000000000000) ∧ (0 ≤ x.tdiv 1000 * y + (x.tmod 1000 * y).tdiv 1000 ∧ x.tdiv 1000 * y + (x.tmod 1000 * y).tdiv 1000 ≤ 4000000000000000) := by
  obtain ⟨X, rfl⟩ := Int.eq_ofNat_of_zero_le hx.1
  obtain ⟨Y, rfl⟩ := Int.eq_ofNat_of_zero_le hy.1
  have e1 : ((X : Int)).tdiv 1000 = ((X / 1000 : Nat) : Int) := by rw [show (1000 : Int) = ((1000 : Nat) : Int) from rfl, ← Int.ofNat_tdiv]
  have e2 : ((X : Int)).tmod 1000 = ((X % 1000 : Nat) : Int) := by rw [show (1000 : Int) = ((1000 : Nat) : Int) from rfl, ← Int.ofNat_tmod]
  have m : X % 1000 * Y ≤ 999 * 1000000000000000 := Nat.mul_le_mul (by omega) (by omega)
  have p : X / 1000 * Y ≤ 1000000000000000 := by
    rcases Nat.eq_zero_or_pos (X / 1000) with h0 | h0
    · rw [h0]; omega
    · have h2 : ¬ (1000000000000000 : Int).tdiv ((X : Int).tdiv 1000) < (Y : Int) := fun q => h ⟨by rw [e1]; omega, q⟩
      rw [e1, show (1000000000000000 : Int) = ((1000000000000000 : Nat) : Int) from rfl, ← Int.ofNat_tdiv] at h2
      have h3 : Y ≤ 1000000000000000 / (X / 1000) := by omega
      calc X / 1000 * Y ≤ X / 1000 * (1000000000000000 / (X / 1000)) := Nat.mul_le_mul_left _ h3
        _ ≤ 1000000000000000 := Nat.mul_div_le _ _
  rw [e1, e2, ← Int.natCast_mul, ← Int.natCast_mul, show (1000 : Int) = ((1000 : Nat) : Int) from rfl, ← Int.ofNat_tdiv]
  omega
theorem floor_eq (n : Int) : (n.tmod 1000 + 1000).tmod 1000 = if n.tmod 1000 < 0 then n.tmod 1000 + 1000 else n.tmod 1000 := by
  have h1 : n.tmod 1000 < 1000 := Int.tmod_lt_of_pos _ (by decide)
  have h2 : -1000 < n.tmod 1000 := Int.lt_tmod_of_pos _ (by decide)
  split
  · rw [Int.tmod_eq_of_lt (by omega) (by omega)]
  · rw [Int.tmod_eq_emod_of_nonneg (by omega)]; omega
theorem oneR_eq {op : Bytes} {a : Val} (ha : isV a = true) : oneR op a = oneV op a := by
  unfold oneV
  by_cases h1 : op = oNull; · subst h1; simp [oneR, oneT, mget]
  by_cases h2 : op = oNan; · subst h2; simp [oneR, oneT, mget]
  by_cases h3 : op = oInf; · subst h3; simp [oneR, oneT, mget]
  by_cases h4 : op = oNum; · subst h4; simp [oneR, oneT, mget]
  by_cases h5 : op = oNot; · subst h5; simp [oneR, oneT, mget, notV, trueR_eq ha]
  by_cases h6 : op = oSub
  · subst h6
    show _ = some (plainV _ a)
    simp only [oneR, plainV]
    by_cases n2 : a.k = 2; · simp [n2]
    by_cases n3 : a.k = 3; · simp [n3]
    simp [n2, n3, turnedR_eq ha (fun e => n2 (by rw [e])) (fun e => n3 (by rw [e])), negV]
  by_cases h7 : op = oAbs
  · subst h7
    show _ = some (plainV (fun n => max n (-n)) a)
    simp only [oneR, plainV]
    by_cases n2 : a.k = 2; · simp [n2]
    by_cases n3 : a.k = 3; · simp [n3]
    simp [n2, n3, turnedR_eq ha (fun e => n2 (by rw [e])) (fun e => n3 (by rw [e])), signR_eq ha]
    rcases num_rank ha n2 n3 with ⟨h, h4, h5, e⟩ | ⟨rfl, e⟩ | ⟨rfl, e⟩
    · simp only [signV, e, negV]
      by_cases hl : a.n < 0
      · rw [if_pos (by unfold sgn; rw [if_neg (by omega), if_pos hl]; decide)]; congr 1; omega
      · rw [if_neg (by unfold sgn; split <;> (try split) <;> omega), show max a.n (-a.n) = a.n by omega, numV_in h4 h5]
        obtain ⟨k, n⟩ := a; simp_all
    · decide
    · decide
  by_cases h8 : op = oFloor
  · subst h8
    show _ = some (floorV a)
    simp only [oneR, floorV]
    by_cases n1 : a.k = 1
    · simp [n1, floor_eq]
    · simp [n1]
  simp [oneR, oneT, mget, h1, h2, h3, h4, h5, h6, h7, h8]
theorem doR_eq (op : Bytes) (l : List Val) : doR op l = doV op l := by
  unfold doR doV
  by_cases hl : l.all isV = true
  · rw [if_pos hl, if_pos hl]
    match l, hl with
    | [], _ => rfl
    | [a], hl =>
      have ha : isV a = true := by simpa using hl
      dsimp only
      rw [oneR_eq ha]
      first | done | (cases oneV op a <;> rfl)
    | [a, b], hl =>
      have hab : isV a = true ∧ isV b = true := by simpa using hl
      dsimp only
      rw [twoR_eq hab.1 hab.2]
      cases twoV op a b with
      | none => rfl
      | some v =>
        simp only [Option.map_some]
        split <;> rfl
    | _ :: _ :: _ :: _, _ => rfl
  · rw [if_neg hl, if_neg hl]
end Go.KX
namespace Go.KX
abbrev nI (n : Int) : SV := .v (.int .i64 n)
abbrev bS (b : Bool) : SV := .v (.bool b)
abbrev vS (v : Val) : SV := .a [.v (.int .i64 v.k), .v (.int .i64 v.n)]
theorem sgn_mm (n : Int) : min (max n (-1)) 1 = sgn n := by unfold sgn; split <;> (try split) <;> omega
theorem inf_mm {n : Int} (h : ¬ n = 0) : numV (min (max n (-1)) 1 * 1000000000000001) = infV n := by
  rw [sgn_mm]
  unfold infV sgn
  rw [if_neg h]
  by_cases h1 : 0 < n
  · rw [if_pos h1, if_pos h1]; rfl
  · rw [if_neg h1, if_pos (by omega), if_neg h1]; rfl
end Go.KX
namespace Go.KX
/-- The index of the first that answers, or -1. -/
def idxF {α : Type} (p : α → Bool) : List α → Int
  | [] => -1
  | x :: r => if p x then 0 else if idxF p r < 0 then -1 else idxF p r + 1
theorem idxF_ge {α : Type} (p : α → Bool) : ∀ l : List α, -1 ≤ idxF p l
  | [] => by simp [idxF]
  | x :: r => by have := idxF_ge p r; unfold idxF; split <;> (try split) <;> omega
theorem idxF_none {α : Type} {p : α → Bool} : ∀ {l : List α}, (∀ x ∈ l, p x = false) → idxF p l = -1
  | [], _ => rfl
  | x :: r, h => by
    unfold idxF
    rw [idxF_none (fun y hy => h y (.tail _ hy)), if_neg (by simp [h x (.head _)])]
    rfl
theorem idxF_some {α : Type} {p : α → Bool} : ∀ {l : List α} {j : Nat} (hj : j < l.length), (∀ x ∈ l.take j, p x = false) → p l[j] = true → idxF p l = j
  | [], j, hj, _, _ => by simp at hj
  | x :: r, 0, hj, _, h => by unfold idxF; simp at h; simp [h]
  | x :: r, j + 1, hj, h0, h => by
    have hj' : j < r.length := by simpa using hj
    have e := idxF_some (l := r) hj' (fun y hy => h0 y (by simp [hy])) (by simpa using h)
    unfold idxF
    rw [if_neg (by simp [h0 x (by simp)]), e]
    rw [if_neg (by omega)]; simp
theorem idxF_any {α : Type} (p : α → Bool) : ∀ l : List α, decide (0 ≤ idxF p l) = l.any p
  | [] => rfl
  | x :: r => by
    have h := idxF_any p r
    have h2 := idxF_ge p r
    unfold idxF
    rw [List.any_cons, ← h]
    by_cases hp : p x = true
    · rw [if_pos hp, hp]; rfl
    · rw [if_neg hp, Bool.eq_false_iff.2 hp]
      by_cases h0 : idxF p r < 0
      · rw [if_pos h0]; simp; omega
      · rw [if_neg h0]; simp; omega
theorem take_next {α : Type} {P : α → Prop} {l : List α} {j : Nat} (hj : j < l.length) (h : ∀ x ∈ l.take j, P x) (h2 : P l[j]) : ∀ x ∈ l.take (j + 1), P x := by
  intro x hx
  rw [List.take_succ_eq_append_getElem hj] at hx
  rcases List.mem_append.1 hx with h1 | h1
  · exact h x h1
  · simp at h1; exact h1 ▸ h2
/-- The row of an element. -/
theorem row_at {α : Type} (f : α → List SV) {l : List α} {j : Nat} (hj : j < l.length) : (l.map f)[((j : Nat) : Int).toNat]? = some (f l[j]) := by
  simp [hj]
abbrev rI (l : List Int) : SV := .s 1 (l.map fun n => [nI n])
abbrev rV (l : List Val) : SV := .s 2 (l.map fun v => [nI v.k, nI v.n])
theorem isV_n {v : Val} (h : isV v = true) : -1000000000000000 ≤ v.n ∧ v.n ≤ 1000000000000000 := by
  rcases isV_cases h with ⟨_, h1, h2⟩ | rfl | rfl | rfl | rfl
  · exact ⟨h1, h2⟩
  all_goals decide
theorem rank_in {v : Val} (h : isV v = true) : -1000000000000001 ≤ rankV v ∧ rankV v ≤ 1000000000000001 := by
  have := isV_n h
  unfold rankV
  split <;> (try split) <;> omega
theorem tmod_lt (n : Int) : -1000 < n.tmod 1000 ∧ n.tmod 1000 < 1000 := ⟨Int.lt_tmod_of_pos _ (by decide), Int.tmod_lt_of_pos _ (by decide)⟩
theorem quo_in {a b : Int} (h1 : -9000000000000000000 ≤ a) (h2 : a ≤ 9000000000000000000) : IntKind.wrap .i64 (a.tdiv b) = a.tdiv b := by
  have := Int.natAbs_tdiv_le_natAbs a b
  exact wrap_i64 (by omega) (by omega)
theorem sgn_cases (n : Int) : sgn n = 1 ∨ sgn n = -1 ∨ sgn n = 0 := by unfold sgn; split <;> (try split) <;> omega
theorem sgn_mul (a b : Val) : -1 ≤ signV a * signV b ∧ signV a * signV b ≤ 1 := by
  unfold signV
  rcases sgn_cases (rankV a) with h | h | h <;> rcases sgn_cases (rankV b) with h' | h' | h' <;> rw [h, h'] <;> decide
theorem sgn_times {s : Int} (hs : -1 ≤ s ∧ s ≤ 1) {n : Nat} (hn : n ≤ 1000000000000000) : -1000000000000000 ≤ s * (n : Int) ∧ s * (n : Int) ≤ 1000000000000000 := by
  have : s = -1 ∨ s = 0 ∨ s = 1 := by omega
  rcases this with h | h | h <;> subst h <;> omega
theorem abs_sgn {v : Val} (h : v.k = 1) {A : Nat} (hA : absI v.n = A) : v.n * signV v = A := by
  have : signV v = sgn v.n := by simp [signV, rankV, h]
  rw [this, ← hA]
  unfold sgn absI
  split
  · omega
  · split <;> omega
theorem mul_split {a b : Val} (ha : a.k = 1) (hb : b.k = 1) {A B : Nat} (hA : absI a.n = A) (hB : absI b.n = B) : mulV a b = if 1000000000000000 < ((A * B / 1000 : Nat) : Int) then infV (signV a * signV b) else numV (signV a * signV b * ((A * B / 1000 : Nat) : Int)) := by
  unfold mulV
  rw [if_neg (by simp [ha, hb]), hA, hB, show (A : Int) * (B : Int) / 1000 = ((A * B / 1000 : Nat) : Int) by rw [← Int.natCast_mul]; rfl]
theorem times_in {x y : Int} (hx : 0 ≤ x ∧ x ≤ 1000000000000000) (_ : 0 ≤ y ∧ y ≤ 1000000000000000) : IntKind.wrap .i64 (x.tdiv 1000) = x.tdiv 1000 ∧ True := ⟨quo_in (by omega) (by omega), trivial⟩
end Go.KX
namespace Go.KX
/-- The three digits behind the point, without noughts at the end. -/
def fracV (r : Nat) : Bytes := if r = 0 then [] else 46 :: Lib.trimRightB ((Lib.decDigits (1000 + r)).drop 1) 48
def magV (n : Nat) : Bytes := Lib.decDigits (n / 1000) ++ fracV (n % 1000)
def printV (v : Val) : Bytes :=
  if isV v = false then [] else if v.k = 2 then [110, 117, 108, 108] else if v.k = 3 then [78, 97, 78] else if v.k = 4 then [43, 73, 110, 102] else if v.k = 5 then [45, 73, 110, 102] else
  if v.n < 0 then 45 :: magV v.n.natAbs else magV v.n.natAbs
theorem dec_one {n : Nat} (h : n < 10) : Lib.decDigits n = (([48, 49, 50, 51, 52, 53, 54, 55, 56, 57] : Bytes).drop n).take 1 := by
  rw [Lib.decDigits_one h]
  have : n = 0 ∨ n = 1 ∨ n = 2 ∨ n = 3 ∨ n = 4 ∨ n = 5 ∨ n = 6 ∨ n = 7 ∨ n = 8 ∨ n = 9 := by omega
  rcases this with rfl | rfl | rfl | rfl | rfl | rfl | rfl | rfl | rfl | rfl <;> rfl
theorem dec_more {n : Nat} (h : ¬ n < 10) : Lib.decDigits n = Lib.decDigits (n / 10) ++ (([48, 49, 50, 51, 52, 53, 54, 55, 56, 57] : Bytes).drop (n % 10)).take 1 := by
  rw [← dec_one (show n % 10 < 10 by omega), Lib.decDigits_one (show n % 10 < 10 by omega)]
  conv => lhs; rw [Lib.decDigits]
  rw [dif_neg h]
theorem dec_len {n : Nat} (h : n < 10000000000000000) : (Lib.decDigits n).length ≤ 20 := by
  have key : ∀ (k n : Nat), n < 10 ^ (k + 1) → (Lib.decDigits n).length ≤ k + 1 := by
    intro k
    induction k with
    | zero => intro n hn; rw [Lib.decDigits_one (by simpa using hn)]; simp
    | succ k ih =>
      intro n hn
      by_cases h10 : n < 10
      · rw [Lib.decDigits_one h10]; simp
      · rw [dec_more h10, List.length_append]
        have := ih (n / 10) (by rw [Nat.pow_succ] at hn; omega)
        have h2 : ((([48, 49, 50, 51, 52, 53, 54, 55, 56, 57] : Bytes).drop (n % 10)).take 1).length ≤ 1 := by rw [List.length_take]; omega
        omega
  exact Nat.le_trans (key 15 n (by omega)) (by omega)
theorem dec4 {r : Nat} (h : r < 1000) : (Lib.decDigits (1000 + r)).drop 1 = [UInt8.ofNat (48 + r / 100), UInt8.ofNat (48 + r / 10 % 10), UInt8.ofNat (48 + r % 10)] := by
  rw [Lib.decDigits, dif_neg (by omega), Lib.decDigits, dif_neg (by omega), Lib.decDigits_two (by omega) (by omega)]
  simp only [List.cons_append, List.nil_append, List.drop_succ_cons, List.drop_zero]
  rw [show (1000 + r) / 10 / 10 % 10 = r / 100 by omega, show (1000 + r) / 10 % 10 = r / 10 % 10 by omega, show (1000 + r) % 10 = r % 10 by omega]
theorem dropW_nil {p : UInt8 → Bool} : ∀ {l : Bytes}, l.dropWhile p = [] → ∀ x ∈ l, p x = true
  | [], _, x, hx => by cases hx
  | y :: r, h, x, hx => by
    unfold List.dropWhile at h
    split at h
    · cases hx with
      | head => assumption
      | tail _ hm => exact dropW_nil h x hm
    · cases h
theorem dig_nz {d : Nat} (h : d < 10) (h2 : UInt8.ofNat (48 + d) = 48) : d = 0 := by
  have := congrArg UInt8.toNat h2
  simp at this
  omega
theorem frac_ne {r : Nat} (h0 : r ≠ 0) (h : r < 1000) : Lib.trimRightB ((Lib.decDigits (1000 + r)).drop 1) 48 ≠ [] := by
  rw [dec4 h, Lib.trimRightB]
  intro hn
  have hn := List.reverse_eq_nil_iff.1 hn
  have hn := dropW_nil hn
  have a1 := dig_nz (d := r / 100) (by omega) (by simpa using hn (UInt8.ofNat (48 + r / 100)) (by simp))
  have a2 := dig_nz (d := r / 10 % 10) (by omega) (by simpa using hn (UInt8.ofNat (48 + r / 10 % 10)) (by simp))
  have a3 := dig_nz (d := r % 10) (by omega) (by simpa using hn (UInt8.ofNat (48 + r % 10)) (by simp))
  omega
theorem print_pos {n : Int} (h0 : 0 ≤ n) (h1 : n ≤ 1000000000000000) : printV ⟨1, n⟩ = magV n.natAbs := by
  unfold printV
  rw [if_neg (by unfold isV; simp; omega), if_neg (by simp), if_neg (by simp), if_neg (by simp), if_neg (by simp), if_neg (by simp; omega)]
theorem trim_len (l : Bytes) : (Lib.trimRightB l 48).length ≤ l.length := by
  unfold Lib.trimRightB
  rw [List.length_reverse]
  have := (List.dropWhile_sublist (fun x : UInt8 => x == 48) (l := l.reverse)).length_le
  simpa using this
end Go.KX
namespace Go.KX
/-- A tree: its kind, name, value, kids. -/
inductive Ex where
  | mk (k : Int) (name : Bytes) (v : Val) (kids : List Ex)
namespace Ex
def kind : Ex → Int | .mk k _ _ _ => k
def name : Ex → Bytes | .mk _ n _ _ => n
def val : Ex → Val | .mk _ _ v _ => v
def kids : Ex → List Ex | .mk _ _ _ l => l
end Ex
abbrev ex0 : Ex := .mk 0 [] zeroV []
abbrev exN (v : Val) : Ex := .mk 1 [] v []
abbrev exR (n : Bytes) : Ex := .mk 2 n zeroV []
abbrev exC (n : Bytes) (l : List Ex) : Ex := .mk 3 n zeroV l
abbrev gDig : Bytes := [48, 49, 50, 51, 52, 53, 54, 55, 56, 57]
abbrev gGreat : Bytes := [65, 66, 67, 68, 69, 70, 71, 72, 73, 74, 75, 76, 77, 78, 79, 80, 81, 82, 83, 84, 85, 86, 87, 88, 89, 90]
abbrev gLet : Bytes := [97, 98, 99, 100, 101, 102, 103, 104, 105, 106, 107, 108, 109, 110, 111, 112, 113, 114, 115, 116, 117, 118, 119, 120, 121, 122, 95, 65, 66, 67, 68, 69, 70, 71, 72, 73, 74, 75, 76, 77, 78, 79, 80, 81, 82, 83, 84, 85, 86, 87, 88, 89, 90]
abbrev gLD : Bytes := [97, 98, 99, 100, 101, 102, 103, 104, 105, 106, 107, 108, 109, 110, 111, 112, 113, 114, 115, 116, 117, 118, 119, 120, 121, 122, 95, 65, 66, 67, 68, 69, 70, 71, 72, 73, 74, 75, 76, 77, 78, 79, 80, 81, 82, 83, 84, 85, 86, 87, 88, 89, 90, 48, 49, 50, 51, 52, 53, 54, 55, 56, 57]
/-- How many bytes, from the front, are among some. -/
def runB (g : Bytes) : Bytes → Nat
  | [] => 0
  | c :: r => if c ∈ g then runB g r + 1 else 0
abbrev oPL : Bytes := [40]
abbrev oPR : Bytes := [41]
def signsT : List Bytes := [oOr, oAnd, oEq, oNe, oLe, oGe, oLt, oGt, oAdd, oSub, oMul, oDiv, oNot, oPL, oPR]
def levelsT : List (List Bytes) := [[oOr], [oAnd], [oEq, oNe, oLe, oGe, oLt, oGt], [oAdd, oSub], [oMul, oDiv]]
/-- Where a parser stands: a place, the first error, its place, whether there is one. -/
structure Ps where
  i : Nat
  err : Int
  at_ : Int
  dead : Bool
  deriving DecidableEq
namespace Ps
def fails (p : Ps) (e a : Int) : Ps := if p.dead then p else ⟨p.i, e, a, true⟩
def restP (s : Bytes) (p : Ps) : Ps := if p.dead then p else { p with i := p.i + runB [32] (s.drop p.i) }
def restT (s : Bytes) (p : Ps) : Bytes := if p.dead then [] else s.drop (p.restP s).i
end Ps
def firstSign (r : Bytes) : Option Bytes := signsT.find? fun x => Lib.hasPrefix r x
def takeT (s : Bytes) (l : List Bytes) (p : Ps) : Option Bytes := match firstSign (p.restT s) with
  | some x => if x ∈ l then some x else none
  | none => none
def takeP (s : Bytes) (l : List Bytes) (p : Ps) : Ps := match takeT s l p with
  | some x => { p.restP s with i := (p.restP s).i + x.length }
  | none => p.restP s
def mustP (s : Bytes) (x : Bytes) (p : Ps) : Ps := match takeT s [x] p with
  | some _ => takeP s [x] p
  | none => (takeP s [x] p).fails 110 (takeP s [x] p).i
def enterP (s : Bytes) (deep : Nat) (p : Ps) : Ps := if 32 < deep then (p.restP s).fails 111 (p.restP s).i else p.restP s
/-- Operands with operators between; tk: takes one of some signs. -/
def loopG {σ : Type} (tk : List Bytes → σ → Option Bytes × σ) (sub : σ → Ex × σ) (ops : List Bytes) (alone : Bool) : Nat → Ex → σ → Ex × σ
  | 0, x, p => (x, p)
  | n + 1, x, p => match (tk ops p).1 with
    | none => (x, (tk ops p).2)
    | some o => match alone with
      | true => (exC o [x, (sub (tk ops p).2).1], (sub (tk ops p).2).2)
      | false => loopG tk sub ops alone n (exC o [x, (sub (tk ops p).2).1]) (sub (tk ops p).2).2
/-- Level l and the tighter ones: five, four, .. of them. -/
def levG {σ : Type} (tk : List Bytes → σ → Option Bytes × σ) (fuel : Nat) (u : σ → Ex × σ) : Nat → σ → Ex × σ
  | 0, p => u p
  | n + 1, p => loopG tk (levG tk fuel u n) (levelsT.getD (4 - n) []) (n == 2) fuel (levG tk fuel u n p).1 (levG tk fuel u n p).2
abbrev tkX (s : Bytes) (l : List Bytes) (p : Ps) : Option Bytes × Ps := (takeT s l p, takeP s l p)
abbrev levX (s : Bytes) (u : Ps → Ex × Ps) : Nat → Ps → Ex × Ps := levG (tkX s) (s.length + 1) u
def exprX (s : Bytes) (u : Ps → Ex × Ps) (deep : Nat) (p : Ps) : Ex × Ps := levX s u 5 (enterP s deep p)
def functionB (w : Bytes) : Bool := decide (w ∈ [oAbs, oFloor, oNull, oNan, oInf, oNum])
def refB (w : Bytes) : Bool := match w with
  | [] => false
  | c :: _ => decide (w.length ≤ 16) && decide (c ∈ gGreat) && decide (runB gLD w = w.length)
/-- How long a number is. -/
def numLen (r : Bytes) : Nat := if runB gDig r + 1 < r.length ∧ r.getD (runB gDig r) 0 = 46 ∧ 0 < runB gDig (r.drop (runB gDig r + 1)) then runB gDig r + 1 + runB gDig (r.drop (runB gDig r + 1)) else runB gDig r
section
variable (pv : Bytes → Val × Int) (s : Bytes)
def numberX (r : Bytes) (p : Ps) : Ex × Ps :=
  (exN (pv (r.take (numLen r))).1, { (if (pv (r.take (numLen r))).2 = 0 then p else p.fails 110 p.i) with i := p.i + numLen r })
abbrev wNull : Bytes := [110, 117, 108, 108]
abbrev wNan : Bytes := [110, 97, 110]
abbrev wInf : Bytes := [105, 110, 102]
def parX (ex : Ps → Ex × Ps) (p : Ps) : Ex × Ps := ((ex p).1, mustP s oPR (ex p).2)
def wordX (ex : Ps → Ex × Ps) (r : Bytes) (p : Ps) : Ex × Ps :=
  let w := r.take (runB gLD r)
  let p1 : Ps := { p with i := p.i + w.length }
  if w = wNull then (exN nullV, p1) else if w = wNan then (exN nanV, p1) else if w = wInf then (exN plusV, p1) else
  (exC w [(parX s ex (mustP s oPL (if functionB w then p1 else p1.fails 110 p.i))).1], (parX s ex (mustP s oPL (if functionB w then p1 else p1.fails 110 p.i))).2)
def refX (r : Bytes) (p : Ps) : Ex × Ps :=
  let w := (r.drop 1).take (runB gLD (r.drop 1))
  (exR w, { (if refB w then p else p.fails 110 p.i) with i := p.i + (1 + w.length) })
/-- What no operator parts; ex: an expression, one deeper. -/
def primX (ex : Ps → Ex × Ps) (p0 : Ps) : Ex × Ps :=
  let p := p0.restP s
  match p0.dead, p0.restT s with
  | true, _ => (ex0, p)
  | false, [] => (ex0, p.fails 110 p.i)
  | false, c :: r => if c = 40 then parX s ex { p with i := p.i + 1 } else if c = 36 then refX (c :: r) p else if c ∈ gDig then numberX pv (c :: r) p else if c ∈ gLet then wordX s ex (c :: r) p else (ex0, p.fails 110 p.i)
/-- An operand with signs ahead of it; d: how much deeper it may go. -/
def unX : Nat → Ps → Ex × Ps
  | 0, p => primX pv s (fun q => (ex0, q)) (takeP s [oSub, oNot] (enterP s 33 p))
  | d + 1, p => match takeT s [oSub, oNot] (enterP s (32 - d) p) with
    | some o => (exC o [(unX d (takeP s [oSub, oNot] (enterP s (32 - d) p))).1], (unX d (takeP s [oSub, oNot] (enterP s (32 - d) p))).2)
    | none => primX pv s (exprX s (unX d) (33 - d)) (takeP s [oSub, oNot] (enterP s (32 - d) p))
/-- The tree of a text; an error, its place. -/
def parseX : Ex × Int × Int :=
  if 1024 < s.length then (ex0, 1, 0) else
  let r := exprX s (unX pv s 33) 0 ⟨0, 0, 0, false⟩
  let q := r.2.restP s
  let q2 := if r.2.restT s = [] then q else q.fails 110 q.i
  if q2.dead then (ex0, q2.err, q2.at_) else (r.1, 0, 0)
end
end Go.KX
