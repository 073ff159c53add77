/- XM XN XO XP PV YA YB PZ PP PD PQ PT XQ. -/
import Derived.Test.YtomkgfdigldhcaaGreatDoorLFC
import Derived.Lib.LaidTab
import Derived.Below
import Derived.Sort.Grow
import Derived.Lib.ItoaNum
import Derived.Lib.TrimByte
import Derived.Lib.ParseIntB
import Derived.Lib.IndexMore
import Derived.Lib.Strings
import Derived.Lib.Repeat
import Derived.Lib.IndexBytes
namespace Go.KX
section
variable {X : Kx} {k : List It} {L : SL} {M : SM} {fs : List MF} {own : List Res} {arr : Array Oper} {l : List Oper} {o : Oper}
theorem bareS_agree {L L' : SL} {x : Operand} (h : ∀ t, tmpOf x = some t → lkS L' t = lkS L t) : bareS (lkS L') x = bareS (lkS L) x := by
  cases x with
  | tmp t => simp only [bareS, evS, h t rfl]
  | const v => cases v <;> rfl
  | _ => rfl
/-- A store, whatever else is known. -/
theorem Stp_store {tb : TT} (hT : tb.Ok X.P) {M' φ L2} (hg : o.guard = none) {T x y} (hop : o.op = .store T x y) (hx : xeff tb L M o.dst o.op = some (L2, M', φ)) (hφ : ∀ p ∈ φ, p) (sv : SV) : Stp X arr o L M fs own sv M' := by
  intro L' hL g a hE
  have hd : o.dst = none := by
    cases hd : o.dst with
    | none => rfl
    | some d => simp only [hop, hd, xeff] at hx; cases hx
  have hsl : ∀ t, (tmpOf x = some t ∨ tmpOf y = some t) → lkS L' t = lkS L t := by
    intro t ht
    refine hL t ?_
    have : t ∈ o.op.operands.toList.filterMap tmpOf := by
      rw [hop]
      simp only [Op.operands]
      show t ∈ List.filterMap tmpOf [x, y]
      rw [List.mem_filterMap]
      rcases ht with ht | ht
      · exact ⟨x, .head _, ht⟩
      · exact ⟨y, .tail _ (.head _), ht⟩
    exact List.mem_append_left _ this
  have hx' : xeff tb L' M o.dst o.op = some (L', M', φ) := by
    simp only [hop, hd, xeff, bareS_agree (fun t h => hsl t (.inl h)), bareS_agree (fun t h => hsl t (.inr h))] at hx ⊢
    split at hx
    · split at hx
      · split at hx
        · obtain ⟨h1, h2⟩ := putK_ok hx
          have upd : ∀ {M : SM} {i : Nat} {mb : MB} {K : SM → Option (SL × SM × List Prop)} {r}, updK M i mb K = some r → ∃ M1, ∀ {K' : SM → Option (SL × SM × List Prop)}, updK M i mb K' = K' M1 := by
            intro M i mb
            induction M with
            | nil => intro K r h; cases h
            | cons p M ih =>
              intro K r h
              obtain ⟨j, m⟩ := p
              simp only [updK] at h ⊢
              cases hb : Nat.beq i j with
              | true => exact ⟨_, fun {K'} => rfl⟩
              | false =>
                rw [hb] at h
                obtain ⟨M1, h1⟩ := ih h
                exact ⟨(j, m) :: M1, fun {K'} => h1⟩
          have put : ∀ {cs : List SV} {off : Nat} {ns : List SV} {K : List SV → Option (SL × SM × List Prop)} {r}, putK cs off ns K = some r → ∀ {K' : List SV → Option (SL × SM × List Prop)}, putK cs off ns K' = K' (cs.take off ++ ns ++ cs.drop (off + ns.length)) := by
            intro cs
            induction cs with
            | nil =>
              intro off ns K r h K'
              cases off with
              | zero => cases ns with
                | nil => rfl
                | cons _ _ => cases h
              | succ _ => cases h
            | cons c cs ih =>
              intro off ns K r h K'
              cases off with
              | zero =>
                cases ns with
                | nil => simp [putK]
                | cons n ns =>
                  have := ih (off := 0) (ns := ns) (K := fun r => K (n :: r)) h (K' := fun r => K' (n :: r))
                  simp only [putK]
                  rw [this]
                  have e : 0 + (n :: ns).length = 0 + ns.length + 1 := by simp
                  rw [e]; simp
              | succ off =>
                have := ih (off := off) (ns := ns) (K := fun r => K (c :: r)) h (K' := fun r => K' (c :: r))
                simp only [putK]
                rw [this]
                have e : off + 1 + ns.length = off + ns.length + 1 := by omega
                rw [e]; simp
          obtain ⟨M1, hM1⟩ := upd h2
          rw [hM1] at h2
          rw [put hx, hM1]
          simp only [Option.some.injEq, Prod.mk.injEq] at h2 ⊢
          exact ⟨trivial, h2.2⟩
        · cases hx
      · cases hx
    · cases hx
  have := ES_eff (l := []) (arr := arr) (k := [.lp fun a' w' => ∃ g', g'.w = w' ∧ ESt X L' M' fs own g' a']) hT hg (fun d h => by rw [hd] at h; cases h) hx' hφ (fun g' a' h => ⟨g', rfl, h⟩) g a hE
  have h2 : opQ X.P arr o (fun a' w' => ∃ g', g'.w = w' ∧ ESt X L' M' fs own g' a') a g.w := this
  rw [hd]
  exact h2
/-- Does it read nothing that a store may change? -/
def freeOp (e : Nat → Option SV) : Op → Bool
  | .load _ x => match evS e x with
    | some (.p _) => true
    | some (.g _ (.p _)) => true
    | _ => false
  | _ => true
theorem xread_free {tb : TT} {e : Nat → Option SV} {M M' : SM} {op : Op} (h : freeOp e op = true) : xread tb e M op = xread tb e M' op := by
  unfold xread
  split
  · rename_i svs hsv
    rw [stK_eq, stK_eq]
    have : xopv tb M op (svs.map st1) = xopv tb M' op (svs.map st1) := by
      cases op with
      | load T x =>
        simp only [freeOp] at h
        have hs : evs e [x] = some svs := hsv
        unfold evs at hs
        split at hs
        · rename_i v hv
          rw [hv] at h
          simp only [evs, Option.some.injEq] at hs
          subst hs
          show xLoad tb M T [st1 v] = xLoad tb M' T [st1 v]
          split at h
          · rename_i cs he; cases he; rfl
          · rename_i b cs he; cases he; rfl
          · cases h
        · cases hs
      | unOp u T x => cases u <;> rfl
      | makeFunc fn a b => cases fn <;> rfl
      | call c =>
        obtain ⟨callee, az, ts⟩ := c
        cases callee with
        | builtin b => cases b <;> rfl
        | _ => rfl
      | _ => rfl
    rw [this]
  · rfl
theorem xrd_free {tb : TT} {e : Nat → Option SV} {M M' : SM} {H : List (List SV)} {op : Op} (h : freeOp e op = true) : xrd tb e M H op = xrd tb e M' H op := by
  unfold xrd
  split <;> first | rfl | exact xread_free h
theorem xst_free {tb : TT} {e : Nat → Option SV} {M M' : SM} {H : List (List SV)} {op : Op} (h : freeOp e op = true) : xst tb e M H op = xst tb e M' H op := by
  unfold xst
  split <;> first | rfl | exact xrd_free h
/-- m operations of the order π; p: how many stores were ahead. -/
def xdrw (tb : TT) (n : Nat) (arr : Array Oper) (un : Nat) (D : List Nat) : Nat → List (List SV) → List Nat → SL → SM → List SM → List Prop → Option (List Nat × SL × SM × List SM × List Prop)
  | 0, _, π, L, M, Ms, acc => some (π, L, M, Ms, acc)
  | _ + 1, _, [], _, _, _, _ => none
  | m + 1, H, i :: r, L, M, Ms, acc => match arr[i]? with
    | none => none
    | some o => match gS arr (lkS L) o with
      | none => none
      | some none => match un.testBit i with
        | false => match freeOp (lkS L) o.op || (Nat.ble (hiU arr.size un D i) Ms.length && Nat.ble Ms.length (loU arr.size un D i)) with
          | true => match xst tb (lkS L) M H o.op with
            | some (sv, φ) => match o.dst with
              | some d => match Nat.blt d n with
                | true => pushK φ acc (fun acc => xdrw tb n arr un D m (match isIx o.op with | true => H.tail | false => H) r ((d, sv) :: L) M Ms acc)
                | false => none
              | none => none
            | none => none
          | false => none
        | true => match o.op with
          | .store _ _ _ => match xeff tb L M o.dst o.op with
            | some (_, M2, φ) => pushK φ acc (fun acc => xdrw tb n arr un D m H r L M2 (M :: Ms) acc)
            | none => none
          | _ => none
      | some (some b) => match un.testBit i with
        | false => match freeOp (lkS L) o.op || (Nat.ble (hiU arr.size un D i) Ms.length && Nat.ble Ms.length (loU arr.size un D i)) with
          | true => match xst tb (lkS L) M H o.op with
            | some (sv, φ) => match o.dst with
              | some d => match Nat.blt d n with
                | true => pushK (φ.map fun p => b = true → p) acc (fun acc => xdrw tb n arr un D m (match isIx o.op with | true => H.tail | false => H) r ((d, .g b sv) :: L) M Ms acc)
                | false => none
              | none => none
            | none => none
          | false => none
        | true => none
theorem stb {un i : Nat} {D : List Nat} {Ms : List SM} {sv : SV} (h : (freeOp (lkS L) o.op || (Nat.ble (hiU arr.size un D i) Ms.length && Nat.ble Ms.length (loU arr.size un D i))) = true)
    (hs : Stp X arr o L M fs own sv M) (hf : freeOp (lkS L) o.op = true → ∀ M', Stp X arr o L M' fs own sv M') :
    ((hiU arr.size un D i ≤ Ms.length ∧ Stp X arr o L M fs own sv M ∧ ∀ q M', Ms[q]? = some M' → loU arr.size un D i ≤ Ms.length - 1 - q → Stp X arr o L M' fs own sv M') ∨ ∀ M', Stp X arr o L M' fs own sv M') := by
  cases hfr : freeOp (lkS L) o.op with
  | true => exact .inr (hf hfr)
  | false =>
    rw [hfr] at h
    simp only [Bool.false_or, Bool.and_eq_true] at h
    have h1 := Nat.le_of_ble_eq_true h.1
    have h2 := Nat.le_of_ble_eq_true h.2
    refine .inl ⟨h1, hs, fun q M' hq hlo => ?_⟩
    have : q < Ms.length := by
      rcases Nat.lt_or_ge q Ms.length with h | h
      · exact h
      · rw [List.getElem?_eq_none h] at hq; cases hq
    omega
theorem xdrw_ok {tb : TT} (hT : tb.Ok X.P) {un : Nat} {D : List Nat} : ∀ (m : Nat) {H : List (List SV)} {π : List Nat} {L : SL} {M : SM} {Ms : List SM} {acc : List Prop} {π' L' M' Ms' φ}, xdrw tb X.n arr un D m H π L M Ms acc = some (π', L', M', Ms', φ) → (∀ p ∈ φ, p) →
    (∀ p ∈ acc, p) ∧ (ED X arr k fs own un D π' L' M' Ms' → ED X arr k fs own un D π L M Ms)
  | 0, H, π, L, M, Ms, acc, π', L', M', Ms', φ, h, hφ => by
    simp only [xdrw, Option.some.injEq, Prod.mk.injEq] at h
    obtain ⟨rfl, rfl, rfl, rfl, rfl⟩ := h
    exact ⟨hφ, id⟩
  | m + 1, H, [], L, M, Ms, acc, π', L', M', Ms', φ, h, _ => by simp [xdrw] at h
  | m + 1, H, i :: r, L, M, Ms, acc, π', L', M', Ms', φ, h, hφ => by
    unfold xdrw at h
    split at h
    · cases h
    · rename_i o ho
      split at h
      · cases h
      · rename_i hG
        split at h
        · rename_i hu
          split at h
          · rename_i hc
            split at h
            · rename_i sv ψ hx
              split at h
              · rename_i d hd
                split at h
                · rename_i hn
                  obtain ⟨acc', hr, hm⟩ := pushK_ok h
                  obtain ⟨ha, hk⟩ := xdrw_ok hT m hr hφ
                  refine ⟨fun p hp => ha p (hm p (.inr hp)), fun he => ⟨o, sv, ho, ?_⟩⟩
                  rw [hu]
                  have hψ : ∀ p ∈ wq none ψ, p := fun p hp => ha p (hm p (.inl hp))
                  refine ⟨stb hc (Stp_st hT hG hd hn hx hψ) (fun hf M' => Stp_st hT hG hd hn ((xst_free hf).trans hx) hψ), ?_⟩
                  rw [hd]
                  exact hk he
                · cases h
              · cases h
            · cases h
          · cases h
        · rename_i hu
          split at h
          · rename_i T x y hop
            split at h
            · rename_i L2 M2 ψ hx
              obtain ⟨acc', hr, hm⟩ := pushK_ok h
              obtain ⟨ha, hk⟩ := xdrw_ok hT m hr hφ
              refine ⟨fun p hp => ha p (hm p (.inr hp)), fun he => ⟨o, .v undef, ho, ?_⟩⟩
              rw [hu]
              have hd : o.dst = none := by
                cases hd : o.dst with
                | none => rfl
                | some d => rw [hop, hd] at hx; simp [xeff] at hx
              refine ⟨M2, (Stp_store hT (gS_none hG) hop hx (fun p hp => ha p (hm p (.inl hp))) _).u, ?_⟩
              rw [hd]
              exact hk he
            · cases h
          · cases h
      · rename_i b hG
        split at h
        · rename_i hu
          split at h
          · rename_i hc
            split at h
            · rename_i sv ψ hx
              split at h
              · rename_i d hd
                split at h
                · rename_i hn
                  obtain ⟨acc', hr, hm⟩ := pushK_ok h
                  obtain ⟨ha, hk⟩ := xdrw_ok hT m hr hφ
                  refine ⟨fun p hp => ha p (hm p (.inr hp)), fun he => ⟨o, .g b sv, ho, ?_⟩⟩
                  rw [hu]
                  have hψ : ∀ p ∈ wq (some b) ψ, p := fun p hp => ha p (hm p (.inl hp))
                  refine ⟨stb hc (Stp_st hT hG hd hn hx hψ) (fun hf M' => Stp_st hT hG hd hn ((xst_free hf).trans hx) hψ), ?_⟩
                  rw [hd]
                  exact hk he
                · cases h
              · cases h
            · cases h
          · cases h
        · cases h
theorem xd {tb : TT} (hT : tb.Ok X.P) (m : Nat) (H : List (List SV)) {un : Nat} {D π π' : List Nat} {Ms Ms' : List SM} {L' M' φ} (hk : ED X arr k fs own un D π' L' M' Ms') (hr : xdrw tb X.n arr un D m H π L M Ms [] = some (π', L', M', Ms', φ) := by rfl)
    (hφ : conj φ := by first | trivial | omega | (simp +contextual [conj]; done) | (simp +contextual [conj, *]; done) | (simp +contextual [conj, *] <;> omega)) : ED X arr k fs own un D π L M Ms := (xdrw_ok hT m hr (conj_all hφ)).2 hk
/-- A region that draws its order. -/
theorem edr (n un : Nat) (D π : List Nat) {id : Nat} {k' : List It} {l : List Oper} (h : ED X l.toArray k' fs own un D π L M []) (hk : normS (lkS L) 64 n k = .code (.region id l.toArray true) :: k' := by rfl) (hB : drawB l.toArray un D π = true := by kernel_rfl) (hm : X.P.follows .mixedOrders = true := by rfl) : E X k L M fs own :=
  norm_E 64 n (hk ▸ E_draw hm hB h)
theorem sdr (n un : Nat) (D π : List Nat) {id : Nat} {k' : List It} {l : List Oper} (h : ED X l.toArray k' fs own un D π L M []) (hk : normS (lkS L) 64 n k = .code (.region id l.toArray true) :: k' := by rfl) (hB : drawB l.toArray un D π = true := by kernel_rfl) (hm : X.P.follows .mixedOrders = true := by rfl) : ES X arr [] k L M fs own :=
  ES_nil (edr n un D π h hk hB hm)
theorem xe {un : Nat} {D : List Nat} {Ms : List SM} (h : ES X arr [] k L M fs own) (hc : chkL arr D L = true := by rfl) : ED X arr k fs own un D [] L M Ms := ⟨h, hc⟩
/-- A call that computes a value, in such a region. -/
theorem dc {tb : TT} (hT : tb.Ok X.P) (m : Nat) (H : List (List SV)) {un i d : Nat} {D r π' : List Nat} {Ms Ms' : List SM} {f : FuncId} {fo : Operand} {az : Array Operand} {ts : Array TypeId} {fi ca svs args : List SV} {res : SV} {L' M' φ} (hs : Fc X.P fs f args res) (hk : ED X arr k fs own un D π' L' M' Ms') (hi : arr[i]? = some o := by rfl) (hu : un.testBit i = false := by rfl) (hg : o.guard = none := by rfl) (hd : o.dst = some d := by rfl)
    (ho : o.op = .call ⟨.value fo, az, ts⟩ := by rfl) (hfo : evS (lkS L) fo = some (.f f fi ca) := by rfl) (ha : evs (lkS L) az.toList = some svs := by rfl) (hb : fi ++ svs.map st1 ++ ca = args := by rfl) (hc : svs.flatMap cd1 = [] := by rfl) (hn : Nat.blt d X.n = true := by rfl) (hr : xdrw tb X.n arr un D m H r ((d, res) :: L) M Ms [] = some (π', L', M', Ms', φ) := by rfl)
    (hφ : conj φ := by first | trivial | omega | (simp +contextual [conj]; done) | (simp +contextual [conj, *]; done) | (simp +contextual [conj, *] <;> omega)) : ED X arr k fs own un D (i :: r) L M Ms := by
  have hG : gS arr (lkS L) o = some none := by unfold gS; rw [hg]
  refine ⟨o, res, hi, ?_⟩
  rw [hu]
  refine ⟨.inr (fun M' => Stp_fn hG hd hn ho hfo rfl ha (by rw [hc]; intro p hp; cases hp) hb (fun _ => hs)), ?_⟩
  rw [hd]
  exact xd hT m H hk hr hφ
theorem dg {tb : TT} (hT : tb.Ok X.P) (m : Nat) (H : List (List SV)) {un i d : Nat} {D r π' : List Nat} {Ms Ms' : List SM} {f : FuncId} {fo : Operand} {az : Array Operand} {ts : Array TypeId} {sf : SV} {fi ca svs args : List SV} {res : SV} {b : Bool} {L' M' φ ψ} (hs : b = true → Fc X.P fs f args res) (hk : ED X arr k fs own un D π' L' M' Ms') (hi : arr[i]? = some o := by rfl) (hu : un.testBit i = false := by rfl) (hG : gS arr (lkS L) o = some (some b) := by rfl) (hd : o.dst = some d := by rfl)
    (ho : o.op = .call ⟨.value fo, az, ts⟩ := by rfl) (hfo : evS (lkS L) fo = some sf := by rfl) (hsf : st1 sf = .f f fi ca := by rfl) (ha : evs (lkS L) az.toList = some svs := by rfl) (hb : fi ++ svs.map st1 ++ ca = args := by rfl) (hc : wq (some b) (cd1 sf ++ svs.flatMap cd1) = ψ := by rfl) (hψ : conj ψ := by first | trivial | exact id | simp_all [conj]) (hn : Nat.blt d X.n = true := by rfl) (hr : xdrw tb X.n arr un D m H r ((d, .g b res) :: L) M Ms [] = some (π', L', M', Ms', φ) := by rfl)
    (hφ : conj φ := by first | trivial | omega | (simp +contextual [conj]; done) | (simp +contextual [conj, *]; done) | (simp +contextual [conj, *] <;> omega)) : ED X arr k fs own un D (i :: r) L M Ms := by
  refine ⟨o, .g b res, hi, ?_⟩
  rw [hu]
  refine ⟨.inr (fun M' => Stp_fn hG hd hn ho hfo hsf ha (by rw [hc]; exact conj_all hψ) hb (fun h => hs h)), ?_⟩
  rw [hd]
  exact xd hT m H hk hr hφ
end
end Go.KX
namespace Go.KX
mutual
def frS (i : Nat) (mb : MB) : SV → SV
  | .l j off => match Nat.beq i j, mb with
    | true, .c _ cs => .p (cs.drop off)
    | _, _ => .l j off
  | .mp j => match Nat.beq i j, mb with
    | true, .m es => .fm es
    | _, _ => .mp j
  | .a cs => .a (frL i mb cs)
  | .f fn x y => .f fn (frL i mb x) (frL i mb y)
  | .t vs => .t (frL i mb vs)
  | .g b x => .g b (frS i mb x)
  | .v x => .v x
  | .str s => .str s
  | .s sz rows => .s sz rows
  | .p cs => .p cs
  | .o j n => .o j n
  | .e j off => .e j off
  | .fm es => .fm es
  | .ni => .ni
def frL (i : Nat) (mb : MB) : List SV → List SV
  | [] => []
  | x :: r => frS i mb x :: frL i mb r
end
theorem frL_get {i : Nat} {mb : MB} : ∀ {l : List SV} {j : Nat} {sv}, (frL i mb l)[j]? = some sv → ∃ s0, l[j]? = some s0 ∧ sv = frS i mb s0
  | [], j, sv, h => by simp [frL] at h
  | x :: r, 0, sv, h => by simp [frL] at h; exact ⟨x, rfl, h.symm⟩
  | x :: r, j + 1, sv, h => by
    simp only [frL, List.getElem?_cons_succ] at h
    obtain ⟨s0, h1, h2⟩ := frL_get h
    exact ⟨s0, by rw [List.getElem?_cons_succ]; exact h1, h2⟩
theorem frL_len {i : Nat} {mb : MB} : ∀ (l : List SV), (frL i mb l).length = l.length
  | [] => rfl
  | x :: r => by simp [frL, frL_len r]
/-- The block i is what mb says, and is never written again. -/
def FrOK (ρ : Nat → Lc) (i : Nat) (mb : MB) (g : GW) : Prop := (∀ T cs, mb = .c T cs → ∀ off, Den g ρ (.p (cs.drop off)) (.pointer (some ⟨(ρ i).b, off, none⟩))) ∧ ∀ es, mb = .m es → Den g ρ (.fm es) (.map (some (ρ i).b))
theorem Den.fr {g : GW} {ρ sv x} (h : Den g ρ sv x) {i : Nat} {mb : MB} : FrOK ρ i mb g → Den g ρ (frS i mb sv) x := by
  induction h with
  | v => exact fun _ => .v
  | str => exact fun _ => .str
  | s xs h1 h2 hl hr ho hne hd _ => exact fun _ => .s xs h1 h2 hl hr ho hne hd
  | p xs hl hf hc hd _ => exact fun _ => .p xs hl hf hc hd
  | @l ρ j off =>
    intro hf
    simp only [frS]
    split
    · rename_i hb
      have := Nat.eq_of_beq_eq_true hb
      subst this
      exact hf.1 _ _ rfl off
    · exact .l
  | a xs hl _ ih => exact fun hf => .a xs (by rw [frL_len]; exact hl) (fun j sv x h1 h2 => by
      obtain ⟨s0, h3, rfl⟩ := frL_get h1
      exact ih j s0 x h3 h2 hf)
  | f xs ys hl _ hl2 _ ih ih2 =>
    intro hf
    refine .f xs ys ?_ ?_ ?_ ?_
    · rw [frL_len]; exact hl
    · intro j sv x h1 h2
      obtain ⟨s0, h3, rfl⟩ := frL_get h1
      exact ih j s0 x h3 h2 hf
    · rw [frL_len]; exact hl2
    · intro j sv x h1 h2
      obtain ⟨s0, h3, rfl⟩ := frL_get h1
      exact ih2 j s0 x h3 h2 hf
  | t xs hl _ ih => exact fun hf => .t xs (by rw [frL_len]; exact hl) (fun j sv x h1 h2 => by
      obtain ⟨s0, h3, rfl⟩ := frL_get h1
      exact ih j s0 x h3 h2 hf)
  | gt _ ih => exact fun hf => .gt (ih hf)
  | gf => exact fun _ => .gf
  | o => exact fun _ => .o
  | e h => exact fun _ => .e h
  | fm raw ms clk hf hh he hk hd _ => exact fun _ => .fm raw ms clk hf hh he hk hd
  | ni => exact fun _ => .ni
  | @mp ρ j =>
    intro hf
    simp only [frS]
    split
    · rename_i hb
      have := Nat.eq_of_beq_eq_true hb
      subst this
      exact hf.2 _ rfl
    · exact .mp
def frSL (i : Nat) (mb : MB) : SL → SL
  | [] => []
  | (t, sv) :: r => (t, frS i mb sv) :: frSL i mb r
def frM (i : Nat) (mb : MB) : SM → SM
  | [] => []
  | (j, m) :: r => match Nat.beq i j with
    | true => r
    | false => (j, m) :: frM i mb r
def occX (i : Nat) : SM → Bool
  | [] => false
  | (j, .c _ cs) :: r => match Nat.beq i j with
    | true => occX i r
    | false => occL i cs || occX i r
  | (_, _) :: r => occX i r
def notR : MB → Bool
  | .r _ _ _ => false
  | .it _ _ _ => false
  | .q _ _ _ => false
  | _ => true
theorem frSL_lk {i : Nat} {mb : MB} : ∀ {L : SL} {t sv}, lkS (frSL i mb L) t = some sv → ∃ s0, lkS L t = some s0 ∧ sv = frS i mb s0
  | [], t, sv, h => by simp [frSL, lkS] at h
  | (j, v) :: r, t, sv, h => by
    by_cases htj : t = j
    · subst htj
      simp only [frSL, lkS_same] at h
      cases h
      exact ⟨v, lkS_same _ _ _, rfl⟩
    · simp only [frSL] at h
      rw [lkS_ne _ _ htj] at h
      obtain ⟨s0, h1, h2⟩ := frSL_lk h
      exact ⟨s0, by rw [lkS_ne _ _ htj]; exact h1, h2⟩
theorem DenM.take {g : GW} {ρ : Nat → Lc} : ∀ {M : SM} {ms : List Res} {i : Nat} {mb : MB}, DenM g ρ M ms → lkM M i = some mb → ∃ r m1 m2, ms = m1 ++ r :: m2 ∧ DenB g ρ i mb r ∧ ∀ g', DenM g' ρ M (m1 ++ r :: m2) → DenM g' ρ (frM i mb M) (m1 ++ m2)
  | [], _, _, _, .nil, h => by cases h
  | (j, m) :: M, _, i, mb, @DenM.cons _ _ _ _ _ r0 ms0 hb t, h => by
    unfold lkM at h
    split at h
    · rename_i hij
      cases h
      have hj := Nat.eq_of_beq_eq_true hij
      subst hj
      refine ⟨r0, [], ms0, rfl, hb, fun g' hM => ?_⟩
      cases hM with
      | cons _ t' => simp only [frM, hij]; exact t'
    · rename_i hij
      obtain ⟨r, m1, m2, rfl, hB, hu⟩ := DenM.take t h
      refine ⟨r, r0 :: m1, m2, rfl, hB, fun g' hM => ?_⟩
      cases hM with
      | cons hb' t' => simp only [frM, hij]; exact .cons hb' (hu g' t')
/-- A map that is owned becomes a fact. -/
theorem St.freezeM {X : Cx} {L : LL} {fs : List MF} {own own' : List Res} {g a} {b : Nat} {raw : List (Bytes × Value)} (hr : Pick own (Res.mp str (fun v : Value => v) b raw) own') (s : St X L fs own g a) :
    ∃ g', g'.w = g.w ∧ FExt g g' ∧ g'.fz b ∧ St X L fs own' g' a := by
  have hp := hr.perm
  have ho := s.own.perm hp
  have hnew := s.new b ((blks_perm hp).symm.subset (by simp [Res.mp]))
  let g' : GW := ⟨g.w, fun x => g.fz x ∨ x = b, fun x hx => hx.elim (g.lt x) (fun h => by subst h; exact ho.lt x (by simp [Res.mp]))⟩
  have hF : FExt g g' := ⟨rfl, rfl, rfl, Nat.le_refl _, fun _ h => .inl h, fun _ _ => rfl⟩
  have hnd : (b :: blks own').Nodup := ho.nodup
  refine ⟨g', rfl, hF, .inr rfl, s.kn, s.all.mono hF, ?_, ?_, fun x hx => s.new x ((blks_perm hp).symm.subset (by simp [hx]))⟩
  · refine ⟨fun r hr' => ho.p r (.tail _ hr'), (List.nodup_cons.1 hnd).2, fun x hx => ho.lt x (by simp [hx]), fun x hx hf => ?_⟩
    rcases hf with hf | rfl
    · exact ho.nfz x (by simp [hx]) hf
    · exact (List.nodup_cons.1 hnd).1 hx
  · refine ⟨s.ext.toFExt.trans hF, s.ext.keep, fun x hx hn hf => ?_⟩
    rcases hf with hf | rfl
    · exact s.ext.nofz x hx hn hf
    · rcases hnew with h | h
      · exact absurd h hn
      · omega
section
variable {X : Kx} {k : List It} {L : SL} {M : SM} {fs : List MF} {own : List Res} {arr : Array Oper} {l : List Oper} {o : Oper}
theorem ESt.fr {i : Nat} {mb : MB} {g a} (hl : lkM M i = some mb) (hc : cloB mb = true) (_hx : occX i M = false) (hb : notR mb = true) (h : ESt X L M fs own g a) : ∃ g', g'.w = g.w ∧ ESt X (frSL i mb L) (frM i mb M) fs own g' a := by
  obtain ⟨ρ, ms, st⟩ := h.open
  have hM : DenM g ρ M ms := st.all _ (.head _)
  obtain ⟨r, m1, m2, rfl, hB, hu⟩ := hM.take hl
  have hp : (m1 ++ r :: m2 ++ own).Perm (r :: (m1 ++ m2 ++ own)) := by
    simp only [List.append_assoc, List.cons_append]
    exact List.perm_middle
  have fin : ∀ g', FrOK ρ i mb g' → St X.toCx [] (F1 ρ M (m1 ++ r :: m2) :: F2 X ρ L a :: fs) (m1 ++ m2 ++ own) g' a → ESt X (frSL i mb L) (frM i mb M) fs own g' a := by
    intro g' hf s'
    have hs : Sl X ρ L a g' := s'.all _ (.tail _ (.head _))
    exact ⟨ρ, m1 ++ m2, ⟨s'.kn, fun f hf => s'.all f (.tail _ (.tail _ hf)), s'.own, s'.ext, s'.new⟩, hu g' (s'.all _ (.head _)), hs.pin, fun t sv ht => by
      obtain ⟨s0, h1, rfl⟩ := frSL_lk ht
      obtain ⟨x, hx, dx⟩ := hs.val t s0 h1
      exact ⟨x, hx, dx.fr hf⟩⟩
  cases hB with
  | c xs hd h1 =>
    rename_i T cs
    have stp0 := st.perm hp
    have stp : St X.toCx [] (denF ρ cs xs :: F1 ρ M _ :: F2 X ρ L a :: fs) _ g a := ⟨stp0.kn, All.cons hd stp0.all, stp0.own, stp0.ext, stp0.new⟩
    obtain ⟨g', hw, s'⟩ := stp.freeze .head
    have hpt : (PtM (ρ i).b 0 xs).p g' := s'.all _ (.head _)
    have hdl : DenL g' ρ cs xs := s'.all (denF ρ cs xs) (.tail _ (.head _))
    refine ⟨g', hw, fin g' ⟨fun T' cs' e off => ?_, (fun es e => by cases e)⟩ ⟨s'.kn, fun f hf => s'.all f (.tail _ (.tail _ hf)), s'.own, s'.ext, s'.new⟩⟩
    cases e
    refine .p (xs.drop off) (by simp [hdl.1]) hpt.1 (fun k y hy => ?_) (fun ρ' j sv y h2 h3 => ?_)
    · rw [List.getElem?_drop] at hy
      have := hpt.2 _ y hy
      simpa using this
    · have h2' : cs[off + j]? = some sv := by simpa using h2
      have h3' : xs[off + j]? = some y := by simpa using h3
      exact (hdl.2 _ sv y h2' h3').swap (cloL_get hc _ sv h2') ρ'
  | r hz xs hl' hd => cases hb
  | it raw hk hd => cases hb
  | q hz xs hl' hd => cases hb
  | m raw hk hd =>
    rename_i es
    have stp := st.perm hp
    obtain ⟨g', hw, hF, hfz, s'⟩ := stp.freezeM .head
    obtain ⟨ms', clk, hh, he, _⟩ := stp.own.p (Res.mp str (fun v : Value => v) (ρ i).b raw) (.head _)
    refine ⟨g', hw, fin g' ⟨(fun T cs e => by cases e), fun es' e => ?_⟩ s'⟩
    cases e
    exact .fm raw ms' clk hfz (by rw [hw]; exact hh) he hk (fun ρ' j k sv x h1 h2 => (hd ρ' j k sv x h1 h2).mono hF)
/-- From now on the local thing i is never written. -/
theorem ez (i : Nat) {mb : MB} (h : E X k (frSL i mb L) (frM i mb M) fs own) (hl : lkM M i = some mb := by rfl) (hc : cloB mb = true := by rfl) (hx : occX i M = false := by rfl) (hb : notR mb = true := by rfl) : E X k L M fs own := by
  intro g a s
  obtain ⟨g', hw, s'⟩ := s.fr hl hc hx hb
  exact hw ▸ h g' a s'
theorem sz (i : Nat) {mb : MB} (h : ES X arr l k (frSL i mb L) (frM i mb M) fs own) (hl : lkM M i = some mb := by rfl) (hc : cloB mb = true := by rfl) (hx : occX i M = false := by rfl) (hb : notR mb = true := by rfl) : ES X arr l k L M fs own := by
  intro g a s
  obtain ⟨g', hw, s'⟩ := s.fr hl hc hx hb
  exact hw ▸ h g' a s'
theorem smk {d T : Nat} (h : ES X arr l k ((d, .mp d) :: L) ((d, .m []) :: M) fs own) (ho : o.op = .makeMap T none := by rfl) (hg : o.guard = none := by rfl) (hd : o.dst = some d := by rfl) (hn : Nat.blt d X.n = true := by rfl) (hoc : (occSL d L || occM d M) = false := by rfl) (hlt : Nat.blt d 1000 = true := by rfl) : ES X arr (o :: l) k L M fs own := by
  intro g a hE
  obtain ⟨ρ, ms, st⟩ := hE.open
  have hw : Region.wanted o (yielded arr a.tmps) = true := live_wanted (L := []) st.kn (live_none hg)
  simp only [wl, hw, if_true]
  simp only [Bool.or_eq_false_iff] at hoc
  have hlt : d < 1000 := by simpa [Nat.blt_eq] using hlt
  have s' := st.alloc (.map #[] 0)
  have hr : (execOp a.eval o).run X.P g.w = .ok (.value (.map (some g.w.heap.size))) (g.w.alloc (.map #[] 0)) := by
    simp only [execOp, ho]
    simp [Instr.makeMap]
  simp only [wn, hr, hd]
  let g1 : GW := ⟨g.w.alloc (.map #[] 0), g.fz, fun b hb => by have := g.lt b hb; rw [size_alloc]; omega⟩
  let ρ' : Nat → Lc := fun j => if j = d then ⟨g.w.heap.size, none, 0⟩ else ρ j
  have e : (ρ' d).b = g.w.heap.size := by simp [ρ']
  have hM : DenM g1 ρ M ms := s'.all _ (.head _)
  have hL : Sl X ρ L a g1 := s'.all _ (.tail _ (.head _))
  have hB : DenB g1 ρ' d (.m []) (Res.mp str (fun v : Value => v) (ρ' d).b []) := .m [] rfl (fun ρ' j k sv x h => by simp at h)
  rw [e] at hB
  refine h g1 _ (ESt.put (ρ := ρ') (ms := Res.mp str (fun v : Value => v) g.w.heap.size [] :: ms) ⟨s'.kn, All.cons (.cons hB (occ_upd hM hoc.2)) (All.cons ⟨fun i hi => by
      have : i ≠ d := by omega
      simp only [ρ', if_neg this]; exact hL.pin i hi, fun t sv ht => by
      obtain ⟨x, hx, dx⟩ := hL.val t sv ht
      exact ⟨x, hx, dx.upd (occSL_get hoc.1 t sv ht)⟩⟩ (fun f hf => s'.all f (.tail _ (.tail _ hf)))), ?_, s'.ext, s'.new⟩ hn ?_)
  · refine ⟨fun r hr' => ?_, s'.own.nodup, s'.own.lt, s'.own.nfz⟩
    cases hr' with
    | head => exact ⟨#[], 0, s'.own.p _ (.head _), rfl, by simp, by simp⟩
    | tail _ hm => exact s'.own.p r (.tail _ hm)
  · have : Den g1 ρ' (.mp d) (.map (some (ρ' d).b)) := .mp
    rw [e] at this
    exact this
theorem mset_keys {es : List (Bytes × SV)} {raw : List (Bytes × Value)} (hk : raw.map (·.1) = es.map (·.1)) (q : Bytes) (x : Value) (sv : SV) : (mset raw q x).map (·.1) = (mset es q sv).map (·.1) := by
  induction raw generalizing es with
  | nil => cases es with
    | nil => rfl
    | cons _ _ => simp at hk
  | cons p r ih =>
    cases es with
    | nil => simp at hk
    | cons e es =>
      simp only [List.map_cons, List.cons.injEq] at hk
      unfold mset
      rw [hk.1]
      split
      · simp [hk.2]
      · simp [hk.1, ih hk.2]
theorem mset_den {P : SV → Value → Prop} : ∀ {es : List (Bytes × SV)} {raw : List (Bytes × Value)}, raw.map (·.1) = es.map (·.1) → (∀ (j : Nat) k sv x, es[j]? = some (k, sv) → raw[j]? = some (k, x) → P sv x) → ∀ {q : Bytes} {x : Value} {sv : SV}, P sv x →
    ∀ (j : Nat) k sv' x', (mset es q sv)[j]? = some (k, sv') → (mset raw q x)[j]? = some (k, x') → P sv' x'
  | [], raw, hk, h, q, x, sv, hp, j, k, sv', x', h1, h2 => by
    cases raw with
    | nil =>
      cases j with
      | zero => simp [mset] at h1 h2; rw [← h1.2, ← h2.2]; exact hp
      | succ j => simp [mset] at h1
    | cons _ _ => simp at hk
  | e :: es, raw, hk, h, q, x, sv, hp, j, k, sv', x', h1, h2 => by
    cases raw with
    | nil => simp at hk
    | cons p r =>
      simp only [List.map_cons, List.cons.injEq] at hk
      unfold mset at h1 h2
      rw [hk.1] at h2
      split at h1
      · rename_i hq
        rw [if_pos hq] at h2
        cases j with
        | zero => simp at h1 h2; rw [← h1.2, ← h2.2]; exact hp
        | succ j => exact h (j + 1) k sv' x' (by simpa using h1) (by simpa using h2)
      · rename_i hq
        rw [if_neg hq] at h2
        cases j with
        | zero => exact h 0 k sv' x' (by simpa using h1) (by simpa using h2)
        | succ j => exact mset_den hk.2 (fun j k sv x h3 h4 => h (j + 1) k sv x (by simpa using h3) (by simpa using h4)) hp j k sv' x' (by simpa using h1) (by simpa using h2)
/-- m[q] = v. -/
theorem sins {tb : TT} (hT : tb.Ok X.P) {T kT eT i : Nat} {dT dk : TD} {x y z : Operand} {q : Bytes} {sv : SV} {es : List (Bytes × SV)} {M' : SM} (h : ES X arr l k L M' fs own) (ho : o.op = .insert T x y z ∨ o.op = .mapUpdate T x y z := by first | exact .inl rfl | exact .inr rfl) (hg : o.guard = none := by rfl) (hd : o.dst = none := by rfl)
    (hx : evS (lkS L) x = some (.mp i) := by rfl) (hy : evS (lkS L) y = some (.str q) := by rfl) (hz : evS (lkS L) z = some sv := by rfl) (hc : clo sv = true := by rfl) (hT1 : tb.get T = some dT := by rfl) (hk1 : dT.kd = .mp kT eT := by rfl) (hT2 : tb.get kT = some dk := by rfl) (hk2 : dk.kd = .str := by rfl)
    (hm : lkM M i = some (.m es) := by rfl) (hu : updK M i (.m (mset es q sv)) some = some M' := by rfl) : ES X arr (o :: l) k L M fs own := by
  intro g a hE
  obtain ⟨ρ, ms, st⟩ := hE.open
  have hSl : Sl X ρ L a g := st.all _ (.tail _ (.head _))
  have hw : Region.wanted o (yielded arr a.tmps) = true := live_wanted (L := []) st.kn (live_none hg)
  have dx := eval_den hSl.val hx
  have dy := eval_den hSl.val hy
  have dz := eval_den hSl.val hz
  have hM : DenM g ρ M ms := st.all _ (.head _)
  obtain ⟨r, m1, m2, rfl, hB, hup⟩ := hM.split hm
  obtain ⟨M2, hK, hM2⟩ := hup hu
  cases hK
  have u := (TT.get_ok hT hT1).kd
  rw [hk1] at u
  have uk := (TT.get_ok hT hT2).kd
  rw [hk2] at uk
  have hev : ∃ svs, evs (lkS L) [x, y, z] = some svs := ⟨[.mp i, .str q, sv], by simp only [evs, hx, hy, hz]⟩
  obtain ⟨svs, hev⟩ := hev
  obtain ⟨Lr, st', hevl, hfr⟩ := st.slots (fun t sv ht => by obtain ⟨x, hx, _⟩ := hSl.val t sv ht; exact ⟨x, hx⟩) hev
  obtain ⟨_, _, e1, hx', hr1⟩ := evl_cons hevl
  obtain ⟨_, _, e2, hy', hr2⟩ := evl_cons hr1
  obtain ⟨_, _, e3, hz', _⟩ := evl_cons hr2
  simp only [List.map_cons, List.cons.injEq] at e1
  obtain ⟨rfl, rfl⟩ := e1
  simp only [List.cons.injEq] at e2
  obtain ⟨rfl, rfl⟩ := e2
  simp only [List.cons.injEq] at e3
  obtain ⟨rfl, _⟩ := e3
  have ex : a.eval x = .map (some (ρ i).b) := by cases hax : a.eval x <;> rw [hax] at dx <;> cases dx <;> rfl
  rw [ex] at hx'
  rw [den_str dy] at hy'
  cases hB with
  | m raw hk hdd =>
    let vF : MF := ⟨fun g => (∀ ρ', Den g ρ' sv (a.eval z)) ∧ ∀ (ρ' : Nat → Lc) (j : Nat) k sv x, es[j]? = some (k, sv) → raw[j]? = some (k, x) → Den g ρ' sv x, fun e h => ⟨fun ρ' => (h.1 ρ').mono e, fun ρ' j k sv x h1 h2 => (h.2 ρ' j k sv x h1 h2).mono e⟩⟩
    have hp : (m1 ++ Res.mp str (fun v : Value => v) (ρ i).b raw :: m2 ++ own).Perm (Res.mp str (fun v : Value => v) (ρ i).b raw :: (m1 ++ m2 ++ own)) := by
      simp only [List.append_assoc, List.cons_append]
      exact List.perm_middle
    have st2 := st'.perm hp
    have st3 : St X.toCx Lr (vF :: F1 ρ M _ :: F2 X ρ L a :: fs) _ g a := ⟨st2.kn, All.cons ⟨fun ρ' => dz.swap hc ρ', hdd⟩ st2.all, st2.own, st2.ext, st2.new⟩
    have key : opQ X.P arr o (fun a' w' => ∃ g', g'.w = w' ∧ ESt X L M' fs own g' a') a g.w := by
      have hS : ∀ o', o'.op = Op.mapUpdate T x y z → o'.guard = none → o'.dst = none → opQ X.P #[] o' (fun a' w' => ∃ g', g'.w = w' ∧ ESt X L M' fs own g' a') a g.w := fun o' ho' hg' hd' =>
        viaS (arr := #[]) (o := o') (K := fun a' w' => ∃ g', g'.w = w' ∧ ESt X L M' fs own g' a') st3
          (S_mset (K := str) (V := fun v : Value => v) ho' (live_none hg') hd' hx' hy' hz' u (keyStr uk) .head (S_J (fun g' a' s' => by
            refine ⟨g', rfl, ρ, m1 ++ Res.mp str (fun v : Value => v) (ρ i).b (mset raw q (a.eval z)) :: m2, ?_, ?_, ?_⟩
            · have hp2 : (Res.mp str (fun v : Value => v) (ρ i).b (mset raw q (a.eval z)) :: (m1 ++ m2 ++ own)).Perm (m1 ++ Res.mp str (fun v : Value => v) (ρ i).b (mset raw q (a.eval z)) :: m2 ++ own) := by
                simp only [List.append_assoc, List.cons_append]
                exact List.perm_middle.symm
              have s2 := s'.perm hp2
              exact ⟨⟨s2.kn.size, s2.kn.defers, fun i v hv => by simp [lk] at hv⟩, fun f hf => s2.all f (.tail _ (.tail _ (.tail _ hf))), s2.own, s2.ext, s2.new⟩
            · have hv : vF.p g' := s'.all _ (.head _)
              exact hM2 g' _ (s'.all _ (.tail _ (.head _))) (.m _ (mset_keys hk q _ sv) (fun ρ' => mset_den hk (hv.2 ρ') (hv.1 ρ')))
            · have hs : Sl X ρ L a g' := s'.all (F2 X ρ L a) (.tail _ (.tail _ (.head _)))
              exact ⟨hs.pin, fun t sv ht => by
                obtain ⟨x, hx, dx⟩ := hs.val t sv ht
                exact ⟨x, s'.kn.val t x (hfr t x hx), dx⟩⟩)))
      have h1 := hS { o with op := .mapUpdate T x y z } rfl hg hd
      unfold opQ at h1 ⊢
      have hw1 : Region.wanted { o with op := .mapUpdate T x y z } (yielded #[] a.tmps) = true := by unfold Region.wanted; rw [hg]
      rw [if_pos hw1] at h1
      rw [if_pos hw]
      have he : execOp a.eval o = execOp a.eval { o with op := .mapUpdate T x y z } := by
        rcases ho with ho | ho <;> simp only [execOp, ho]
      unfold wn at h1 ⊢
      rw [he]
      exact h1
    exact opQ_mono (fun a' w' ⟨g', hw, s'⟩ => hw ▸ h g' a' s') key
/-- v, ok = m[q], m never written. -/
theorem Stp_lk2 {tb : TT} (hT : tb.Ok X.P) {T kT eT d : Nat} {dT dk de : TD} {x y : Operand} {q : Bytes} {es : List (Bytes × SV)} {r : Option SV} (ho : o.op = .lookup T x y true) (hg : o.guard = none) (hd : o.dst = some d) (hn : Nat.blt d X.n = true) (hx : evS (lkS L) x = some (.fm es)) (hy : evS (lkS L) y = some (.str q))
    (hT1 : tb.get T = some dT) (hk1 : dT.kd = .mp kT eT) (hT2 : tb.get kT = some dk) (hk2 : dk.kd = .str) (hT3 : tb.get eT = some de) (hr : mget es q = r) : Stp X arr o L M fs own (.t [r.getD (inj de.z), .v (.bool r.isSome)]) M := by
  have hG : gS arr (lkS L) o = some none := by unfold gS; rw [hg]
  refine Stp_read (sv := .t [r.getD (inj de.z), .v (.bool r.isSome)]) hG hd hn (fun L' hL _ g a ρ ms st => ?_)
  have hSl : Sl X ρ L' a g := st.all _ (.tail _ (.head _))
  have hev : evs (lkS L) o.op.operands.toList = some [.fm es, .str q] := by rw [ho]; show evs (lkS L) [x, y] = _; simp only [evs, hx, hy]
  have hev' := (evs_agree' hL).trans hev
  rw [ho] at hev'
  have hev' : evs (lkS L') [x, y] = some [.fm es, .str q] := hev'
  obtain ⟨_, _, e1, dx, hr1⟩ := (evals_den hSl.val hev').uncons
  obtain ⟨_, _, e2, dy, _⟩ := hr1.uncons
  simp only [List.map_cons, List.cons.injEq] at e1
  obtain ⟨rfl, rfl⟩ := e1
  simp only [List.cons.injEq] at e2
  obtain ⟨rfl, _⟩ := e2
  have u := (TT.get_ok hT hT1).kd
  rw [hk1] at u
  have uk := (TT.get_ok hT hT2).kd
  rw [hk2] at uk
  have dys := den_str dy
  generalize hax : a.eval x = vx at dx
  cases dx with
  | fm raw msr clk hf hh he hk hdd =>
    rename_i b
    obtain ⟨rr, hfr, hfd⟩ := find_get (K := str) (V := fun v : Value => v) (P := X.P) (T := kT) (keyStr uk) q g.w he
    obtain ⟨d0, _, _, hck, _⟩ := (keyStr (P := X.P) uk).ex
    have hz := run_zeroValue (w := g.w) (TT.get_ok hT hT3).ti
    have hget : ∀ {es : List (Bytes × SV)} {raw : List (Bytes × Value)}, raw.map (·.1) = es.map (·.1) → (∀ (j : Nat) k sv x, es[j]? = some (k, sv) → raw[j]? = some (k, x) → Den g ρ sv x) → (mget raw q = none ∧ mget es q = none) ∨ ∃ x sv, mget raw q = some x ∧ mget es q = some sv ∧ Den g ρ sv x := by
      intro es
      induction es with
      | nil => intro raw hk _; cases raw with
        | nil => exact .inl ⟨rfl, rfl⟩
        | cons _ _ => simp at hk
      | cons e es ih =>
        intro raw hk hd'
        cases raw with
        | nil => simp at hk
        | cons p rw' =>
          simp only [List.map_cons, List.cons.injEq] at hk
          unfold mget
          rw [hk.1]
          by_cases hq : q = e.1
          · rw [if_pos hq, if_pos hq]
            exact .inr ⟨p.2, e.2, rfl, rfl, hd' 0 e.1 e.2 p.2 rfl (by simp [← hk.1])⟩
          · rw [if_neg hq, if_neg hq]
            exact ih hk.2 (fun j k sv x h1 h2 => hd' (j + 1) k sv x (by simpa using h1) (by simpa using h2))
    have hrun : ∃ vt, (Instr.lookup T (.map (some b)) (str q) true).run X.P g.w = .ok (.tuple #[vt, .bool r.isSome]) g.w ∧ Den g ρ (r.getD (inj de.z)) vt := by
      simp only [Instr.lookup, Sem.run_bind, run_underlying u, Result.andThen_ok, run_getObj_map hh, hck, hfr, Sem.run_pure]
      rcases hget hk (hdd ρ) with ⟨h1, h2⟩ | ⟨xv, sv, h1, h2, h3⟩
      · rw [h2] at hr
        subst hr
        cases rr with
        | none => exact ⟨de.z, by simp only [hz, Result.andThen_ok, Sem.run_pure, Sem.run_bind]; rfl, den_inj g ρ de.z⟩
        | some p =>
          obtain ⟨⟨x', hx', _⟩, _⟩ := hfd
          rw [h1] at hx'; cases hx'
      · rw [h2] at hr
        subst hr
        cases rr with
        | none =>
          obtain ⟨h4, _⟩ := hfd
          rw [h1] at h4; cases h4
        | some p =>
          obtain ⟨j, v⟩ := p
          obtain ⟨⟨x', hx', hv⟩, _⟩ := hfd
          rw [h1] at hx'
          cases hx'
          exact ⟨v, rfl, by rw [hv]; exact h3⟩
    obtain ⟨vt, h1, h2⟩ := hrun
    refine ⟨.tuple #[vt, .bool r.isSome], ?_, .t [vt, .bool r.isSome] rfl (DenL.cons h2 (DenL.cons .v DenL.nil)).2⟩
    simp only [execOp, ho, hax, dys]
    simp [h1]
theorem slk {tb : TT} (hT : tb.Ok X.P) (m : Nat) {T kT eT d : Nat} {dT dk de : TD} {x y : Operand} {q : Bytes} {es : List (Bytes × SV)} (r : Option SV) {l' L' M' φ} (hr : mget es q = r) (hk : ES X arr l' k L' M' fs own) (ho : o.op = .lookup T x y true := by rfl) (hg : o.guard = none := by rfl) (hd : o.dst = some d := by rfl)
    (hx : evS (lkS L) x = some (.fm es) := by rfl) (hy : evS (lkS L) y = some (.str q) := by rfl) (hT1 : tb.get T = some dT := by rfl) (hk1 : dT.kd = .mp kT eT := by rfl) (hT2 : tb.get kT = some dk := by rfl) (hk2 : dk.kd = .str := by rfl) (hT3 : tb.get eT = some de := by rfl) (hn : Nat.blt d X.n = true := by rfl)
    (hrn : xrun tb X.n arr m [] l ((d, .t [r.getD (inj de.z), .v (.bool r.isSome)]) :: L) M [] = some (l', L', M', φ) := by rfl) (hφ : conj φ := by first | trivial | omega | (simp +contextual [conj]; done)) : ES X arr (o :: l) k L M fs own := by
  refine ES_step (Stp_lk2 hT ho hg hd hn hx hy hT1 hk1 hT2 hk2 hT3 hr) ?_
  rw [hd]
  exact go hT m [] hk hrn hφ
theorem s_len {g ρ sz rows x} (h : Den g ρ (.s sz rows) x) : rows.length ≤ 9223372036854775807 := by
  cases h with | s xs h1 _ _ _ _ _ _ => simpa [maxLen] using h1
/-- A slice is not too long. -/
theorem elen (i : Nat) {sz : Nat} {rows : List (List SV)} (hi : lkS L i = some (.s sz rows)) (h : rows.length ≤ 9223372036854775807 → E X k L M fs own) : E X k L M fs own := by
  intro g a s
  obtain ⟨ρ, ms, s1, s2, s3⟩ := s
  obtain ⟨x, _, dx⟩ := s3.val i _ hi
  exact h (s_len dx) g a ⟨ρ, ms, s1, s2, s3⟩
end
end Go.KX
namespace Go.KX
/-- Plain values, as they stand in cells. -/
def valsL : List SV → Option (List Value)
  | [] => some []
  | .v x :: r => match valsL r with
    | some l => some (x :: l)
    | none => none
  | .str s :: r => match valsL r with
    | some l => some (str s :: l)
    | none => none
  | _ => none
theorem valsL_ok {g ρ} : ∀ {cs : List SV} {xs vs : List Value}, valsL cs = some vs → DenL g ρ cs xs → xs = vs
  | [], xs, vs, h, d => by cases h; exact d.unnil
  | c :: r, xs, vs, h, d => by
    obtain ⟨x, ys, rfl, dx, dr⟩ := d.uncons
    unfold valsL at h
    split at h
    · cases ‹_ :: _ = []›
    · rename_i e
      cases e
      split at h
      · rename_i l hl
        cases h
        rw [den_v dx, valsL_ok hl dr]
      · cases h
    · rename_i e
      cases e
      split at h
      · rename_i l hl
        cases h
        rw [den_str dx, valsL_ok hl dr]
      · cases h
    · cases h
theorem den_a {g ρ cs x} (h : Den g ρ (.a cs) x) : ∃ xs : List Value, x = .agg xs.toArray ∧ DenL g ρ cs xs := by
  cases h with | a xs hl hd => exact ⟨xs, rfl, hl, hd⟩
abbrev neO : Bool → BinOp
  | true => .neq
  | false => .eql
abbrev neB : Bool → Bool → Bool
  | true, b => !b
  | false, b => b
section
variable {X : Kx} {k : List It} {L : SL} {M : SM} {fs : List MF} {own : List Res} {arr : Array Oper} {l : List Oper} {o : Oper}
theorem Stp_eqS {ne b : Bool} {d T yT : Nat} {x y : Operand} {svs cs ds : List SV} {xs ys : List Value} {fl : Array Field} {G : Option Bool} (hG : gS arr (lkS L) o = some G) (hd : o.dst = some d) (hn : Nat.blt d X.n = true) (ho : o.op = .binOp (neO ne) T x y yT)
    (hev : evs (lkS L) [x, y] = some svs) (hst : svs.map st1 = [.a cs, .a ds]) (hφ : ∀ p ∈ wq G (svs.flatMap cd1), p) (v1 : valsL cs = some xs) (v2 : valsL ds = some ys) (hu : X.P.underlying T = some (.struct fl)) (hp : X.P.stoodInHeld T = false)
    (hm : ∀ w, (eqGuard (neO ne) T x y (.agg xs.toArray) (.agg ys.toArray)).run X.P w = .ok () w) (hr : ∀ w, (Op.eqFields 9999 xs.toArray ys.toArray fl.toList).run X.P w = .ok b w) : Stp X arr o L M fs own (wr G (.v (.bool (neB ne b)))) M := by
  refine Stp_read hG hd hn (fun L' hL hon g a ρ ms st => ?_)
  have hSl : Sl X ρ L' a g := st.all _ (.tail _ (.head _))
  have hop : o.op.operands.toList = [x, y] := by rw [ho]; cases ne <;> rfl
  have hev' : evs (lkS L') [x, y] = some svs := by
    have := evs_agree' hL
    rw [hop] at this
    exact this.trans hev
  have hden := sts_ok (evals_den hSl.val hev') (wq_ok hφ hon)
  rw [hst] at hden
  obtain ⟨_, _, e1, dx, hr1⟩ := hden.uncons
  obtain ⟨_, _, e2, dy, _⟩ := hr1.uncons
  simp only [List.map_cons, List.cons.injEq] at e1
  obtain ⟨rfl, rfl⟩ := e1
  simp only [List.cons.injEq] at e2
  obtain ⟨rfl, _⟩ := e2
  obtain ⟨xs', ex, d1⟩ := den_a dx
  obtain ⟨ys', ey, d2⟩ := den_a dy
  obtain rfl := valsL_ok v1 d1
  obtain rfl := valsL_ok v2 d2
  have hf : X.P.fieldsOf T = fl := by simp [Program.fieldsOf, hu]
  have he := run_equalIn_struct g.w 9999 T xs'.toArray ys'.toArray (by rw [hf]; exact hu) hp
  rw [hf, hr] at he
  cases ne with
  | true =>
    refine ⟨.bool (!b), ?_, .v⟩
    have hm := hm g.w
    simp only [neO] at ho hm
    simp only [execOp, ho, ex, ey]
    simp [hm, run_neq_struct, he]
  | false =>
    refine ⟨.bool b, ?_, .v⟩
    have hm := hm g.w
    simp only [neO] at ho hm
    simp only [execOp, ho, ex, ey]
    simp [hm, run_eql_struct, he]
/-- Structs compared, then m operations. -/
theorem sq {tb : TT} (hT : tb.Ok X.P) (m : Nat) (H : List (List SV)) (ne : Bool) {b : Bool} {d T yT : Nat} {x y : Operand} {svs cs ds : List SV} {xs ys : List Value} {fl : Array Field} {G : Option Bool} {l' L' M' φ ψ} (hu : X.P.underlying T = some (.struct fl)) (hp : X.P.stoodInHeld T = false)
    (hr : ∀ w, (Op.eqFields 9999 xs.toArray ys.toArray fl.toList).run X.P w = .ok b w) (hk : ES X arr l' k L' M' fs own) (hG : gS arr (lkS L) o = some G := by rfl) (hd : o.dst = some d := by rfl) (hn : Nat.blt d X.n = true := by rfl) (ho : o.op = .binOp (neO ne) T x y yT := by rfl)
    (hev : evs (lkS L) [x, y] = some svs := by rfl) (hst : svs.map st1 = [.a cs, .a ds] := by rfl) (v1 : valsL cs = some xs := by rfl) (v2 : valsL ds = some ys := by rfl)
    (hm : ∀ w, (eqGuard (neO ne) T x y (.agg xs.toArray) (.agg ys.toArray)).run X.P w = .ok () w := by intro w; kernel_rfl)
    (hc : wq G (svs.flatMap cd1) = ψ := by rfl) (hψ : conj ψ := by first | trivial | exact id | exact ⟨id, id⟩ | (simp +contextual [conj]; done) | simp_all [conj])
    (hrn : xrun tb X.n arr m H l ((d, wr G (.v (.bool (neB ne b)))) :: L) M [] = some (l', L', M', φ) := by rfl) (hφ : conj φ := by first | trivial | omega | (simp +contextual [conj]; done) | (simp +contextual [conj, *]; done) | (simp +contextual [conj, *] <;> omega)) : ES X arr (o :: l) k L M fs own := by
  refine ES_step (Stp_eqS (ne := ne) hG hd hn ho hev hst (by rw [hc]; exact conj_all hψ) v1 v2 hu hp hm hr) ?_
  rw [hd]
  exact go hT m H hk hrn hφ
end
end Go.KX
namespace Go.KX
open Go.RowKit Go.Sort
/-- What held of the first world, of which nothing is written. -/
def factF (F : World → Prop) : MF where
  p g := ∃ w0, F w0 ∧ Below w0.heap.size w0 g.w ∧ ∀ b, b < w0.heap.size → g.fz b
  mono e h := by
    obtain ⟨w0, h1, h2, h3⟩ := h
    exact ⟨w0, h1, ⟨e.os.trans h2.os, e.tape.trans h2.tape, e.output.trans h2.output, Nat.le_trans h2.size e.size, fun k hk => (e.same k (h3 k hk)).trans (h2.block k hk)⟩, fun b hb => e.fz b (h3 b hb)⟩
theorem factF_at {F : World → Prop} (hF : ∀ w w', F w → Below w.heap.size w w' → F w') {g : GW} (h : (factF F).p g) : F g.w := by
  obtain ⟨w0, h1, h2, _⟩ := h
  exact hF w0 g.w h1 h2
theorem tab_below {P : Program} {n : String} {b : Nat} {k : IntKind} {zs : List Int} {w w' : World} (hg : P.globalNamed n = some b) (h : Lib.TabIs P w n k zs) (hb : Below w.heap.size w w') : Lib.TabIs P w' n k zs := by
  unfold Lib.TabIs World.var? at h ⊢
  rw [hg] at h ⊢
  simp only [Option.bind_some] at h ⊢
  have hlt : b < w.heap.size := by
    rcases Nat.lt_or_ge b w.heap.size with h' | h'
    · exact h'
    · rw [Array.getElem?_eq_none h'] at h; cases h
  rw [hb.block b hlt]
  exact h
theorem cell_below {w w' : World} (hb : Below w.heap.size w w') {a : Addr} {v : Value} (hc : w.cell? a = some v) : w'.cell? a = some v := (hb.cell (World.block_lt_of_cell? w a hc)).trans hc
theorem below_drewN (w : World) (n : Nat) : Below w.heap.size w (w.drewN n) := ⟨rfl, rfl, rfl, Nat.le_refl _, fun _ _ => rfl⟩
theorem below_grow (w : World) (os : Array Obj) : Below w.heap.size w (grow w os) := ⟨rfl, rfl, rfl, by simp [grow], fun k hk => by simp [grow, Array.getElem?_append_left hk]⟩
theorem ext_below {g : GW} {w' : World} (h : Below g.w.heap.size g.w w') : ∃ g', g'.w = w' ∧ Ext [] g g' :=
  ⟨⟨w', g.fz, fun b hb => Nat.lt_of_lt_of_le (g.lt b hb) h.size⟩, rfl, ⟨h.os, h.tape, h.output, h.size, fun _ hb => hb, fun b hb => h.block b (g.lt b hb)⟩, fun b hb _ => h.block b hb, fun _ _ _ hb => hb⟩
/-- A contract of the library's, told on symbolic values. -/
theorem Fc_lib {P : Program} {fs : List MF} {f : FuncId} {args : List SV} {res : SV} (hc : Callable P f)
    (h : ∀ ρ g vs, All fs g → DenL g ρ args vs → Calls P f vs.toArray g.w fun e w' => ∃ v, e = .returned v ∧ Below g.w.heap.size g.w w' ∧ ∀ g' ρ', Den g' ρ' res v) : Fc P fs f args res := by
  refine ⟨hc, fun ρ g vs hf ha => (h ρ g vs hf ha).mono ?_⟩
  rintro e w' ⟨v, rfl, hb, hd⟩
  obtain ⟨g', hw, he⟩ := ext_below hb
  exact ⟨v, g', rfl, hw, he, hd g' ρ⟩
theorem args_v {g ρ} : ∀ {args : List SV} {vs xs : List Value}, valsL args = some xs → DenL g ρ args vs → vs = xs := fun h d => valsL_ok h d
end Go.KX
namespace Go.KX
structure Val where
  k : Int
  n : Int
  deriving DecidableEq
abbrev nullV : Val := ⟨2, 0⟩
abbrev nanV : Val := ⟨3, 0⟩
abbrev plusV : Val := ⟨4, 0⟩
abbrev minusV : Val := ⟨5, 0⟩
abbrev zeroV : Val := ⟨0, 0⟩
def numV (n : Int) : Val := if 1000000000000000 < n then plusV else if n < -1000000000000000 then minusV else ⟨1, n⟩
def truthV (b : Bool) : Val := if b then ⟨1, 1000⟩ else ⟨1, 0⟩
def isV (v : Val) : Bool := if v.k = 1 then decide (-1000000000000000 ≤ v.n ∧ v.n ≤ 1000000000000000) else decide (2 ≤ v.k ∧ v.k ≤ 5 ∧ v.n = 0)
def trueV (v : Val) : Bool := decide (v.k ≠ 2 ∧ v.k ≠ 0 ∧ (v.k ≠ 1 ∨ v.n ≠ 0))
def rankV (v : Val) : Int := if v.k = 4 then 1000000000000001 else if v.k = 5 then -1000000000000001 else v.n
def sgn (n : Int) : Int := if 0 < n then 1 else if n < 0 then -1 else 0
def signV (v : Val) : Int := sgn (rankV v)
def infV (s : Int) : Val := if s = 0 then nanV else if 0 < s then plusV else minusV
def finV (v : Val) : Bool := decide (v.k = 1)
def addV (a b : Val) : Val := if a.k = 1 ∧ b.k = 1 then numV (a.n + b.n) else if a.k ≠ 1 ∧ b.k ≠ 1 ∧ a ≠ b then nanV else if a.k = 1 then b else a
def absI (n : Int) : Int := max n (-n)
def mulV (a b : Val) : Val :=
  if a.k ≠ 1 ∨ b.k ≠ 1 then infV (signV a * signV b) else
  if 1000000000000000 < absI a.n * absI b.n / 1000 then infV (signV a * signV b) else numV (signV a * signV b * (absI a.n * absI b.n / 1000))
def divV (a b : Val) : Val :=
  if a.k ≠ 1 ∧ b.k ≠ 1 then nanV else if b.k ≠ 1 then numV 0 else if a.k ≠ 1 ∧ b.n < 0 then numV (-rankV a) else if a.k ≠ 1 then a else
  if b.n = 0 then infV a.n else numV ((a.n * 1000).tdiv b.n)
def negV (v : Val) : Val := numV (-rankV v)
/-- An operation on two that are neither null nor NaN. -/
def numbersV (f : Val → Val → Val) (a b : Val) : Val := if a.k = 3 ∨ b.k = 3 then nanV else f a b
def orderV (no : Bool) (f : Int → Int → Bool) (a b : Val) : Val := if a.k = 3 ∨ b.k = 3 then truthV no else truthV (f (rankV a) (rankV b))
abbrev oAdd : Bytes := [43]
abbrev oSub : Bytes := [45]
abbrev oMul : Bytes := [42]
abbrev oDiv : Bytes := [47]
abbrev oEq : Bytes := [61, 61]
abbrev oNe : Bytes := [33, 61]
abbrev oLt : Bytes := [60]
abbrev oLe : Bytes := [60, 61]
abbrev oGt : Bytes := [62]
abbrev oGe : Bytes := [62, 61]
abbrev oAnd : Bytes := [38, 38]
abbrev oOr : Bytes := [124, 124]
abbrev oNot : Bytes := [33]
abbrev oAbs : Bytes := [97, 98, 115]
abbrev oFloor : Bytes := [102, 108, 111, 111, 114]
abbrev oNull : Bytes := [105, 115, 95, 110, 117, 108, 108]
abbrev oNan : Bytes := [105, 115, 95, 110, 97, 110]
abbrev oInf : Bytes := [105, 115, 95, 105, 110, 102]
abbrev oNum : Bytes := [105, 115, 95, 110, 117, 109, 98, 101, 114]
/-- The operations with two operands. -/
def twoT : List (Bytes × (Val → Val → Val)) :=
  [(oAdd, numbersV addV), (oSub, numbersV fun a b => addV a (negV b)), (oMul, numbersV mulV), (oDiv, numbersV divV),
   (oEq, orderV false fun x y => decide (x = y)), (oNe, orderV true fun x y => decide (x ≠ y)), (oLt, orderV false fun x y => decide (x < y)), (oLe, orderV false fun x y => decide (x ≤ y)),
   (oGt, orderV false fun x y => decide (y < x)), (oGe, orderV false fun x y => decide (y ≤ x)), (oAnd, fun a b => truthV (trueV a && trueV b)), (oOr, fun a b => truthV (trueV a || trueV b))]
def twoV (op : Bytes) (a b : Val) : Option Val := (mget twoT op).map fun f => f a b
def plainV (f : Int → Int) (v : Val) : Val := if v.k = 2 ∨ v.k = 3 then v else numV (f (rankV v))
def floorV (v : Val) : Val := if v.k = 1 then numV (v.n - (v.n.tmod 1000 + 1000).tmod 1000) else v
def notV (v : Val) : Val := if v.k = 2 then v else truthV (!trueV v)
/-- The operations with one operand. -/
def oneT : List (Bytes × (Val → Val)) :=
  [(oSub, plainV fun n => -n), (oAbs, plainV fun n => max n (-n)), (oFloor, floorV), (oNot, notV), (oNull, fun v => truthV (decide (v.k = 2))), (oNan, fun v => truthV (decide (v.k = 3))),
   (oInf, fun v => truthV (decide (v.k = 4 ∨ v.k = 5))), (oNum, fun v => truthV (decide (v.k = 1)))]
def oneV (op : Bytes) (v : Val) : Option Val := (mget oneT op).map fun f => f v
/-- An operation: the value, the error's number. -/
def doV (op : Bytes) (l : List Val) : Val × Int :=
  if l.all isV then match l with
    | [a] => match oneV op a with
      | some v => (v, 0)
      | none => (zeroV, 2)
    | [a, b] => match twoV op a b with
      | some v => if a.k = 2 ∨ b.k = 2 then (nullV, 0) else (v, 0)
      | none => (zeroV, 2)
    | _ => (zeroV, 2)
  else (zeroV, 80)
theorem isV_cases {v : Val} (h : isV v = true) : (v.k = 1 ∧ -1000000000000000 ≤ v.n ∧ v.n ≤ 1000000000000000) ∨ v = nullV ∨ v = nanV ∨ v = plusV ∨ v = minusV := by
  obtain ⟨k, n⟩ := v
  simp only [isV] at h
  split at h
  · exact .inl ⟨by assumption, by simpa using h⟩
  · simp only [decide_eq_true_eq] at h
    obtain ⟨h1, h2, rfl⟩ := h
    have : k = 2 ∨ k = 3 ∨ k = 4 ∨ k = 5 := by omega
    rcases this with rfl | rfl | rfl | rfl <;> simp
theorem isV_num (n : Int) : isV (numV n) = true := by
  unfold numV isV
  split
  · decide
  · split
    · decide
    · simp; omega
end Go.KX
namespace Go.KX
abbrev nI (n : Int) : SV := .v (.int .i64 n)
abbrev bS (b : Bool) : SV := .v (.bool b)
abbrev vS (v : Val) : SV := .a [.v (.int .i64 v.k), .v (.int .i64 v.n)]
theorem sgn_mm (n : Int) : min (max n (-1)) 1 = sgn n := by unfold sgn; split <;> (try split) <;> omega
theorem inf_mm {n : Int} (h : ¬ n = 0) : numV (min (max n (-1)) 1 * 1000000000000001) = infV n := by
  rw [sgn_mm]
  unfold infV sgn
  rw [if_neg h]
  by_cases h1 : 0 < n
  · rw [if_pos h1, if_pos h1]; rfl
  · rw [if_neg h1, if_pos (by omega), if_neg h1]; rfl
end Go.KX
namespace Go.KX
/-- The index of the first that answers, or -1. -/
def idxF {α : Type} (p : α → Bool) : List α → Int
  | [] => -1
  | x :: r => if p x then 0 else if idxF p r < 0 then -1 else idxF p r + 1
theorem idxF_ge {α : Type} (p : α → Bool) : ∀ l : List α, -1 ≤ idxF p l
  | [] => by simp [idxF]
  | x :: r => by have := idxF_ge p r; unfold idxF; split <;> (try split) <;> omega
theorem idxF_none {α : Type} {p : α → Bool} : ∀ {l : List α}, (∀ x ∈ l, p x = false) → idxF p l = -1
  | [], _ => rfl
  | x :: r, h => by
    unfold idxF
    rw [idxF_none (fun y hy => h y (.tail _ hy)), if_neg (by simp [h x (.head _)])]
    rfl
theorem idxF_some {α : Type} {p : α → Bool} : ∀ {l : List α} {j : Nat} (hj : j < l.length), (∀ x ∈ l.take j, p x = false) → p l[j] = true → idxF p l = j
  | [], j, hj, _, _ => by simp at hj
  | x :: r, 0, hj, _, h => by unfold idxF; simp at h; simp [h]
  | x :: r, j + 1, hj, h0, h => by
    have hj' : j < r.length := by simpa using hj
    have e := idxF_some (l := r) hj' (fun y hy => h0 y (by simp [hy])) (by simpa using h)
    unfold idxF
    rw [if_neg (by simp [h0 x (by simp)]), e]
    rw [if_neg (by omega)]; simp
theorem idxF_any {α : Type} (p : α → Bool) : ∀ l : List α, decide (0 ≤ idxF p l) = l.any p
  | [] => rfl
  | x :: r => by
    have h := idxF_any p r
    have h2 := idxF_ge p r
    unfold idxF
    rw [List.any_cons, ← h]
    by_cases hp : p x = true
    · rw [if_pos hp, hp]; rfl
    · rw [if_neg hp, Bool.eq_false_iff.2 hp]
      by_cases h0 : idxF p r < 0
      · rw [if_pos h0]; simp; omega
      · rw [if_neg h0]; simp; omega
theorem take_next {α : Type} {P : α → Prop} {l : List α} {j : Nat} (hj : j < l.length) (h : ∀ x ∈ l.take j, P x) (h2 : P l[j]) : ∀ x ∈ l.take (j + 1), P x := by
  intro x hx
  rw [List.take_succ_eq_append_getElem hj] at hx
  rcases List.mem_append.1 hx with h1 | h1
  · exact h x h1
  · simp at h1; exact h1 ▸ h2
/-- The row of an element. -/
theorem row_at {α : Type} (f : α → List SV) {l : List α} {j : Nat} (hj : j < l.length) : (l.map f)[((j : Nat) : Int).toNat]? = some (f l[j]) := by
  simp [hj]
abbrev rI (l : List Int) : SV := .s 1 (l.map fun n => [nI n])
abbrev rV (l : List Val) : SV := .s 2 (l.map fun v => [nI v.k, nI v.n])
theorem isV_n {v : Val} (h : isV v = true) : -1000000000000000 ≤ v.n ∧ v.n ≤ 1000000000000000 := by
  rcases isV_cases h with ⟨_, h1, h2⟩ | rfl | rfl | rfl | rfl
  · exact ⟨h1, h2⟩
  all_goals decide
theorem rank_in {v : Val} (h : isV v = true) : -1000000000000001 ≤ rankV v ∧ rankV v ≤ 1000000000000001 := by
  have := isV_n h
  unfold rankV
  split <;> (try split) <;> omega
theorem tmod_lt (n : Int) : -1000 < n.tmod 1000 ∧ n.tmod 1000 < 1000 := ⟨Int.lt_tmod_of_pos _ (by decide), Int.tmod_lt_of_pos _ (by decide)⟩
theorem quo_in {a b : Int} (h1 : -9000000000000000000 ≤ a) (h2 : a ≤ 9000000000000000000) : IntKind.wrap .i64 (a.tdiv b) = a.tdiv b := by
  have := Int.natAbs_tdiv_le_natAbs a b
  exact wrap_i64 (by omega) (by omega)
theorem sgn_cases (n : Int) : sgn n = 1 ∨ sgn n = -1 ∨ sgn n = 0 := by unfold sgn; split <;> (try split) <;> omega
theorem sgn_mul (a b : Val) : -1 ≤ signV a * signV b ∧ signV a * signV b ≤ 1 := by
  unfold signV
  rcases sgn_cases (rankV a) with h | h | h <;> rcases sgn_cases (rankV b) with h' | h' | h' <;> rw [h, h'] <;> decide
theorem sgn_times {s : Int} (hs : -1 ≤ s ∧ s ≤ 1) {n : Nat} (hn : n ≤ 1000000000000000) : -1000000000000000 ≤ s * (n : Int) ∧ s * (n : Int) ≤ 1000000000000000 := by
  have : s = -1 ∨ s = 0 ∨ s = 1 := by omega
  rcases this with h | h | h <;> subst h <;> omega
theorem abs_sgn {v : Val} (h : v.k = 1) {A : Nat} (hA : absI v.n = A) : v.n * signV v = A := by
  have : signV v = sgn v.n := by simp [signV, rankV, h]
  rw [this, ← hA]
  unfold sgn absI
  split
  · omega
  · split <;> omega
theorem mul_split {a b : Val} (ha : a.k = 1) (hb : b.k = 1) {A B : Nat} (hA : absI a.n = A) (hB : absI b.n = B) : mulV a b = if 1000000000000000 < ((A * B / 1000 : Nat) : Int) then infV (signV a * signV b) else numV (signV a * signV b * ((A * B / 1000 : Nat) : Int)) := by
  unfold mulV
  rw [if_neg (by simp [ha, hb]), hA, hB, show (A : Int) * (B : Int) / 1000 = ((A * B / 1000 : Nat) : Int) by rw [← Int.natCast_mul]; rfl]
end Go.KX
namespace Go.KX
/-- The three digits behind the point, without noughts at the end. -/
def fracV (r : Nat) : Bytes := if r = 0 then [] else 46 :: Lib.trimRightB ((Lib.decDigits (1000 + r)).drop 1) 48
def magV (n : Nat) : Bytes := Lib.decDigits (n / 1000) ++ fracV (n % 1000)
def printV (v : Val) : Bytes :=
  if isV v = false then [] else if v.k = 2 then [110, 117, 108, 108] else if v.k = 3 then [78, 97, 78] else if v.k = 4 then [43, 73, 110, 102] else if v.k = 5 then [45, 73, 110, 102] else
  if v.n < 0 then 45 :: magV v.n.natAbs else magV v.n.natAbs
theorem dec_one {n : Nat} (h : n < 10) : Lib.decDigits n = (([48, 49, 50, 51, 52, 53, 54, 55, 56, 57] : Bytes).drop n).take 1 := by
  rw [Lib.decDigits_one h]
  have : n = 0 ∨ n = 1 ∨ n = 2 ∨ n = 3 ∨ n = 4 ∨ n = 5 ∨ n = 6 ∨ n = 7 ∨ n = 8 ∨ n = 9 := by omega
  rcases this with rfl | rfl | rfl | rfl | rfl | rfl | rfl | rfl | rfl | rfl <;> rfl
theorem dec_more {n : Nat} (h : ¬ n < 10) : Lib.decDigits n = Lib.decDigits (n / 10) ++ (([48, 49, 50, 51, 52, 53, 54, 55, 56, 57] : Bytes).drop (n % 10)).take 1 := by
  rw [← dec_one (show n % 10 < 10 by omega), Lib.decDigits_one (show n % 10 < 10 by omega)]
  conv => lhs; rw [Lib.decDigits]
  rw [dif_neg h]
theorem dec_len {n : Nat} (h : n < 10000000000000000) : (Lib.decDigits n).length ≤ 20 := by
  have key : ∀ (k n : Nat), n < 10 ^ (k + 1) → (Lib.decDigits n).length ≤ k + 1 := by
    intro k
    induction k with
    | zero => intro n hn; rw [Lib.decDigits_one (by simpa using hn)]; simp
    | succ k ih =>
      intro n hn
      by_cases h10 : n < 10
      · rw [Lib.decDigits_one h10]; simp
      · rw [dec_more h10, List.length_append]
        have := ih (n / 10) (by rw [Nat.pow_succ] at hn; omega)
        have h2 : ((([48, 49, 50, 51, 52, 53, 54, 55, 56, 57] : Bytes).drop (n % 10)).take 1).length ≤ 1 := by rw [List.length_take]; omega
        omega
  exact Nat.le_trans (key 15 n (by omega)) (by omega)
theorem dec4 {r : Nat} (h : r < 1000) : (Lib.decDigits (1000 + r)).drop 1 = [UInt8.ofNat (48 + r / 100), UInt8.ofNat (48 + r / 10 % 10), UInt8.ofNat (48 + r % 10)] := by
  rw [Lib.decDigits, dif_neg (by omega), Lib.decDigits, dif_neg (by omega), Lib.decDigits_two (by omega) (by omega)]
  simp only [List.cons_append, List.nil_append, List.drop_succ_cons, List.drop_zero]
  rw [show (1000 + r) / 10 / 10 % 10 = r / 100 by omega, show (1000 + r) / 10 % 10 = r / 10 % 10 by omega, show (1000 + r) % 10 = r % 10 by omega]
theorem dropW_nil {p : UInt8 → Bool} : ∀ {l : Bytes}, l.dropWhile p = [] → ∀ x ∈ l, p x = true
  | [], _, x, hx => by cases hx
  | y :: r, h, x, hx => by
    unfold List.dropWhile at h
    split at h
    · cases hx with
      | head => assumption
      | tail _ hm => exact dropW_nil h x hm
    · cases h
theorem dig_nz {d : Nat} (h : d < 10) (h2 : UInt8.ofNat (48 + d) = 48) : d = 0 := by
  have := congrArg UInt8.toNat h2
  simp at this
  omega
theorem frac_ne {r : Nat} (h0 : r ≠ 0) (h : r < 1000) : Lib.trimRightB ((Lib.decDigits (1000 + r)).drop 1) 48 ≠ [] := by
  rw [dec4 h, Lib.trimRightB]
  intro hn
  have hn := List.reverse_eq_nil_iff.1 hn
  have hn := dropW_nil hn
  have a1 := dig_nz (d := r / 100) (by omega) (by simpa using hn (UInt8.ofNat (48 + r / 100)) (by simp))
  have a2 := dig_nz (d := r / 10 % 10) (by omega) (by simpa using hn (UInt8.ofNat (48 + r / 10 % 10)) (by simp))
  have a3 := dig_nz (d := r % 10) (by omega) (by simpa using hn (UInt8.ofNat (48 + r % 10)) (by simp))
  omega
theorem print_pos {n : Int} (h0 : 0 ≤ n) (h1 : n ≤ 1000000000000000) : printV ⟨1, n⟩ = magV n.natAbs := by
  unfold printV
  rw [if_neg (by unfold isV; simp; omega), if_neg (by simp), if_neg (by simp), if_neg (by simp), if_neg (by simp), if_neg (by simp; omega)]
theorem trim_len (l : Bytes) : (Lib.trimRightB l 48).length ≤ l.length := by
  unfold Lib.trimRightB
  rw [List.length_reverse]
  have := (List.dropWhile_sublist (fun x : UInt8 => x == 48) (l := l.reverse)).length_le
  simpa using this
theorem mag_len {n : Nat} (h : n ≤ 1000000000000000) : (magV n).length ≤ 24 := by
  have h1 := dec_len (n := n / 1000) (by omega)
  unfold magV fracV
  rw [List.length_append]
  split
  · simp; omega
  · have h2 := trim_len ((Lib.decDigits (1000 + n % 1000)).drop 1)
    have h3 : ((Lib.decDigits (1000 + n % 1000)).drop 1).length = 3 := by rw [dec4 (by omega)]; rfl
    simp only [List.length_cons]
    omega
theorem print_len (v : Val) : (printV v).length ≤ 30 := by
  unfold printV
  split
  · simp
  · rename_i hv
    have hv : isV v = true := by simpa using hv
    have hn : v.n.natAbs ≤ 1000000000000000 := by
      rcases isV_cases hv with ⟨_, h1, h2⟩ | rfl | rfl | rfl | rfl <;> first | omega | decide
    have := mag_len hn
    repeat' split
    all_goals simp <;> omega
end Go.KX
namespace Go.KX
/-- A tree: its kind, name, value, kids. -/
inductive Ex where
  | mk (k : Int) (name : Bytes) (v : Val) (kids : List Ex)
namespace Ex
def kind : Ex → Int | .mk k _ _ _ => k
def name : Ex → Bytes | .mk _ n _ _ => n
def val : Ex → Val | .mk _ _ v _ => v
def kids : Ex → List Ex | .mk _ _ _ l => l
end Ex
abbrev ex0 : Ex := .mk 0 [] zeroV []
abbrev exN (v : Val) : Ex := .mk 1 [] v []
abbrev exR (n : Bytes) : Ex := .mk 2 n zeroV []
abbrev exC (n : Bytes) (l : List Ex) : Ex := .mk 3 n zeroV l
abbrev gDig : Bytes := [48, 49, 50, 51, 52, 53, 54, 55, 56, 57]
abbrev gGreat : Bytes := [65, 66, 67, 68, 69, 70, 71, 72, 73, 74, 75, 76, 77, 78, 79, 80, 81, 82, 83, 84, 85, 86, 87, 88, 89, 90]
abbrev gLet : Bytes := [97, 98, 99, 100, 101, 102, 103, 104, 105, 106, 107, 108, 109, 110, 111, 112, 113, 114, 115, 116, 117, 118, 119, 120, 121, 122, 95, 65, 66, 67, 68, 69, 70, 71, 72, 73, 74, 75, 76, 77, 78, 79, 80, 81, 82, 83, 84, 85, 86, 87, 88, 89, 90]
abbrev gLD : Bytes := [97, 98, 99, 100, 101, 102, 103, 104, 105, 106, 107, 108, 109, 110, 111, 112, 113, 114, 115, 116, 117, 118, 119, 120, 121, 122, 95, 65, 66, 67, 68, 69, 70, 71, 72, 73, 74, 75, 76, 77, 78, 79, 80, 81, 82, 83, 84, 85, 86, 87, 88, 89, 90, 48, 49, 50, 51, 52, 53, 54, 55, 56, 57]
/-- How many bytes, from the front, are among some. -/
def runB (g : Bytes) : Bytes → Nat
  | [] => 0
  | c :: r => if c ∈ g then runB g r + 1 else 0
abbrev oPL : Bytes := [40]
abbrev oPR : Bytes := [41]
def signsT : List Bytes := [oOr, oAnd, oEq, oNe, oLe, oGe, oLt, oGt, oAdd, oSub, oMul, oDiv, oNot, oPL, oPR]
def levelsT : List (List Bytes) := [[oOr], [oAnd], [oEq, oNe, oLe, oGe, oLt, oGt], [oAdd, oSub], [oMul, oDiv]]
/-- Where a parser stands: a place, the first error, its place, whether there is one. -/
structure Ps where
  i : Nat
  err : Int
  at_ : Int
  dead : Bool
  deriving DecidableEq
namespace Ps
def fails (p : Ps) (e a : Int) : Ps := if p.dead then p else ⟨p.i, e, a, true⟩
def restP (s : Bytes) (p : Ps) : Ps := if p.dead then p else { p with i := p.i + runB [32] (s.drop p.i) }
def restT (s : Bytes) (p : Ps) : Bytes := if p.dead then [] else s.drop (p.restP s).i
end Ps
def firstSign (r : Bytes) : Option Bytes := signsT.find? fun x => Lib.hasPrefix r x
def takeT (s : Bytes) (l : List Bytes) (p : Ps) : Option Bytes := match firstSign (p.restT s) with
  | some x => if x ∈ l then some x else none
  | none => none
def takeP (s : Bytes) (l : List Bytes) (p : Ps) : Ps := match takeT s l p with
  | some x => { p.restP s with i := (p.restP s).i + x.length }
  | none => p.restP s
def mustP (s : Bytes) (x : Bytes) (p : Ps) : Ps := match takeT s [x] p with
  | some _ => takeP s [x] p
  | none => (takeP s [x] p).fails 110 (takeP s [x] p).i
def enterP (s : Bytes) (deep : Nat) (p : Ps) : Ps := if 32 < deep then (p.restP s).fails 111 (p.restP s).i else p.restP s
/-- Operands with operators between; tk: takes one of some signs. -/
def loopG {σ : Type} (tk : List Bytes → σ → Option Bytes × σ) (sub : σ → Ex × σ) (ops : List Bytes) (alone : Bool) : Nat → Ex → σ → Ex × σ
  | 0, x, p => (x, p)
  | n + 1, x, p => match (tk ops p).1 with
    | none => (x, (tk ops p).2)
    | some o => match alone with
      | true => (exC o [x, (sub (tk ops p).2).1], (sub (tk ops p).2).2)
      | false => loopG tk sub ops alone n (exC o [x, (sub (tk ops p).2).1]) (sub (tk ops p).2).2
/-- Level l and the tighter ones: five, four, .. of them. -/
def levG {σ : Type} (tk : List Bytes → σ → Option Bytes × σ) (fuel : Nat) (u : σ → Ex × σ) : Nat → σ → Ex × σ
  | 0, p => u p
  | n + 1, p => loopG tk (levG tk fuel u n) (levelsT.getD (4 - n) []) (n == 2) fuel (levG tk fuel u n p).1 (levG tk fuel u n p).2
abbrev tkX (s : Bytes) (l : List Bytes) (p : Ps) : Option Bytes × Ps := (takeT s l p, takeP s l p)
abbrev levX (s : Bytes) (u : Ps → Ex × Ps) : Nat → Ps → Ex × Ps := levG (tkX s) (s.length + 1) u
def exprX (s : Bytes) (u : Ps → Ex × Ps) (deep : Nat) (p : Ps) : Ex × Ps := levX s u 5 (enterP s deep p)
def functionB (w : Bytes) : Bool := decide (w ∈ [oAbs, oFloor, oNull, oNan, oInf, oNum])
def refB (w : Bytes) : Bool := match w with
  | [] => false
  | c :: _ => decide (w.length ≤ 16) && decide (c ∈ gGreat) && decide (runB gLD w = w.length)
/-- How long a number is. -/
def numLen (r : Bytes) : Nat := if runB gDig r + 1 < r.length ∧ r.getD (runB gDig r) 0 = 46 ∧ 0 < runB gDig (r.drop (runB gDig r + 1)) then runB gDig r + 1 + runB gDig (r.drop (runB gDig r + 1)) else runB gDig r
section
variable (pv : Bytes → Val × Int) (s : Bytes)
def numberX (r : Bytes) (p : Ps) : Ex × Ps :=
  (exN (pv (r.take (numLen r))).1, { (if (pv (r.take (numLen r))).2 = 0 then p else p.fails 110 p.i) with i := p.i + numLen r })
abbrev wNull : Bytes := [110, 117, 108, 108]
abbrev wNan : Bytes := [110, 97, 110]
abbrev wInf : Bytes := [105, 110, 102]
def parX (ex : Ps → Ex × Ps) (p : Ps) : Ex × Ps := ((ex p).1, mustP s oPR (ex p).2)
def wordX (ex : Ps → Ex × Ps) (r : Bytes) (p : Ps) : Ex × Ps :=
  let w := r.take (runB gLD r)
  let p1 : Ps := { p with i := p.i + w.length }
  if w = wNull then (exN nullV, p1) else if w = wNan then (exN nanV, p1) else if w = wInf then (exN plusV, p1) else
  (exC w [(parX s ex (mustP s oPL (if functionB w then p1 else p1.fails 110 p.i))).1], (parX s ex (mustP s oPL (if functionB w then p1 else p1.fails 110 p.i))).2)
def refX (r : Bytes) (p : Ps) : Ex × Ps :=
  let w := (r.drop 1).take (runB gLD (r.drop 1))
  (exR w, { (if refB w then p else p.fails 110 p.i) with i := p.i + (1 + w.length) })
/-- What no operator parts; ex: an expression, one deeper. -/
def primX (ex : Ps → Ex × Ps) (p0 : Ps) : Ex × Ps :=
  let p := p0.restP s
  match p0.dead, p0.restT s with
  | true, _ => (ex0, p)
  | false, [] => (ex0, p.fails 110 p.i)
  | false, c :: r => if c = 40 then parX s ex { p with i := p.i + 1 } else if c = 36 then refX (c :: r) p else if c ∈ gDig then numberX pv (c :: r) p else if c ∈ gLet then wordX s ex (c :: r) p else (ex0, p.fails 110 p.i)
/-- An operand with signs ahead of it; d: how much deeper it may go. -/
def unX : Nat → Ps → Ex × Ps
  | 0, p => primX pv s (fun q => (ex0, q)) (takeP s [oSub, oNot] (enterP s 33 p))
  | d + 1, p => match takeT s [oSub, oNot] (enterP s (32 - d) p) with
    | some o => (exC o [(unX d (takeP s [oSub, oNot] (enterP s (32 - d) p))).1], (unX d (takeP s [oSub, oNot] (enterP s (32 - d) p))).2)
    | none => primX pv s (exprX s (unX d) (33 - d)) (takeP s [oSub, oNot] (enterP s (32 - d) p))
/-- The tree of a text; an error, its place. -/
def parseX : Ex × Int × Int :=
  if 1024 < s.length then (ex0, 1, 0) else
  let r := exprX s (unX pv s 33) 0 ⟨0, 0, 0, false⟩
  let q := r.2.restP s
  let q2 := if r.2.restT s = [] then q else q.fails 110 q.i
  if q2.dead then (ex0, q2.err, q2.at_) else (r.1, 0, 0)
end
end Go.KX
namespace Go.KX
structure Pd where
  i : Nat
  e : Int
  at_ : Int
namespace Pd
def fail (p : Pd) (e a : Int) : Pd := if p.e = 0 then ⟨p.i, e, a⟩ else p
def blanks (s : Bytes) (p : Pd) : Pd := { p with i := p.i + runB [32] (s.drop p.i) }
end Pd
def signD (s : Bytes) (p : Pd) : Option Bytes := if p.e = 0 then firstSign (s.drop (p.blanks s).i) else none
def takeTD (s : Bytes) (l : List Bytes) (p : Pd) : Option Bytes := match signD s p with
  | some x => if x ∈ l then some x else none
  | none => none
def takePD (s : Bytes) (l : List Bytes) (p : Pd) : Pd := match takeTD s l p with
  | some x => { p.blanks s with i := (p.blanks s).i + x.length }
  | none => p.blanks s
def mustD (s : Bytes) (x : Bytes) (p : Pd) : Pd := match takeTD s [x] p with
  | some _ => takePD s [x] p
  | none => (takePD s [x] p).fail 110 (takePD s [x] p).i
def enterD (s : Bytes) (deep : Nat) (p : Pd) : Pd := if 32 < deep then (p.blanks s).fail 111 (p.blanks s).i else p.blanks s
abbrev tkD (s : Bytes) (l : List Bytes) (p : Pd) : Option Bytes × Pd := (takeTD s l p, takePD s l p)
abbrev levD (s : Bytes) (u : Pd → Ex × Pd) : Nat → Pd → Ex × Pd := levG (tkD s) (s.length + 1) u
def exprD (s : Bytes) (u : Pd → Ex × Pd) (deep : Nat) (p : Pd) : Ex × Pd := levD s u 5 (enterD s deep p)
section
variable (pv : Bytes → Val × Int) (s : Bytes)
def numberD (r : Bytes) (p : Pd) : Ex × Pd :=
  (exN (pv (r.take (numLen r))).1, { (if (pv (r.take (numLen r))).2 = 0 then p else p.fail 110 p.i) with i := p.i + numLen r })
def parD (ex : Pd → Ex × Pd) (p : Pd) : Ex × Pd := ((ex p).1, mustD s oPR (ex p).2)
def wordD (ex : Pd → Ex × Pd) (r : Bytes) (p : Pd) : Ex × Pd :=
  let w := r.take (runB gLD r)
  let p1 : Pd := { p with i := p.i + w.length }
  if w = wNull then (exN nullV, p1) else if w = wNan then (exN nanV, p1) else if w = wInf then (exN plusV, p1) else
  if functionB w then (exC w [(parD s ex (mustD s oPL p1)).1], (parD s ex (mustD s oPL p1)).2) else (ex0, p1.fail 110 p.i)
def refD (r : Bytes) (p : Pd) : Ex × Pd :=
  let w := (r.drop 1).take (runB gLD (r.drop 1))
  (exR w, { (if refB w then p else p.fail 110 p.i) with i := p.i + (1 + w.length) })
def primD (ex : Pd → Ex × Pd) (p0 : Pd) : Ex × Pd :=
  let p := p0.blanks s
  if p0.e = 0 then
    match takeTD s [oPL] p with
    | some _ => parD s ex (takePD s [oPL] p)
    | none => match s.drop p.i with
      | [] => (ex0, (takePD s [oPL] p).fail 110 p.i)
      | c :: r => if c ∈ gDig then numberD pv (c :: r) p else if c = 36 then refD (c :: r) p else if c ∈ gLet then wordD s ex (c :: r) p else (ex0, p.fail 110 p.i)
  else (ex0, p)
def unD : Nat → Pd → Ex × Pd
  | 0, p => primD pv s (fun q => (ex0, q)) (takePD s [oSub, oNot] (enterD s 33 p))
  | d + 1, p => match takeTD s [oSub, oNot] (enterD s (32 - d) p) with
    | some o => (exC o [(unD d (takePD s [oSub, oNot] (enterD s (32 - d) p))).1], (unD d (takePD s [oSub, oNot] (enterD s (32 - d) p))).2)
    | none => primD pv s (exprD s (unD d) (33 - d)) (takePD s [oSub, oNot] (enterD s (32 - d) p))
end
/-- The two parsers stand alike. -/
def Sim (p : Ps) (q : Pd) : Prop := (p.dead = false ∧ q.e = 0 ∧ p.i = q.i) ∨ (p.dead = true ∧ q.e = p.err ∧ q.e ≠ 0 ∧ q.at_ = p.at_)
/-- And what they have taken is alike. -/
def SimR (a : Ex × Ps) (b : Ex × Pd) : Prop := Sim a.2 b.2 ∧ (a.2.dead = false → a.1 = b.1)
theorem Sim.fails {p : Ps} {q : Pd} (h : Sim p q) {e : Int} (he : e ≠ 0) {a b : Int} (hab : p.dead = false → a = b) : Sim (p.fails e a) (q.fail e b) := by
  unfold Ps.fails Pd.fail
  rcases h with ⟨h1, h2, h3⟩ | ⟨h1, h2, h3, h4⟩
  · rw [if_neg (by simp [h1]), if_pos h2]; exact .inr ⟨rfl, rfl, he, (hab h1).symm⟩
  · rw [if_pos h1, if_neg h3]; exact .inr ⟨h1, h2, h3, h4⟩
theorem Sim.rest {s : Bytes} {p : Ps} {q : Pd} (h : Sim p q) : Sim (p.restP s) (q.blanks s) := by
  unfold Ps.restP Pd.blanks
  rcases h with ⟨h1, h2, h3⟩ | ⟨h1, h2, h3, h4⟩
  · rw [if_neg (by simp [h1])]; exact .inl ⟨h1, h2, by simp [h3]⟩
  · rw [if_pos h1]; exact .inr ⟨h1, h2, h3, h4⟩
theorem Sim.live {p : Ps} {q : Pd} (h : Sim p q) (hd : p.dead = false) : q.e = 0 ∧ p.i = q.i := by
  rcases h with ⟨_, h2, h3⟩ | ⟨h1, _⟩
  · exact ⟨h2, h3⟩
  · rw [hd] at h1; cases h1
theorem Sim.gone {p : Ps} {q : Pd} (h : Sim p q) (hd : p.dead = true) : q.e ≠ 0 := by
  rcases h with ⟨h1, _⟩ | ⟨_, _, h3, _⟩
  · rw [hd] at h1; cases h1
  · exact h3
theorem restP_dead (s : Bytes) (p : Ps) : (p.restP s).dead = p.dead := by unfold Ps.restP; split <;> rfl
theorem first_nil : firstSign [] = none := by decide
theorem Sim.takeT {s : Bytes} {l : List Bytes} {p : Ps} {q : Pd} (h : Sim p q) : takeT s l p = takeTD s l q := by
  have key : firstSign (p.restT s) = signD s q := by
    unfold Ps.restT signD
    cases hd : p.dead with
    | true => rw [if_pos rfl, if_neg (h.gone hd), first_nil]
    | false =>
      have h2 := (h.rest (s := s)).live ((restP_dead s p).trans hd)
      rw [if_neg (by simp), if_pos (h.live hd).1, h2.2]
  unfold Go.KX.takeT takeTD
  rw [key]
  first | done | (cases signD s q <;> rfl)
theorem Sim.takeP {s : Bytes} {l : List Bytes} {p : Ps} {q : Pd} (h : Sim p q) : Sim (takeP s l p) (takePD s l q) := by
  unfold Go.KX.takeP takePD
  rw [← h.takeT]
  have h2 := h.rest (s := s)
  cases Go.KX.takeT s l p with
  | some x =>
    rcases h2 with ⟨g1, g2, g3⟩ | ⟨g1, g2, g3, g4⟩
    · exact .inl ⟨g1, g2, by simp [g3]⟩
    · exact .inr ⟨g1, g2, g3, g4⟩
  | none => exact h2
theorem Sim.must {s x : Bytes} {p : Ps} {q : Pd} (h : Sim p q) : Sim (mustP s x p) (mustD s x q) := by
  unfold mustP mustD
  rw [← h.takeT]
  cases Go.KX.takeT s [x] p with
  | some _ => exact h.takeP
  | none => exact h.takeP.fails (by decide) (fun hd => by rw [(h.takeP.live hd).2])
theorem Sim.enter {s : Bytes} {d : Nat} {p : Ps} {q : Pd} (h : Sim p q) : Sim (enterP s d p) (enterD s d q) := by
  unfold enterP enterD
  split
  · exact h.rest.fails (by decide) (fun hd => by rw [(h.rest.live hd).2])
  · exact h.rest
theorem sim_loop {s : Bytes} {f : Ps → Ex × Ps} {g : Pd → Ex × Pd} (hfg : ∀ p q, Sim p q → SimR (f p) (g q)) {ops : List Bytes} {alone : Bool} : ∀ (n : Nat) {x y : Ex} {p : Ps} {q : Pd}, Sim p q → (p.dead = false → x = y) → SimR (loopG (tkX s) f ops alone n x p) (loopG (tkD s) g ops alone n y q)
  | 0, x, y, p, q, h, hx => ⟨h, hx⟩
  | n + 1, x, y, p, q, h, hx => by
    have hT := h.takeT (s := s) (l := ops)
    have hP := h.takeP (s := s) (l := ops)
    have hdead : (takeP s ops p).dead = p.dead := by
      unfold Go.KX.takeP
      split <;> simp [restP_dead]
    unfold loopG
    simp only [hT]
    split
    · exact ⟨hP, fun hd => hx (by rw [← hdead]; exact hd)⟩
    · rename_i o ho
      have hlive : p.dead = false := by
        cases hd : p.dead with
        | false => rfl
        | true =>
          rw [← hT] at ho
          unfold Go.KX.takeT Ps.restT at ho
          rw [if_pos hd, first_nil] at ho
          cases ho
      have hs := hfg _ _ hP
      have hxy := hx hlive
      subst hxy
      split
      · exact ⟨hs.1, fun hd => by rw [hs.2 hd]⟩
      · exact sim_loop hfg n hs.1 (fun hd => by rw [hs.2 hd])
theorem sim_lev {s : Bytes} {f : Ps → Ex × Ps} {g : Pd → Ex × Pd} (hfg : ∀ p q, Sim p q → SimR (f p) (g q)) : ∀ (n : Nat) (p : Ps) (q : Pd), Sim p q → SimR (levX s f n p) (levD s g n q)
  | 0, p, q, h => hfg p q h
  | n + 1, p, q, h => sim_loop (sim_lev hfg n) _ (sim_lev hfg n p q h).1 (sim_lev hfg n p q h).2
theorem sim_expr {s : Bytes} {f : Ps → Ex × Ps} {g : Pd → Ex × Pd} (hfg : ∀ p q, Sim p q → SimR (f p) (g q)) {d : Nat} {p : Ps} {q : Pd} (h : Sim p q) : SimR (exprX s f d p) (exprD s g d q) := sim_lev hfg 5 _ _ h.enter
theorem sim_par {s : Bytes} {f : Ps → Ex × Ps} {g : Pd → Ex × Pd} (hfg : ∀ p q, Sim p q → SimR (f p) (g q)) {p : Ps} {q : Pd} (h : Sim p q) : SimR (parX s f p) (parD s g q) := by
  obtain ⟨h1, h2⟩ := hfg p q h
  refine ⟨h1.must, fun hd => h2 ?_⟩
  cases hx : (f p).2.dead with
  | false => rfl
  | true =>
    exfalso
    have : (mustP s oPR (f p).2).dead = true := by
      have ht : takeT s [oPR] (f p).2 = none := by unfold takeT Ps.restT; rw [if_pos hx, first_nil]
      have hp : (takeP s [oPR] (f p).2).dead = true := by unfold takeP; rw [ht]; simp [restP_dead, hx]
      unfold mustP
      rw [ht]
      unfold Ps.fails
      simp only [hp, if_true]
    rw [show (parX s f p).2 = mustP s oPR (f p).2 from rfl, this] at hd
    cases hd
theorem sim_dead_unit {p : Ps} {q : Pd} (h : Sim p q) {i j : Nat} (hij : p.dead = false → i = j) : Sim { p with i := i } { q with i := j } := by
  rcases h with ⟨h1, h2, h3⟩ | ⟨h1, h2, h3, h4⟩
  · exact .inl ⟨h1, h2, hij h1⟩
  · exact .inr ⟨h1, h2, h3, h4⟩
section
variable {pv : Bytes → Val × Int} {s : Bytes}
theorem sim_number {r : Bytes} {p : Ps} {q : Pd} (h : Sim p q) (hd : p.dead = false) : SimR (numberX pv r p) (numberD pv r q) := by
  have hl := h.live hd
  refine ⟨?_, fun _ => rfl⟩
  unfold numberX numberD
  simp only
  split
  · exact sim_dead_unit h (fun _ => by rw [hl.2])
  · exact sim_dead_unit (h.fails (by decide) (fun _ => by rw [hl.2])) (fun _ => by rw [hl.2])
theorem sim_ref {r : Bytes} {p : Ps} {q : Pd} (h : Sim p q) (hd : p.dead = false) : SimR (refX r p) (refD r q) := by
  have hl := h.live hd
  refine ⟨?_, fun _ => rfl⟩
  unfold refX refD
  simp only
  split
  · exact sim_dead_unit h (fun _ => by rw [hl.2])
  · exact sim_dead_unit (h.fails (by decide) (fun _ => by rw [hl.2])) (fun _ => by rw [hl.2])
/-- What is dead stays dead, with the same error. -/
def Gone (p q : Ps) : Prop := p.dead = true → q.dead = true ∧ q.err = p.err ∧ q.at_ = p.at_
theorem Gone.trans {a b c : Ps} (h : Gone a b) (k : Gone b c) : Gone a c := fun hd => by
  obtain ⟨h1, h2, h3⟩ := h hd
  obtain ⟨k1, k2, k3⟩ := k h1
  exact ⟨k1, k2.trans h2, k3.trans h3⟩
theorem gone_rest (p : Ps) : Gone p (p.restP s) := fun hd => by unfold Ps.restP; rw [if_pos hd]; exact ⟨hd, rfl, rfl⟩
theorem gone_fails (p : Ps) (e a : Int) : Gone p (p.fails e a) := fun hd => by unfold Ps.fails; rw [if_pos hd]; exact ⟨hd, rfl, rfl⟩
theorem takeT_dead {l : List Bytes} {p : Ps} (hd : p.dead = true) : takeT s l p = none := by unfold takeT Ps.restT; rw [if_pos hd, first_nil]
theorem gone_take (l : List Bytes) (p : Ps) : Gone p (takeP s l p) := fun hd => by unfold takeP; rw [takeT_dead hd]; exact gone_rest p hd
theorem gone_must (x : Bytes) (p : Ps) : Gone p (mustP s x p) := fun hd => by unfold mustP; rw [takeT_dead hd]; exact (gone_take _ p).trans (gone_fails _ _ _) hd
theorem gone_enter (d : Nat) (p : Ps) : Gone p (enterP s d p) := fun hd => by
  unfold enterP; split
  · exact (gone_rest p).trans (gone_fails _ _ _) hd
  · exact gone_rest p hd
theorem gone_loop {f : Ps → Ex × Ps} {ops : List Bytes} {alone : Bool} : ∀ (n : Nat) (x : Ex) (p : Ps), Gone p (loopG (tkX s) f ops alone n x p).2
  | 0, x, p => fun hd => ⟨hd, rfl, rfl⟩
  | n + 1, x, p => fun hd => by
    unfold loopG
    simp only [takeT_dead hd]
    exact gone_take _ p hd
theorem gone_lev {f : Ps → Ex × Ps} (hf : ∀ p, Gone p (f p).2) : ∀ (n : Nat) (p : Ps), Gone p (levX s f n p).2
  | 0, p => hf p
  | n + 1, p => (gone_lev hf n p).trans (gone_loop _ _ _)
theorem gone_expr {f : Ps → Ex × Ps} (hf : ∀ p, Gone p (f p).2) (d : Nat) (p : Ps) : Gone p (exprX s f d p).2 := (gone_enter d p).trans (gone_lev hf 5 _)
theorem gone_prim (ex : Ps → Ex × Ps) (p : Ps) : Gone p (primX pv s ex p).2 := fun hd => by
  unfold primX
  simp only [hd]
  exact gone_rest p hd
theorem gone_un : ∀ (d : Nat) (p : Ps), Gone p (unX pv s d p).2
  | 0, p => ((gone_enter 33 p).trans (gone_take _ _)).trans (gone_prim _ _)
  | d + 1, p => fun hd => by
    have h1 := gone_enter (s := s) (32 - d) p hd
    unfold unX
    rw [takeT_dead h1.1]
    exact (((gone_enter (32 - d) p).trans (gone_take _ _)).trans (gone_prim _ _)) hd
theorem Sim.of_gone {p p' : Ps} {q : Pd} (h : Sim p q) (hd : p.dead = true) (g : Gone p p') : Sim p' q := by
  obtain ⟨g1, g2, g3⟩ := g hd
  rcases h with ⟨h1, _⟩ | ⟨_, h2, h3, h4⟩
  · rw [hd] at h1; cases h1
  · exact .inr ⟨g1, by rw [g2]; exact h2, h3, by rw [g3]; exact h4⟩
theorem sim_word {f : Ps → Ex × Ps} {g : Pd → Ex × Pd} (hfg : ∀ p q, Sim p q → SimR (f p) (g q)) (hf : ∀ p, Gone p (f p).2) {r : Bytes} {p : Ps} {q : Pd} (h : Sim p q) (hd : p.dead = false) : SimR (wordX s f r p) (wordD s g r q) := by
  have hl := h.live hd
  have h1 : Sim { p with i := p.i + (r.take (runB gLD r)).length } { q with i := q.i + (r.take (runB gLD r)).length } := sim_dead_unit h (fun _ => by rw [hl.2])
  unfold wordX wordD
  simp only
  split
  · exact ⟨h1, fun _ => rfl⟩
  split
  · exact ⟨h1, fun _ => rfl⟩
  split
  · exact ⟨h1, fun _ => rfl⟩
  split
  · have h2 := sim_par (s := s) hfg (h1.must (s := s) (x := oPL))
    exact ⟨h2.1, fun hd => by rw [h2.2 hd]⟩
  · have h2 := h1.fails (e := 110) (by decide) (a := p.i) (b := q.i) (fun _ => by rw [hl.2])
    have hdead : (({ p with i := p.i + (r.take (runB gLD r)).length } : Ps).fails 110 p.i).dead = true := by
      unfold Ps.fails; simp only [hd]; rfl
    have hg := ((gone_must (s := s) oPL (({ p with i := p.i + (r.take (runB gLD r)).length } : Ps).fails 110 p.i)).trans (hf _)).trans (gone_must (s := s) oPR _)
    refine ⟨h2.of_gone hdead hg, fun hx => ?_⟩
    have := (hg hdead).1
    rw [show (parX s f (mustP s oPL (({ p with i := p.i + (r.take (runB gLD r)).length } : Ps).fails 110 p.i))).2 = mustP s oPR (f (mustP s oPL (({ p with i := p.i + (r.take (runB gLD r)).length } : Ps).fails 110 p.i))).2 from rfl] at hx
    rw [this] at hx; cases hx
theorem first_par (r : Bytes) : firstSign (40 :: r) = some oPL := by
  simp [firstSign, signsT, Lib.hasPrefix, List.find?, List.isPrefixOf]
theorem first_no_par {c : UInt8} {r : Bytes} (h : c ≠ 40) : firstSign (c :: r) ≠ some oPL := by
  intro hf
  have := List.find?_some hf
  simp [Lib.hasPrefix, List.isPrefixOf] at this
  exact h this.symm
theorem runB_drop (g : Bytes) : ∀ l : Bytes, runB g (l.drop (runB g l)) = 0
  | [] => rfl
  | c :: r => by
    by_cases h : c ∈ g
    · have e : runB g (c :: r) = runB g r + 1 := by conv => lhs; unfold runB
                                                    rw [if_pos h]
      rw [e, List.drop_succ_cons]
      exact runB_drop g r
    · have e : runB g (c :: r) = 0 := by conv => lhs; unfold runB
                                         rw [if_neg h]
      rw [e, List.drop_zero, e]
theorem sim_prim {f : Ps → Ex × Ps} {g : Pd → Ex × Pd} (hfg : ∀ p q, Sim p q → SimR (f p) (g q)) (hf : ∀ p, Gone p (f p).2) {p : Ps} {q : Pd} (h : Sim p q) : SimR (primX pv s f p) (primD pv s g q) := by
  have hr := h.rest (s := s)
  unfold primX primD
  simp only
  cases hd : p.dead with
  | true =>
    rw [if_neg (h.gone hd)]
    exact ⟨hr, fun _ => rfl⟩
  | false =>
    rw [if_pos (h.live hd).1]
    have hrd : (p.restP s).dead = false := (restP_dead s p).trans hd
    have hl := hr.live hrd
    have hT : p.restT s = s.drop (q.blanks s).i := by unfold Ps.restT; rw [if_neg (by simp [hd]), hl.2]
    have hb2 : (q.blanks s).blanks s = q.blanks s := by
      unfold Pd.blanks
      have := runB_drop [32] (s.drop q.i)
      rw [List.drop_drop] at this
      simp only
      rw [this, Nat.add_zero]
    have hsign : signD s (q.blanks s) = firstSign (s.drop (q.blanks s).i) := by unfold signD; rw [if_pos hl.1, hb2]
    cases hc : s.drop (q.blanks s).i with
    | nil =>
      rw [hT, hc]
      have ht : takeTD s [oPL] (q.blanks s) = none := by unfold takeTD; rw [hsign, hc, first_nil]
      rw [ht]
      simp only
      have hp : takePD s [oPL] (q.blanks s) = q.blanks s := by unfold takePD; rw [ht, hb2]
      rw [hp]
      exact ⟨hr.fails (by decide) (fun _ => by rw [hl.2]), fun _ => rfl⟩
    | cons c r =>
      rw [hT, hc]
      simp only
      by_cases h40 : c = 40
      · subst h40
        have ht : takeTD s [oPL] (q.blanks s) = some oPL := by unfold takeTD; rw [hsign, hc, first_par]; simp
        rw [if_pos rfl, ht]
        simp only
        have hp : takePD s [oPL] (q.blanks s) = { q.blanks s with i := (q.blanks s).i + 1 } := by unfold takePD; rw [ht, hb2]; rfl
        rw [hp]
        exact sim_par hfg (sim_dead_unit hr (fun _ => by rw [hl.2]))
      · have ht : takeTD s [oPL] (q.blanks s) = none := by
          unfold takeTD
          rw [hsign, hc]
          split
          · rename_i x hx
            rw [if_neg]
            intro hm
            simp only [List.mem_singleton] at hm
            subst hm
            exact first_no_par h40 hx
          · rfl
        rw [if_neg h40, ht]
        simp only
        by_cases h36 : c = 36
        · subst h36
          rw [if_pos rfl, if_neg (by decide), if_pos rfl]
          exact sim_ref hr hrd
        · rw [if_neg h36]
          by_cases hg : c ∈ gDig
          · rw [if_pos hg, if_pos hg]
            exact sim_number hr hrd
          · rw [if_neg hg, if_neg hg, if_neg h36]
            by_cases hle : c ∈ gLet
            · rw [if_pos hle, if_pos hle]
              exact sim_word hfg hf hr hrd
            · rw [if_neg hle, if_neg hle]
              exact ⟨hr.fails (by decide) (fun _ => by rw [hl.2]), fun _ => rfl⟩
theorem sim_un : ∀ (d : Nat) (p : Ps) (q : Pd), Sim p q → SimR (unX pv s d p) (unD pv s d q)
  | 0, p, q, h => by
    unfold unX unD
    have h1 := (h.enter (s := s) (d := 33)).takeP (s := s) (l := [oSub, oNot])
    exact sim_prim (fun p q h => ⟨h, fun _ => rfl⟩) (fun p hd => ⟨hd, rfl, rfl⟩) h1
  | d + 1, p, q, h => by
    have h0 := h.enter (s := s) (d := 32 - d)
    have h1 := h0.takeP (s := s) (l := [oSub, oNot])
    unfold unX unD
    rw [← h0.takeT]
    cases takeT s [oSub, oNot] (enterP s (32 - d) p) with
    | some o =>
      have h2 := sim_un d _ _ h1
      exact ⟨h2.1, fun hd => by rw [h2.2 hd]⟩
    | none => exact sim_prim (fun p q h => sim_expr (sim_un d) h) (fun p => gone_expr (fun p => gone_un d p) _ p) h1
end
end Go.KX
namespace Go.KX
abbrev dgt (c : UInt8) : Prop := 48 ≤ c.toNat ∧ c.toNat ≤ 57
def numD (a : Nat) (l : Bytes) : Nat := l.foldl (fun a c => a * 10 + (c.toNat - 48)) a
/-- Likewise, for the kernel to reckon. -/
def decF : Nat → Nat → Bytes
  | 0, n => [UInt8.ofNat (48 + n)]
  | k + 1, n => if n < 10 then [UInt8.ofNat (48 + n)] else decF k (n / 10) ++ [UInt8.ofNat (48 + n % 10)]
def printF (n : Int) : Bytes :=
  let m := decF 16 (n.natAbs / 1000) ++ (if n.natAbs % 1000 = 0 then [] else 46 :: Lib.trimRightB ((decF 16 (1000 + n.natAbs % 1000)).drop 1) 48)
  if n < 0 then 45 :: m else m
def candM (b : Bytes) : Nat :=
  let f := (b.dropWhile (fun c => c != 46)).drop 1
  numD 0 (b.takeWhile (fun c => c != 46) ++ (f ++ List.replicate (3 - f.length) 48))
def candV (s : Bytes) : Val := match s with
  | 45 :: r => numV (-(candM r : Int))
  | s => numV (candM s)
def parseV (s : Bytes) : Val × Int :=
  if s = [110, 117, 108, 108] then (nullV, 0) else if s = [78, 97, 78] then (nanV, 0) else if s = [43, 73, 110, 102] then (plusV, 0) else if s = [45, 73, 110, 102] then (minusV, 0) else
  if (candV s).k = 1 ∧ printF (candV s).n = s then (candV s, 0) else (zeroV, 80)
theorem decF_eq : ∀ (k n : Nat), n < 10 ^ (k + 1) → decF k n = Lib.decDigits n
  | 0, n, h => by unfold decF; rw [Lib.decDigits_one (by simpa using h)]
  | k + 1, n, h => by
    unfold decF
    split
    · rename_i h'; rw [Lib.decDigits_one h']
    · rename_i h'
      rw [decF_eq k (n / 10) (by rw [Nat.pow_succ] at h; omega)]
      conv => rhs; rw [Lib.decDigits]
      rw [dif_neg h']
theorem print_num {w : Val} (hw : isV w = true) (hk : w.k = 1) : printV w = if w.n < 0 then 45 :: magV w.n.natAbs else magV w.n.natAbs := by
  unfold printV
  rw [if_neg (by simp [hw]), if_neg (by omega), if_neg (by omega), if_neg (by omega), if_neg (by omega)]
theorem printF_eq {n : Int} (h0 : -1000000000000000 ≤ n) (h1 : n ≤ 1000000000000000) : printF n = printV ⟨1, n⟩ := by
  rw [print_num (by unfold isV; simp; omega) rfl]
  unfold printF
  rw [decF_eq _ _ (by omega), decF_eq _ _ (by omega)]
  rfl
theorem ofNat_dig {d : Nat} (h : d < 10) : (UInt8.ofNat (48 + d)).toNat = 48 + d := by
  simp; omega
theorem numD_app (a : Nat) (x y : Bytes) : numD a (x ++ y) = numD (numD a x) y := by unfold numD; rw [List.foldl_append]
theorem numD_dec (n : Nat) : numD 0 (Lib.decDigits n) = n := by
  induction n using Nat.strongRecOn with
  | _ n ih =>
    by_cases h : n < 10
    · rw [Lib.decDigits_one h]; simp only [numD, List.foldl_cons, List.foldl_nil, ofNat_dig h]; omega
    · rw [Lib.decDigits, dif_neg h, numD_app, ih (n / 10) (by omega)]
      simp only [numD, List.foldl_cons, List.foldl_nil, ofNat_dig (show n % 10 < 10 by omega)]
      omega
theorem dgt_dec (n : Nat) : ∀ c ∈ Lib.decDigits n, dgt c := by
  induction n using Nat.strongRecOn with
  | _ n ih =>
    by_cases h : n < 10
    · rw [Lib.decDigits_one h]
      intro c hc
      simp only [List.mem_singleton] at hc
      subst hc
      have := ofNat_dig h
      exact ⟨by omega, by omega⟩
    · rw [Lib.decDigits, dif_neg h]
      intro c hc
      rcases List.mem_append.1 hc with hc | hc
      · exact ih (n / 10) (by omega) c hc
      · simp only [List.mem_singleton] at hc
        subst hc
        have := ofNat_dig (show n % 10 < 10 by omega)
        exact ⟨by omega, by omega⟩
theorem dec_len_lt : ∀ (k n : Nat), n < 10 ^ (k + 1) → (Lib.decDigits n).length ≤ k + 1
  | 0, n, h => by rw [Lib.decDigits_one (by simpa using h)]; simp
  | k + 1, n, h => by
    by_cases h10 : n < 10
    · rw [Lib.decDigits_one h10]; simp
    · rw [Lib.decDigits, dif_neg h10, List.length_append]
      have := dec_len_lt k (n / 10) (by rw [Nat.pow_succ] at h; omega)
      simp; omega
theorem dec_ne (n : Nat) : Lib.decDigits n ≠ [] := by
  by_cases h : n < 10
  · rw [Lib.decDigits_one h]; simp
  · rw [Lib.decDigits, dif_neg h]; simp
abbrev d3 (r : Nat) : Bytes := [UInt8.ofNat (48 + r / 100), UInt8.ofNat (48 + r / 10 % 10), UInt8.ofNat (48 + r % 10)]
theorem numD_d3 {r : Nat} (h : r < 1000) (a : Nat) : numD a (d3 r) = a * 1000 + r := by
  simp only [numD, List.foldl_cons, List.foldl_nil]
  rw [ofNat_dig (show r / 100 < 10 by omega), ofNat_dig (show r / 10 % 10 < 10 by omega), ofNat_dig (show r % 10 < 10 by omega)]
  omega
theorem dgt_d3 {r : Nat} (h : r < 1000) : ∀ c ∈ d3 r, dgt c := by
  intro c hc
  simp only [List.mem_cons, List.not_mem_nil, or_false] at hc
  have a1 := ofNat_dig (show r / 100 < 10 by omega)
  have a2 := ofNat_dig (show r / 10 % 10 < 10 by omega)
  have a3 := ofNat_dig (show r % 10 < 10 by omega)
  rcases hc with rfl | rfl | rfl <;> exact ⟨by omega, by omega⟩
theorem dropW_rep (c : UInt8) : ∀ l : Bytes, l = List.replicate (l.length - (l.dropWhile (· == c)).length) c ++ l.dropWhile (· == c)
  | [] => rfl
  | x :: r => by
    have ih := dropW_rep c r
    unfold List.dropWhile
    by_cases h : (x == c) = true
    · rw [h]
      have hx : x = c := by simpa using h
      have hle : (r.dropWhile (· == c)).length ≤ r.length := (List.dropWhile_sublist _).length_le
      simp only [List.length_cons]
      rw [show r.length + 1 - (r.dropWhile (· == c)).length = (r.length - (r.dropWhile (· == c)).length) + 1 by omega, List.replicate_succ, List.cons_append, ← ih, hx]
    · rw [Bool.eq_false_iff.2 h]; simp
theorem trim_rep (l : Bytes) : Lib.trimRightB l 48 ++ List.replicate (l.length - (Lib.trimRightB l 48).length) 48 = l := by
  have h := congrArg List.reverse (dropW_rep 48 l.reverse)
  simp only [List.reverse_append, List.reverse_replicate, List.reverse_reverse, List.length_reverse] at h
  unfold Lib.trimRightB
  rw [List.length_reverse]
  exact h.symm
/-- A text in front of the point, one behind it. -/
theorem mag_parts {n : Nat} : ∃ t : Bytes, t.length ≤ 3 ∧ magV n = Lib.decDigits (n / 1000) ++ (if t = [] then [] else 46 :: t) ∧ t ++ List.replicate (3 - t.length) 48 = d3 (n % 1000) ∧ ∀ c ∈ t, dgt c := by
  have hr : n % 1000 < 1000 := Nat.mod_lt _ (by decide)
  unfold magV fracV
  by_cases h0 : n % 1000 = 0
  · refine ⟨[], by simp, by simp [h0], ?_, fun c hc => (by cases hc)⟩
    rw [h0]; rfl
  · have e := trim_rep (d3 (n % 1000))
    have hl : (d3 (n % 1000)).length = 3 := rfl
    rw [hl] at e
    have hne := frac_ne h0 hr
    rw [dec4 hr] at hne
    refine ⟨Lib.trimRightB (d3 (n % 1000)) 48, ?_, ?_, e, fun c hc => ?_⟩
    · have := trim_len (d3 (n % 1000)); rw [hl] at this; exact this
    · rw [if_neg h0, if_neg hne, dec4 hr]
    · refine dgt_d3 hr c ?_
      rw [← e]
      exact List.mem_append_left _ hc
theorem tw_app {p : UInt8 → Bool} : ∀ {x : Bytes} (y : Bytes), (∀ c ∈ x, p c = true) → (x ++ y).takeWhile p = x ++ y.takeWhile p ∧ (x ++ y).dropWhile p = y.dropWhile p
  | [], y, _ => ⟨rfl, rfl⟩
  | c :: x, y, h => by
    obtain ⟨h1, h2⟩ := tw_app (x := x) y (fun d hd => h d (.tail _ hd))
    simp only [List.cons_append, List.takeWhile, List.dropWhile, h c (.head _), h1, h2, and_self]
theorem dgt_ne {c : UInt8} (h : dgt c) : (c != 46) = true ∧ c ≠ 45 ∧ c ≠ 46 := by
  refine ⟨?_, ?_, ?_⟩
  · simp only [bne_iff_ne]; rintro rfl; exact absurd h.1 (by decide)
  · rintro rfl; exact absurd h.1 (by decide)
  · rintro rfl; exact absurd h.1 (by decide)
theorem candM_mag (n : Nat) : candM (magV n) = n := by
  obtain ⟨t, h1, h2, h3, h4⟩ := mag_parts (n := n)
  have hw := tw_app (p := fun c => c != 46) (x := Lib.decDigits (n / 1000)) (if t = [] then [] else 46 :: t) (fun c hc => (dgt_ne (dgt_dec _ c hc)).1)
  unfold candM
  rw [h2, hw.1, hw.2]
  have e : (((if t = [] then [] else 46 :: t : Bytes)).dropWhile (fun c => c != 46)).drop 1 = t ∧ ((if t = [] then [] else 46 :: t : Bytes)).takeWhile (fun c => c != 46) = [] := by
    split
    · rename_i h; rw [h]; exact ⟨rfl, rfl⟩
    · simp [List.dropWhile, List.takeWhile]
  simp only [e.1, e.2, List.append_nil, h3]
  rw [numD_app, numD_dec, numD_d3 (Nat.mod_lt _ (by decide))]
  omega
theorem mag_head (n : Nat) : ∃ c r, magV n = c :: r ∧ dgt c := by
  obtain ⟨t, h1, h2, h3, h4⟩ := mag_parts (n := n)
  cases hd : Lib.decDigits (n / 1000) with
  | nil => exact absurd hd (dec_ne _)
  | cons c r => exact ⟨c, _, by rw [h2, hd]; rfl, dgt_dec (n / 1000) c (by rw [hd]; exact .head _)⟩
theorem numV_in2 {n : Int} (h0 : -1000000000000000 ≤ n) (h1 : n ≤ 1000000000000000) : numV n = ⟨1, n⟩ := by
  unfold numV; rw [if_neg (by omega), if_neg (by omega)]
theorem cand_pos {s : Bytes} {c : UInt8} {r : Bytes} (h : s = c :: r) (hc : c ≠ 45) : candV s = numV (candM s) := by
  subst h
  unfold candV
  split
  · rename_i he; injection he with e1 _; exact absurd e1 hc
  · rfl
/-- What is printed is read back. -/
theorem cand_print {w : Val} (hw : isV w = true) (hk : w.k = 1) : candV (printV w) = w := by
  obtain ⟨k, n⟩ := w
  simp only at hk
  subst hk
  have hn := isV_cases hw
  have hn : -1000000000000000 ≤ n ∧ n ≤ 1000000000000000 := by
    rcases hn with ⟨_, h1, h2⟩ | h | h | h | h
    · exact ⟨h1, h2⟩
    all_goals cases h
  rw [print_num hw rfl]
  by_cases h0 : n < 0
  · rw [if_pos h0]
    show numV (-(candM (magV n.natAbs) : Int)) = _
    rw [candM_mag, numV_in2 (by omega) (by omega)]
    congr 1; omega
  · rw [if_neg h0]
    obtain ⟨c, r, hm, hc⟩ := mag_head n.natAbs
    simp only
    rw [cand_pos hm (dgt_ne hc).2.1, candM_mag, numV_in2 (by omega) (by omega)]
    congr 1; omega
theorem cand_isV (s : Bytes) : isV (candV s) = true := by unfold candV; split <;> exact isV_num _
theorem isV_num1 {v : Val} (h : isV v = true) (hk : v.k = 1) : -1000000000000000 ≤ v.n ∧ v.n ≤ 1000000000000000 := by
  rcases isV_cases h with ⟨_, h1, h2⟩ | rfl | rfl | rfl | rfl
  · exact ⟨h1, h2⟩
  all_goals cases hk
theorem print_cand {v : Val} (h : isV v = true) (hk : v.k = 1) : printF v.n = printV v := by
  obtain ⟨h1, h2⟩ := isV_num1 h hk
  rw [printF_eq h1 h2]
  obtain ⟨k, n⟩ := v
  simp only at hk
  subst hk; rfl
/-- The value of a text of a number. -/
def numP (s : Bytes) (v : Val) : Prop := isV v = true ∧ v.k = 1 ∧ printV v = s
theorem parse_num {s : Bytes} {r : Val × Int} (h4 : s ≠ [110, 117, 108, 108] ∧ s ≠ [78, 97, 78] ∧ s ≠ [43, 73, 110, 102] ∧ s ≠ [45, 73, 110, 102]) (hr : (∃ v, numP s v ∧ r = (v, 0)) ∨ ((∀ v, ¬ numP s v) ∧ r = (zeroV, 80))) : parseV s = r := by
  unfold parseV
  rw [if_neg h4.1, if_neg h4.2.1, if_neg h4.2.2.1, if_neg h4.2.2.2]
  rcases hr with ⟨v, ⟨h1, h2, h3⟩, rfl⟩ | ⟨h, rfl⟩
  · have e : candV s = v := by rw [← h3]; exact cand_print h1 h2
    rw [e, if_pos ⟨h2, by rw [print_cand h1 h2]; exact h3⟩]
  · rw [if_neg]
    rintro ⟨h1, h2⟩
    exact h (candV s) ⟨cand_isV s, h1, by rw [← print_cand (cand_isV s) h1]; exact h2⟩
theorem parseV_ok {s : Bytes} (h : (parseV s).2 = 0) : isV (parseV s).1 = true ∧ printV (parseV s).1 = s := by
  unfold parseV at h ⊢
  repeat' split at h
  all_goals first
    | (rename_i h1; subst h1; exact ⟨by decide, by decide⟩)
    | (rename_i h1; rw [if_neg ‹_›, if_neg ‹_›, if_neg ‹_›, if_neg ‹_›, if_pos h1]; exact ⟨cand_isV s, by rw [← print_cand (cand_isV s) h1.1]; exact h1.2⟩)
    | cases h
end Go.KX
namespace Go.KX
abbrev M62 : Nat := 4611686018427387903
theorem index_hit : ∀ {x : Bytes} (t : Bytes), (∀ c ∈ x, c ≠ 46) → Lib.index (x ++ 46 :: t) [46] = x.length
  | [], t, _ => by rw [List.nil_append, Lib.index_one]; simp [Lib.indexByte]
  | c :: x, t, h => by
    have ih := index_hit (x := x) t (fun d hd => h d (.tail _ hd))
    have hc := h c (.head _)
    rw [Lib.index_one] at ih ⊢
    rw [List.cons_append]
    unfold Lib.indexByte
    simp [hc, ih]
    try omega
theorem index_miss : ∀ {x : Bytes}, (∀ c ∈ x, c ≠ 46) → Lib.index x [46] = -1
  | [], _ => by rw [Lib.index_one]; rfl
  | c :: x, h => by
    have ih := index_miss (x := x) (fun d hd => h d (.tail _ hd))
    have hc := h c (.head _)
    rw [Lib.index_one] at ih ⊢
    unfold Lib.indexByte
    simp [hc, ih]
theorem cut_mag {x t : Bytes} (hx : ∀ c ∈ x, c ≠ 46) : Lib.cut (x ++ (if t = [] then [] else 46 :: t)) [46] = (x, t, !decide (t = [])) := by
  unfold Lib.cut
  by_cases h : t = []
  · subst h
    simp only [if_true, List.append_nil]
    rw [index_miss hx, if_neg (by decide)]
    rfl
  · rw [if_neg h, index_hit t hx, if_pos (by omega)]
    simp [h]
/-- Digits alone, not too many. -/
theorem uintM_dgt : ∀ (l : Bytes) (a : Nat), (∀ c ∈ l, dgt c) → numD a l ≤ 99999999999999999 → Lib.parseUintM M62 a l = .ok (numD a l)
  | [], a, _, _ => rfl
  | c :: l, a, h, hb => by
    have hc := h c (.head _)
    have mono : ∀ (l : Bytes) (a : Nat), a ≤ numD a l := by
      intro l
      induction l with
      | nil => intro a; exact Nat.le_refl _
      | cons c l ih => intro a; exact Nat.le_trans (by omega) (ih (a * 10 + (c.toNat - 48)))
    have hb' : numD (a * 10 + (c.toNat - 48)) l ≤ 99999999999999999 := hb
    have h2 := mono l (a * 10 + (c.toNat - 48))
    unfold Lib.parseUintM
    rw [if_pos hc, if_neg (by omega), if_neg (by show ¬ 4611686018427387903 < _; omega)]
    exact uintM_dgt l _ (fun d hd => h d (.tail _ hd)) hb'
/-- What the program's Parse comes to. -/
def progV (s : Bytes) : Val × Int :=
  if s = [110, 117, 108, 108] then (nullV, 0) else if s = [78, 97, 78] then (nanV, 0) else if s = [43, 73, 110, 102] then (plusV, 0) else if s = [45, 73, 110, 102] then (minusV, 0) else
  let c := Lib.cut (Lib.trimPrefix s [45]) [46]
  if c.2.1.length ≤ 3 ∧ c.1.length ≤ 13 then
    match Lib.parseUintM M62 0 (c.1 ++ c.2.1 ++ Lib.repeatL [48] (3 - c.2.1.length)) with
    | .ok n => if (numV (if Lib.hasPrefix s [45] then -(n : Int) else n)).k = 1 ∧ printV (numV (if Lib.hasPrefix s [45] then -(n : Int) else n)) = s then (numV (if Lib.hasPrefix s [45] then -(n : Int) else n), 0) else (zeroV, 80)
    | _ => (zeroV, 80)
  else (zeroV, 80)
theorem rep_one (k : Nat) : Lib.repeatL [48] k = List.replicate k 48 := by
  have := Lib.repeatL_replicate 48 1 k
  simpa using this
/-- The parts of what is printed. -/
theorem prog_print {s : Bytes} {w : Val} (hp : numP s w) : Lib.hasPrefix s [45] = decide (w.n < 0) ∧ ∃ x t : Bytes, x.length ≤ 13 ∧ t.length ≤ 3 ∧ Lib.cut (Lib.trimPrefix s [45]) [46] = (x, t, !decide (t = [])) ∧ Lib.parseUintM M62 0 (x ++ t ++ Lib.repeatL [48] (3 - t.length)) = .ok w.n.natAbs := by
  obtain ⟨hw, hk, rfl⟩ := hp
  obtain ⟨b0, b1⟩ := isV_num1 hw hk
  obtain ⟨t, h1, h2, h3, h4⟩ := mag_parts (n := w.n.natAbs)
  have hnot : ∀ c ∈ Lib.decDigits (w.n.natAbs / 1000), c ≠ 46 := fun c hc => (dgt_ne (dgt_dec _ c hc)).2.2
  have hu : Lib.parseUintM M62 0 (Lib.decDigits (w.n.natAbs / 1000) ++ t ++ Lib.repeatL [48] (3 - t.length)) = .ok w.n.natAbs := by
    rw [rep_one, List.append_assoc, h3]
    have hval : numD 0 (Lib.decDigits (w.n.natAbs / 1000) ++ d3 (w.n.natAbs % 1000)) = w.n.natAbs := by
      rw [numD_app, numD_dec, numD_d3 (Nat.mod_lt _ (by decide))]; omega
    rw [uintM_dgt _ _ (fun c hc => ?_) (by rw [hval]; omega), hval]
    rcases List.mem_append.1 hc with hc | hc
    · exact dgt_dec _ c hc
    · exact dgt_d3 (Nat.mod_lt _ (by decide)) c hc
  have hlen : (Lib.decDigits (w.n.natAbs / 1000)).length ≤ 13 := dec_len_lt 12 _ (by omega)
  rw [print_num hw hk]
  by_cases h0 : w.n < 0
  · rw [if_pos h0]
    refine ⟨by simp [Lib.hasPrefix, h0], Lib.decDigits (w.n.natAbs / 1000), t, hlen, h1, ?_, hu⟩
    have : Lib.trimPrefix (45 :: magV w.n.natAbs) [45] = magV w.n.natAbs := by simp [Lib.trimPrefix, Lib.hasPrefix]
    rw [this, h2, cut_mag hnot]
  · rw [if_neg h0]
    obtain ⟨c, r, hm, hc⟩ := mag_head w.n.natAbs
    have hpre : Lib.hasPrefix (magV w.n.natAbs) [45] = false := by
      rw [hm]
      have := (dgt_ne hc).2.1
      simp only [Lib.hasPrefix, List.isPrefixOf, Bool.and_eq_false_iff, beq_eq_false_iff_ne]
      exact .inl (Ne.symm this)
    refine ⟨by rw [hpre]; simp [h0], Lib.decDigits (w.n.natAbs / 1000), t, hlen, h1, ?_, hu⟩
    have : Lib.trimPrefix (magV w.n.natAbs) [45] = magV w.n.natAbs := by unfold Lib.trimPrefix; rw [hpre]; rfl
    rw [this, h2, cut_mag hnot]
theorem signed_abs (n : Int) : (if decide (n < 0) = true then -(n.natAbs : Int) else (n.natAbs : Int)) = n := by
  split
  · rename_i h; have := of_decide_eq_true h; omega
  · rename_i h; have : ¬ n < 0 := by simpa using h
    omega
theorem progV_eq (s : Bytes) : progV s = parseV s := by
  by_cases h1 : s = [110, 117, 108, 108]
  · unfold progV parseV; rw [if_pos h1, if_pos h1]
  by_cases h2 : s = [78, 97, 78]
  · unfold progV parseV; rw [if_neg h1, if_neg h1, if_pos h2, if_pos h2]
  by_cases h3 : s = [43, 73, 110, 102]
  · unfold progV parseV; rw [if_neg h1, if_neg h1, if_neg h2, if_neg h2, if_pos h3, if_pos h3]
  by_cases h4 : s = [45, 73, 110, 102]
  · unfold progV parseV; rw [if_neg h1, if_neg h1, if_neg h2, if_neg h2, if_neg h3, if_neg h3, if_pos h4, if_pos h4]
  refine (parse_num ⟨h1, h2, h3, h4⟩ ?_).symm
  unfold progV
  rw [if_neg h1, if_neg h2, if_neg h3, if_neg h4]
  by_cases hw : ∃ w, numP s w
  · obtain ⟨w, hw⟩ := hw
    obtain ⟨e1, x, t, l1, l2, e2, e3⟩ := prog_print hw
    refine .inl ⟨w, hw, ?_⟩
    simp only [e2, if_pos (show t.length ≤ 3 ∧ x.length ≤ 13 from ⟨l2, l1⟩), e3, e1, signed_abs]
    have hb := isV_num1 hw.1 hw.2.1
    have e4 : numV w.n = w := by
      rw [numV_in2 hb.1 hb.2]
      obtain ⟨k, n⟩ := w
      have := hw.2.1
      simp only at this
      subst this; rfl
    rw [e4, if_pos ⟨hw.2.1, hw.2.2⟩]
  · refine .inr ⟨fun v hv => hw ⟨v, hv⟩, ?_⟩
    simp only
    split
    · split
      · rw [if_neg]
        rintro ⟨g1, g2⟩
        exact hw ⟨_, isV_num _, g1, g2⟩
      · rfl
    · rfl
end Go.KX
namespace Go.KX
section
variable {X : Kx} {k : List It} {L : SL} {M : SM} {fs : List MF} {own : List Res} {arr : Array Oper} {l : List Oper} {o : Oper}
/-- A literal of constants alone. -/
theorem bld {tb : TT} (hT : tb.Ok X.P) (m : Nat) (H : List (List SV)) {d T : Nat} {parts : Array (Nat × Operand)} (cp : Array (Nat × Value)) (v : Value) {l' L' M' φ} (hr : ∀ w, (Instr.build T cp).run X.P w = .ok v w) (hk : ES X arr l' k L' M' fs own) (ho : o.op = .build T parts := by rfl) (hc : ∀ a : Act, parts.map (fun p => (p.1, a.eval p.2)) = cp := by intro a; first | rfl | (simp; rfl) | (simp; done) | (simp; repeat' (first | exact rfl | constructor)))
    (hg : o.guard = none := by rfl) (hd : o.dst = some d := by rfl) (hn : Nat.blt d X.n = true := by rfl) (hrn : xrun tb X.n arr m H l ((d, .v v) :: L) M [] = some (l', L', M', φ) := by rfl) (hφ : conj φ := by first | trivial | omega | (simp +contextual [conj]; done) | (simp +contextual [conj, *]; done) | (simp +contextual [conj, *] <;> omega)) : ES X arr (o :: l) k L M fs own := by
  have hG : gS arr (lkS L) o = some none := by unfold gS; rw [hg]
  refine ES_step (Stp_read (sv := .v v) hG hd hn (fun L' hL hon g a ρ ms st => ⟨v, ?_, .v⟩)) ?_
  · have := hr g.w
    rw [← hc a] at this
    simp only [execOp, ho]
    simp [this]
  · rw [hd]
    exact go hT m H hk hrn hφ
/-- An array's element, at an index that is known. -/
theorem ixa {tb : TT} (hT : tb.Ok X.P) (m : Nat) (H : List (List SV)) {d T : Nat} {x ix : Operand} {vx vz r : Value} (sv : SV) {l' L' M' φ} (hr : ∀ w, (Instr.index T vx vz).run X.P w = .ok r w) (hs : ∀ g ρ, Den g ρ sv r) (hk : ES X arr l' k L' M' fs own) (ho : o.op = .index T x ix := by rfl)
    (hx : evS (lkS L) x = some (.v vx) := by rfl) (hz : evS (lkS L) ix = some (.v vz) := by rfl) (hg : o.guard = none := by rfl) (hd : o.dst = some d := by rfl) (hn : Nat.blt d X.n = true := by rfl) (hrn : xrun tb X.n arr m H l ((d, sv) :: L) M [] = some (l', L', M', φ) := by rfl)
    (hφ : conj φ := by first | trivial | omega | (simp +contextual [conj]; done) | (simp +contextual [conj, *]; done) | (simp +contextual [conj, *] <;> omega)) : ES X arr (o :: l) k L M fs own := by
  have hG : gS arr (lkS L) o = some none := by unfold gS; rw [hg]
  refine ES_step (Stp_read (sv := sv) hG hd hn (fun L' hL hon g a ρ ms st => ⟨r, ?_, hs g ρ⟩)) ?_
  · have hSl : Sl X ρ L' a g := st.all _ (.tail _ (.head _))
    have hev : evs (lkS L') [x, ix] = some [.v vx, .v vz] := by
      have := evs_agree' hL
      rw [show o.op.operands.toList = [x, ix] by rw [ho]; rfl] at this
      rw [this]
      simp only [evs, hx, hz]
    obtain ⟨_, _, e1, dx, hr1⟩ := (evals_den hSl.val hev).uncons
    obtain ⟨_, _, e2, dy, _⟩ := hr1.uncons
    simp only [List.map_cons, List.cons.injEq] at e1
    obtain ⟨rfl, rfl⟩ := e1
    simp only [List.cons.injEq] at e2
    obtain ⟨rfl, _⟩ := e2
    simp only [execOp, ho, den_v dx, den_v dy]
    simp [hr g.w]
  · rw [hd]
    exact go hT m H hk hrn hφ
end
end Go.KX
