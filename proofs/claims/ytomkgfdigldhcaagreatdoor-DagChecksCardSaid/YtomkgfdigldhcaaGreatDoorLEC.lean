/- XF XG XH XI XJ XK. -/
import Derived.Test.YtomkgfdigldhcaaGreatDoorLEB
import Derived.Scope
namespace Go.KX
def pickV (oa ob : Operand) (q : Bool) : SV → SV → Option SV
  | .v (.bool x), .v (.bool y) => match ob with
    | .const (.bool false) => some (.v (.bool (q && x)))
    | _ => match oa with
      | .const (.bool true) => some (.v (.bool (q || y)))
      | _ => some (.v (.bool (bif q then x else y)))
  | .v (.int k x), .v (.int k' y) => match decide (k = k') with
    | true => some (.v (.int k (bif q then x else y)))
    | false => none
  | .str x, .str y => some (.str (bif q then x else y))
  | _, _ => none
def xpick (e : Nat → Option SV) (c oa ob : Operand) : Option (SV × List Prop) :=
  match evs e [c, oa, ob] with
  | some [sc, sa, sb] => match st1 sc with
    | .v (.bool q) => match pickV oa ob q (st1 sa) (st1 sb) with
      | some r => some (r, cd1 sc ++ ((cd1 sa).map (fun p => q = true → p) ++ (cd1 sb).map (fun p => q = false → p)))
      | none => none
    | _ => none
  | _ => none
theorem pickV_ok {g : GW} {ρ : Nat → Lc} {a : Act} {oa ob : Operand} {q : Bool} {sa sb r : SV} (h : pickV oa ob q sa sb = some r) (ha : q = true → Den g ρ sa (a.eval oa)) (hb : q = false → Den g ρ sb (a.eval ob)) :
    Den g ρ r (if q then a.eval oa else a.eval ob) := by
  unfold pickV at h
  split at h
  · rename_i x y
    split at h
    · cases h
      cases q with
      | true => have := den_v (ha rfl); simp [this]; exact .v
      | false => exact .v
    · split at h
      · cases h
        cases q with
        | true => exact .v
        | false => have := den_v (hb rfl); simp [this]; exact .v
      · cases h
        cases q with
        | true => have := den_v (ha rfl); simp [this]; exact .v
        | false => have := den_v (hb rfl); simp [this]; exact .v
  · rename_i k x k' y
    split at h
    · rename_i hk
      have hk := of_decide_eq_true hk
      subst hk
      cases h
      cases q with
      | true => have := den_v (ha rfl); simp [this]; exact .v
      | false => have := den_v (hb rfl); simp [this]; exact .v
    · cases h
  · cases h
    cases q with
    | true => have := den_str (ha rfl); simp [this]; exact .str
    | false => have := den_str (hb rfl); simp [this]; exact .str
  · cases h
def one : SV → Bool
  | .v x => x.oneCell'
  | .a _ => false
  | .t _ => false
  | .g _ _ => false
  | _ => true
def oneL : List SV → Bool
  | [] => true
  | x :: r => one x && oneL r
def okc : SV → Bool
  | .a cs => oneL cs
  | x => one x
def cellsV : SV → List SV
  | .a cs => cs
  | x => [x]
theorem one_ok {g ρ sv x} (h : one sv = true) (hd : Den g ρ sv x) : x.oneCell' = true := by
  cases hd <;> first | rfl | exact h | (simp [one] at h; done)
theorem one_cells {x : Value} (h : x.oneCell' = true) : x.cells = #[x] := by cases x <;> first | rfl | simp [Value.oneCell'] at h
theorem oneL_ok {g ρ} : ∀ {svs : List SV} {xs : List Value}, oneL svs = true → DenL g ρ svs xs → ∀ u ∈ xs, u.oneCell' = true
  | [], xs, _, h, u, hu => by rw [h.unnil] at hu; cases hu
  | sv :: r, xs, ho, h, u, hu => by
    obtain ⟨x, ys, rfl, hx, hr⟩ := h.uncons
    simp only [oneL, Bool.and_eq_true] at ho
    cases hu with
    | head => exact one_ok ho.1 hx
    | tail _ hm => exact oneL_ok ho.2 hr u hm
theorem cellsV_ok {g ρ sv x} (h : okc sv = true) (hd : Den g ρ sv x) : DenL g ρ (cellsV sv) x.cells.toList ∧ ∀ u ∈ x.cells.toList, u.oneCell' = true := by
  by_cases ha : ∃ cs, sv = .a cs
  · obtain ⟨cs, rfl⟩ := ha
    cases hd with
    | a xs hl hdd =>
      have : DenL g ρ cs xs := ⟨hl, hdd⟩
      exact ⟨by simpa [cellsV, Value.cells] using this, by simpa [Value.cells] using oneL_ok h this⟩
  · have h1 : one sv = true := by cases sv <;> first | exact h | exact absurd ⟨_, rfl⟩ ha
    have hx := one_ok h1 hd
    have hc : cellsV sv = [sv] := by cases sv <;> first | rfl | exact absurd ⟨_, rfl⟩ ha
    rw [hc, one_cells hx]
    exact ⟨DenL.cons hd DenL.nil, fun u hu => by simp at hu; exact hu ▸ hx⟩
/-- Cells replaced, from a place on; written out. -/
def putK {β : Type} : List SV → Nat → List SV → (List SV → Option β) → Option β
  | cs, 0, [], K => K cs
  | c :: cs, n + 1, ns, K => putK cs n ns (fun r => K (c :: r))
  | _ :: cs, 0, n :: ns, K => putK cs 0 ns (fun r => K (n :: r))
  | [], _ + 1, _, _ => none
  | [], 0, _ :: _, _ => none
theorem putK_ok {β : Type} : ∀ {cs : List SV} {off : Nat} {ns : List SV} {K : List SV → Option β} {r : β}, putK cs off ns K = some r → off + ns.length ≤ cs.length ∧ K (cs.take off ++ ns ++ cs.drop (off + ns.length)) = some r
  | cs, 0, [], K, r, h => ⟨by simp, by
    have h : K cs = some r := by cases cs <;> exact h
    simpa using h⟩
  | c :: cs, n + 1, ns, K, r, h => by
    obtain ⟨h1, h2⟩ := putK_ok (cs := cs) (off := n) h
    refine ⟨by simp; omega, ?_⟩
    have e : n + 1 + ns.length = n + ns.length + 1 := by omega
    rw [e]
    simpa using h2
  | _ :: cs, 0, n :: ns, K, r, h => by
    obtain ⟨h1, h2⟩ := putK_ok (cs := cs) (off := 0) h
    refine ⟨by simp at h1 ⊢; omega, ?_⟩
    have e : 0 + (n :: ns).length = 0 + ns.length + 1 := by simp
    rw [e]
    simpa using h2
  | [], _ + 1, _, _, _, h => by cases h
  | [], 0, _ :: _, _, _, h => by cases h
theorem DenL.put {g ρ cs xs ns ys} (h : DenL g ρ cs xs) (h' : DenL g ρ ns ys) (off : Nat) : DenL g ρ (cs.take off ++ ns ++ cs.drop (off + ns.length)) (xs.take off ++ ys ++ xs.drop (off + ys.length)) := by
  rw [h'.1]
  exact ((h.take off).append h').append (h.drop _)
/-- A struct's cells, field by field. -/
def fillK {β : Type} (lay : List (Nat × Nat × Bool)) : List SV → List Nat → List SV → (List SV → Option β) → Option β
  | cs, [], [], K => K cs
  | cs, f :: fr, sv :: svs, K => match lay[f]? with
    | some (off, sz, _) => match Nat.beq (cellsV sv).length sz, okc sv with
      | true, true => putK cs off (cellsV sv) (fun r => fillK lay r fr svs K)
      | _, _ => none
    | none => none
  | _, _, _, _ => none
theorem fillK_ok {g ρ} {β : Type} {lay : List (Nat × Nat × Bool)} : ∀ {fr : List Nat} {svs : List SV} {cs : List SV} {xs vals : List Value} {K : List SV → Option β} {r : β}, fillK lay cs fr svs K = some r → DenL g ρ cs xs → DenL g ρ svs vals →
    ∃ cs' ys, K cs' = some r ∧ DenL g ρ cs' ys ∧ Instr.fill (fun i => (lay.map fun p => (p.1, p.2.1))[i]?) xs.toArray (fr.zip vals) = some ys.toArray
  | [], [], cs, xs, vals, K, r, h, hd, hv => ⟨cs, xs, h, hd, rfl⟩
  | f :: fr, sv :: svs, cs, xs, vals, K, r, h, hd, hv => by
    obtain ⟨v, vs, rfl, dv, hr⟩ := hv.uncons
    unfold fillK at h
    split at h
    · rename_i off sz ag hl
      split at h
      · rename_i hsz hok
        have hsz := Nat.eq_of_beq_eq_true hsz
        obtain ⟨h1, h2⟩ := putK_ok h
        obtain ⟨d1, _⟩ := cellsV_ok hok dv
        obtain ⟨cs', ys, h3, h4, h5⟩ := fillK_ok h2 (hd.put d1 off) hr
        refine ⟨cs', ys, h3, h4, ?_⟩
        have hlen : v.cells.size = sz := by rw [← hsz, ← d1.1]; simp
        have hle : off + v.cells.toList.length ≤ xs.length := by rw [d1.1, hd.1]; exact h1
        have hl' : (lay.map fun p => (p.1, p.2.1))[f]? = some (off, sz) := by simp [hl]
        simp only [List.zip_cons_cons]
        unfold Instr.fill
        simp only [hl']
        have hle2 : ¬ (off + v.cells.size > xs.length) := by simpa using hle
        rw [if_neg (by simp [hlen]; simpa [hlen] using hle2)]
        have hset := foldl_set xs v.cells.toList (xs.take off) (xs.drop off) off (by simp) (by simp; have : v.cells.toList.length = v.cells.size := by simp
                                                                                               omega) (by simp; have : v.cells.toList.length = v.cells.size := by simp
                                                                                                          omega)
        have e : v.cells.zipIdx.foldl (fun (cs : Array Value) (x : Value × Nat) => cs.setIfInBounds (off + x.2) x.1) xs.toArray = (xs.take off ++ v.cells.toList ++ xs.drop (off + v.cells.toList.length)).toArray := by
          rw [← Array.foldl_toList]
          simp only [Array.toList_zipIdx]
          rw [hset, List.drop_drop]
        show Instr.fill _ (v.cells.zipIdx.foldl (fun (cs : Array Value) (x : Value × Nat) => cs.setIfInBounds (off + x.2) x.1) xs.toArray) _ = _
        rw [e]
        exact h5
      · cases h
    · cases h
  | [], _ :: _, _, _, _, _, _, h, _, _ => by simp [fillK] at h
  | _ :: _, [], _, _, _, _, _, h, _, _ => by simp [fillK] at h
def xbuild (tb : TT) (e : Nat → Option SV) (T : Nat) (parts : List (Nat × Operand)) : Option (SV × List Prop) := match tb.get T with
  | some d => match d.kd with
    | .st lay => match evs e (parts.map (·.2)) with
      | some svs => stK svs (fun sts => fillK lay (cellsV (inj d.z)) (parts.map (·.1)) sts (fun cs => some (.a cs, svs.flatMap cd1)))
      | none => none
    | _ => none
  | none => none
/-- The address of an element, of which the text tells the cells. -/
def xix (tb : TT) (e : Nat → Option SV) (T : Nat) (x ix : Operand) (row : List SV) : Option (SV × List Prop) := match evs e [x, ix], tb.get T with
  | some [sx, si], some d => match st1 sx, st1 si, d.kd with
    | .s _ rows, .v (.int _ z), .sl el => match tb.get el with
      | some de => match Nat.beq row.length de.sz with
        | true => some (.p row, cd1 sx ++ (cd1 si ++ [0 ≤ z ∧ rows[z.toNat]? = some row]))
        | false => none
      | none => none
    | _, _, _ => none
  | _, _ => none
/-- What an operation reads, reckoned; H: the cells of elements that are met. -/
def xrd (tb : TT) (e : Nat → Option SV) (M : SM) (H : List (List SV)) (op : Op) : Option (SV × List Prop) := match op with
  | .pick c a b => xpick e c a b
  | .build T parts => xbuild tb e T parts.toList
  | .indexAddr T x ix => match H with
    | row :: _ => xix tb e T x ix row
    | [] => none
  | op => xread tb e M op
def isIx : Op → Bool
  | .indexAddr _ _ _ => true
  | _ => false
section
variable {X : Kx} {k : List It} {L : SL} {M : SM} {fs : List MF} {own : List Res} {arr : Array Oper} {l : List Oper} {o : Oper}
theorem Stp_rd {tb : TT} (hT : tb.Ok X.P) {d : Nat} {sv : SV} {φ : List Prop} {G : Option Bool} (hG : gS arr (lkS L) o = some G) (hd : o.dst = some d) (hn : Nat.blt d X.n = true) {H : List (List SV)} (hx : xrd tb (lkS L) M H o.op = some (sv, φ)) (hφ : ∀ p ∈ wq G φ, p) :
    Stp X arr o L M fs own (wr G sv) M := by
  unfold xrd at hx
  split at hx
  · rename_i c oa ob hop
    refine Stp_read hG hd hn (fun L' hL hon g a ρ ms st => ?_)
    have hφ2 := wq_ok hφ hon
    have h2 : ∀ t sv, lkS L' t = some sv → ∃ x, a.tmps[t]? = some x ∧ Den g ρ sv x := (st.all (F2 X ρ L' a) (.tail _ (.head _))).val
    unfold xpick at hx
    split at hx
    · rename_i sc sa sb hsv
      have hsv' : evs (lkS L') [c, oa, ob] = some [sc, sa, sb] := by
        have := evs_agree' hL
        rw [hop] at this
        exact this.trans hsv
      obtain ⟨_, _, e1, dc, hr⟩ := (evals_den h2 hsv').uncons
      simp only [List.map_cons, List.cons.injEq] at e1
      obtain ⟨rfl, rfl⟩ := e1
      obtain ⟨_, _, e1, da, hr⟩ := hr.uncons
      simp only [List.cons.injEq] at e1
      obtain ⟨rfl, rfl⟩ := e1
      obtain ⟨_, _, e1, db, _⟩ := hr.uncons
      simp only [List.cons.injEq] at e1
      obtain ⟨rfl, _⟩ := e1
      split at hx
      · rename_i q hq
        split at hx
        · rename_i r hp
          cases hx
          have hc := st1_ok dc (fun p hp => hφ2 p (by simp [hp]))
          rw [hq] at hc
          have hcv := den_v hc
          refine ⟨_, ?_, pickV_ok (a := a) hp (fun hqt => st1_ok da (fun p hp => ?_)) (fun hqf => st1_ok db (fun p hp => ?_))⟩
          · cases q <;> simp only [execOp, hop, hcv] <;> rfl
          · exact hφ2 (q = true → p) (List.mem_append_right _ (List.mem_append_left _ (List.mem_map.2 ⟨p, hp, rfl⟩))) hqt
          · exact hφ2 (q = false → p) (List.mem_append_right _ (List.mem_append_right _ (List.mem_map.2 ⟨p, hp, rfl⟩))) hqf
        · cases hx
      · cases hx
    · cases hx
  · rename_i T parts hop
    refine Stp_read hG hd hn (fun L' hL hon g a ρ ms st => ?_)
    have hφ2 := wq_ok hφ hon
    have h2 : ∀ t sv, lkS L' t = some sv → ∃ x, a.tmps[t]? = some x ∧ Den g ρ sv x := (st.all (F2 X ρ L' a) (.tail _ (.head _))).val
    unfold xbuild at hx
    split at hx
    · rename_i d' hd'
      have hok := TT.get_ok hT hd'
      split at hx
      · rename_i lay hk
        have hkd := hok.kd
        rw [hk] at hkd
        obtain ⟨_, zs, hz, hbt⟩ := hkd
        split at hx
        · rename_i svs hsv
          rw [stK_eq] at hx
          have hsv' : evs (lkS L') (parts.toList.map (·.2)) = some svs := by
            have := evs_agree' hL
            rw [hop] at this
            exact (show evs (lkS L') (parts.toList.map (·.2)) = evs (lkS L) (parts.toList.map (·.2)) by simpa [Op.operands] using this).trans hsv
          have hφsv : ∀ {β : Type} {cs : List SV} {fr svs'} {K : List SV → Option β} {r}, fillK lay cs fr svs' K = some r → ∃ cs', K cs' = some r := by
            intro β cs fr svs' K r h
            induction fr generalizing cs svs' with
            | nil => cases svs' with
              | nil => exact ⟨cs, h⟩
              | cons _ _ => simp [fillK] at h
            | cons f fr ih => cases svs' with
              | nil => simp [fillK] at h
              | cons sv svs =>
                unfold fillK at h
                split at h
                · split at h
                  · exact ih (putK_ok h).2
                  · cases h
                · cases h
          obtain ⟨cs0, hcs0⟩ := hφsv hx
          simp only [Option.some.injEq, Prod.mk.injEq] at hcs0
          have dz : DenL g ρ (cellsV (inj d'.z)) zs := by
            have := den_inj g ρ d'.z
            rw [hz] at this ⊢
            cases hi : inj (.agg zs.toArray) with
            | a cs =>
              rw [hi] at this
              cases this with
              | a xs hl hdd =>
                exact ⟨hl, hdd⟩
            | _ => simp [inj] at hi
          obtain ⟨cs', ys, h3, h4, h5⟩ := fillK_ok hx dz (sts_ok (evals_den h2 hsv') (fun p hp => hφ2 p (by rw [← hcs0.2]; exact hp)))
          simp only [Option.some.injEq, Prod.mk.injEq] at h3
          obtain ⟨rfl, _⟩ := h3
          refine ⟨.agg ys.toArray, ?_, .a ys h4.1 h4.2⟩
          obtain ⟨fields, z, u, ⟨i, hi, hz2⟩, hzc, hm⟩ := hbt
          have hm' := hm g.w
          have hfun : (fun (x : Nat) => (lay.map fun p => (p.1, p.2.1)).toArray[x]?) = fun (i : Nat) => (lay.map fun p => (p.1, p.2.1))[i]? := by funext i; simp
          have hpp : (Array.map (fun (x : Nat × Operand) => (x.1, a.eval x.2)) parts).toList = (parts.toList.map (·.1)).zip ((parts.toList.map (·.2)).map a.eval) := by
            simp only [Array.toList_map]
            generalize parts.toList = ps
            induction ps with
            | nil => rfl
            | cons p ps ih => simp only [List.map_cons, List.zip_cons_cons, ih]
          have hbr : (Instr.build T (Array.map (fun (x : Nat × Operand) => (x.1, a.eval x.2)) parts)).run X.P g.w = .ok (.agg ys.toArray) g.w := by
            simp only [Instr.build, Sem.run_bind, zeroValue, typeInfo, run_program, hi, hz2, Result.andThen_ok, Sem.run_pure, run_underlying u, hm', hzc]
            rw [hpp, hfun, h5]
            rfl
          simp only [execOp, hop]
          show (do let v ← Instr.build T (Array.map (fun (x : Nat × Operand) => (x.1, a.eval x.2)) parts); pure (Next.value v) : Sem Next).run X.P g.w = _
          rw [Sem.run_bind, hbr]
          rfl
        · cases hx
      · cases hx
    · cases hx
  · rename_i T x ix hop
    split at hx
    · rename_i row _
      refine Stp_read hG hd hn (fun L' hL hon g a ρ ms st => ?_)
      have hφ2 := wq_ok hφ hon
      have h2 : ∀ t sv, lkS L' t = some sv → ∃ x, a.tmps[t]? = some x ∧ Den g ρ sv x := (st.all (F2 X ρ L' a) (.tail _ (.head _))).val
      unfold xix at hx
      split at hx
      · rename_i sx si d' hsv hd'
        have hkd := (TT.get_ok hT hd').kd
        have hsv' : evs (lkS L') [x, ix] = some [sx, si] := by
          have := evs_agree' hL
          rw [hop] at this
          exact this.trans hsv
        obtain ⟨_, _, e1, dx, hr⟩ := (evals_den h2 hsv').uncons
        simp only [List.map_cons, List.cons.injEq] at e1
        obtain ⟨rfl, rfl⟩ := e1
        obtain ⟨_, _, e1, di, _⟩ := hr.uncons
        simp only [List.cons.injEq] at e1
        obtain ⟨rfl, _⟩ := e1
        split at hx
        · rename_i sz rows _ z el hsx hsi hk
          rw [hk] at hkd
          split at hx
          · rename_i de hde
            split at hx
            · rename_i hsz
              have hsz := Nat.eq_of_beq_eq_true hsz
              cases hx
              have dx' := st1_ok dx (fun p hp => hφ2 p (List.mem_append_left _ hp))
              have di' := st1_ok di (fun p hp => hφ2 p (List.mem_append_right _ (List.mem_append_left _ hp)))
              have hz := hφ2 _ (List.mem_append_right _ (List.mem_append_right _ (.head _)))
              rw [hsx] at dx'
              rw [hsi] at di'
              have hvi := den_int di'
              generalize hvx : a.eval x = vx at dx'
              cases dx' with
              | s xs h1 h2' hl hr' ho hne hdd =>
                rename_i ad c
                have hlt : z.toNat < rows.length := by
                  rcases Nat.lt_or_ge z.toNat rows.length with h | h
                  · exact h
                  · have := hz.2; rw [List.getElem?_eq_none h] at this; cases this
                obtain ⟨b, oo, rfl, hfz, hc⟩ := hne (by intro e; subst e; simp at hlt)
                have hrow : row.length = sz := hr' row (List.mem_of_getElem? hz.2)
                have hsz : sz = de.sz := hrow.symm.trans hsz
                refine ⟨.pointer (some ⟨b, oo + z.toNat * sz, none⟩), ?_, .p ((xs.drop (z.toNat * sz)).take sz) ?_ hfz (fun k y hy => ?_) (fun ρ' j sv y hj hy => ?_)⟩
                · have hb : 0 ≤ z ∧ z < (rows.length : Int) := ⟨hz.1, by omega⟩
                  simp only [execOp, hop, hvx, hvi]
                  simp only [Instr.indexAt, asIntOf, Sem.run_bind, Sem.run_pure, Result.andThen_ok, run_underlying hkd]
                  rw [if_pos hb]
                  simp only [Sem.run_bind, run_sizeOf (TT.get_ok hT hde).ti, Result.andThen_ok, Sem.run_pure, addr_add, hsz]
                · simp only [List.length_take, List.length_drop, hl, hrow]
                  have : z.toNat * sz + sz ≤ rows.length * sz := by rw [← Nat.succ_mul]; exact Nat.mul_le_mul_right _ hlt
                  omega
                · rw [List.getElem?_take] at hy
                  split at hy
                  · rw [List.getElem?_drop] at hy
                    have := hc _ y hy
                    rwa [← Nat.add_assoc] at this
                  · cases hy
                · rw [List.getElem?_take] at hy
                  split at hy
                  · rw [List.getElem?_drop] at hy
                    exact hdd ρ' z.toNat j row sv y hz.2 hj hy
                  · cases hy
            · cases hx
          · cases hx
        · cases hx
      · cases hx
    · cases hx
  · exact Stp_x hT hG hd hn hx hφ
/-- A literal of a slice: it is never written. -/
def litK {β : Type} (sz : Nat) : List SV → (List (List SV) → Option β) → Option β
  | [], K => K []
  | sv :: r, K => match okc sv && (cloL (cellsV sv) && Nat.beq (cellsV sv).length sz) with
    | true => litK sz r (fun rows => K (cellsV sv :: rows))
    | false => none
def xlit (tb : TT) (e : Nat → Option SV) (T n : Nat) (parts : List (Nat × Operand)) : Option (SV × List Prop) := match tb.get T with
  | some d => match d.kd with
    | .sl el => match tb.get el, evs e (parts.map (·.2)) with
      | some de, some svs => match Nat.blt 0 de.sz && (Nat.ble (n * de.sz) 16777216 && (decide (parts.map (·.1) = List.range n) && Nat.beq (cellsV (inj de.z)).length de.sz)) with
        | true => stK svs (fun sts => litK de.sz sts (fun rows => some (.s de.sz rows, svs.flatMap cd1)))
        | false => none
      | _, _ => none
    | _ => none
  | none => none
theorem litK_ok {β : Type} {sz : Nat} : ∀ {svs : List SV} {K : List (List SV) → Option β} {r : β}, litK sz svs K = some r → K (svs.map cellsV) = some r ∧ ∀ sv ∈ svs, okc sv = true ∧ cloL (cellsV sv) = true ∧ (cellsV sv).length = sz
  | [], K, r, h => ⟨h, fun sv hv => (by cases hv)⟩
  | sv :: svs, K, r, h => by
    unfold litK at h
    split at h
    · rename_i hc
      simp only [Bool.and_eq_true] at hc
      obtain ⟨k1, k2⟩ := litK_ok h
      refine ⟨k1, fun x hx => ?_⟩
      cases hx with
      | head => exact ⟨hc.1, hc.2.1, Nat.eq_of_beq_eq_true hc.2.2⟩
      | tail _ hm => exact k2 x hm
    · cases h
/-- Each of these cells, as the values' cells. -/
def rowsF (ρ : Nat → Lc) (rows : List (List SV)) (vs : List Value) : MF := ⟨fun g => ∀ (j : Nat) q v, rows[j]? = some q → vs[j]? = some v → DenL g ρ q v.cells.toList, fun e h j q v h1 h2 => (h j q v h1 h2).mono e⟩
/-- A rule of the older kind, as a step. -/
theorem viaS {X : Kx} {arr : Array Oper} {o : Oper} {Lr : LL} {fs : List MF} {own : List Res} {K : Act → World → Prop} {g : GW} {a : Act} (st : St X.toCx Lr fs own g a) (h : S X.toCx arr [o] [.lp K] Lr fs own) : opQ X.P arr o K a g.w := h g a st
theorem S_J {X : Kx} {arr : Array Oper} {L : LL} {fs : List MF} {own : List Res} {J : Act → World → Prop} (h : ∀ g a, St X.toCx L fs own g a → J a g.w) : S X.toCx arr [] [.lp J] L fs own := fun g a s => h g a s
theorem Sl.put {X : Kx} {d : Nat} {v : Value} {sv : SV} {ρ L Lr a a' g n df} (h : Sl X ρ L a g) (hf : ∀ t x, a.tmps[t]? = some x → lk Lr t = some x) (hk : KN n df ((d, v) :: Lr) a') (hd : Den g ρ sv v) : Sl X ρ ((d, sv) :: L) a' g := by
  refine ⟨h.pin, fun t s ht => ?_⟩
  by_cases htd : t = d
  · subst htd; rw [lkS_same] at ht; cases ht; exact ⟨v, hk.val t v (lk_cons_same _ _ _), hd⟩
  · rw [lkS_ne _ _ htd] at ht
    obtain ⟨x, hx, dx⟩ := h.val t s ht
    exact ⟨x, hk.val t x (by rw [lk_cons_ne _ _ htd]; exact hf t x hx), dx⟩
def denF (ρ : Nat → Lc) (svs : List SV) (xs : List Value) : MF := ⟨fun g => DenL g ρ svs xs, fun e h => h.mono e⟩
theorem rowsOf {sz : Nat} : ∀ (vs : List Value), (∀ v ∈ vs, v.cells.toList.length = sz ∧ ∀ u ∈ v.cells.toList, u.oneCell' = true) → ∃ ys : List (Row sz), ys.map (fun y => y.1) = vs.map (fun v => v.cells.toList)
  | [], _ => ⟨[], rfl⟩
  | v :: vs, h => by
    obtain ⟨ys, hy⟩ := rowsOf vs (fun x hx => h x (.tail _ hx))
    exact ⟨⟨v.cells.toList, h v (.head _)⟩ :: ys, by simp [hy]⟩
theorem den_wr {G : Option Bool} {g ρ x v} (hon : isOn G = true) (h : Den g ρ x v) : Den g ρ (wr G x) v := by
  cases G with
  | none => exact h
  | some b => have hb : b = true := hon; subst hb; exact .gt h
theorem cellsV_len {z : Value} {n : Nat} (h : (cellsV (inj z)).length = n) : z.cells.size = n := by
  rw [← h]
  unfold inj
  split
  · simp [cellsV, Value.cells]
  · rename_i hx
    have h1 : (cellsV (inj1 z)).length = 1 := by unfold inj1; split <;> rfl
    rw [h1]
    cases z <;> first | rfl | exact absurd rfl (hx _)
theorem Stp_lit {tb : TT} (hT : tb.Ok X.P) {d : Nat} {sv : SV} {φ : List Prop} {G : Option Bool} {T n : Nat} {parts : Array (Nat × Operand)} (hop : o.op = .buildSlice T n parts) (hG : gS arr (lkS L) o = some G) (hd : o.dst = some d) (hn : Nat.blt d X.n = true) (hx : xlit tb (lkS L) T n parts.toList = some (sv, φ)) (hφ : ∀ p ∈ wq G φ, p) :
    Stp X arr o L M fs own (wr G sv) M := by
  intro L' hL g a hE
  obtain ⟨ρ, ms, st⟩ := hE.open
  have hSl : Sl X ρ L' a g := st.all _ (.tail _ (.head _))
  have h2 := hSl.val
  have hw := gS_ok st.kn h2 ((gS_agree hL).trans hG)
  by_cases hon : isOn G = true
  · have hφ2 := wq_ok hφ hon
    unfold xlit at hx
    split at hx
    · rename_i dT hdT
      split at hx
      · rename_i elt hk
        have hkd := (TT.get_ok hT hdT).kd
        rw [hk] at hkd
        split at hx
        · rename_i de svs hde hsv
          split at hx
          · rename_i hcond
            simp only [Bool.and_eq_true, decide_eq_true_eq] at hcond
            obtain ⟨hz, hbig, hrange, hzl⟩ := hcond
            have hz : 0 < de.sz := by simpa [Nat.blt_eq] using hz
            have hbig := Nat.le_of_ble_eq_true hbig
            have hzl := Nat.eq_of_beq_eq_true hzl
            rw [stK_eq] at hx
            have hsv' : evs (lkS L') (parts.toList.map (·.2)) = some svs := by
              have := evs_agree' hL
              rw [hop] at this
              exact (show evs (lkS L') (parts.toList.map (·.2)) = evs (lkS L) (parts.toList.map (·.2)) by simpa [Op.operands] using this).trans hsv
            obtain ⟨e1, e2⟩ := litK_ok hx
            simp only [Option.some.injEq, Prod.mk.injEq] at e1
            obtain ⟨rfl, rfl⟩ := e1
            have hden := sts_ok (evals_den h2 hsv') hφ2
            obtain ⟨Lr, st', hev, hfr⟩ := st.slots (fun t sv ht => by obtain ⟨x, hx, _⟩ := h2 t sv ht; exact ⟨x, hx⟩) hsv'
            generalize hvs : (parts.toList.map (·.2)).map a.eval = vs at hden hev
            have hcell : ∀ v ∈ vs, v.cells.toList.length = de.sz ∧ ∀ u ∈ v.cells.toList, u.oneCell' = true := by
              intro v hv
              obtain ⟨j, hj⟩ := List.getElem?_of_mem hv
              have hjl : j < (svs.map st1).length := by
                rw [← hden.1]
                rcases Nat.lt_or_ge j vs.length with h | h
                · exact h
                · rw [List.getElem?_eq_none h] at hj; cases hj
              have hs := List.getElem?_eq_getElem hjl
              obtain ⟨o1, o2, o3⟩ := e2 _ (List.mem_of_getElem? hs)
              obtain ⟨d1, d2⟩ := cellsV_ok o1 (hden.2 j _ v hs hj)
              exact ⟨by rw [d1.1, o3], d2⟩
            obtain ⟨ys, hym⟩ := rowsOf vs hcell
            have hys : vs.map (fun v => v.cells.toList) = ys.map (elRow de.sz hz).enc := hym.symm
            have hyl : ys.length = vs.length := by have := congrArg List.length hym; simpa using this
            have hrl : ((svs.map st1).map cellsV).length = ys.length := by rw [hyl, hden.1]; simp
            have hrows : (rowsF ρ ((svs.map st1).map cellsV) vs).p g := by
              intro j q v hq hv
              simp only [List.getElem?_map, Option.map_eq_some_iff] at hq
              obtain ⟨s1, ⟨s0, hs0, rfl⟩, rfl⟩ := hq
              have hs : (svs.map st1)[j]? = some (st1 s0) := by simp [hs0]
              obtain ⟨o1, _, _⟩ := e2 _ (List.mem_of_getElem? hs)
              exact (cellsV_ok o1 (hden.2 j _ v hs hv)).1
            have st2 : St X.toCx Lr (rowsF ρ ((svs.map st1).map cellsV) vs :: F1 ρ M ms :: F2 X ρ L' a :: fs) (ms ++ own) g a := ⟨st'.kn, All.cons hrows st'.all, st'.own, st'.ext, st'.new⟩
            have hlive : live arr Lr o = some true ∨ Region.wanted o (yielded arr a.tmps) = true := .inr (by rw [hw]; exact hon)
            have hrun : opQ X.P arr o (fun a' w' => ∃ g', g'.w = w' ∧ ESt X ((d, wr G (.s de.sz ((svs.map st1).map cellsV))) :: L') M fs own g' a') a g.w := by
              have key := viaS (arr := #[]) (o := { o with guard := none }) (K := fun a' w' => ∃ g', g'.w = w' ∧ ESt X ((d, wr G (.s de.sz ((svs.map st1).map cellsV))) :: L') M fs own g' a') st2
                (S_lit (elRow de.sz hz) ys (parts := parts.toList) (vs := vs) (by rw [hop]) (by unfold live; rfl) hd hn hkd (TT.get_ok hT hde).ti rfl (by
                  have := (cellsV_len hzl); exact this) hrange hev hys (by simpa using hbig) (fun ad c => S_pub .head (S_J (fun g' a' s' => by
                    refine ⟨g', rfl, ρ, ms, ⟨⟨s'.kn.size, s'.kn.defers, fun i v hv => by simp [lk] at hv⟩, fun f hf => s'.all f (.tail _ (.tail _ (.tail _ (.tail _ hf)))), s'.own, s'.ext, s'.new⟩, s'.all (F1 ρ M ms) (.tail _ (.tail _ (.head _))), ?_⟩
                    have hsl' : Sl X ρ L' a g' := s'.all (F2 X ρ L' a) (.tail _ (.tail _ (.tail _ (.head _))))
                    refine hsl'.put hfr s'.kn (den_wr hon ?_)
                    have hsm : (SlM (elRow de.sz hz) ad c ys).p g' := s'.all _ (.head _)
                    have hrw : (rowsF ρ ((svs.map st1).map cellsV) vs).p g' := s'.all _ (.tail _ (.head _))
                    obtain ⟨m1, m2, m3⟩ := hsm
                    rw [← hrl]
                    refine .s (flat (elRow de.sz hz) ys) (by rw [hrl]; exact m1) (by rw [hrl]; exact m2) (by rw [flat_len, hrl]; rfl) (fun r hr => ?_) ⟨flat_one _ _, fun h => absurd h (by omega)⟩ (fun hne => ?_) (fun ρ' i j r sv x hi hj hxx => ?_)
                    · obtain ⟨sv, hsv, rfl⟩ := List.mem_map.1 hr
                      exact (e2 sv hsv).2.2
                    · obtain ⟨b, oo, h1, h2, h3⟩ := m3 (by intro e; apply hne; rw [← List.length_eq_zero_iff, hrl, e]; rfl)
                      exact ⟨b, oo, h1, h2, h3⟩
                    · have hiv : i < vs.length := by
                        rw [← hyl, ← hrl]
                        rcases Nat.lt_or_ge i ((svs.map st1).map cellsV).length with h | h
                        · exact h
                        · rw [List.getElem?_eq_none h] at hi; cases hi
                      have hv := List.getElem?_eq_getElem hiv
                      have hdl := hrw i r _ hi hv
                      obtain ⟨yr, hyi, hy1⟩ : ∃ yr, ys[i]? = some yr ∧ yr.1 = vs[i].cells.toList := by
                        have := congrArg (fun l => l[i]?) hym
                        simp only [List.getElem?_map, hv, Option.map_some] at this
                        exact Option.map_eq_some_iff.1 this
                      obtain ⟨y, hy, dy⟩ := hdl.get hj
                      have hflat := flat_get (elRow de.sz hz) ys i j _ y hyi (by show yr.1[j]? = _; rw [hy1]; exact hy)
                      rw [show (elRow de.sz hz).sz = de.sz from rfl] at hflat
                      have : y = x := Option.some.inj (hflat.symm.trans hxx)
                      subst this
                      obtain ⟨s1, hs1, rfl⟩ := List.mem_map.1 (List.mem_of_getElem? hi)
                      exact dy.swap (cloL_get (e2 s1 hs1).2.1 j sv hj) ρ'))))
              unfold opQ at key ⊢
              rw [hw, if_pos hon]
              have hw1 : Region.wanted { o with guard := none } (yielded #[] a.tmps) = true := by unfold Region.wanted; rfl
              rw [if_pos hw1] at key
              exact key
            rw [hd]
            exact hrun
          · cases hx
        · cases hx
      · cases hx
    · cases hx
  · unfold opQ
    rw [hw, if_neg hon]
    simp only [hd, updL]
    refine ⟨g, rfl, ESt.put st hn ?_⟩
    cases G with
    | none => exact absurd rfl hon
    | some b =>
      have hb : b = false := by simpa [isOn] using hon
      subst hb; exact .gf
/-- A step that writes nothing that was there. -/
def xst (tb : TT) (e : Nat → Option SV) (M : SM) (H : List (List SV)) (op : Op) : Option (SV × List Prop) := match op with
  | .buildSlice T n parts => xlit tb e T n parts.toList
  | op => xrd tb e M H op
theorem Stp_st {tb : TT} (hT : tb.Ok X.P) {d : Nat} {sv : SV} {φ : List Prop} {G : Option Bool} (hG : gS arr (lkS L) o = some G) (hd : o.dst = some d) (hn : Nat.blt d X.n = true) {H : List (List SV)} (hx : xst tb (lkS L) M H o.op = some (sv, φ)) (hφ : ∀ p ∈ wq G φ, p) : Stp X arr o L M fs own (wr G sv) M := by
  unfold xst at hx
  split at hx
  · exact Stp_lit hT ‹_› hG hd hn hx hφ
  · exact Stp_rd hT hG hd hn hx hφ
end
end Go.KX
namespace Go.KX
def updK {β : Type} : SM → Nat → MB → (SM → Option β) → Option β
  | [], _, _, _ => none
  | (j, m) :: r, i, mb, K => match Nat.beq i j with
    | true => K ((j, mb) :: r)
    | false => updK r i mb (fun r' => K ((j, m) :: r'))
def bareS (e : Nat → Option SV) (x : Operand) : Option (SV × List Prop) := match evS e x with
  | some sv => some (st1 sv, cd1 sv)
  | none => none
/-- Operations that make or write local blocks. -/
def xeff (tb : TT) (L : SL) (M : SM) (d : Option Nat) : Op → Option (SL × SM × List Prop)
  | .box T x => match d, bareS (lkS L) x with
    | some d, some (sv, φ) => match okc sv && Nat.blt d 1000, occSL d L || occM d M with
      | true, false => some ((d, .l d 0) :: L, (d, .c T (cellsV sv)) :: M, φ)
      | _, _ => none
    | _, _ => none
  | .alloc T => match d, tb.get T with
    | some d, some t => match okc (inj t.z) && Nat.blt d 1000, occSL d L || occM d M with
      | true, false => some ((d, .l d 0) :: L, (d, .c T (cellsV (inj t.z))) :: M, [])
      | _, _ => none
    | _, _ => none
  | .store T x y => match d, bareS (lkS L) x, bareS (lkS L) y, tb.get T with
    | none, some (.l i off, φ), some (sv, ψ), some t => match lkM M i with
      | some (.c T0 cs) => match okc sv, Nat.beq (cellsV sv).length t.sz with
        | true, true => putK cs off (cellsV sv) (fun cs' => updK M i (.c T0 cs') (fun M' => some (L, M', φ ++ ψ)))
        | _, _ => none
      | _ => none
    | _, _, _, _ => none
  | _ => none
theorem gS_none {arr : Array Oper} {e : Nat → Option SV} {o : Oper} (h : gS arr e o = some none) : o.guard = none := by
  unfold gS at h
  split at h
  · assumption
  · split at h
    · cases h
    · split at h
      · cases h
      · split at h
        · split at h <;> cases h
        · split at h <;> cases h
        · cases h
theorem den_l {g ρ i off x} (h : Den g ρ (.l i off) x) : x = .pointer (some ⟨(ρ i).b, off, none⟩) := by cases h; rfl
theorem occ_upd {g : GW} {ρ : Nat → Lc} {i : Nat} {y : Lc} : ∀ {M : SM} {ms : List Res}, DenM g ρ M ms → occM i M = false → DenM g (fun j => if j = i then y else ρ j) M ms
  | [], _, .nil, _ => .nil
  | (j, m) :: M, _, .cons hb t, h => by
    have hne : Nat.beq i j = false → (fun k => if k = i then y else ρ k) j = ρ j := by
      intro hb
      have : j ≠ i := by intro e; subst e; rw [Nat.beq_refl] at hb; cases hb
      simp [this]
    cases hb with
    | c xs hd h1 =>
      rename_i T cs
      simp only [occM, Bool.or_eq_false_iff] at h
      have e := hne h.1.1
      have : DenB g (fun k => if k = i then y else ρ k) j (.c T cs) (Res.blk ((fun k => if k = i then y else ρ k) j).b (.cells xs.toArray T (0, 0))) :=
        .c xs ⟨hd.1, fun n sv x h2 h3 => (hd.2 n sv x h2 h3).upd (occL_get h.1.2 n sv h2)⟩ h1
      rw [e] at this
      exact .cons this (occ_upd t h.2)
    | m raw hk hd =>
      simp only [occM, Bool.or_eq_false_iff] at h
      have e := hne h.1
      have : DenB g (fun k => if k = i then y else ρ k) j (.m _) (Res.mp str (fun v : Value => v) ((fun k => if k = i then y else ρ k) j).b raw) := .m raw hk hd
      rw [e] at this
      exact .cons this (occ_upd t h.2)
    | it raw hk hd =>
      rename_i k' es js
      simp only [occM, Bool.or_eq_false_iff] at h
      have e := hne h.1.1
      have e2 : (fun k => if k = i then y else ρ k) k' = ρ k' := by
        have : k' ≠ i := by intro e; subst e; have := h.1.2; rw [Nat.beq_refl] at this; cases this
        simp [this]
      have : DenB g (fun k => if k = i then y else ρ k) j (.it k' es js) (Res.it str (fun v : Value => v) ((fun k => if k = i then y else ρ k) k').b ((fun k => if k = i then y else ρ k) j).b raw js) := .it raw hk hd
      rw [e, e2] at this
      exact .cons this (occ_upd t h.2)
    | r hz xs hl hd =>
      rename_i T sz rows
      simp only [occM, Bool.or_eq_false_iff] at h
      have e := hne h.1
      have : DenB g (fun k => if k = i then y else ρ k) j (.r T sz rows) (Res.arr (elRow sz hz) T ((fun k => if k = i then y else ρ k) j).ad ((fun k => if k = i then y else ρ k) j).c xs) := .r hz xs hl hd
      rw [e] at this
      exact .cons this (occ_upd t h.2)
    | q hz xs hl hd =>
      rename_i T sz rows
      simp only [occM, Bool.or_eq_false_iff] at h
      have e := hne h.1
      have : DenB g (fun k => if k = i then y else ρ k) j (.q T sz rows) (Res.que (elRow sz hz) T ((fun k => if k = i then y else ρ k) j).ad ((fun k => if k = i then y else ρ k) j).c xs) := .q hz xs hl hd
      rw [e] at this
      exact .cons this (occ_upd t h.2)
theorem occSL_get {i : Nat} : ∀ {L : SL}, occSL i L = false → ∀ t sv, lkS L t = some sv → occ i sv = false
  | [], _, t, sv, h => by cases h
  | (j, v) :: r, hc, t, sv, h => by
    simp only [occSL, Bool.or_eq_false_iff] at hc
    by_cases ht : t = j
    · subst ht; rw [lkS_same] at h; cases h; exact hc.1
    · rw [lkS_ne _ _ ht] at h; exact occSL_get hc.2 t sv h
theorem DenM.split {g : GW} {ρ : Nat → Lc} : ∀ {M : SM} {ms : List Res} {i : Nat} {mb : MB}, DenM g ρ M ms → lkM M i = some mb → ∃ r m1 m2, ms = m1 ++ r :: m2 ∧ DenB g ρ i mb r ∧
    ∀ {β : Type} {mb' : MB} {K : SM → Option β} {res : β}, updK M i mb' K = some res → ∃ M', K M' = some res ∧ ∀ g' r', DenM g' ρ M (m1 ++ r :: m2) → DenB g' ρ i mb' r' → DenM g' ρ M' (m1 ++ r' :: m2)
  | [], _, _, _, .nil, h => by cases h
  | (j, m) :: M, _, i, mb, @DenM.cons _ _ _ _ _ r0 ms0 hb t, h => by
    unfold lkM at h
    split at h
    · rename_i hij
      cases h
      have hj := Nat.eq_of_beq_eq_true hij
      subst hj
      refine ⟨r0, [], ms0, rfl, hb, fun {β mb' K res} hu => ?_⟩
      simp only [updK, Nat.beq_refl] at hu
      exact ⟨_, hu, fun g' r' hM hB => by cases hM with | cons _ t' => exact .cons hB t'⟩
    · rename_i hij
      obtain ⟨r, m1, m2, rfl, hB, hu⟩ := DenM.split t h
      refine ⟨r, r0 :: m1, m2, rfl, hB, fun {β mb' K res} hu' => ?_⟩
      simp only [updK, hij] at hu'
      obtain ⟨M', h1, h2⟩ := hu hu'
      exact ⟨_, h1, fun g' r' hM hB => by cases hM with | cons hb' t' => exact .cons hb' (h2 g' r' t' hB)⟩
section
variable {X : Kx} {k : List It} {L : SL} {M : SM} {fs : List MF} {own : List Res} {arr : Array Oper} {l : List Oper} {o : Oper}
theorem bareS_ok {a : Act} {g : GW} {ρ : Nat → Lc} {x : Operand} {sv : SV} {φ : List Prop} (h2 : ∀ t sv, lkS L t = some sv → ∃ x, a.tmps[t]? = some x ∧ Den g ρ sv x) (h : bareS (lkS L) x = some (sv, φ)) (hφ : ∀ p ∈ φ, p) : Den g ρ sv (a.eval x) := by
  unfold bareS at h
  split at h
  · cases h; exact st1_ok (eval_den h2 ‹_›) hφ
  · cases h
/-- A new local block. -/
theorem ESt.new {d T : Nat} {cs : List SV} {ρ ms g a} {xs : List Value} (st : St X.toCx [] (F1 ρ M ms :: F2 X ρ L a :: fs) (ms ++ own) g a) (hn : Nat.blt d X.n = true) (hd : DenL g ρ cs xs) (h1 : ∀ u ∈ xs, u.oneCell' = true) (ho : (occSL d L || occM d M) = false) (hoc : occL d cs = false) (hlt : d < 1000) :
    ∃ g', g'.w = g.w.alloc (.cells xs.toArray T (0, 0)) ∧ ESt X ((d, .l d 0) :: L) ((d, .c T cs) :: M) fs own g' (a.put (some d) (.pointer (some ⟨g.w.heap.size, 0, none⟩))) := by
  simp only [Bool.or_eq_false_iff] at ho
  have s' := st.alloc (.cells xs.toArray T (0, 0))
  refine ⟨⟨g.w.alloc (.cells xs.toArray T (0, 0)), g.fz, fun b hb => by have := g.lt b hb; rw [size_alloc]; omega⟩, rfl, ?_⟩
  let ρ' : Nat → Lc := fun j => if j = d then ⟨g.w.heap.size, none, 0⟩ else ρ j
  have hF : FExt g ⟨g.w.alloc (.cells xs.toArray T (0, 0)), g.fz, fun b hb => by have := g.lt b hb; rw [size_alloc]; omega⟩ := ⟨rfl, rfl, rfl, by rw [size_alloc]; omega, fun _ h => h, fun b hb => heap_alloc_old g.w _ (g.lt b hb)⟩
  have hM := s'.all _ (.head _)
  have hL : Sl X ρ L a _ := s'.all _ (.tail _ (.head _))
  have e : (ρ' d).b = g.w.heap.size := by simp [ρ']
  have hB : DenB ⟨g.w.alloc (.cells xs.toArray T (0, 0)), g.fz, fun b hb => by have := g.lt b hb; rw [size_alloc]; omega⟩ ρ' d (.c T cs) (Res.blk (ρ' d).b (.cells xs.toArray T (0, 0))) :=
    .c xs ⟨hd.1, fun n sv x h2 h3 => ((hd.2 n sv x h2 h3).mono hF).upd (occL_get hoc n sv h2)⟩ h1
  rw [e] at hB
  have st2 : St X.toCx [] (F1 ρ' ((d, .c T cs) :: M) (Res.blk g.w.heap.size (.cells xs.toArray T (0, 0)) :: ms) :: F2 X ρ' L a :: fs) ((Res.blk g.w.heap.size (.cells xs.toArray T (0, 0)) :: ms) ++ own) _ a :=
    ⟨s'.kn, All.cons (.cons hB (occ_upd hM ho.2)) (All.cons ⟨fun i hi => by
      have : i ≠ d := by omega
      simp only [ρ', if_neg this]; exact hL.pin i hi, fun t sv ht => by
      obtain ⟨x, hx, dx⟩ := hL.val t sv ht
      exact ⟨x, hx, dx.upd (occSL_get ho.1 t sv ht)⟩⟩ (fun f hf => s'.all f (.tail _ (.tail _ hf)))), s'.own, s'.ext, s'.new⟩
  refine ESt.put st2 hn ?_
  have : Den _ ρ' (.l d 0) (.pointer (some ⟨(ρ' d).b, 0, none⟩)) := Den.l (g := ⟨g.w.alloc (.cells xs.toArray T (0, 0)), g.fz, fun b hb => by have := g.lt b hb; rw [size_alloc]; omega⟩)
  rw [e] at this
  exact this
theorem cloc {d : Nat} {sv : SV} (h : occ d sv = false) : occL d (cellsV sv) = false := by
  cases sv <;> simp_all [cellsV, occL, occ]
theorem occ_inj (d : Nat) (v : Value) : occ d (inj v) = false := by
  have h1 : ∀ y, occ d (inj1 y) = false := by intro y; unfold inj1; split <;> rfl
  unfold inj
  split
  · rename_i cs
    simp only [occ]
    induction cs.toList with
    | nil => rfl
    | cons y ys ih => simp [occL, h1, ih]
  · exact h1 _
theorem live_none {L' : LL} (hg : o.guard = none) : live arr L' o = some true := by unfold live; rw [hg]
theorem bare_occ {x : Operand} {sv : SV} {φ : List Prop} {d : Nat} (h : bareS (lkS L) x = some (sv, φ)) (ho : occSL d L = false) : occ d sv = false := by
  unfold bareS at h
  split at h
  · rename_i s hs
    cases h
    have : occ d s = false := by
      cases x with
      | tmp t => exact occSL_get ho t s hs
      | const v =>
        cases v <;> cases hs <;> first | rfl | exact occ_inj d _
      | global i => cases hs; rfl
      | func f => cases hs; rfl
    cases s <;> first | exact this | skip
  · cases h
theorem ES_eff {tb : TT} (hT : tb.Ok X.P) {L' M' φ} (hg : o.guard = none) (hn : ∀ d, o.dst = some d → Nat.blt d X.n = true) (hx : xeff tb L M o.dst o.op = some (L', M', φ)) (hφ : ∀ p ∈ φ, p) (h : ES X arr l k L' M' fs own) : ES X arr (o :: l) k L M fs own := by
  intro g a hE
  obtain ⟨ρ, ms, st⟩ := hE.open
  have h2 : ∀ t sv, lkS L t = some sv → ∃ x, a.tmps[t]? = some x ∧ Den g ρ sv x := (st.all (F2 X ρ L a) (.tail _ (.head _))).val
  have hw : Region.wanted o (yielded arr a.tmps) = true := live_wanted (L := []) st.kn (live_none hg)
  simp only [wl, hw, if_true]
  unfold xeff at hx
  split at hx
  · rename_i T x hop
    split at hx
    · rename_i d sv ψ hd hb
      split at hx
      · rename_i hok hoc
        cases hx
        simp only [Bool.and_eq_true, Nat.blt_eq] at hok
        obtain ⟨hok, hlt⟩ := hok
        have dv := bareS_ok h2 hb hφ
        obtain ⟨d1, d2⟩ := cellsV_ok hok dv
        have hoc' := hoc
        simp only [Bool.or_eq_false_iff] at hoc'
        obtain ⟨g', hw', s'⟩ := ESt.new (T := T) st (hn d hd) d1 d2 hoc (cloc (bare_occ hb hoc'.1)) hlt
        have hr : (execOp a.eval o).run X.P g.w = .ok (.value (.pointer (some ⟨g.w.heap.size, 0, none⟩))) (g.w.alloc (.cells (a.eval x).cells T (0, 0))) := by
          simp only [execOp, hop]
          simp [Instr.box, newVar, newRow]
        simp only [wn, hr, hd]
        have := h g' _ s'
        rw [hw'] at this
        simpa using this
      · cases hx
    · cases hx
  · rename_i T hop
    split at hx
    · rename_i d t hd ht
      split at hx
      · rename_i hok hoc
        cases hx
        simp only [Bool.and_eq_true, Nat.blt_eq] at hok
        obtain ⟨hok, hlt⟩ := hok
        obtain ⟨d1, d2⟩ := cellsV_ok hok (den_inj g ρ t.z)
        have hcl : occ d (inj t.z) = false := by
          exact occ_inj d t.z
        obtain ⟨g', hw', s'⟩ := ESt.new (T := T) st (hn d hd) d1 d2 hoc (cloc hcl) hlt
        have hr : (execOp a.eval o).run X.P g.w = .ok (.value (.pointer (some ⟨g.w.heap.size, 0, none⟩))) (g.w.alloc (.cells t.z.cells T (0, 0))) := by
          simp only [execOp, hop]
          simp [Instr.alloc, run_zeroValue (TT.get_ok hT ht).ti, newVar, newRow]
        simp only [wn, hr, hd]
        have := h g' _ s'
        rw [hw'] at this
        simpa using this
      · cases hx
    · cases hx
  · rename_i T x y hop
    split at hx
    · rename_i i off ψ1 sv ψ2 t hd hb1 hb2 ht
      split at hx
      · rename_i T0 cs hm
        split at hx
        · rename_i hok hsz
          have hsz := Nat.eq_of_beq_eq_true hsz
          obtain ⟨hle, hx⟩ := putK_ok hx
          have hM : DenM g ρ M ms := st.all _ (.head _)
          obtain ⟨r, m1, m2, hms, hB, hu⟩ := hM.split hm
          subst hms
          obtain ⟨M2, hK, hM2⟩ := hu hx
          simp only [Option.some.injEq, Prod.mk.injEq] at hK
          obtain ⟨rfl, rfl, rfl⟩ := hK
          have dx := bareS_ok h2 hb1 (fun p hp => hφ p (by simp [hp]))
          have dy := bareS_ok h2 hb2 (fun p hp => hφ p (by simp [hp]))
          obtain ⟨d1, d2⟩ := cellsV_ok hok dy
          cases hB with
          | c xs hdx h1 =>
            have hax : a.eval x = .pointer (some ⟨(ρ i).b, off, none⟩) := den_l dx
            have hblk : g.w.heap[(ρ i).b]? = some (.cells xs.toArray T0 (0, 0)) := st.own.p (Res.blk (ρ i).b (.cells xs.toArray T0 (0, 0))) (by simp)
            have hbs : (ρ i).b < g.w.heap.size := by
              rcases Nat.lt_or_ge (ρ i).b g.w.heap.size with h | h
              · exact h
              · rw [Array.getElem?_eq_none h] at hblk; cases hblk
            have hlen : off + (a.eval y).cells.toList.length ≤ xs.length := by rw [d1.1, hdx.1]; exact hle
            have hst := run_storeCells_at X.P (ρ i).b off T0 (a.eval y).cells.toList 0 xs.toArray g.w hblk (by simpa using hlen) d2
            simp only [Nat.add_zero] at hst
            have hp : (m1 ++ Res.blk (ρ i).b (.cells xs.toArray T0 (0, 0)) :: m2 ++ own).Perm (Res.blk (ρ i).b (.cells xs.toArray T0 (0, 0)) :: (m1 ++ m2 ++ own)) := by
              simp only [List.append_assoc, List.cons_append]
              exact List.perm_middle
            have stp0 := st.perm hp
            have stp : St X.toCx [] (denF ρ cs xs :: denF ρ (cellsV sv) (a.eval y).cells.toList :: F1 ρ M _ :: F2 X ρ L a :: fs) _ g a := ⟨stp0.kn, All.cons hdx (All.cons d1 stp0.all), stp0.own, stp0.ext, stp0.new⟩
            obtain ⟨g', hw', s'⟩ := stp.turn .head (r' := Res.blk (ρ i).b (.cells (xs.take off ++ (a.eval y).cells.toList ++ xs.drop (off + (a.eval y).cells.toList.length)).toArray T0 (0, 0))) (w' := g.w.setRow (ρ i).b (xs.take off ++ (a.eval y).cells.toList ++ xs.drop (off + (a.eval y).cells.toList.length)).toArray)
              (fun b' _ hx' => setRow_other g.w _ b' _ (fun e => hx' (by rw [e]; exact .head _))) rfl rfl rfl (by simp) (setRow_heap g.w _ _ _ T0 _ hblk) (by simp [Res.blk]) (fun b' hb' => by
                have : b' = (ρ i).b := by simpa [Res.blk] using hb'
                subst this; simpa using hbs) (fun b' hb' => .inl hb')
            have hM' : DenM g' ρ M _ := s'.all (F1 ρ M _) (.tail _ (.tail _ (.head _)))
            have hB' : DenB g' ρ i (.c T0 (cs.take off ++ cellsV sv ++ cs.drop (off + (cellsV sv).length))) (Res.blk (ρ i).b (.cells (xs.take off ++ (a.eval y).cells.toList ++ xs.drop (off + (a.eval y).cells.toList.length)).toArray T0 (0, 0))) := by
              have hF : DenL g' ρ cs xs := s'.all _ (.head _)
              have hF2 : DenL g' ρ (cellsV sv) (a.eval y).cells.toList := s'.all _ (.tail _ (.head _))
              refine .c _ (hF.put hF2 off) (fun u hu => ?_)
              simp only [List.mem_append] at hu
              rcases hu with (hu | hu) | hu
              · exact h1 u (List.mem_of_mem_take hu)
              · exact d2 u hu
              · exact h1 u (List.mem_of_mem_drop hu)
            have hMn := hM2 g' _ hM' hB'
            have hp2 : (Res.blk (ρ i).b (.cells (xs.take off ++ (a.eval y).cells.toList ++ xs.drop (off + (a.eval y).cells.toList.length)).toArray T0 (0, 0)) :: (m1 ++ m2 ++ own)).Perm (m1 ++ Res.blk (ρ i).b (.cells (xs.take off ++ (a.eval y).cells.toList ++ xs.drop (off + (a.eval y).cells.toList.length)).toArray T0 (0, 0)) :: m2 ++ own) := by
              simp only [List.append_assoc, List.cons_append]
              exact List.perm_middle.symm
            have s2 := s'.perm hp2
            have hE' : ESt X L M2 fs own g' a := ⟨ρ, _, ⟨s2.kn, fun f hf => s2.all f (.tail _ (.tail _ (.tail _ (.tail _ hf)))), s2.own, s2.ext, s2.new⟩, hMn, s2.all (F2 X ρ L a) (.tail _ (.tail _ (.tail _ (.head _))))⟩
            have hrun : (execOp a.eval o).run X.P g.w = .ok .skip g'.w := by
              rw [hw']
              have hsize : (a.eval y).cells.size = t.sz := by rw [← hsz, ← d1.1]; simp
              simp only [execOp, hop, hax]
              simp only [Instr.storeAt, Instr.sureAddr, storeVar, Sem.run_bind, Sem.run_pure, Result.andThen_ok, run_sizeOf (TT.get_ok hT ht).ti]
              simp only [hsize, ne_eq, not_true_eq_false, if_false, hst]
              rfl
            simp only [wn, hrun, hd]
            exact h g' a hE'
        · cases hx
      · cases hx
    · cases hx
  · cases hx
end
end Go.KX
namespace Go.KX
def conj : List Prop → Prop
  | [] => True
  | [p] => p
  | p :: r => p ∧ conj r
theorem conj_all : ∀ {φ : List Prop}, conj φ → ∀ p ∈ φ, p
  | [], _, p, hp => by cases hp
  | [q], h, p, hp => by cases hp with | head => exact h | tail _ hm => cases hm
  | q :: q2 :: r, h, p, hp => by
    have h : q ∧ conj (q2 :: r) := h
    cases hp with
    | head => exact h.1
    | tail _ hm => exact conj_all h.2 p hm
/-- Conditions laid on a heap, one by one. -/
def pushK {β : Type} : List Prop → List Prop → (List Prop → Option β) → Option β
  | [], acc, K => K acc
  | p :: r, acc, K => pushK r (p :: acc) K
theorem pushK_ok {β : Type} : ∀ {xs acc : List Prop} {K : List Prop → Option β} {r : β}, pushK xs acc K = some r → ∃ acc', K acc' = some r ∧ ∀ p, p ∈ xs ∨ p ∈ acc → p ∈ acc'
  | [], acc, K, r, h => ⟨acc, h, fun p hp => hp.elim (fun h => by cases h) id⟩
  | q :: xs, acc, K, r, h => by
    obtain ⟨acc', h1, h2⟩ := pushK_ok (xs := xs) h
    refine ⟨acc', h1, fun p hp => h2 p ?_⟩
    rcases hp with hp | hp
    · cases hp with
      | head => exact .inr (.head _)
      | tail _ hm => exact .inl hm
    · exact .inr (.tail _ hp)
/-- m operations. -/
def xrun (tb : TT) (n : Nat) (arr : Array Oper) : Nat → List (List SV) → List Oper → SL → SM → List Prop → Option (List Oper × SL × SM × List Prop)
  | 0, _, l, L, M, acc => some (l, L, M, acc)
  | _ + 1, _, [], _, _, _ => none
  | m + 1, H, o :: r, L, M, acc => match gS arr (lkS L) o with
    | none => none
    | some none => match xst tb (lkS L) M H o.op with
      | some (sv, φ) => match o.dst with
        | some d => match Nat.blt d n with
          | true => pushK φ acc (fun acc => xrun tb n arr m (match isIx o.op with | true => H.tail | false => H) r ((d, sv) :: L) M acc)
          | false => none
        | none => none
      | none => match (match o.dst with | some d => Nat.blt d n | none => true) with
        | true => match xeff tb L M o.dst o.op with
          | some (L2, M2, φ) => pushK φ acc (fun acc => xrun tb n arr m H r L2 M2 acc)
          | none => none
        | false => none
    | some (some b) => match xst tb (lkS L) M H o.op with
      | some (sv, φ) => match o.dst with
        | some d => match Nat.blt d n with
          | true => pushK (φ.map fun p => b = true → p) acc (fun acc => xrun tb n arr m (match isIx o.op with | true => H.tail | false => H) r ((d, .g b sv) :: L) M acc)
          | false => none
        | none => none
      | none => none
def normS (e : Nat → Option SV) : Nat → Nat → List It → List It
  | 0, _, k => k
  | f + 1, n, .code (.seq x y) :: k => normS e f n (.code x :: .code y :: k)
  | f + 1, n, .code .skip :: k => normS e f n k
  | f + 1, n, .code (.block id c) :: k => normS e f n (.code c :: .blk id :: k)
  | f + 1, n, .blk _ :: k => normS e f n k
  | f + 1, n, .code (.exit id) :: k => match popTo id k with
    | some k' => normS e f n k'
    | none => .code (.exit id) :: k
  | f + 1, n + 1, .code (.cond c x y) :: k => match evS e c with
    | some (.v (.bool true)) => normS e f n (.code x :: k)
    | some (.v (.bool false)) => normS e f n (.code y :: k)
    | _ => .code (.cond c x y) :: k
  | _ + 1, _, k => k
section
variable {X : Kx} {k : List It} {L : SL} {M : SM} {fs : List MF} {own : List Res} {arr : Array Oper} {l : List Oper} {o : Oper}
theorem xrun_ok {tb : TT} (hT : tb.Ok X.P) : ∀ (m : Nat) {H : List (List SV)} {l : List Oper} {L : SL} {M : SM} {acc : List Prop} {l' L' M' φ}, xrun tb X.n arr m H l L M acc = some (l', L', M', φ) → (∀ p ∈ φ, p) →
    (∀ p ∈ acc, p) ∧ (ES X arr l' k L' M' fs own → ES X arr l k L M fs own)
  | 0, H, l, L, M, acc, l', L', M', φ, h, hφ => by
    simp only [xrun, Option.some.injEq, Prod.mk.injEq] at h
    obtain ⟨rfl, rfl, rfl, rfl⟩ := h
    exact ⟨hφ, id⟩
  | m + 1, H, [], L, M, acc, l', L', M', φ, h, _ => by simp [xrun] at h
  | m + 1, H, o :: r, L, M, acc, l', L', M', φ, h, hφ => by
    unfold xrun at h
    split at h
    · cases h
    · rename_i hG
      split at h
      · rename_i sv ψ hx
        split at h
        · rename_i d hd
          split at h
          · rename_i hn
            obtain ⟨acc', hr, hm⟩ := pushK_ok h
            obtain ⟨ha, hk⟩ := xrun_ok hT m hr hφ
            refine ⟨fun p hp => ha p (hm p (.inr hp)), fun he => ?_⟩
            have hs := Stp_st (fs := fs) (own := own) hT hG hd hn hx (fun p hp => ha p (hm p (.inl hp)))
            refine ES_step hs ?_
            rw [hd]
            exact hk he
          · cases h
        · cases h
      · split at h
        · rename_i hn
          split at h
          · rename_i L2 M2 ψ hx
            obtain ⟨acc', hr, hm⟩ := pushK_ok h
            obtain ⟨ha, hk⟩ := xrun_ok hT m hr hφ
            refine ⟨fun p hp => ha p (hm p (.inr hp)), fun he => ?_⟩
            refine ES_eff hT (gS_none hG) (fun d hd => ?_) hx (fun p hp => ha p (hm p (.inl hp))) (hk he)
            rw [hd] at hn
            exact hn
          · cases h
        · cases h
    · rename_i b hG
      split at h
      · rename_i sv ψ hx
        split at h
        · rename_i d hd
          split at h
          · rename_i hn
            obtain ⟨acc', hr, hm⟩ := pushK_ok h
            obtain ⟨ha, hk⟩ := xrun_ok hT m hr hφ
            refine ⟨fun p hp => ha p (hm p (.inr hp)), fun he => ?_⟩
            have hs := Stp_st (fs := fs) (own := own) hT hG hd hn hx (fun p hp => ha p (hm p (.inl hp)))
            refine ES_step hs ?_
            rw [hd]
            exact hk he
          · cases h
        · cases h
      · cases h
/-- The side conditions, as they are met. -/
theorem go {tb : TT} (hT : tb.Ok X.P) (m : Nat) (H : List (List SV)) {l' L' M' φ} (hk : ES X arr l' k L' M' fs own) (hr : xrun tb X.n arr m H l L M [] = some (l', L', M', φ) := by rfl) (hφ : conj φ := by first | trivial | omega | (simp +contextual [conj]; done) | (simp +contextual [conj, *]; done) | (simp +contextual [conj, *] <;> omega)) : ES X arr l k L M fs own :=
  (xrun_ok hT m hr (conj_all hφ)).2 hk
theorem kn_true {c : Operand} {a : Act} {g ρ} (h2 : ∀ t sv, lkS L t = some sv → ∃ x, a.tmps[t]? = some x ∧ Den g ρ sv x) {x : Value} (h : evS (lkS L) c = some (.v x)) : a.eval c = x := den_v (eval_den h2 h)
theorem E_seq {x y : Code} (h : E X (.code x :: .code y :: k) L M fs own) : E X (.code (.seq x y) :: k) L M fs own := fun g a s => wpIn_seq (h g a s)
theorem E_skip (h : E X k L M fs own) : E X (.code .skip :: k) L M fs own := fun g a s => wpIn_skip (h g a s)
theorem E_block {id : Nat} {c : Code} (h : E X (.code c :: .blk id :: k) L M fs own) : E X (.code (.block id c) :: k) L M fs own := fun g a s => wpIn_block (h g a s)
theorem E_blk {id : Nat} (h : E X k L M fs own) : E X (.blk id :: k) L M fs own := fun g a s => h g a s
theorem E_exit {id : Nat} {k'} (hp : popTo id k = some k') (h : E X k' L M fs own) : E X (.code (.exit id) :: k) L M fs own := fun g a s => wpIn_exit (by rw [popTo_cont hp]; exact h g a s)
theorem E_cond_t {c : Operand} {x y : Code} (hc : evS (lkS L) c = some (.v (.bool true))) (h : E X (.code x :: k) L M fs own) : E X (.code (.cond c x y) :: k) L M fs own := by
  intro g a s
  obtain ⟨ρ, ms, _, _, h2⟩ := s.ex
  exact wpIn_cond_true (kn_true h2.val hc) (h g a s)
theorem E_cond_f {c : Operand} {x y : Code} (hc : evS (lkS L) c = some (.v (.bool false))) (h : E X (.code y :: k) L M fs own) : E X (.code (.cond c x y) :: k) L M fs own := by
  intro g a s
  obtain ⟨ρ, ms, _, _, h2⟩ := s.ex
  exact wpIn_cond_false (kn_true h2.val hc) (h g a s)
theorem E_cond {c : Operand} {x y : Code} {b : Bool} (hc : evS (lkS L) c = some (.v (.bool b))) (ht : b = true → E X (.code x :: k) L M fs own) (hf : b = false → E X (.code y :: k) L M fs own) : E X (.code (.cond c x y) :: k) L M fs own := by
  intro g a s
  obtain ⟨ρ, ms, _, _, h2⟩ := s.ex
  exact wpIn_cond_split (kn_true h2.val hc) (fun h => ht h g a s) (fun h => hf h g a s)
theorem E_region {id : Nat} (h : ES X l.toArray l k L M fs own) : E X (.code (.region id l.toArray false) :: k) L M fs own :=
  fun g a s => by
    exact wpIn_region_lit (wl_wp l a g.w (Q := cont X.P X.rd X.Q k) (h g a s))
theorem norm_E : ∀ (f n : Nat) {k : List It}, E X (normS (lkS L) f n k) L M fs own → E X k L M fs own
  | 0, _, _, h => h
  | f + 1, n, k, h => by
    unfold normS at h
    split at h
    · cases ‹_ + 1 = _›
    · obtain ⟨rfl⟩ := Nat.succ.inj ‹_›; exact E_seq (norm_E f _ h)
    · obtain ⟨rfl⟩ := Nat.succ.inj ‹_›; exact E_skip (norm_E f _ h)
    · obtain ⟨rfl⟩ := Nat.succ.inj ‹_›; exact E_block (norm_E f _ h)
    · obtain ⟨rfl⟩ := Nat.succ.inj ‹_›; exact E_blk (norm_E f _ h)
    · obtain ⟨rfl⟩ := Nat.succ.inj ‹_›
      split at h
      · exact E_exit ‹_› (norm_E f _ h)
      · exact h
    · obtain ⟨rfl⟩ := Nat.succ.inj ‹_›
      split at h
      · exact E_cond_t ‹_› (norm_E f _ h)
      · exact E_cond_f ‹_› (norm_E f _ h)
      · exact h
    · exact h
/-- On to the next region (n known tests on the way), and m operations of it. -/
theorem en {tb : TT} (hT : tb.Ok X.P) (n m : Nat) (H : List (List SV)) {id : Nat} {k' : List It} {l l' L' M' φ} (h : ES X l.toArray l' k' L' M' fs own) (hk : normS (lkS L) 64 n k = .code (.region id l.toArray false) :: k' := by rfl) (hr : xrun tb X.n l.toArray m H l L M [] = some (l', L', M', φ) := by rfl)
    (hφ : conj φ := by first | trivial | omega | (simp +contextual [conj]; done) | (simp +contextual [conj, *]; done) | (simp +contextual [conj, *] <;> omega)) : E X k L M fs own :=
  norm_E 64 n (hk ▸ E_region (go hT m H h hr hφ))
theorem sn {tb : TT} (hT : tb.Ok X.P) (n m : Nat) (H : List (List SV)) {id : Nat} {k' : List It} {l l' L' M' φ} (h : ES X l.toArray l' k' L' M' fs own) (hk : normS (lkS L) 64 n k = .code (.region id l.toArray false) :: k' := by rfl) (hr : xrun tb X.n l.toArray m H l L M [] = some (l', L', M', φ) := by rfl)
    (hφ : conj φ := by first | trivial | omega | (simp +contextual [conj]; done) | (simp +contextual [conj, *]; done) | (simp +contextual [conj, *] <;> omega)) : ES X arr [] k L M fs own :=
  ES_nil (en hT n m H h hk hr hφ)
theorem el (n : Nat) {k'} (h : E X k' L M fs own) (hk : normS (lkS L) 64 n k = k' := by rfl) : E X k L M fs own := norm_E 64 n (hk ▸ h)
theorem sl (n : Nat) {k'} (h : E X k' L M fs own) (hk : normS (lkS L) 64 n k = k' := by rfl) : ES X arr [] k L M fs own := ES_nil (el n h hk)
/-- A test; p: as a proposition. -/
theorem ei (n : Nat) {k' : List It} {c : Operand} {x y : Code} {p : Prop} [Decidable p] (hk : normS (lkS L) 64 n k = .code (.cond c x y) :: k') (hc : evS (lkS L) c = some (.v (.bool (decide p)))) (ht : p → E X (.code x :: k') L M fs own) (hf : ¬ p → E X (.code y :: k') L M fs own) : E X k L M fs own :=
  norm_E 64 n (hk ▸ E_cond hc (fun h => ht (of_decide_eq_true h)) (fun h => hf (of_decide_eq_false h)))
theorem eib (n : Nat) {k' : List It} {c : Operand} {x y : Code} {b : Bool} (hk : normS (lkS L) 64 n k = .code (.cond c x y) :: k') (hc : evS (lkS L) c = some (.v (.bool b))) (ht : b = true → E X (.code x :: k') L M fs own) (hf : b = false → E X (.code y :: k') L M fs own) : E X k L M fs own :=
  norm_E 64 n (hk ▸ E_cond hc ht hf)
theorem si (n : Nat) {k' : List It} {c : Operand} {x y : Code} {p : Prop} [Decidable p] (hk : normS (lkS L) 64 n k = .code (.cond c x y) :: k') (hc : evS (lkS L) c = some (.v (.bool (decide p)))) (ht : p → E X (.code x :: k') L M fs own) (hf : ¬ p → E X (.code y :: k') L M fs own) : ES X arr [] k L M fs own := ES_nil (ei n hk hc ht hf)
theorem sib (n : Nat) {k' : List It} {c : Operand} {x y : Code} {b : Bool} (hk : normS (lkS L) 64 n k = .code (.cond c x y) :: k') (hc : evS (lkS L) c = some (.v (.bool b))) (ht : b = true → E X (.code x :: k') L M fs own) (hf : b = false → E X (.code y :: k') L M fs own) : ES X arr [] k L M fs own := ES_nil (eib n hk hc ht hf)
/-- A slot's bool, taken apart. -/
theorem sb (i : Nat) {b : Bool} (hi : lkS L i = some (.v (.bool b))) (ht : b = true → ES X arr l k ((i, .v (.bool true)) :: L) M fs own) (hf : b = false → ES X arr l k ((i, .v (.bool false)) :: L) M fs own) : ES X arr l k L M fs own := by
  intro g a s
  have hs : ∀ {b' : Bool}, b = b' → ESt X ((i, .v (.bool b')) :: L) M fs own g a := fun e => s.sub (fun t sv ht => by
    by_cases h : t = i
    · subst h; rw [lkS_same] at ht; cases ht; rw [hi, e]
    · rw [lkS_ne _ _ h] at ht; exact ht)
  cases b with
  | true => exact ht rfl g a (hs rfl)
  | false => exact hf rfl g a (hs rfl)
/-- A slot said otherwise. -/
theorem sas (i : Nat) {v v' : SV} (hi : lkS L i = some v) (e : v = v') (h : ES X arr l k ((i, v') :: L) M fs own) : ES X arr l k L M fs own := by
  intro g a s
  refine h g a (s.sub (fun t sv ht => ?_))
  by_cases hti : t = i
  · subst hti; rw [lkS_same] at ht; cases ht; rw [hi, e]
  · rw [lkS_ne _ _ hti] at ht; exact ht
theorem eas (i : Nat) {v v' : SV} (hi : lkS L i = some v) (e : v = v') (h : E X k ((i, v') :: L) M fs own) : E X k L M fs own :=
  sas (arr := #[]) i hi e (ES_nil h) |> fun h => h
/-- A function that computes a value, and changes nothing. -/
def Fc (P : Program) (fs : List MF) (f : FuncId) (args : List SV) (res : SV) : Prop :=
  Callable P f ∧ ∀ ρ g vs, All fs g → DenL g ρ args vs → Calls P f vs.toArray g.w fun e w' => ∃ v g', e = .returned v ∧ g'.w = w' ∧ Ext [] g g' ∧ Den g' ρ res v
theorem calls_ent {P : Program} {f : FuncId} (h : Callable P f) {ot : Oper} {ρe : Operand → Value} {fo : Operand} {az : Array Operand} {ts : Array TypeId} {xs ys : List Value} (ho : ot.op = .call ⟨.value fo, az, ts⟩) (hfe : ρe fo = .func (.func f) xs.toArray ys.toArray) (w : World) :
    (execOp ρe ot).run P w = .ok (.enter f (xs ++ az.toList.map ρe ++ ys).toArray) w := by
  simp only [execOp, ho, resolve, hfe]
  show (callFunc f ((xs.toArray ++ az.map ρe) ++ ys.toArray)).run P w = _
  rw [run_callFunc h]
  congr 2
  exact Array.ext' (by simp)
theorem den_f {g ρ fn fi ca x} (h : Den g ρ (.f fn fi ca) x) : ∃ xs ys, x = .func (.func fn) xs.toArray ys.toArray ∧ DenL g ρ fi xs ∧ DenL g ρ ca ys := by
  cases h with | f xs ys a b c d => exact ⟨xs, ys, rfl, ⟨a, b⟩, ⟨c, d⟩⟩
/-- After a step that changes nothing: what was known is known. -/
theorem ESt.ext0 {g g' : GW} {a : Act} {ρ ms} (st : St X.toCx [] (F1 ρ M ms :: F2 X ρ L a :: fs) (ms ++ own) g a) (hE : Ext [] g g') : St X.toCx [] (F1 ρ M ms :: F2 X ρ L a :: fs) (ms ++ own) g' a := by
  have := st.frame (fsc := []) (ownc := []) (fs' := []) (own' := []) .nil (by simpa using hE) (fun f hf => (by cases hf)) ⟨fun r hr => (by cases hr), List.nodup_nil, fun b hb => (by cases hb), fun b hb => (by cases hb)⟩ (fun b hb => (by cases hb)) .nil
  simpa using this
theorem Stp_fn {d : Nat} {f : FuncId} {fo : Operand} {az : Array Operand} {ts : Array TypeId} {sf : SV} {fi ca svs args : List SV} {res : SV} {G : Option Bool} (hG : gS arr (lkS L) o = some G) (hd : o.dst = some d) (hn : Nat.blt d X.n = true) (ho : o.op = .call ⟨.value fo, az, ts⟩)
    (hfo : evS (lkS L) fo = some sf) (hsf : st1 sf = .f f fi ca) (ha : evs (lkS L) az.toList = some svs) (hφ : ∀ p ∈ wq G (cd1 sf ++ svs.flatMap cd1), p) (hargs : fi ++ svs.map st1 ++ ca = args) (hs : isOn G = true → Fc X.P fs f args res) : Stp X arr o L M fs own (wr G res) M := by
  intro L' hL g a hE
  obtain ⟨ρ, ms, st⟩ := hE.open
  have h2 : ∀ t sv, lkS L' t = some sv → ∃ x, a.tmps[t]? = some x ∧ Den g ρ sv x := (st.all (F2 X ρ L' a) (.tail _ (.head _))).val
  have hw := gS_ok st.kn h2 ((gS_agree hL).trans hG)
  have hsl : ∀ t ∈ (fo :: az.toList).filterMap tmpOf, lkS L' t = lkS L t := fun t ht => hL t (by
    have : t ∈ o.op.operands.toList.filterMap tmpOf := by rw [ho]; simpa [Op.operands, Call.operands] using ht
    exact List.mem_append_left _ this)
  have hall : evs (lkS L) (fo :: az.toList) = some (sf :: svs) := by simp only [evs, hfo, ha]
  have hall' : evs (lkS L') (fo :: az.toList) = some (sf :: svs) := (evs_agree hsl).trans hall
  unfold opQ
  rw [hw]
  by_cases hon : isOn G = true
  · rw [if_pos hon]
    obtain ⟨hc, hcall⟩ := hs hon
    have hden := sts_ok (evals_den h2 hall') (by simpa using wq_ok hφ hon)
    obtain ⟨x, r, e1, dx, dr⟩ := hden.uncons
    simp only [List.map_cons, List.cons.injEq] at e1
    obtain ⟨rfl, rfl⟩ := e1
    rw [hsf] at dx
    obtain ⟨xs, ys, hfe, d1, d2⟩ := den_f dx
    have hargs' : DenL g ρ args (xs ++ az.toList.map a.eval ++ ys) := by rw [← hargs]; exact (d1.append dr).append d2
    have hrun := calls_ent hc (ρe := a.eval) ho hfe g.w
    simp only [wn, hrun, hd]
    refine (hcall ρ g _ (fun f hf => st.all f (.tail _ (.tail _ hf))) hargs').mono ?_
    rintro e w' ⟨v, g', rfl, rfl, hE', dv⟩
    refine ⟨v, rfl, g', rfl, ESt.put (ESt.ext0 st hE') hn ?_⟩
    cases G with
    | none => exact dv
    | some b => have hb : b = true := hon; subst hb; exact .gt dv
  · rw [if_neg hon]
    simp only [hd, updL]
    refine ⟨g, rfl, ESt.put st hn ?_⟩
    cases G with
    | none => exact absurd rfl hon
    | some b =>
      have hb : b = false := by simpa [isOn] using hon
      subst hb; exact .gf
/-- A call that computes a value, then m operations. -/
theorem fc {tb : TT} (hT : tb.Ok X.P) (m : Nat) (H : List (List SV)) {d : Nat} {f : FuncId} {fo : Operand} {az : Array Operand} {ts : Array TypeId} {fi ca svs args : List SV} {res : SV} {l' L' M' φ} (hs : Fc X.P fs f args res) (hk : ES X arr l' k L' M' fs own) (hg : o.guard = none := by rfl) (hd : o.dst = some d := by rfl) (ho : o.op = .call ⟨.value fo, az, ts⟩ := by rfl) (hfo : evS (lkS L) fo = some (.f f fi ca) := by rfl)
    (ha : evs (lkS L) az.toList = some svs := by rfl) (hb : fi ++ svs.map st1 ++ ca = args := by rfl) (hc : svs.flatMap cd1 = [] := by rfl) (hn : Nat.blt d X.n = true := by rfl) (hr : xrun tb X.n arr m H l ((d, res) :: L) M [] = some (l', L', M', φ) := by rfl) (hφ : conj φ := by first | trivial | omega | (simp +contextual [conj]; done) | (simp +contextual [conj, *]; done) | (simp +contextual [conj, *] <;> omega)) : ES X arr (o :: l) k L M fs own := by
  have hG : gS arr (lkS L) o = some none := by unfold gS; rw [hg]
  have := Stp_fn (M := M) (fs := fs) (own := own) (res := res) hG hd hn ho hfo rfl ha (by rw [hc]; intro p hp; cases hp) hb (fun _ => hs)
  refine ES_step this ?_
  rw [hd]
  exact go hT m H hk hr hφ
/-- Likewise, under a guard. -/
theorem fg {tb : TT} (hT : tb.Ok X.P) (m : Nat) (H : List (List SV)) {d : Nat} {f : FuncId} {fo : Operand} {az : Array Operand} {ts : Array TypeId} {sf : SV} {fi ca svs args : List SV} {res : SV} {b : Bool} {l' L' M' φ ψ} (hs : b = true → Fc X.P fs f args res) (hk : ES X arr l' k L' M' fs own) (hG : gS arr (lkS L) o = some (some b) := by rfl) (hd : o.dst = some d := by rfl) (ho : o.op = .call ⟨.value fo, az, ts⟩ := by rfl) (hfo : evS (lkS L) fo = some sf := by rfl) (hsf : st1 sf = .f f fi ca := by rfl)
    (ha : evs (lkS L) az.toList = some svs := by rfl) (hb : fi ++ svs.map st1 ++ ca = args := by rfl) (hc : wq (some b) (cd1 sf ++ svs.flatMap cd1) = ψ := by rfl) (hψ : conj ψ := by first | trivial | exact id | exact ⟨id, id⟩ | exact ⟨id, id, id⟩ | (simp +contextual [conj]; done) | simp_all [conj]) (hn : Nat.blt d X.n = true := by rfl) (hr : xrun tb X.n arr m H l ((d, .g b res) :: L) M [] = some (l', L', M', φ) := by rfl) (hφ : conj φ := by first | trivial | omega | (simp +contextual [conj]; done) | (simp +contextual [conj, *]; done) | (simp +contextual [conj, *] <;> omega)) : ES X arr (o :: l) k L M fs own := by
  have := Stp_fn (M := M) (fs := fs) (own := own) (res := res) hG hd hn ho hfo hsf ha (by rw [hc]; exact conj_all hψ) hb (fun h => hs h)
  refine ES_step this ?_
  rw [hd]
  exact go hT m H hk hr hφ
end
end Go.KX
namespace Go.KX
def resS (tb : TT) (L : SL) (M : SM) : List ResultVar → Option (List SV)
  | [] => some []
  | .tmp t :: r => match lkS L t with
    | some v => match resS tb L M r with
      | some vs => some (v :: vs)
      | none => none
    | none => none
  | .cell c T :: r => match lkS L c with
    | some p => match xLoad tb M T [p] with
      | some (v, _) => match resS tb L M r with
        | some vs => some (v :: vs)
        | none => none
      | none => none
    | none => none
def resVS : List SV → SV
  | [v] => v
  | vs => .t vs
theorem xLoad_ptr {tb : TT} {M : SM} {T : Nat} {p : SV} {r} (h : xLoad tb M T [p] = some r) : ∃ cs, cellsAt M p = some cs := by
  simp only [xLoad] at h
  split at h
  · split at h
    · exact ⟨_, ‹_›⟩
    · cases h
  · cases h
theorem run_asAddr {P : Program} {w : World} {a : Addr} : (asAddr (.pointer (some a))).run P w = .ok a w := rfl
theorem resS_ok {tb : TT} {X : Kx} (hT : tb.Ok X.P) {L : SL} {M : SM} {ms own : List Res} {g : GW} {a : Act} {ρ : Nat → Lc} {fs : List MF} (st : St X.toCx [] fs (ms ++ own) g a) (hM : DenM g ρ M ms) (hL : Sl X ρ L a g) (f : ResultVar → Sem Value)
    (hf : ∀ t, f (.tmp t) = pure (a.tmps.getD t undef)) (hf2 : ∀ c T, f (.cell c T) = (do loadVar T (← asAddr (a.tmps.getD c undef)))) :
    ∀ {rs : List ResultVar} {svs : List SV}, resS tb L M rs = some svs → ∃ xs, (rs.mapM f).run X.P g.w = .ok xs g.w ∧ DenL g ρ svs xs
  | [], svs, h => by cases h; exact ⟨[], rfl, DenL.nil⟩
  | .tmp t :: r, svs, h => by
    unfold resS at h
    split at h
    · rename_i v hv
      split at h
      · rename_i vs hr
        cases h
        obtain ⟨xs, h1, h2⟩ := resS_ok hT st hM hL f hf hf2 hr
        obtain ⟨x, hx, dx⟩ := hL.val t v hv
        refine ⟨x :: xs, ?_, DenL.cons dx h2⟩
        rw [List.mapM_cons, hf t]
        have e : a.tmps.getD t undef = x := by simp [Array.getD_eq_getD_getElem?, hx]
        simp only [Sem.run_bind, Sem.run_pure, Result.andThen_ok, h1, e]
      · cases h
    · cases h
  | .cell c T :: r, svs, h => by
    unfold resS at h
    split at h
    · rename_i p hp
      split at h
      · rename_i v φ hv
        split at h
        · rename_i vs hr
          cases h
          obtain ⟨xs, h1, h2⟩ := resS_ok hT st hM hL f hf hf2 hr
          obtain ⟨x, hx, dx⟩ := hL.val c p hp
          have e : a.tmps.getD c undef = x := by simp [Array.getD_eq_getD_getElem?, hx]
          obtain ⟨Lr, st', hev, _⟩ := st.slots (os := [.tmp c]) (e := lkS L) (svs := [p]) (fun t sv ht => by obtain ⟨y, hy, _⟩ := hL.val t sv ht; exact ⟨y, hy⟩) (by simp [evs, evS, hp])
          have hload := xLoad_ok (o := ⟨none, .load T (.tmp c), 0, "", #[], none⟩) hT st' hM rfl hev (by
            have : a.eval (.tmp c) = x := e
            simp only [List.map_cons, List.map_nil, this]
            exact DenL.cons dx DenL.nil) hv
          obtain ⟨y, hy, dy⟩ := hload
          refine ⟨y :: xs, ?_, DenL.cons dy h2⟩
          rw [List.mapM_cons, hf2]
          -- the pointer's address
          obtain ⟨b, oo, hxe⟩ : ∃ b oo, x = .pointer (some ⟨b, oo, none⟩) := by
            obtain ⟨cs, hcs⟩ := xLoad_ptr hv
            obtain ⟨b, oo, _, h3, _⟩ := cellsAt_ok hM (fun r hr => st.own.p r (List.mem_append_left _ hr)) dx hcs
            exact ⟨b, oo, h3⟩
          have hlv : (loadVar T ⟨b, oo, none⟩).run X.P g.w = .ok y g.w := by
            have h3 : a.eval (.tmp c) = .pointer (some ⟨b, oo, none⟩) := by
              show a.tmps.getD c undef = _
              rw [e, hxe]
            simp only [execOp, h3] at hy
            simp only [Instr.loadAt, Instr.sureAddr, Sem.run_bind, Sem.run_pure, Result.andThen_ok] at hy
            cases hr2 : (loadVar T ⟨b, oo, none⟩).run X.P g.w with
            | ok v w =>
              rw [hr2] at hy
              simp only [Result.andThen_ok, Result.ok.injEq, Next.value.injEq] at hy
              rw [hy.1, hy.2]
            | halt h w =>
              rw [hr2] at hy
              cases hy
          simp only [Sem.run_bind, Sem.run_pure, Result.andThen_ok, e, hxe, run_asAddr, hlv, h1]
        · cases h
      · cases h
    · cases h
theorem results_ok {tb : TT} {X : Kx} (hT : tb.Ok X.P) {L : SL} {M : SM} {ms own : List Res} {g : GW} {a : Act} {ρ : Nat → Lc} {fs : List MF} {fn : Func} {rs : List ResultVar} {svs : List SV} (st : St X.toCx [] fs (ms ++ own) g a) (hM : DenM g ρ M ms) (hL : Sl X ρ L a g) (hr : fn.results = rs.toArray)
    (h : resS tb L M rs = some svs) : ∃ v, (results fn a.tmps).run X.P g.w = .ok v g.w ∧ Den g ρ (resVS svs) v := by
  have key := resS_ok hT st hM hL (fun | .tmp t => pure (a.tmps.getD t undef) | .cell c T => do loadVar T (← asAddr (a.tmps.getD c undef))) (fun _ => rfl) (fun _ _ => rfl) h
  obtain ⟨xs, h1, h2⟩ := key
  refine ⟨resVal xs, ?_, ?_⟩
  · unfold results
    rw [hr, List.mapM_toArray]
    show (do let vs' ← (List.toArray <$> (rs.mapM _)); pure (if h : vs'.size = 1 then vs'[0] else Value.tuple vs') : Sem Value).run X.P g.w = _
    have h1' : (List.toArray <$> (rs.mapM fun (x : ResultVar) => match x with | .tmp t => pure (a.tmps.getD t undef) | .cell c T => do loadVar T (← asAddr (a.tmps.getD c undef)) : Sem (List Value))).run X.P g.w = .ok xs.toArray g.w := by
      rw [map_eq_pure_bind]
      simp only [Sem.run_bind, h1, Result.andThen_ok, Sem.run_pure]
    rw [Sem.run_bind]
    refine (congrArg (fun r => Result.andThen r _) h1').trans ?_
    show Result.ok (if h : xs.toArray.size = 1 then xs.toArray[0] else Value.tuple xs.toArray) g.w = _
    match xs with
    | [] => rfl
    | [v] => rfl
    | v :: u :: us => simp [resVal]
  · match svs, xs, h2 with
    | [], xs, h2 => rw [h2.unnil]; exact .t [] rfl (fun j sv x h => by simp at h)
    | [sv], xs, h2 =>
      obtain ⟨x, r, rfl, dx, hr⟩ := h2.uncons
      rw [hr.unnil]
      exact dx
    | s1 :: s2 :: ss, xs, h2 =>
      obtain ⟨x, r, rfl, dx, hr⟩ := h2.uncons
      obtain ⟨y, r, rfl, dy, hr2⟩ := hr.uncons
      exact .t _ h2.1 h2.2
end Go.KX
namespace Go.KX
def cloB : MB → Bool
  | .c _ cs => cloL cs
  | .r _ _ _ => true
  | .m _ => true
  | .it _ _ _ => false
  | .q _ _ _ => true
theorem DenL.swap {g : GW} {ρ svs xs} (h : DenL g ρ svs xs) (hc : cloL svs = true) (ρ' : Nat → Lc) : DenL g ρ' svs xs := ⟨h.1, fun j sv x h1 h2 => (h.2 j sv x h1 h2).swap (cloL_get hc j sv h1) ρ'⟩
/-- A block whose contents are closed, under another name. -/
theorem DenB.move {g : GW} {ρ ρ' : Nat → Lc} {i j : Nat} {mb : MB} {r : Res} (h : DenB g ρ i mb r) (hc : cloB mb = true) (e : ρ' j = ρ i) : DenB g ρ' j mb r := by
  cases h with
  | c xs hd h1 =>
    rename_i T cs
    have : DenB g ρ' j (.c T cs) (Res.blk (ρ' j).b (.cells xs.toArray T (0, 0))) := .c xs (hd.swap hc ρ') h1
    rwa [e] at this
  | r hz xs hl hd =>
    rename_i T sz rows
    have : DenB g ρ' j (.r T sz rows) (Res.arr (elRow sz hz) T (ρ' j).ad (ρ' j).c xs) := .r hz xs hl hd
    rwa [e] at this
  | m raw hk hd =>
    have : DenB g ρ' j (.m _) (Res.mp str (fun v : Value => v) (ρ' j).b raw) := .m raw hk hd
    rwa [e] at this
  | it raw hk hd => cases hc
  | q hz xs hl hd =>
    rename_i T sz rows
    have : DenB g ρ' j (.q T sz rows) (Res.que (elRow sz hz) T (ρ' j).ad (ρ' j).c xs) := .q hz xs hl hd
    rwa [e] at this
def keepM (p : Nat → Bool) : SM → SM
  | [] => []
  | (i, m) :: r => match p i with
    | true => (i, m) :: keepM p r
    | false => keepM p r
theorem DenM.keep {g : GW} {ρ : Nat → Lc} (p : Nat → Bool) : ∀ {M : SM} {ms : List Res}, DenM g ρ M ms → ∃ m1 m2, DenM g ρ (keepM p M) m1 ∧ ms.Perm (m1 ++ m2)
  | [], _, .nil => ⟨[], [], .nil, .nil⟩
  | (i, m) :: M, _, @DenM.cons _ _ _ _ _ r ms hb t => by
    obtain ⟨m1, m2, h1, h2⟩ := DenM.keep p t
    unfold keepM
    split
    · exact ⟨r :: m1, m2, .cons hb h1, by simpa using h2.cons r⟩
    · exact ⟨m1, r :: m2, h1, (h2.cons r).trans (by simpa using (List.perm_middle (a := r) (l₁ := m1) (l₂ := m2)).symm)⟩
theorem St.drop {X : Cx} {L : LL} {fs A B g a} (s : St X L fs (A ++ B) g a) : St X L fs A g a :=
  ⟨s.kn, s.all, s.own.left, s.ext, fun b hb => s.new b (by simp [hb])⟩
def subS (L : SL) : SL → Prop
  | [] => True
  | (i, v) :: r => lkS L i = some v ∧ subS L r
theorem subS_ok {L : SL} : ∀ {L' : SL}, subS L L' → ∀ t sv, lkS L' t = some sv → lkS L t = some sv
  | [], _, t, sv, h => by cases h
  | (i, v) :: r, ⟨h1, h2⟩, t, sv, h => by
    by_cases ht : t = i
    · subst ht; rw [lkS_same] at h; cases h; exact h1
    · rw [lkS_ne _ _ ht] at h; exact subS_ok h2 t sv h
theorem ESt.weak {X : Kx} {L L' : SL} {M M' : SM} {fs own g a} (h : ESt X L M fs own g a) (hL : subS L L') (p : Nat → Bool) (hM : keepM p M = M') : ESt X L' M' fs own g a := by
  obtain ⟨ρ, ms, h1, h2, h3⟩ := h
  obtain ⟨m1, m2, h4, h5⟩ := h2.keep p
  have hp : (ms ++ own).Perm ((m1 ++ own) ++ m2) := (h5.append_right own).trans (by
    simp only [List.append_assoc]
    exact List.Perm.append_left _ List.perm_append_comm)
  exact ⟨ρ, m1, (h1.perm hp).drop, hM ▸ h4, h3.pin, fun t sv ht => h3.val t sv (subS_ok hL t sv ht)⟩
def keysB (M : SM) (i : Nat) : Bool := match lkM M i with
  | some _ => true
  | none => false
section
variable {X : Kx} {k : List It} {L : SL} {M : SM} {fs : List MF} {own : List Res} {arr : Array Oper} {l : List Oper} {o : Oper}
theorem ivE {k : IntKind} {a b : Int} (h : a = b) : some (SV.v (.int k a)) = some (SV.v (.int k b)) := by rw [h]
/-- A loop: the state at its head is told by s. -/
theorem E_loop {σ : Type} (I : σ → Prop) (μ : σ → Nat) (Ls : σ → SL) (Ms : σ → SM) {body : Code} (s0 : σ) (h0 : I s0)
    (round : ∀ (J : Act → World → Prop) s, I s → (∀ s' {L' M'}, I s' → μ s' < μ s → (_ : subS L' (Ls s') := by (repeat (first | exact trivial | refine ⟨rfl, ?_⟩ | refine ⟨ivE (by omega), ?_⟩ | refine ⟨ivE (by simp; done), ?_⟩ | refine ⟨ivE (by simp <;> omega), ?_⟩))) → (_ : keepM (keysB (Ms s')) M' = Ms s' := by rfl) → E X (.lp J :: k) L' M' fs own) →
      E X (.code body :: .lp J :: k) (Ls s) (Ms s) fs own)
    (hL : subS L (Ls s0) := by (repeat (first | exact trivial | refine ⟨rfl, ?_⟩ | refine ⟨ivE (by omega), ?_⟩ | refine ⟨ivE (by simp; done), ?_⟩ | refine ⟨ivE (by simp <;> omega), ?_⟩))) (hM : keepM (keysB (Ms s0)) M = Ms s0 := by rfl) : E X (.code (.loop body) :: k) L M fs own := by
  intro g a hs
  exact wpIn_loop_s (fun s a w => I s ∧ ∃ g', ESt X (Ls s) (Ms s) fs own g' a ∧ g'.w = w) μ (fun s a w ⟨hI, g', hst, hw⟩ => by
    subst hw
    exact round (fun a' w' => ∃ s', (I s' ∧ ∃ g', ESt X (Ls s') (Ms s') fs own g' a' ∧ g'.w = w') ∧ μ s' < μ s) s hI
      (fun s' {L' M'} h1 h2 h3 h4 g2 a' hst' => ⟨s', ⟨h1, g2, hst'.weak h3 _ h4, rfl⟩, h2⟩) g' a hst) s0 a g.w
    ⟨h0, g, hs.weak hL _ hM, rfl⟩
end
/-- What a call comes to, where blocks are handed over: M. -/
structure Pst (ρ : Nat → Lc) (g : GW) (ms : List Res) (R : SV → SM → Prop) (e : Ending) (w' : World) : Prop where
  ex : ∃ v g' sv M' ms', e = .returned v ∧ g'.w = w' ∧ Ext (blks ms) g g' ∧ R sv M' ∧ Den g' ρ sv v ∧ DenM g' ρ M' ms' ∧ Own ms' g' ∧ ∀ b ∈ blks ms', b ∈ blks ms ∨ g.w.heap.size ≤ b
def FnM (P : Program) (fs : List MF) (f : FuncId) (args : List SV) (M : SM) (R : SV → SM → Prop) : Prop :=
  Callable P f ∧ ∀ ρ g vs ms, All fs g → DenL g ρ args vs → DenM g ρ M ms → Own ms g → Calls P f vs.toArray g.w (Pst ρ g ms R)
mutual
def hiS : SV → Bool
  | .l j _ => Nat.ble 1000 j
  | .o j _ => Nat.ble 1000 j
  | .e j _ => Nat.ble 1000 j
  | .mp j => Nat.ble 1000 j
  | .fm _ => true
  | .ni => true
  | .a cs => hiL cs
  | .f _ x y => hiL x && hiL y
  | .t vs => hiL vs
  | .g _ x => hiS x
  | .v _ => true
  | .str _ => true
  | .s _ _ => true
  | .p _ => true
def hiL : List SV → Bool
  | [] => true
  | x :: r => hiS x && hiL r
end
theorem hiL_get : ∀ {l : List SV}, hiL l = true → ∀ (j : Nat) sv, l[j]? = some sv → hiS sv = true
  | [], _, j, sv, h => by simp at h
  | x :: r, hc, j, sv, h => by
    simp only [hiL, Bool.and_eq_true] at hc
    cases j with
    | zero => simp at h; exact h ▸ hc.1
    | succ j => exact hiL_get hc.2 j sv (by simpa using h)
theorem Den.hi {g : GW} {ρ sv x} (h : Den g ρ sv x) : hiS sv = true → ∀ ρ', (∀ i, 1000 ≤ i → ρ i = ρ' i) → Den g ρ' sv x := by
  have le : ∀ {j}, Nat.ble 1000 j = true → 1000 ≤ j := fun h => Nat.le_of_ble_eq_true h
  induction h with
  | v => exact fun _ _ _ => .v
  | str => exact fun _ _ _ => .str
  | s xs h1 h2 hl hr ho hne hd _ => exact fun _ _ _ => .s xs h1 h2 hl hr ho hne hd
  | p xs hl hf hc hd _ => exact fun _ _ _ => .p xs hl hf hc hd
  | l => intro h ρ' e; rw [e _ (le h)]; exact .l
  | a xs hl _ ih => exact fun hc ρ' e => .a xs hl (fun j sv x h1 h2 => ih j sv x h1 h2 (hiL_get hc j sv h1) ρ' e)
  | f xs ys hl _ hl2 _ ih ih2 =>
    intro hc ρ' e
    simp only [hiS, Bool.and_eq_true] at hc
    exact .f xs ys hl (fun j sv x h1 h2 => ih j sv x h1 h2 (hiL_get hc.1 j sv h1) ρ' e) hl2 (fun j sv x h1 h2 => ih2 j sv x h1 h2 (hiL_get hc.2 j sv h1) ρ' e)
  | t xs hl _ ih => exact fun hc ρ' e => .t xs hl (fun j sv x h1 h2 => ih j sv x h1 h2 (hiL_get hc j sv h1) ρ' e)
  | gt _ ih => exact fun hc ρ' e => .gt (ih hc ρ' e)
  | gf => exact fun _ _ _ => .gf
  | o => intro h ρ' e; rw [e _ (le h)]; exact .o
  | e h' => intro h ρ' e; exact .e (by rw [← e _ (le h)]; exact h')
  | fm raw ms clk hf hh he hk hd _ => exact fun _ _ _ => .fm raw ms clk hf hh he hk hd
  | mp => intro h ρ' e; rw [e _ (le h)]; exact .mp
  | ni => exact fun _ _ _ => .ni
def hiB : MB → Bool
  | .c _ cs => hiL cs
  | .r _ _ _ => true
  | .m _ => true
  | .it _ _ _ => false
  | .q _ _ _ => true
def hiM : SM → Bool
  | [] => true
  | (i, m) :: r => Nat.ble 1000 i && (hiB m && hiM r)
theorem DenB.hi {g : GW} {ρ ρ' : Nat → Lc} {i : Nat} {mb : MB} {r : Res} (h : DenB g ρ i mb r) (hb : hiB mb = true) (hi : 1000 ≤ i) (e : ∀ i, 1000 ≤ i → ρ i = ρ' i) : DenB g ρ' i mb r := by
  cases h with
  | c xs hd h1 => rw [e i hi]; exact .c xs ⟨hd.1, fun j sv x h2 h3 => (hd.2 j sv x h2 h3).hi (hiL_get hb j sv h2) ρ' e⟩ h1
  | r hz xs hl hd => rw [e i hi]; exact .r hz xs hl hd
  | m raw hk hd => rw [e i hi]; exact .m raw hk hd
  | it raw hk hd => cases hb
  | q hz xs hl hd => rw [e i hi]; exact .q hz xs hl hd
theorem DenM.hi {g : GW} {ρ ρ' : Nat → Lc} (e : ∀ i, 1000 ≤ i → ρ i = ρ' i) : ∀ {M : SM} {ms : List Res}, DenM g ρ M ms → hiM M = true → DenM g ρ' M ms
  | [], _, .nil, _ => .nil
  | (i, m) :: M, _, .cons hb t, h => by
    simp only [hiM, Bool.and_eq_true] at h
    exact .cons (hb.hi h.2.1 (Nat.le_of_ble_eq_true h.1) e) (DenM.hi e t h.2.2)
/-- What a body's end must show. -/
structure Rt (X : Kx) (fs : List MF) (tb : TT) (rs : List ResultVar) (R : SV → SM → Prop) : Prop where
  ret : ∀ {k L M svs}, resS tb L M rs = some svs → hiS (resVS svs) = true → hiM (keepM (Nat.ble 1000) M) = true → R (resVS svs) (keepM (Nat.ble 1000) M) → E X (.code .ret :: k) L M fs []
  fall : ∀ {L M svs}, resS tb L M rs = some svs → hiS (resVS svs) = true → hiM (keepM (Nat.ble 1000) M) = true → R (resVS svs) (keepM (Nat.ble 1000) M) → E X [] L M fs []
  ng : ∀ l a w, ¬ X.Q (.goto l) a w
def initS : List SV → Nat → SL
  | [], _ => []
  | v :: vs, i => (i, v) :: initS vs (i + 1)
theorem initS_lk : ∀ (vs : List SV) (k i : Nat) (v : SV), lkS (initS vs k) i = some v → ∃ j, i = k + j ∧ vs[j]? = some v
  | [], _, _, _, h => by simp [initS, lkS] at h
  | u :: us, k, i, v, h => by
    by_cases hi : i = k
    · subst hi
      simp only [initS] at h
      rw [lkS_same] at h
      cases h
      exact ⟨0, by simp, by simp⟩
    · simp only [initS] at h
      rw [lkS_ne _ _ hi] at h
      obtain ⟨j, rfl, hj⟩ := initS_lk us (k + 1) i v h
      exact ⟨j + 1, by omega, by simpa using hj⟩
theorem FnM_body {P : Program} {fs : List MF} {tb : TT} (hT : tb.Ok P) {f : FuncId} {fn : Func} {c : Code} {args : List SV} {M : SM} {R : SV → SM → Prop} (n : Nat) (rs : List ResultVar)
    (hf : P.funcs[f]? = some fn) (hb : fn.body = some c) (hname : (fn.name == "runtime.NumGoroutine") = false) (hn : fn.ntmps = n) (hle : args.length ≤ n) (hrs : fn.results = rs.toArray)
    (h : ∀ g0 B0 Q ρ0, Rt ⟨⟨P, n, g0, B0, Q, none, []⟩, ρ0⟩ fs tb rs R → E ⟨⟨P, n, g0, B0, Q, none, []⟩, ρ0⟩ [.code c] (initS args 0) M fs []) : FnM P fs f args M R := by
  refine ⟨⟨fn, hf, by simp [hb], hname⟩, fun ρ g vs ms hfs ha hM ho => ?_⟩
  refine calls_of_wp hf hb (wpIn_wide (n := 0) |>.1 ?_)
  have hpost : ∀ (a : Act) (g' : GW) L M' svs, resS tb L M' rs = some svs → hiS (resVS svs) = true → hiM (keepM (Nat.ble 1000) M') = true → R (resVS svs) (keepM (Nat.ble 1000) M') → ESt ⟨⟨P, n, g, blks ms, bodyPost P fn (Pst ρ g ms R), none, []⟩, ρ⟩ L M' fs [] g' a →
      a.defers = [] ∧ ∃ v, (results fn a.tmps).run P g'.w = .ok v g'.w ∧ Pst ρ g ms R (.returned v) g'.w := by
    intro a g' L M' svs h1 h2 h3 h4 hst
    obtain ⟨ρ', ms', s1, s2, s3⟩ := hst
    obtain ⟨v, hv, dv⟩ := results_ok (X := ⟨⟨P, n, g, blks ms, bodyPost P fn (Pst ρ g ms R), none, []⟩, ρ⟩) hT s1 s2 s3 hrs h1
    obtain ⟨m1, m2, h5, h6⟩ := s2.keep (Nat.ble 1000)
    have s4 := (s1.perm (by simpa using h6)).drop
    exact ⟨s1.kn.defers, v, hv, v, g', _, _, m1, rfl, rfl, s1.ext, h4, dv.hi h2 ρ s3.pin, h5.hi s3.pin h3, s4.own, s4.new⟩
  refine h g (blks ms) (bodyPost P fn (Pst ρ g ms R)) ρ ⟨?_, ?_, fun _ _ _ h => h⟩ g _ ?_
  · intro k L M' svs h1 h2 h3 h4 g' a hst
    refine wpIn_ret ?_
    rw [cont_ret]
    exact hpost a g' L M' svs h1 h2 h3 h4 hst
  · intro L M' svs h1 h2 h3 h4 g' a hst
    exact hpost a g' L M' svs h1 h2 h3 h4 hst
  · refine ⟨ρ, ms, ⟨⟨by simp [hn, ha.1]; omega, rfl, fun i v hi => by simp [lk] at hi⟩, hfs, by simpa using ho, Ext.refl _ g, fun b hb => .inl (by simpa using hb)⟩, hM, fun i _ => rfl, fun t sv ht => ?_⟩
    obtain ⟨j, rfl, hj⟩ := initS_lk args 0 t sv ht
    obtain ⟨x, hx, dx⟩ := ha.get hj
    refine ⟨x, ?_, dx⟩
    have hlt : j < vs.length := by
      rcases Nat.lt_or_ge j vs.length with h | h
      · exact h
      · rw [List.getElem?_eq_none h] at hx; cases hx
    simp only [Nat.zero_add]
    rw [Array.getElem?_append_left (by simpa using hlt)]
    simpa using hx
theorem Fc.of {P : Program} {fs : List MF} {f : FuncId} {args : List SV} {res : SV} (h : FnM P fs f args [] (fun sv _ => sv = res)) : Fc P fs f args res := by
  refine ⟨h.1, fun ρ g vs hfs ha => ?_⟩
  refine (h.2 ρ g vs [] hfs ha .nil ⟨fun r hr => (by cases hr), List.nodup_nil, fun b hb => (by cases hb), fun b hb => (by cases hb)⟩).mono ?_
  rintro e w' ⟨v, g', sv, M', ms', h1, h2, h3, rfl, h5, _⟩
  exact ⟨v, g', h1, h2, by simpa using h3, h5⟩
/-- A contract out of the body, of a function that computes a value. -/
theorem fb {P : Program} {fs : List MF} {tb : TT} (hT : tb.Ok P) {f : FuncId} {fn : Func} {c : Code} {args : List SV} {res : SV} (n : Nat) (rs : List ResultVar)
    (hf : P.funcs[f]? = some fn) (hrs : fn.results = rs.toArray) (h : ∀ g0 B0 Q ρ0, Rt ⟨⟨P, n, g0, B0, Q, none, []⟩, ρ0⟩ fs tb rs (fun sv _ => sv = res) → E ⟨⟨P, n, g0, B0, Q, none, []⟩, ρ0⟩ [.code c] (initS args 0) [] fs []) (hb : fn.body = some c := by rfl)
    (hname : (fn.name == "runtime.NumGoroutine") = false := by kernel_rfl) (hn : fn.ntmps = n := by rfl) (hle : args.length ≤ n := by exact Nat.le_of_ble_eq_true rfl) : Fc P fs f args res := Fc.of (FnM_body hT n rs hf hb hname hn hle hrs h)
theorem cont_goto {P m Q} {i : Nat} : ∀ (k : List It) a w, cont P m Q k (.goto i) a w = Q (.goto i) a w
  | [], _, _ => rfl
  | .blk _ :: k, a, w => cont_goto k a w
  | .code _ :: k, a, w => cont_goto k a w
  | .lp _ :: k, a, w => cont_goto k a w
  | .da _ _ _ :: k, a, w => cont_goto k a w
section
variable {X : Kx} {k : List It} {L : SL} {M : SM} {fs : List MF} {own : List Res} {arr : Array Oper}
/-- A scope through which the run goes without a goto. -/
theorem esc (n : Nat) (hrd : X.rd = none) (ng : ∀ l a w, ¬ X.Q (.goto l) a w) {c : Code} {k' : List It} (h : E X (.code c :: k') L M fs own) (hk : normS (lkS L) 64 n k = .code (.scope c) :: k' := by rfl) : E X k L M fs own := by
  refine norm_E 64 n (hk ▸ fun g a s => ?_)
  have h' := h g a s
  show (Code.scope c).wpIn (fen X.rd) 0 X.P (cont X.P X.rd X.Q k') a g.w
  replace h' : c.wpIn (fen X.rd) 0 X.P (cont X.P X.rd X.Q k') a g.w := h'
  rw [hrd] at h' ⊢
  refine (wpIn_wide (n := 0)).2 (wp_scope_straight (Code.wp_mono (fun e a w hq => ?_) ((wpIn_wide (n := 0)).1 h')))
  cases e with
  | goto l => exact ng l a w (by rw [cont_goto] at hq; exact hq)
  | _ => exact hq
theorem elb (n : Nat) {i : Nat} {k' : List It} (h : E X k' L M fs own) (hk : normS (lkS L) 64 n k = .code (.label i) :: k' := by rfl) : E X k L M fs own :=
  norm_E 64 n (hk ▸ fun g a s => wpIn_label (h g a s))
theorem slb (n : Nat) {i : Nat} {k' : List It} (h : E X k' L M fs own) (hk : normS (lkS L) 64 n k = .code (.label i) :: k' := by rfl) : ES X arr [] k L M fs own := ES_nil (elb n h hk)
end
section
variable {X : Kx} {k : List It} {L : SL} {M : SM} {fs : List MF} {arr : Array Oper} {l : List Oper} {o : Oper} {tb : TT} {rs : List ResultVar}
/-- The end of a body that computes a value. -/
theorem er {res : SV} {svs : List SV} {k' : List It} (n : Nat) (R : Rt X fs tb rs (fun sv _ => sv = res)) (he : resVS svs = res) (hk : normS (lkS L) 64 n k = .code .ret :: k' := by rfl) (hr : resS tb L M rs = some svs := by rfl) (hh : hiS (resVS svs) = true := by rfl) (hm : keepM (Nat.ble 1000) M = [] := by rfl) : E X k L M fs [] :=
  norm_E 64 n (hk ▸ R.ret hr hh (by rw [hm]; rfl) he)
theorem ef {res : SV} {svs : List SV} (n : Nat) (R : Rt X fs tb rs (fun sv _ => sv = res)) (he : resVS svs = res) (hk : normS (lkS L) 64 n k = [] := by rfl) (hr : resS tb L M rs = some svs := by rfl) (hh : hiS (resVS svs) = true := by rfl) (hm : keepM (Nat.ble 1000) M = [] := by rfl) : E X k L M fs [] :=
  norm_E 64 n (hk ▸ R.fall hr hh (by rw [hm]; rfl) he)
theorem sr {res : SV} {svs : List SV} {k' : List It} (n : Nat) (R : Rt X fs tb rs (fun sv _ => sv = res)) (he : resVS svs = res) (hk : normS (lkS L) 64 n k = .code .ret :: k' := by rfl) (hr : resS tb L M rs = some svs := by rfl) (hh : hiS (resVS svs) = true := by rfl) (hm : keepM (Nat.ble 1000) M = [] := by rfl) : ES X arr [] k L M fs [] := er n R he hk hr hh hm
theorem sf {res : SV} {svs : List SV} (n : Nat) (R : Rt X fs tb rs (fun sv _ => sv = res)) (he : resVS svs = res) (hk : normS (lkS L) 64 n k = [] := by rfl) (hr : resS tb L M rs = some svs := by rfl) (hh : hiS (resVS svs) = true := by rfl) (hm : keepM (Nat.ble 1000) M = [] := by rfl) : ES X arr [] k L M fs [] := ef n R he hk hr hh hm
end
end Go.KX
namespace Go.KX
def uns (n un : Nat) : List Nat := (List.range n).filter fun u => un.testBit u
def dOf (D : List Nat) (i : Nat) : Nat := D.getD i 0
/-- The place in an order. -/
def pos : List Nat → Nat → Nat
  | [], _ => 0
  | x :: r, i => match Nat.beq x i with
    | true => 0
    | false => pos r i + 1
def loU (n un : Nat) (D : List Nat) (i : Nat) : Nat := ((uns n un).filter fun u => (dOf D i).testBit u).length
def hiU (n un : Nat) (D : List Nat) (i : Nat) : Nat := ((uns n un).filter fun u => !(dOf D u).testBit i).length
def bEdges (o : Oper) : List Nat := (o.after.toList.filter fun e => Region.binds .any e).map (·.on)
structure DrawOK (arr : Array Oper) (un : Nat) (D π : List Nat) : Prop where
  all : ∀ i, i < arr.size → i ∈ π
  nd : π.Nodup
  lt : ∀ i ∈ π, i < arr.size
  back : ∀ (i : Nat) oi, arr[i]? = some oi → ∀ j ∈ bEdges oi, j < i
  just : ∀ (i : Nat) oi, arr[i]? = some oi → ∀ j, j < arr.size → (dOf D i).testBit j = true → ∃ e ∈ bEdges oi, e = j ∨ (dOf D e).testBit j = true
  slot : ∀ (i j : Nat) oi oj t, arr[i]? = some oi → arr[j]? = some oj → i ≠ j → oj.dst = some t → t ∈ slotsO arr oi → (pos π j < pos π i ∧ (dOf D i).testBit j = true) ∨ (pos π i < pos π j ∧ (dOf D j).testBit i = true)
  dist : ∀ (i j : Nat) oi oj t, arr[i]? = some oi → arr[j]? = some oj → i ≠ j → oi.dst = some t → oj.dst ≠ some t
  ord : ∀ i j, i < arr.size → j < arr.size → pos π i < pos π j → un.testBit i = true → un.testBit j = true → (dOf D j).testBit i = true
def drawB (arr : Array Oper) (un : Nat) (D π : List Nat) : Bool :=
  (decide π.Nodup && (π.all fun i => decide (i < arr.size)) && (List.range arr.size).all fun i => π.contains i) && (List.range arr.size).all fun i => match arr[i]? with
    | none => false
    | some oi => (bEdges oi).all (fun j => decide (j < i)) && (List.range arr.size).all fun j =>
      (!(dOf D i).testBit j || (bEdges oi).any fun e => decide (e = j) || (dOf D e).testBit j) && match arr[j]? with
        | none => false
        | some oj => decide (i = j) || ((match oj.dst with
          | none => true
          | some t => !(slotsO arr oi).contains t || (decide (pos π j < pos π i) && (dOf D i).testBit j) || (decide (pos π i < pos π j) && (dOf D j).testBit i)) &&
          (match oi.dst, oj.dst with | some t, some t' => !decide (t = t') | _, _ => true) && (!(decide (pos π i < pos π j) && un.testBit i && un.testBit j) || (dOf D j).testBit i))
theorem drawB_ok {arr : Array Oper} {un : Nat} {D π : List Nat} (h0 : drawB arr un D π = true) : DrawOK arr un D π := by
  simp only [drawB, Bool.and_eq_true] at h0
  obtain ⟨⟨⟨hnd, hplt⟩, hpall⟩, h⟩ := h0
  have key : ∀ (i : Nat) oi, arr[i]? = some oi → ((bEdges oi).all (fun j => decide (j < i)) = true ∧ ∀ j, j < arr.size → (!(dOf D i).testBit j || (bEdges oi).any fun e => decide (e = j) || (dOf D e).testBit j) = true ∧ ∀ oj, arr[j]? = some oj → i ≠ j →
      (match oj.dst with
          | none => true
          | some t => !(slotsO arr oi).contains t || (decide (pos π j < pos π i) && (dOf D i).testBit j) || (decide (pos π i < pos π j) && (dOf D j).testBit i)) = true ∧
          (match oi.dst, oj.dst with | some t, some t' => !decide (t = t') | _, _ => true) = true ∧ (!(decide (pos π i < pos π j) && un.testBit i && un.testBit j) || (dOf D j).testBit i) = true) := by
    intro i oi hi
    have hlt := (Array.getElem?_eq_some_iff.1 hi).1
    have h1 := List.all_eq_true.1 h i (List.mem_range.2 hlt)
    rw [hi] at h1
    simp only [Bool.and_eq_true] at h1
    refine ⟨h1.1, fun j hj => ?_⟩
    have h2 := List.all_eq_true.1 h1.2 j (List.mem_range.2 hj)
    simp only [Bool.and_eq_true] at h2
    refine ⟨h2.1, fun oj hoj hne => ?_⟩
    have h3 := h2.2
    rw [hoj] at h3
    simp only [Bool.or_eq_true, decide_eq_true_eq, Bool.and_eq_true] at h3
    rcases h3 with h3 | h3
    · exact absurd h3 hne
    · refine ⟨?_, ?_, ?_⟩
      · cases hd : oj.dst with
        | none => rfl
        | some t => rw [hd] at h3; simpa [or_assoc] using h3.1.1
      · cases hd : oi.dst <;> cases hd' : oj.dst <;> rw [hd, hd'] at h3 <;> first | rfl | exact h3.1.2
      · simpa using h3.2
  refine ⟨fun i hi => by simpa using List.all_eq_true.1 hpall i (List.mem_range.2 hi), of_decide_eq_true hnd, fun i hi => by simpa using List.all_eq_true.1 hplt i hi, fun i oi hi j hj => ?_, fun i oi hi j hj hb => ?_, fun i j oi oj t hi hj hne hd ht => ?_, fun i j oi oj t hi hj hne hd => ?_, fun i j hilt hj hlt hi' hj' => ?_⟩
  · have := List.all_eq_true.1 (key i oi hi).1 j hj
    simpa using this
  · have := ((key i oi hi).2 j hj).1
    rw [hb] at this
    simp only [Bool.not_true, Bool.false_or, List.any_eq_true, Bool.or_eq_true, decide_eq_true_eq] at this
    obtain ⟨e, he, h1⟩ := this
    exact ⟨e, he, h1⟩
  · have := (((key i oi hi).2 j (Array.getElem?_eq_some_iff.1 hj).1).2 oj hj hne).1
    rw [hd] at this
    simp only [Bool.or_eq_true, Bool.and_eq_true, decide_eq_true_eq] at this
    rcases this with (h1 | h1) | h1
    · have h2 : (slotsO arr oi).contains t = true := by simpa using ht
      rw [h2] at h1; cases h1
    · exact .inl h1
    · exact .inr h1
  · have := (((key i oi hi).2 j (Array.getElem?_eq_some_iff.1 hj).1).2 oj hj hne).2.1
    rw [hd] at this
    intro hd'
    rw [hd'] at this
    simp at this
  · have hi : arr[i]? = some arr[i] := by simp [hilt]
    have hjj : arr[j]? = some arr[j] := by simp [hj]
    have := (((key i arr[i] hi).2 j hj).2 arr[j] hjj (by rintro rfl; omega)).2.2
    rw [hi', hj'] at this
    simpa [hlt] using this
theorem bEdges_mem {o : Oper} {j : Nat} : j ∈ bEdges o ↔ ∃ e ∈ o.after, Region.binds .any e = true ∧ e.on = j := by
  simp only [bEdges, List.mem_map, List.mem_filter, Array.mem_toList_iff]
  constructor
  · rintro ⟨e, ⟨h1, h2⟩, h3⟩; exact ⟨e, h1, h2, h3⟩
  · rintro ⟨e, h1, h2, h3⟩; exact ⟨e, ⟨h1, h2⟩, h3⟩
/-- All that stand ahead of what is listed are listed. -/
theorem dep_listed {arr : Array Oper} {un : Nat} {D π : List Nat} {listed : Array Bool} (hO : DrawOK arr un D π) (hc : Closed arr listed) : ∀ (i : Nat) oi, arr[i]? = some oi → (∀ e ∈ oi.after, Region.binds .any e = true → listed.getD e.on false = true) → ∀ j, j < arr.size → (dOf D i).testBit j = true → listed.getD j false = true := by
  intro i
  induction i using Nat.strongRecOn with
  | _ i ih =>
    intro oi hi hall j hj hb
    obtain ⟨e, he, h1⟩ := hO.just i oi hi j hj hb
    have hlt := hO.back i oi hi e he
    obtain ⟨ed, hed, hbd, rfl⟩ := bEdges_mem.1 he
    have hle := hall ed hed hbd
    rcases h1 with rfl | h1
    · exact hle
    · have hsz : ed.on < arr.size := by have := (Array.getElem?_eq_some_iff.1 hi).1; omega
      have hoe : arr[ed.on]? = some arr[ed.on] := by simp [hsz]
      exact ih ed.on hlt arr[ed.on] hoe (fun e' he' hb' => hc.2 ed.on _ hoe hle e' he' hb') j hj h1
def dstOf (arr : Array Oper) (j : Nat) : Option Nat := match arr[j]? with
  | some o => o.dst
  | none => none
/-- The slots behind some operations, the last one first. -/
def LS (arr : Array Oper) (L0 : SL) : List (Nat × SV) → SL
  | [] => L0
  | (i, sv) :: r => updL (dstOf arr i) sv (LS arr L0 r)
theorem LS_lk {arr : Array Oper} {L0 : SL} (t : Nat) : ∀ (l : List (Nat × SV)), (∀ p ∈ l, dstOf arr p.1 ≠ some t) ∧ lkS (LS arr L0 l) t = lkS L0 t ∨ ∃ p ∈ l, dstOf arr p.1 = some t ∧ ((∀ q ∈ l, dstOf arr q.1 = some t → q = p) → lkS (LS arr L0 l) t = some p.2)
  | [] => .inl ⟨fun p hp => (by cases hp), rfl⟩
  | (i, sv) :: r => by
    unfold LS
    cases hd : dstOf arr i with
    | none =>
      simp only [updL]
      rcases LS_lk (arr := arr) (L0 := L0) t r with ⟨h1, h2⟩ | ⟨p, h1, h2, h3⟩
      · refine .inl ⟨fun p hp => ?_, h2⟩
        cases hp with
        | head => rw [hd]; simp
        | tail _ hm => exact h1 p hm
      · exact .inr ⟨p, .tail _ h1, h2, fun hu => h3 (fun q hq => hu q (.tail _ hq))⟩
    | some d =>
      simp only [updL]
      by_cases htd : t = d
      · subst htd
        exact .inr ⟨(i, sv), .head _, hd, fun _ => by rw [lkS_same]⟩
      · rw [lkS_ne _ _ htd]
        rcases LS_lk (arr := arr) (L0 := L0) t r with ⟨h1, h2⟩ | ⟨p, h1, h2, h3⟩
        · refine .inl ⟨fun p hp => ?_, h2⟩
          cases hp with
          | head => rw [hd]; simp; exact Ne.symm htd
          | tail _ hm => exact h1 p hm
        · exact .inr ⟨p, .tail _ h1, h2, fun hu => h3 (fun q hq => hu q (.tail _ hq))⟩
/-- Two lists with the same who writes t. -/
theorem LS_eq {arr : Array Oper} {L0 : SL} {all l m : List (Nat × SV)} {t : Nat} (hu : ∀ p ∈ all, ∀ q ∈ all, dstOf arr p.1 = some t → dstOf arr q.1 = some t → p = q) (hl : ∀ p ∈ l, p ∈ all) (hm : ∀ p ∈ m, p ∈ all)
    (h : ∀ p ∈ all, dstOf arr p.1 = some t → (p ∈ l ↔ p ∈ m)) : lkS (LS arr L0 l) t = lkS (LS arr L0 m) t := by
  rcases LS_lk (arr := arr) (L0 := L0) t l with ⟨h1, h2⟩ | ⟨p, h1, h2, h3⟩ <;> rcases LS_lk (arr := arr) (L0 := L0) t m with ⟨g1, g2⟩ | ⟨q, g1, g2, g3⟩
  · rw [h2, g2]
  · exact absurd g2 (h1 q ((h q (hm q g1) g2).2 g1))
  · exact absurd h2 (g1 p ((h p (hl p h1) h2).1 h1))
  · have hpq := hu p (hl p h1) q (hm q g1) h2 g2
    subst hpq
    rw [h3 (fun r hr hd => hu r (hl r hr) p (hl p h1) hd h2), g3 (fun r hr hd => hu r (hm r hr) p (hm p g1) hd g2)]
/-- An operation that makes a new block. -/
def isAl (o : Oper) : Option Nat := match o.op with
  | .alloc _ => o.dst
  | .call ⟨.builtin .append, _, _⟩ => o.dst
  | .buildSlice _ 0 _ => o.dst
  | _ => none
/-- Is the slot t written by the operation i, or by one that comes behind it? -/
def exm (arr : Array Oper) (D : List Nat) (i t : Nat) : Bool := (List.range arr.size).any fun k => (Nat.beq k i || (dOf D k).testBit i) && (match dstOf arr k with | some t' => Nat.beq t' t | none => false)
/-- Of a new block nothing speaks that may come ahead of it. -/
def chkL (arr : Array Oper) (D : List Nat) (L : SL) : Bool := (List.range arr.size).all fun i => match arr[i]? with
  | none => true
  | some o => match isAl o with
    | none => true
    | some d => L.all fun p => exm arr D i p.1 || !occ d p.2
/-- A step, where nothing speaks of the block that it makes. -/
def StpU (X : Kx) (arr : Array Oper) (o : Oper) (L : SL) (M : SM) (fs : List MF) (own : List Res) (sv : SV) (M' : SM) : Prop :=
  ∀ L', agree arr o L L' → (∀ d, isAl o = some d → occSL d L = false → occSL d L' = false) → ∀ g a, ESt X L' M fs own g a → opQ X.P arr o (fun a' w' => ∃ g', g'.w = w' ∧ ESt X (updL o.dst sv L') M' fs own g' a') a g.w
theorem Stp.u {X : Kx} {arr : Array Oper} {o : Oper} {L : SL} {M : SM} {fs : List MF} {own : List Res} {sv : SV} {M' : SM} (h : Stp X arr o L M fs own sv M') : StpU X arr o L M fs own sv M' := fun L' hL _ => h L' hL
/-- The operations of a region that draws its order, in the order π; Ms: the states of what is owned, the last one first. -/
def ED (X : Kx) (arr : Array Oper) (k : List It) (fs : List MF) (own : List Res) (un : Nat) (D : List Nat) : List Nat → SL → SM → List SM → Prop
  | [], L, M, _ => E X k L M fs own ∧ chkL arr D L = true
  | i :: r, L, M, Ms => ∃ o sv, arr[i]? = some o ∧ match un.testBit i with
    | false => ((hiU arr.size un D i ≤ Ms.length ∧ Stp X arr o L M fs own sv M ∧ ∀ q M', Ms[q]? = some M' → loU arr.size un D i ≤ Ms.length - 1 - q → Stp X arr o L M' fs own sv M') ∨ ∀ M', Stp X arr o L M' fs own sv M') ∧ ED X arr k fs own un D r (updL o.dst sv L) M Ms
    | true => ∃ M', StpU X arr o L M fs own sv M' ∧ ED X arr k fs own un D r (updL o.dst sv L) M' (M :: Ms)
end Go.KX
