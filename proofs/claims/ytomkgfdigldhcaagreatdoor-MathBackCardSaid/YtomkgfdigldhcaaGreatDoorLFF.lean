/- GS XW XZ VA VB VC VD VE VJ VL VM. -/
import Derived.Test.YtomkgfdigldhcaaGreatDoorLFE
import Derived.Sort.OwnSorted
import Derived.RangeFuncRecord
import Derived.ArgAppend
import Derived.Laws.OwnMore
import Derived.Laws.MakeOwn
namespace Go.KX
abbrev rowsB (l : List Bytes) : List (List SV) := l.map fun s => [.str s]
theorem rowsB_ys {g : GW} {ys : List (Row 1)} {l : List Bytes} (hl : ys.length = (rowsB l).length) (hd : ∀ (ρ' : Nat → Lc) (k : Nat) x r, ys[k]? = some x → (rowsB l)[k]? = some r → DenL g ρ' r x.1) : flat (elRow 1 (by decide)) ys = l.map str := by
  apply List.ext_getElem?
  intro k
  have hfl : (flat (elRow 1 (by decide)) ys).length = ys.length := by rw [flat_len]; simp [elRow]
  by_cases hk : k < ys.length
  · have hkl : k < l.length := by rw [hl] at hk; simpa using hk
    have hy := List.getElem?_eq_getElem hk
    have hr : (rowsB l)[k]? = some [.str l[k]] := by simp [hkl]
    have := hd (fun _ => ⟨0, none, 0⟩) k _ _ hy hr
    obtain ⟨x, r, hx, dx, hr2⟩ := this.uncons
    have hx0 : (ys[k]).1[0]? = some x := by rw [hx]; rfl
    have hf := flat_get (elRow 1 (by decide)) ys k 0 _ x hy hx0
    rw [show (elRow 1 (by decide)).sz = 1 from rfl, Nat.mul_one, Nat.add_zero] at hf
    rw [hf, den_str dx]
    simp [hkl]
  · have hyl : ys.length = l.length := by simpa using hl
    rw [List.getElem?_eq_none (by omega), List.getElem?_eq_none (by simp; omega)]
/-- Texts, as rows of one cell. -/
def rowOf (s : Bytes) : Row 1 := ⟨[str s], rfl, fun u hu => by simp at hu; subst hu; rfl⟩
theorem flat_rowOf (l : List Bytes) : flat (elRow 1 (by decide)) (l.map rowOf) = l.map str := by
  induction l with
  | nil => rfl
  | cons s r ih =>
    simp only [flat, List.map_cons, List.flatMap_cons] at ih ⊢
    rw [ih]
    rfl
theorem rowOf_den {g : GW} {l : List Bytes} : ∀ (ρ' : Nat → Lc) (k : Nat) x r, (l.map rowOf)[k]? = some x → (rowsB l)[k]? = some r → DenL g ρ' r x.1 := by
  intro ρ' k x r hx hr
  simp only [List.getElem?_map, Option.map_eq_some_iff] at hx hr
  obtain ⟨s, hs, rfl⟩ := hx
  obtain ⟨s', hs', rfl⟩ := hr
  rw [hs] at hs'
  cases hs'
  exact DenL.cons .str DenL.nil
abbrev sortL (l : List Bytes) : List Bytes := l.mergeSort fun x y => decide (x ≤ y)
theorem sortL_len (l : List Bytes) : (sortL l).length = l.length := (List.mergeSort_perm l _).length_eq
theorem keeps_succ {l : List Bytes} {a : Bytes} (j : Nat) : Lib.keeps (a :: l).toArray (j + 1) = decide (l[j]! ≠ (a :: l)[j]!) := by simp [Lib.keeps]
/-- Runs of equal elements, one of each. -/
def cmpP : Bytes → List Bytes → List Bytes
  | _, [] => []
  | a, b :: r => if b = a then cmpP b r else b :: cmpP b r
def cmpB : List Bytes → List Bytes
  | [] => []
  | a :: r => a :: cmpP a r
theorem cmpP_eq : ∀ (r : List Bytes) (a : Bytes), ((List.range r.length).filter (fun j => decide (r[j]! ≠ (a :: r)[j]!))).map (r[·]!) = cmpP a r
  | [], _ => rfl
  | b :: r, a => by
    have ih := cmpP_eq r b
    simp only [List.length_cons, List.range_succ_eq_map, List.filter_cons, List.filter_map, Function.comp_def, Nat.succ_eq_add_one]
    simp only [List.getElem!_cons_succ, List.getElem!_cons_zero] at ih ⊢
    unfold cmpP
    by_cases h : b = a
    · simp only [h, ne_eq, not_true_eq_false, decide_false, Bool.false_eq_true, if_false, if_true]
      rw [h] at ih
      simp only [List.map_map, Function.comp_def, Nat.succ_eq_add_one, List.getElem!_cons_succ]
      exact ih
    · simp only [h, ne_eq, not_false_eq_true, decide_true, if_true, if_false, List.map_cons, List.map_map, Function.comp_def, List.getElem!_cons_succ, List.getElem!_cons_zero]
      exact congrArg (b :: ·) ih
theorem compactB_eq (l : List Bytes) : Lib.compact l = cmpB l := by
  cases l with
  | nil => rfl
  | cons a r =>
    have ih := cmpP_eq r a
    simp only [Lib.compact, Lib.compactUpTo, List.length_cons, List.range_succ_eq_map, List.filter_cons, List.filter_map, Function.comp_def, Nat.succ_eq_add_one]
    have h0 : Lib.keeps (a :: r).toArray 0 = true := by simp [Lib.keeps]
    simp only [h0, keeps_succ, if_true, List.map_cons, List.map_map, Function.comp_def]
    show _ = a :: cmpP a r
    rw [← ih]
    simp
theorem cmpP_len : ∀ (r : List Bytes) (a : Bytes), (cmpP a r).length ≤ r.length
  | [], _ => Nat.le_refl _
  | b :: r, a => by
    have := cmpP_len r b
    unfold cmpP
    split <;> simp <;> omega
theorem cmpB_len (l : List Bytes) : (cmpB l).length ≤ l.length := by
  cases l with
  | nil => exact Nat.le_refl _
  | cons a r => have := cmpP_len r a; simp [cmpB]; exact this
end Go.KX
namespace Go.Proofs.YtomkgfdigldhcaaGreatDoor
open Go.KX Go.RowKit Go.Sort
/-- One list that is handed over, and turned in place. -/
theorem Fp_list {f : FuncId} (hc : Callable Tryz.prog f) {l l' : List Bytes} {res : SV} (hll : l'.length ≤ l.length)
    (h0 : l = [] → ∀ w, ∀ c, Calls Tryz.prog f #[.slice none 0 c] w fun e w' => ∃ v, e = .returned v ∧ w' = w ∧ ∀ g ρ, (ρ 1000).ad = none → (ρ 1000).c = c → Den g ρ res v)
    (h1 : ∀ (g : GW) gg c (cur : Array Value), g.w.heap[gg]? = some (.cells cur 9 (0, 0)) → l.length ≤ c → c ≤ maxLen → cur.size = c → cur.toList.take l.length = l.map encStr → Calls Tryz.prog f #[.slice (some ⟨gg, 0, none⟩) l.length c] g.w fun e w' => ∃ v, e = .returned v ∧ (∀ g ρ, (ρ 1000).ad = some ⟨gg, 0, none⟩ → (ρ 1000).c = c → Den g ρ res v) ∧ g.w.grownBy w' (some gg) ∧ ∃ cur', w'.heap[gg]? = some (.cells cur' 9 (0, 0)) ∧ cur'.size = c ∧ cur'.toList.take l'.length = l'.map encStr) :
    Fp Tryz.prog gT f [.o 1000 l.length] (.r 9 1 (rowsB l)) res (.r 9 1 (rowsB l')) := by
  refine ⟨hc, fun ρ g vs ms hf ha hM ho => ?_⟩
  obtain ⟨v0, r0, rfl, dv, dr⟩ := ha.uncons
  obtain rfl := dr.unnil
  cases hM with
  | cons hB ht =>
    cases ht
    cases hB with
    | r hz ys hl hd =>
      cases dv with
      | o =>
        have hfl := rowsB_ys hl hd
        obtain ⟨q1, q2⟩ := ho.p _ (.head _)
        have hyl : ys.length = l.length := by simpa using hl
        have hzz : hz = (by decide) := rfl
        rcases q2 with ⟨hv, hn⟩ | ⟨gg, cap, cur, hv, hbase, hgg, r1, r2, r3, r4⟩
        · injection hv with e1 e2 e3
          have hl0 : l = [] := List.eq_nil_of_length_eq_zero (by omega)
          have hl'0 : l' = [] := List.eq_nil_of_length_eq_zero (by rw [hl0] at hll; simpa using hll)
          have ea : (#[.slice (ρ 1000).ad l.length (ρ 1000).c] : Array Value) = #[.slice none 0 (ρ 1000).c] := by rw [e1, hl0]; rfl
          show Calls _ _ #[.slice (ρ 1000).ad l.length (ρ 1000).c] _ _
          rw [ea]
          refine (h0 hl0 g.w (ρ 1000).c).mono ?_
          rintro e w' ⟨v, rfl, rfl, hden⟩
          refine ⟨v, g, res, [(1000, .r 9 1 (rowsB l'))], _, rfl, rfl, Ext.refl _ g, ⟨rfl, rfl⟩, hden g ρ e1 rfl, .cons (.r hz ys ?_ ?_) .nil, ho, fun _ h => .inl h⟩
          · rw [hl, hl0, hl'0]
          · rw [hl'0]; intro ρ' k x r hx hr; simp at hr
        · injection hv with e1 e2 e3
          have ea : (#[.slice (ρ 1000).ad l.length (ρ 1000).c] : Array Value) = #[.slice (some ⟨gg, 0, none⟩) l.length cap] := by rw [e1, e3]
          show Calls _ _ #[.slice (ρ 1000).ad l.length (ρ 1000).c] _ _
          rw [ea]
          have r4' : cur.toList.take l.length = l.map encStr := by
            have h5 := r4
            rw [hfl, hyl] at h5
            have h6 : cur.toList.take l.length = l.map str := by simpa [elRow] using h5
            exact h6
          refine (h1 g gg cap cur hgg (by omega) r2 (by simpa [elRow] using r3) r4').mono ?_
          rintro e w' ⟨v, rfl, hden, hg, cur', hc1, hc2, hc3⟩
          have hbs : (Res.arr (elRow 1 hz) 9 (ρ 1000).ad (ρ 1000).c ys).bs = [gg] := by simp [Res.arr, vbs, e1]
          have hlt : gg < g.w.heap.size := ho.lt gg (by simp [hbs])
          have hnf : ¬ g.fz gg := ho.nfz gg (by simp [hbs])
          let g' : GW := ⟨w', g.fz, fun x hx => Nat.lt_of_lt_of_le (g.lt x hx) hg.size⟩
          have hE : Ext (blks [Res.arr (elRow 1 hz) 9 (ρ 1000).ad (ρ 1000).c ys]) g g' := ⟨⟨hg.os, hg.tape, hg.output, hg.size, fun _ h => h, fun x hf => hg.block x (g.lt x hf) (fun e => hnf (by cases e; exact hf))⟩, fun x h hn => hg.block x h (fun e => hn (by cases e; simp [hbs])), fun _ _ _ h => h⟩
          have hbs' : (Res.arr (elRow 1 hz) 9 (ρ 1000).ad (ρ 1000).c (l'.map rowOf)).bs = [gg] := by simp [Res.arr, vbs, e1]
          refine ⟨v, g', res, [(1000, .r 9 1 (rowsB l'))], [Res.arr (elRow 1 hz) 9 (ρ 1000).ad (ρ 1000).c (l'.map rowOf)], rfl, rfl, hE, ⟨rfl, rfl⟩, hden g' ρ e1 e3, .cons (.r hz _ (by simp) rowOf_den) .nil, ⟨fun x hx => ?_, by simp [hbs'], fun x hx => ?_, fun x hx => ?_⟩, fun x hx => .inl (by simpa [hbs, hbs'] using hx)⟩
          · rcases List.mem_singleton.1 hx with rfl
            refine ⟨by rw [flat_len], .inr ⟨gg, cap, cur', by rw [e1, e3], Nat.zero_le _, hc1, by simp; omega, r2, by simpa [elRow] using hc2, ?_⟩⟩
            have := flat_rowOf l'
            show cur'.toList.take ((l'.map rowOf).length * 1) = flat (elRow 1 hz) (l'.map rowOf)
            rw [this, Nat.mul_one, List.length_map]
            exact hc3
          · have : x = gg := by simpa [hbs'] using hx
            subst this; exact Nat.lt_of_lt_of_le hlt hg.size
          · have : x = gg := by simpa [hbs'] using hx
            subst this; exact hnf
theorem sortB_ok {l : List Bytes} (hl : l.length ≤ 100000000000) : Fp Tryz.prog gT 68 [.o 1000 l.length] (.r 9 1 (rowsB l)) (.t []) (.r 9 1 (rowsB (sortL l))) := by
  refine Fp_list ⟨_, Tryz.func68, rfl, by kernel_rfl⟩ (by rw [sortL_len]; exact Nat.le_refl _) (fun h0 w c => ?_) (fun g gg c cur hgg r1 r2 r3 r4 => ?_)
  · refine (Tryz.slices_Sort_string_none none c w).mono ?_
    rintro e w' ⟨rfl, rfl⟩
    exact ⟨_, rfl, rfl, fun g ρ _ _ => .t [] rfl (fun j sv x h => by simp at h)⟩
  · have hH : Holds encStr g.w gg 0 l.toArray := holds_of_block hgg r4
    have hlt := (Array.getElem?_eq_some_iff.1 hgg).1
    refine (Tryz.slices_Sort_string gg 0 c l g.w hH hlt (by omega)).mono ?_
    rintro e w' ⟨rfl, k, os, rfl⟩
    refine ⟨_, rfl, fun g ρ _ _ => .t [] rfl (fun j sv x h => by simp at h), grownBy_sorted _, putCells encStr 0 (sortL l).toArray cur, heap_sorted _ hgg, by simp [putCells, r3], take_putCells cur (sortL l) (by rw [sortL_len]; omega)⟩
theorem compactB_ok {l : List Bytes} (hl : l.length ≤ 100000000000) : Fp Tryz.prog gT 69 [.o 1000 l.length] (.r 9 1 (rowsB l)) (.o 1000 (cmpB l).length) (.r 9 1 (rowsB (cmpB l))) := by
  refine Fp_list ⟨_, Tryz.func69, rfl, by kernel_rfl⟩ (cmpB_len l) (fun h0 w c => ?_) (fun g gg c cur hgg r1 r2 r3 r4 => ?_)
  · refine (Tryz.slices_Compact_string_empty none c w).mono ?_
    rintro e w' ⟨rfl, rfl⟩
    refine ⟨_, rfl, rfl, fun g ρ h1 h2 => ?_⟩
    rw [h0, ← h1, ← h2]
    exact .o
  · have hH : Holds encStr g.w gg 0 l.toArray := holds_of_block hgg r4
    refine (Tryz.slices_Compact_string gg 0 c l g.w hH (by omega) r1).mono ?_
    rintro e w' ⟨rfl, q, rfl⟩
    rw [compactB_eq]
    have hcl := cmpB_len l
    obtain ⟨ts, hts⟩ : ∃ ts, cmpB l ++ List.replicate (l.length - (cmpB l).length) [] = ts := ⟨_, rfl⟩
    have htl : ts.length = l.length := by rw [← hts]; simp; omega
    rw [hts]
    have hg0 : grow (putRow encStr (Sort.ahead g.w q) gg 0 ts.toArray) #[] = putRow encStr (Sort.ahead g.w q) gg 0 ts.toArray := by
      unfold grow
      simp only [Array.append_empty]
    refine ⟨_, rfl, fun g ρ h1 h2 => by rw [← h1, ← h2]; exact .o, ?_, putCells encStr 0 ts.toArray cur, ?_, by simp [putCells, r3], ?_⟩
    · have := grownBy_sorted (w := g.w) (g := gg) (n := q) (os := #[]) ts.toArray
      rw [hg0] at this
      exact this
    · have := heap_sorted (n := q) (os := #[]) ts.toArray hgg
      rw [hg0] at this
      exact this
    · have h12 := congrArg (List.take (cmpB l).length) (take_putCells cur ts (by omega))
      rw [List.take_take, Nat.min_eq_left (by omega), ← hts, List.map_append] at h12
      rw [← hts, h12]
      exact List.take_left' (by simp)
end Go.Proofs.YtomkgfdigldhcaaGreatDoor
namespace Go.KX
section
variable {X : Kx} {k : List It} {L : SL} {M : SM} {fs : List MF} {own : List Res} {arr : Array Oper} {l : List Oper} {o : Oper}
theorem dsq {tb : TT} (hT : tb.Ok X.P) (m : Nat) (H : List (List SV)) (ne : Bool) {un i : Nat} {D rr π' : List Nat} {Ms Ms' : List SM} {b : Bool} {d T yT : Nat} {x y : Operand} {svs cs ds : List SV} {xs ys : List Value} {fl : Array Field} {G : Option Bool} {L' M' φ ψ} (hu : X.P.underlying T = some (.struct fl)) (hp : X.P.stoodInHeld T = false)
    (hr : ∀ w, (Op.eqFields 9999 xs.toArray ys.toArray fl.toList).run X.P w = .ok b w) (hk : ED X arr k fs own un D π' L' M' Ms') (hi : arr[i]? = some o := by rfl) (hun : un.testBit i = false := by rfl) (hG : gS arr (lkS L) o = some G := by rfl) (hd : o.dst = some d := by rfl) (hn : Nat.blt d X.n = true := by rfl) (ho : o.op = .binOp (neO ne) T x y yT := by rfl)
    (hev : evs (lkS L) [x, y] = some svs := by rfl) (hst : svs.map st1 = [.a cs, .a ds] := by rfl) (v1 : valsL cs = some xs := by rfl) (v2 : valsL ds = some ys := by rfl)
    (hm : ∀ w, (eqGuard (neO ne) T x y (.agg xs.toArray) (.agg ys.toArray)).run X.P w = .ok () w := by intro w; kernel_rfl)
    (hc : wq G (svs.flatMap cd1) = ψ := by rfl) (hψ : conj ψ := by first | trivial | exact id | exact ⟨id, id⟩ | (simp +contextual [conj]; done) | simp_all [conj])
    (hrn : xdrw tb X.n arr un D m H rr ((d, wr G (.v (.bool (neB ne b)))) :: L) M Ms [] = some (π', L', M', Ms', φ) := by rfl) (hφ : conj φ := by first | trivial | omega | (simp +contextual [conj]; done) | (simp +contextual [conj, *]; done) | (simp +contextual [conj, *] <;> omega)) : ED X arr k fs own un D (i :: rr) L M Ms := by
  refine ⟨o, wr G (.v (.bool (neB ne b))), hi, ?_⟩
  rw [hun]
  refine ⟨.inr (fun M' => Stp_eqS (ne := ne) hG hd hn ho hev hst (by rw [hc]; exact conj_all hψ) v1 v2 hu hp hm hr), ?_⟩
  rw [hd]
  exact xd hT m H hk hrn hφ
end
end Go.KX
namespace Go.KX
mutual
/-- Is i alone met in it? -/
def only (i : Nat) : SV → Bool
  | .l j _ => Nat.beq j i
  | .o j _ => Nat.beq j i
  | .e j _ => Nat.beq j i
  | .mp j => Nat.beq j i
  | .fm _ => true
  | .ni => true
  | .a cs => onlyL i cs
  | .f _ x y => onlyL i x && onlyL i y
  | .t vs => onlyL i vs
  | .g _ x => only i x
  | .v _ => true
  | .str _ => true
  | .s _ _ => true
  | .p _ => true
def onlyL (i : Nat) : List SV → Bool
  | [] => true
  | x :: r => only i x && onlyL i r
end
theorem onlyL_get {i : Nat} : ∀ {l : List SV}, onlyL i l = true → ∀ (j : Nat) sv, l[j]? = some sv → only i sv = true
  | [], _, j, sv, h => by simp at h
  | x :: r, hc, j, sv, h => by
    simp only [onlyL, Bool.and_eq_true] at hc
    cases j with
    | zero => simp at h; exact h ▸ hc.1
    | succ j => exact onlyL_get hc.2 j sv (by simpa using h)
theorem Den.only {g : GW} {ρ sv x} (h : Den g ρ sv x) {i : Nat} : Go.KX.only i sv = true → ∀ ρ', ρ' i = ρ i → Den g ρ' sv x := by
  have key : ∀ {i j : Nat}, Nat.beq j i = true → j = i := fun h => Nat.eq_of_beq_eq_true h
  induction h with
  | v => exact fun _ _ _ => .v
  | str => exact fun _ _ _ => .str
  | s xs h1 h2 hl hr ho hne hd _ => exact fun _ _ _ => .s xs h1 h2 hl hr ho hne hd
  | p xs hl hf hc hd _ => exact fun _ _ _ => .p xs hl hf hc hd
  | l => intro h ρ' e; obtain rfl := key h; rw [← e]; exact .l
  | a xs hl _ ih => exact fun hc ρ' e => .a xs hl (fun j sv x h1 h2 => ih j sv x h1 h2 (onlyL_get hc j sv h1) ρ' e)
  | f xs ys hl _ hl2 _ ih ih2 =>
    intro hc ρ' e
    simp only [Go.KX.only, Bool.and_eq_true] at hc
    exact .f xs ys hl (fun j sv x h1 h2 => ih j sv x h1 h2 (onlyL_get hc.1 j sv h1) ρ' e) hl2 (fun j sv x h1 h2 => ih2 j sv x h1 h2 (onlyL_get hc.2 j sv h1) ρ' e)
  | t xs hl _ ih => exact fun hc ρ' e => .t xs hl (fun j sv x h1 h2 => ih j sv x h1 h2 (onlyL_get hc j sv h1) ρ' e)
  | gt _ ih => exact fun hc ρ' e => .gt (ih hc ρ' e)
  | gf => exact fun _ _ _ => .gf
  | o => intro h ρ' e; obtain rfl := key h; rw [← e]; exact .o
  | e h' => intro h ρ' e; obtain rfl := key h; exact .e (by rw [e]; exact h')
  | fm raw ms clk hf hh he hk hd _ => exact fun _ _ _ => .fm raw ms clk hf hh he hk hd
  | mp => intro h ρ' e; obtain rfl := key h; rw [← e]; exact .mp
  | ni => exact fun _ _ _ => .ni
/-- What comes, and the block i that comes with it. -/
def FnN (P : Program) (fs : List MF) (f : FuncId) (args : List SV) (res : SV) (i : Nat) (mb : MB) : Prop :=
  Callable P f ∧ ∀ ρ g vs, All fs g → DenL g ρ args vs → Calls P f vs.toArray g.w fun e w' => ∃ v g' r ρ', e = .returned v ∧ g'.w = w' ∧ Ext [] g g' ∧ Den g' ρ' res v ∧ DenB g' ρ' i mb r ∧ Own [r] g' ∧ ∀ b ∈ blks [r], g.w.heap.size ≤ b
structure Rn (X : Kx) (fs : List MF) (tb : TT) (rs : List ResultVar) (res : SV) (i : Nat) (mb : MB) : Prop where
  ret : ∀ {k L M svs}, resS tb L M rs = some svs → resVS svs = res → keepM (Nat.beq i) M = [(i, mb)] → E X (.code .ret :: k) L M fs []
theorem fnb {P : Program} {fs : List MF} {tb : TT} (hT : tb.Ok P) {f : FuncId} {fn : Func} {c : Code} {args : List SV} {res : SV} {i : Nat} {mb : MB} (n : Nat) (rs : List ResultVar) (hf : P.funcs[f]? = some fn) (hrs : fn.results = rs.toArray)
    (h : ∀ g0 B0 Q ρ0, Rn ⟨⟨P, n, g0, B0, Q, none, []⟩, ρ0⟩ fs tb rs res i mb → E ⟨⟨P, n, g0, B0, Q, none, []⟩, ρ0⟩ [.code c] (initS args 0) [] fs []) (hb : fn.body = some c := by rfl) (hname : (fn.name == "runtime.NumGoroutine") = false := by kernel_rfl) (hn : fn.ntmps = n := by rfl) (hle : args.length ≤ n := by exact Nat.le_of_ble_eq_true rfl) : FnN P fs f args res i mb := by
  refine ⟨⟨fn, hf, by simp [hb], hname⟩, fun ρ g vs hfs ha => ?_⟩
  refine calls_of_wp hf hb (wpIn_wide (n := 0) |>.1 ?_)
  have hpost : ∀ (a : Act) (g' : GW) L M' svs, resS tb L M' rs = some svs → resVS svs = res → keepM (Nat.beq i) M' = [(i, mb)] → ESt ⟨⟨P, n, g, [], bodyPost P fn (fun e w' => ∃ v g' r ρ', e = .returned v ∧ g'.w = w' ∧ Ext [] g g' ∧ Den g' ρ' res v ∧ DenB g' ρ' i mb r ∧ Own [r] g' ∧ ∀ b ∈ blks [r], g.w.heap.size ≤ b), none, []⟩, ρ⟩ L M' fs [] g' a →
      a.defers = [] ∧ ∃ v, (results fn a.tmps).run P g'.w = .ok v g'.w ∧ ∃ v2 g2 r ρ', Ending.returned v = .returned v2 ∧ g2.w = g'.w ∧ Ext [] g g2 ∧ Den g2 ρ' res v2 ∧ DenB g2 ρ' i mb r ∧ Own [r] g2 ∧ ∀ b ∈ blks [r], g.w.heap.size ≤ b := by
    intro a g' L M' svs h1 h2 h3 hst
    obtain ⟨ρ', ms', s1, s2, s3⟩ := hst
    obtain ⟨v, hv, dv⟩ := results_ok (X := ⟨⟨P, n, g, [], _, none, []⟩, ρ⟩) hT s1 s2 s3 hrs h1
    obtain ⟨m1, m2, h5, h6⟩ := s2.keep (Nat.beq i)
    have s4 := (s1.perm (by simpa using h6)).drop
    rw [h3] at h5
    cases h5 with
    | cons hB ht =>
      cases ht
      exact ⟨s1.kn.defers, v, hv, v, g', _, ρ', rfl, rfl, s1.ext, h2 ▸ dv, hB, s4.own, fun b hb => (s4.new b hb).resolve_left (fun hx => by cases hx)⟩
  refine h g [] (bodyPost P fn (fun e w' => ∃ v g' r ρ', e = .returned v ∧ g'.w = w' ∧ Ext [] g g' ∧ Den g' ρ' res v ∧ DenB g' ρ' i mb r ∧ Own [r] g' ∧ ∀ b ∈ blks [r], g.w.heap.size ≤ b)) ρ ⟨?_⟩ g _ ?_
  · intro k L M' svs h1 h2 h3 g' a hst
    refine wpIn_ret ?_
    rw [cont_ret]
    exact hpost a g' L M' svs h1 h2 h3 hst
  · refine ⟨ρ, [], ⟨⟨by simp [hn, ha.1]; omega, rfl, fun i v hi => by simp [lk] at hi⟩, hfs, ⟨fun r hr => (by cases hr), List.nodup_nil, fun b hb => (by cases hb), fun b hb => (by cases hb)⟩, Ext.refl _ g, fun b hb => (by cases hb)⟩, .nil, fun i _ => rfl, fun t sv ht => ?_⟩
    obtain ⟨j, rfl, hj⟩ := initS_lk args 0 t sv ht
    obtain ⟨x, hx, dx⟩ := ha.get hj
    refine ⟨x, ?_, dx⟩
    have hlt : j < vs.length := by
      rcases Nat.lt_or_ge j vs.length with h | h
      · exact h
      · rw [List.getElem?_eq_none h] at hx; cases hx
    simp only [Nat.zero_add]
    rw [Array.getElem?_append_left (by simpa using hlt)]
    simpa using hx
section
variable {X : Kx} {k : List It} {L : SL} {M : SM} {fs : List MF} {own : List Res} {arr : Array Oper} {l : List Oper} {o : Oper} {tb : TT} {rs : List ResultVar}
theorem ern {res : SV} {svs : List SV} {i : Nat} {mb mb' : MB} {k' : List It} (n : Nat) (R : Rn X fs tb rs res i mb) (he : resVS svs = res ∧ mb' = mb) (hk : normS (lkS L) 64 n k = .code .ret :: k' := by rfl) (hr : resS tb L M rs = some svs := by rfl) (hm : keepM (Nat.beq i) M = [(i, mb')] := by rfl) : E X k L M fs [] :=
  norm_E 64 n (hk ▸ R.ret hr he.1 (by rw [hm, he.2]))
theorem srn {res : SV} {svs : List SV} {i : Nat} {mb mb' : MB} {k' : List It} (n : Nat) (R : Rn X fs tb rs res i mb) (he : resVS svs = res ∧ mb' = mb) (hk : normS (lkS L) 64 n k = .code .ret :: k' := by rfl) (hr : resS tb L M rs = some svs := by rfl) (hm : keepM (Nat.beq i) M = [(i, mb')] := by rfl) : ES X arr [] k L M fs [] := ern n R he hk hr hm
/-- A call with which a new block comes. -/
theorem fnw (hT : tb.Ok X.P) (m : Nat) (H : List (List SV)) {d i : Nat} {f : FuncId} {fo : Operand} {az : Array Operand} {ts : Array TypeId} {svs args : List SV} {res : SV} {mb : MB} {l' L' M' φ} (hs : FnN X.P fs f args res i mb) (hk : ES X arr l' k L' M' fs own) (hg : o.guard = none := by rfl) (hd : o.dst = some d := by rfl) (ho : o.op = .call ⟨.value fo, az, ts⟩ := by rfl) (hfo : evS (lkS L) fo = some (.f f [] []) := by rfl)
    (ha : evs (lkS L) az.toList = some svs := by rfl) (hb : svs.map st1 = args := by rfl) (hc : svs.flatMap cd1 = [] := by rfl) (hn : Nat.blt d X.n = true := by rfl) (hoc : (occSL i L || occM i M) = false := by rfl) (hlt : Nat.blt i 1000 = true := by rfl) (hcb : cloB mb = true := by rfl) (hol : only i res = true := by rfl)
    (hr : xrun tb X.n arr m H l ((d, res) :: L) ((i, mb) :: M) [] = some (l', L', M', φ) := by rfl) (hφ : conj φ := by first | trivial | omega | (simp +contextual [conj]; done) | (simp +contextual [conj, *]; done) | (simp +contextual [conj, *] <;> omega)) : ES X arr (o :: l) k L M fs own := by
  intro g a hE
  obtain ⟨ρ, ms, st⟩ := hE.open
  simp only [Bool.or_eq_false_iff] at hoc
  have hlt : i < 1000 := by simpa [Nat.blt_eq] using hlt
  have h2 : ∀ t sv, lkS L t = some sv → ∃ x, a.tmps[t]? = some x ∧ Den g ρ sv x := (st.all (F2 X ρ L a) (.tail _ (.head _))).val
  have hw : Region.wanted o (yielded arr a.tmps) = true := live_wanted (L := []) st.kn (live_none hg)
  have hall : evs (lkS L) (fo :: az.toList) = some (.f f [] [] :: svs) := by simp only [evs, hfo, ha]
  have hden := sts_ok (evals_den h2 hall) (by simp only [List.flatMap_cons, hc, cd1, List.append_nil]; intro p hp; cases hp)
  obtain ⟨x, rr, e1, dx, dr⟩ := hden.uncons
  simp only [List.map_cons, List.cons.injEq] at e1
  obtain ⟨rfl, rfl⟩ := e1
  obtain ⟨xs, ys, hfe, d1, d2⟩ := den_f dx
  obtain rfl := d1.unnil
  obtain rfl := d2.unnil
  rw [hb] at dr
  obtain ⟨hcl, hcall⟩ := hs
  have hrun := calls_ent hcl (ρe := a.eval) ho hfe g.w
  simp only [List.nil_append, List.append_nil] at hrun
  simp only [wl, hw, if_true, wn, hrun]
  refine (hcall ρ g _ (fun f hf => st.all f (.tail _ (.tail _ hf))) dr).mono ?_
  rintro e w' ⟨v, g', r, ρ', rfl, rfl, hE', dv, hB, hO, hN⟩
  have s' := st.frame (r := ms ++ own) (fsc := []) (ownc := []) (fs' := []) (own' := [r]) .nil hE' (fun f hf => (by cases hf)) hO (fun b hb => .inr (hN b hb)) .nil
  simp only [List.nil_append] at s'
  let ρ2 : Nat → Lc := fun j => if j = i then ρ' i else ρ j
  have e2 : ρ2 i = ρ' i := by simp [ρ2]
  have hM : DenM g' ρ M ms := s'.all _ (.head _)
  have hS : Sl X ρ L a g' := s'.all _ (.tail _ (.head _))
  have s3 : St X.toCx [] (F1 ρ2 ((i, mb) :: M) (r :: ms) :: F2 X ρ2 L a :: fs) ((r :: ms) ++ own) g' a := ⟨s'.kn, All.cons (.cons (hB.move hcb e2) (occ_upd hM hoc.2)) (All.cons ⟨fun j hj => by
      have : j ≠ i := by omega
      simp only [ρ2, if_neg this]; exact hS.pin j hj, fun t sv ht => by
      obtain ⟨x, hx, dx⟩ := hS.val t sv ht
      exact ⟨x, hx, dx.upd (occSL_get hoc.1 t sv ht)⟩⟩ (fun f hf => s'.all f (.tail _ (.tail _ hf)))), s'.own, s'.ext, s'.new⟩
  refine ⟨v, rfl, ?_⟩
  rw [hd]
  exact go hT m H hk hr hφ g' _ (ESt.put s3 hn (dv.only hol ρ2 e2))
end
end Go.KX
namespace Go.KX
mutual
def upV : SV → SV
  | .l j o => .l (j + 1000) o
  | .o j n => .o (j + 1000) n
  | .e j o => .e (j + 1000) o
  | .mp j => .mp (j + 1000)
  | .fm es => .fm es
  | .ni => .ni
  | .a cs => .a (upL cs)
  | .f n x y => .f n (upL x) (upL y)
  | .t vs => .t (upL vs)
  | .g b x => .g b (upV x)
  | .v v => .v v
  | .str s => .str s
  | .s z r => .s z r
  | .p c => .p c
def upL : List SV → List SV
  | [] => []
  | x :: r => upV x :: upL r
end
theorem upL_map : ∀ (l : List SV), upL l = l.map upV
  | [] => rfl
  | x :: r => by rw [upL, upL_map r]; rfl
theorem upL_len (l : List SV) : (upL l).length = l.length := by rw [upL_map, List.length_map]
theorem upL_get {l : List SV} {j : Nat} {sv : SV} (h : l[j]? = some sv) : (upL l)[j]? = some (upV sv) := by rw [upL_map, List.getElem?_map, h]; rfl
theorem upL_inv {l : List SV} {j : Nat} {sv : SV} (h : (upL l)[j]? = some sv) : ∃ sv0, l[j]? = some sv0 ∧ sv = upV sv0 := by
  rw [upL_map, List.getElem?_map] at h
  cases hl : l[j]? with
  | none => rw [hl] at h; cases h
  | some x => rw [hl] at h; cases h; exact ⟨x, rfl, rfl⟩
theorem Den.up {g : GW} {ρ ρ' : Nat → Lc} {sv x} (h : Den g ρ sv x) (e : ∀ i, ρ' (i + 1000) = ρ i) : Den g ρ' (upV sv) x := by
  induction h with
  | v => exact .v
  | str => exact .str
  | s xs h1 h2 hl hr ho hne hd _ => exact .s xs h1 h2 hl hr ho hne hd
  | p xs hl hf hc hd _ => exact .p xs hl hf hc hd
  | @l _ i off => rw [← e i]; exact .l
  | a xs hl _ ih => exact .a xs (by rw [upL_len]; exact hl) (fun j sv x h1 h2 => by obtain ⟨s0, h3, rfl⟩ := upL_inv h1; exact ih j s0 x h3 h2 e)
  | f xs ys hl _ hl2 _ ih ih2 =>
    exact .f xs ys (by rw [upL_len]; exact hl) (fun j sv x h1 h2 => by obtain ⟨s0, h3, rfl⟩ := upL_inv h1; exact ih j s0 x h3 h2 e) (by rw [upL_len]; exact hl2) (fun j sv x h1 h2 => by obtain ⟨s0, h3, rfl⟩ := upL_inv h1; exact ih2 j s0 x h3 h2 e)
  | t xs hl _ ih => exact .t xs (by rw [upL_len]; exact hl) (fun j sv x h1 h2 => by obtain ⟨s0, h3, rfl⟩ := upL_inv h1; exact ih j s0 x h3 h2 e)
  | gt _ ih => exact .gt (ih e)
  | gf => exact .gf
  | @o _ i n => rw [← e i]; exact .o
  | @e _ i off b o0 h' => exact .e (by rw [e i]; exact h')
  | fm raw ms clk hf hh he hk hd _ => exact .fm raw ms clk hf hh he hk hd
  | @mp _ i => rw [← e i]; exact .mp
  | ni => exact .ni
theorem Den.dn {g : GW} {ρ ρ' : Nat → Lc} {sv' x} (h : Den g ρ' sv' x) (e : ∀ i, ρ' (i + 1000) = ρ i) : ∀ sv, sv' = upV sv → Den g ρ sv x := by
  induction h with
  | v => intro sv h; cases sv <;> simp only [upV, reduceCtorEq, SV.v.injEq] at h; subst h; exact .v
  | str => intro sv h; cases sv <;> simp only [upV, reduceCtorEq, SV.str.injEq] at h; subst h; exact .str
  | s xs h1 h2 hl hr ho hne hd _ => intro sv h; cases sv <;> simp only [upV, reduceCtorEq, SV.s.injEq] at h; obtain ⟨rfl, rfl⟩ := h; exact .s xs h1 h2 hl hr ho hne hd
  | p xs hl hf hc hd _ => intro sv h; cases sv <;> simp only [upV, reduceCtorEq, SV.p.injEq] at h; subst h; exact .p xs hl hf hc hd
  | l => intro sv h; cases sv <;> simp only [upV, reduceCtorEq, SV.l.injEq] at h; obtain ⟨rfl, rfl⟩ := h; rw [e]; exact .l
  | a xs hl _ ih => intro sv h; cases sv <;> simp only [upV, reduceCtorEq, SV.a.injEq] at h; subst h; exact .a xs (by rw [← upL_len]; exact hl) (fun j sv x h1 h2 => ih j _ x (upL_get h1) h2 e sv rfl)
  | f xs ys hl _ hl2 _ ih ih2 =>
    intro sv h; cases sv <;> simp only [upV, reduceCtorEq, SV.f.injEq] at h; obtain ⟨rfl, rfl, rfl⟩ := h
    exact .f xs ys (by rw [← upL_len]; exact hl) (fun j sv x h1 h2 => ih j _ x (upL_get h1) h2 e sv rfl) (by rw [← upL_len]; exact hl2) (fun j sv x h1 h2 => ih2 j _ x (upL_get h1) h2 e sv rfl)
  | t xs hl _ ih => intro sv h; cases sv <;> simp only [upV, reduceCtorEq, SV.t.injEq] at h; subst h; exact .t xs (by rw [← upL_len]; exact hl) (fun j sv x h1 h2 => ih j _ x (upL_get h1) h2 e sv rfl)
  | gt _ ih => intro sv h; cases sv <;> simp only [upV, reduceCtorEq, SV.g.injEq] at h; obtain ⟨rfl, rfl⟩ := h; exact .gt (ih e _ rfl)
  | gf => intro sv h; cases sv <;> simp only [upV, reduceCtorEq, SV.g.injEq] at h; obtain ⟨rfl, rfl⟩ := h; exact .gf
  | o => intro sv h; cases sv <;> simp only [upV, reduceCtorEq, SV.o.injEq] at h; obtain ⟨rfl, rfl⟩ := h; rw [e]; exact .o
  | e h' => intro sv h; cases sv <;> simp only [upV, reduceCtorEq, SV.e.injEq] at h; obtain ⟨rfl, rfl⟩ := h; exact .e (by rw [← e]; exact h')
  | fm raw ms clk hf hh he hk hd _ => intro sv h; cases sv <;> simp only [upV, reduceCtorEq, SV.fm.injEq] at h; subst h; exact .fm raw ms clk hf hh he hk hd
  | mp => intro sv h; cases sv <;> simp only [upV, reduceCtorEq, SV.mp.injEq] at h; subst h; rw [e]; exact .mp
  | ni => intro sv h; cases sv <;> simp only [upV, reduceCtorEq] at h; exact .ni
theorem DenL.up {g : GW} {ρ ρ' : Nat → Lc} {svs xs} (h : DenL g ρ svs xs) (e : ∀ i, ρ' (i + 1000) = ρ i) : DenL g ρ' (upL svs) xs :=
  ⟨by rw [upL_len]; exact h.1, fun j sv x h1 h2 => by obtain ⟨s0, h3, rfl⟩ := upL_inv h1; exact (h.2 j s0 x h3 h2).up e⟩
theorem DenL.dn {g : GW} {ρ ρ' : Nat → Lc} {svs xs} (h : DenL g ρ' (upL svs) xs) (e : ∀ i, ρ' (i + 1000) = ρ i) : DenL g ρ svs xs :=
  ⟨by rw [← upL_len]; exact h.1, fun j sv x h1 h2 => (h.2 j _ x (upL_get h1) h2).dn e sv rfl⟩
def upB : MB → MB
  | .c T cs => .c T (upL cs)
  | .r T z rs => .r T z rs
  | .m es => .m es
  | .it i es js => .it (i + 1000) es js
  | .q T z rs => .q T z rs
def upM : SM → SM
  | [] => []
  | (i, m) :: r => (i + 1000, upB m) :: upM r
theorem DenB.up {g : GW} {ρ ρ' : Nat → Lc} {i : Nat} {mb : MB} {r : Res} (h : DenB g ρ i mb r) (e : ∀ i, ρ' (i + 1000) = ρ i) : DenB g ρ' (i + 1000) (upB mb) r := by
  cases h with
  | c xs hd h1 => rw [← e i]; exact .c xs (hd.up e) h1
  | r hz xs hl hd => rw [← e i]; exact .r hz xs hl hd
  | q hz xs hl hd => rw [← e i]; exact .q hz xs hl hd
  | m raw hk hd => rw [← e i]; exact .m raw hk hd
  | it raw hk hd => rename_i i0 es js; rw [← e i, ← e i0]; exact .it raw hk hd
theorem DenB.dn {g : GW} {ρ ρ' : Nat → Lc} {i : Nat} {mb : MB} {r : Res} (h : DenB g ρ' (i + 1000) (upB mb) r) (e : ∀ i, ρ' (i + 1000) = ρ i) : DenB g ρ i mb r := by
  cases mb with
  | c T cs => cases h with | c xs hd h1 => rw [e i]; exact .c xs (hd.dn e) h1
  | r T z rs => cases h with | r hz xs hl hd => rw [e i]; exact .r hz xs hl hd
  | q T z rs => cases h with | q hz xs hl hd => rw [e i]; exact .q hz xs hl hd
  | m es => cases h with | m raw hk hd => rw [e i]; exact .m raw hk hd
  | it i0 es js => cases h with | it raw hk hd => rw [e i, e i0]; exact .it raw hk hd
theorem DenM.up {g : GW} {ρ ρ' : Nat → Lc} (e : ∀ i, ρ' (i + 1000) = ρ i) : ∀ {M : SM} {ms : List Res}, DenM g ρ M ms → DenM g ρ' (upM M) ms
  | [], _, .nil => .nil
  | (_, _) :: _, _, .cons hb t => .cons (hb.up e) (DenM.up e t)
theorem DenM.dn {g : GW} {ρ ρ' : Nat → Lc} (e : ∀ i, ρ' (i + 1000) = ρ i) : ∀ {M : SM} {ms : List Res}, DenM g ρ' (upM M) ms → DenM g ρ M ms
  | [], _, h => by cases h; exact .nil
  | (_, _) :: _, _, h => by cases h with | cons hb t => exact .cons (hb.dn e) (DenM.dn e t)
def upS : SL → SL
  | [] => []
  | (t, v) :: r => (t, upV v) :: upS r
theorem upS_lk : ∀ {L : SL} {t : Nat} {sv : SV}, lkS (upS L) t = some sv → ∃ s0, lkS L t = some s0 ∧ sv = upV s0
  | [], t, sv, h => by cases h
  | (u, v) :: r, t, sv, h => by
    by_cases htu : t = u
    · subst htu
      simp only [upS] at h
      rw [lkS_same] at h ⊢
      cases h
      exact ⟨v, rfl, rfl⟩
    · simp only [upS] at h
      rw [lkS_ne _ _ htu] at h ⊢
      exact upS_lk h
/-- The loop's variables. -/
def putP : List Nat → List SV → SL → SL
  | p :: ps, v :: vs, L => putP ps vs ((p, v) :: L)
  | _, _, L => L
theorem putP_ok {g : GW} {ρ : Nat → Lc} : ∀ (ps : List Nat) {svs : List SV} {xs : List Value} {L : SL} {T : Array Value}, ps.all (fun p => Nat.blt p T.size) = true → DenL g ρ svs xs → (∀ t sv, lkS L t = some sv → ∃ x, T[t]? = some x ∧ Den g ρ sv x) →
    ((ps.zip xs).foldl (fun t p => t.setIfInBounds p.1 p.2) T).size = T.size ∧ ∀ t sv, lkS (putP ps svs L) t = some sv → ∃ x, ((ps.zip xs).foldl (fun t p => t.setIfInBounds p.1 p.2) T)[t]? = some x ∧ Den g ρ sv x
  | [], svs, xs, L, T, _, _, hL => ⟨by simp, by simpa [putP] using hL⟩
  | p :: ps, [], xs, L, T, _, hd, hL => by
    rw [hd.unnil]
    exact ⟨by simp, by simpa [putP] using hL⟩
  | p :: ps, sv :: svs, xs, L, T, hp, hd, hL => by
    obtain ⟨x, ys, rfl, dx, dr⟩ := hd.uncons
    simp only [List.all_cons, Bool.and_eq_true, Nat.blt_eq] at hp
    have hs : (T.setIfInBounds p x).size = T.size := by simp
    obtain ⟨h1, h2⟩ := putP_ok ps (svs := svs) (xs := ys) (L := (p, sv) :: L) (T := T.setIfInBounds p x) (by rw [hs]; exact hp.2) dr (fun t sv' ht => by
      by_cases htp : t = p
      · subst htp
        rw [lkS_same] at ht
        cases ht
        exact ⟨x, by simp [hp.1], dx⟩
      · rw [lkS_ne _ _ htp] at ht
        obtain ⟨y, hy, dy⟩ := hL t sv' ht
        exact ⟨y, by rw [Array.getElem?_setIfInBounds_ne (Ne.symm htp)]; exact hy, dy⟩)
    simp only [List.zip_cons_cons, List.foldl_cons]
    exact ⟨h1.trans hs, h2⟩
end Go.KX
namespace Go.KX
theorem Split.app : ∀ (ms r : List Res), Split (ms ++ r) ms r
  | [], _ => .nil
  | _ :: ms, r => .cons .head (Split.app ms r)
/-- What holds between the rounds; what holds when one has left the loop. -/
structure Rnd where
  J : Nat → GW → List Res → Prop
  Jx : GW → List Res → Prop
  mono : ∀ {j g g' ms}, FExt g g' → J j g ms → J j g' ms
  monox : ∀ {g g' ms}, FExt g g' → Jx g ms → Jx g' ms
def Rnd.f (R : Rnd) (j : Nat) (ms : List Res) : MF := ⟨fun g => R.J j g ms, R.mono⟩
def Rnd.fx (R : Rnd) (ms : List Res) : MF := ⟨fun g => R.Jx g ms, R.monox⟩
structure RP (g : GW) (ms : List Res) (A B : GW → List Res → Prop) (e : Ending) (w' : World) : Prop where
  ex : ∃ v g' ms', e = .returned v ∧ g'.w = w' ∧ Ext (blks ms) g g' ∧ Own ms' g' ∧ (∀ b ∈ blks ms', b ∈ blks ms ∨ g.w.heap.size ≤ b) ∧ ((v = .bool true ∧ A g' ms') ∨ (v = .bool false ∧ B g' ms'))
def RndOK (P : Program) (l : Nat) (R : Rnd) (args : List (List SV)) : Prop := ∀ (j : Nat) a, args[j]? = some a → ∀ g ms ρ vs, R.J j g ms → Own ms g → DenL g ρ a vs →
  ∃ fn tmps assign body, (Instr.yield l vs.toArray).run P g.w = .ok (.round l fn tmps assign body) g.w ∧ RoundIn Fence.wide 0 P l fn tmps assign body g.w (RP g ms (R.J (j + 1)) R.Jx)
/-- It calls yield so many times, one list of arguments behind the other; what else there is in the world is the rounds' own. -/
def Itr (P : Program) (fs : List MF) (f : FuncId) (caps : List SV) (args : List (List SV)) : Prop := Callable P f ∧ ∀ l (R : Rnd) ρ g vs ms, All fs g → DenL g ρ caps vs → RndOK P l R args → R.J 0 g ms → Own ms g →
  Calls P f (#[.func (.yield l) #[] #[]] ++ vs.toArray) g.w fun e w' => ∃ v g' ms', e = .returned v ∧ g'.w = w' ∧ Ext (blks ms) g g' ∧ Own ms' g' ∧ (∀ b ∈ blks ms', b ∈ blks ms ∨ g.w.heap.size ≤ b) ∧ (R.J args.length g' ms' ∨ R.Jx g' ms')
structure RtI (X : Kx) (fs : List MF) (R : Rnd) (n : Nat) : Prop where
  ret : ∀ {k L M ms}, E X (.code .ret :: k) L M (R.f n ms :: fs) ms
  fall : ∀ {L M ms}, E X [] L M (R.f n ms :: fs) ms
  retx : ∀ {k L M ms}, E X (.code .ret :: k) L M (R.fx ms :: fs) ms
theorem itrb {P : Program} {fs : List MF} {tb : TT} (hT : tb.Ok P) {f : FuncId} {fn : Func} {c : Code} {caps : List SV} {args : List (List SV)} (n : Nat) (hf : P.funcs[f]? = some fn) (hrs : fn.results = #[])
    (h : ∀ l R, RndOK P l R args → ∀ g0 B0 Q ρ0 ms0, RtI ⟨⟨P, n, g0, B0, Q, none, []⟩, ρ0⟩ fs R args.length → E ⟨⟨P, n, g0, B0, Q, none, []⟩, ρ0⟩ [.code c] (initS (.v (.func (.yield l) #[] #[]) :: caps) 0) [] (R.f 0 ms0 :: fs) ms0) (hb : fn.body = some c := by rfl) (hname : (fn.name == "runtime.NumGoroutine") = false := by kernel_rfl) (hn : fn.ntmps = n := by rfl) (hle : caps.length + 1 ≤ n := by exact Nat.le_of_ble_eq_true rfl) : Itr P fs f caps args := by
  refine ⟨⟨fn, hf, by simp [hb], hname⟩, fun l R ρ g vs ms hfs ha hR hJ hO => ?_⟩
  refine calls_of_wp hf hb (wpIn_wide (n := 0) |>.1 ?_)
  let Post : Ending → World → Prop := fun e w' => ∃ v g' ms', e = .returned v ∧ g'.w = w' ∧ Ext (blks ms) g g' ∧ Own ms' g' ∧ (∀ b ∈ blks ms', b ∈ blks ms ∨ g.w.heap.size ≤ b) ∧ (R.J args.length g' ms' ∨ R.Jx g' ms')
  have hpost : ∀ (a : Act) (g' : GW) L M' ms' (F : MF), (F.p g' → R.J args.length g' ms' ∨ R.Jx g' ms') → ESt ⟨⟨P, n, g, blks ms, bodyPost P fn Post, none, []⟩, ρ⟩ L M' (F :: fs) ms' g' a →
      a.defers = [] ∧ ∃ v, (results fn a.tmps).run P g'.w = .ok v g'.w ∧ Post (.returned v) g'.w := by
    intro a g' L M' ms' F hF hst
    obtain ⟨ρ', msl, s1, s2, s3⟩ := hst
    obtain ⟨v, hv, _⟩ := results_ok (X := ⟨⟨P, n, g, blks ms, bodyPost P fn Post, none, []⟩, ρ⟩) (rs := []) (svs := []) hT s1 s2 s3 hrs rfl
    have s4 := (s1.perm (List.perm_append_comm (l₁ := msl) (l₂ := ms'))).drop
    exact ⟨s1.kn.defers, v, hv, v, g', ms', rfl, rfl, s1.ext, s4.own, s4.new, hF (s1.all F (.head _))⟩
  refine h l R hR g (blks ms) (bodyPost P fn Post) ρ ms ⟨?_, ?_, ?_⟩ g _ ?_
  · intro k L M' ms' g' a hst
    refine wpIn_ret ?_
    rw [cont_ret]
    exact hpost a g' L M' ms' _ .inl hst
  · intro L M' ms' g' a hst
    exact hpost a g' L M' ms' _ .inl hst
  · intro k L M' ms' g' a hst
    refine wpIn_ret ?_
    rw [cont_ret]
    exact hpost a g' L M' ms' _ .inr hst
  · have hd : DenL g ρ (.v (.func (.yield l) #[] #[]) :: caps) (.func (.yield l) #[] #[] :: vs) := DenL.cons .v ha
    refine ⟨ρ, [], ⟨⟨by simp [hn, ha.1]; omega, rfl, fun i v hi => by simp [lk] at hi⟩, All.cons hJ hfs, by simpa using hO, Ext.refl _ g, fun b hb => .inl (by simpa using hb)⟩, .nil, fun i _ => rfl, fun t sv ht => ?_⟩
    obtain ⟨j, rfl, hj⟩ := initS_lk _ 0 t sv ht
    obtain ⟨x, hx, dx⟩ := hd.get hj
    refine ⟨x, ?_, dx⟩
    have hlt : j < (Value.func (.yield l) #[] #[] :: vs).length := by
      rcases Nat.lt_or_ge j (Value.func (.yield l) #[] #[] :: vs).length with h | h
      · exact h
      · rw [List.getElem?_eq_none h] at hx; cases hx
    simp only [Nat.zero_add]
    rw [Array.getElem?_append_left (by simp at hlt ⊢; omega)]
    have e : (#[Value.func (.yield l) #[] #[]] ++ vs.toArray) = (Value.func (.yield l) #[] #[] :: vs).toArray := by simp
    rw [e]
    simpa using hx
section
variable {X : Kx} {k : List It} {L : SL} {M : SM} {fs : List MF} {own : List Res} {arr : Array Oper} {l : List Oper} {o : Oper}
/-- A loop, where what is owned and what is known turns with the state. -/
theorem E_loopO {σ : Type} (I : σ → Prop) (μ : σ → Nat) (Ls : σ → SL) (Fs : σ → List MF) (Os : σ → List Res) {body : Code} (s0 : σ) (h0 : I s0)
    (round : ∀ (J : Act → World → Prop) s, I s → (∀ s' {L' M'}, I s' → μ s' < μ s → (_ : subS L' (Ls s') := by (repeat (first | exact trivial | refine ⟨rfl, ?_⟩ | refine ⟨ivE (by omega), ?_⟩ | refine ⟨ivE (by simp; done), ?_⟩ | refine ⟨ivE (by simp <;> omega), ?_⟩))) → E X (.lp J :: k) L' M' (Fs s') (Os s')) → E X (.code body :: .lp J :: k) (Ls s) [] (Fs s) (Os s))
    (hL : subS L (Ls s0) := by (repeat (first | exact trivial | refine ⟨rfl, ?_⟩ | refine ⟨ivE (by omega), ?_⟩ | refine ⟨ivE (by simp; done), ?_⟩ | refine ⟨ivE (by simp <;> omega), ?_⟩))) : E X (.code (.loop body) :: k) L M (Fs s0) (Os s0) := by
  intro g a hs
  have none_ : ∀ M : SM, keepM (fun _ => false) M = [] := by
    intro M
    induction M with
    | nil => rfl
    | cons p M ih => obtain ⟨i, m⟩ := p; simp [keepM, ih]
  exact wpIn_loop_s (fun s a w => I s ∧ ∃ g', ESt X (Ls s) [] (Fs s) (Os s) g' a ∧ g'.w = w) μ (fun s a w ⟨hI, g', hst, hw⟩ => by
    subst hw
    exact round (fun a' w' => ∃ s', (I s' ∧ ∃ g', ESt X (Ls s') [] (Fs s') (Os s') g' a' ∧ g'.w = w') ∧ μ s' < μ s) s hI
      (fun s' {L' M'} h1 h2 h3 g2 a' hst' => ⟨s', ⟨h1, g2, hst'.weak h3 _ (none_ _), rfl⟩, h2⟩) g' a hst) s0 a g.w
    ⟨h0, g, hs.weak hL _ (none_ _), rfl⟩
/-- yield is called. -/
theorem yw {R : Rnd} {lp j d : Nat} {ms : List Res} {args : List (List SV)} {av : List SV} {fo : Operand} {az : Array Operand} {ts : Array TypeId} {svs : List SV} (hR : RndOK X.P lp R args) (hj : args[j]? = some av)
    (ht : ∀ ms', ES X arr l k ((d, .v (.bool true)) :: L) M (R.f (j + 1) ms' :: fs) ms') (hf : ∀ ms', ES X arr l k ((d, .v (.bool false)) :: L) M (R.fx ms' :: fs) ms') (hg : o.guard = none := by rfl) (hd : o.dst = some d := by rfl) (ho : o.op = .call ⟨.value fo, az, ts⟩ := by rfl) (hfo : evS (lkS L) fo = some (.v (.func (.yield lp) #[] #[])) := by rfl)
    (ha : evs (lkS L) az.toList = some svs := by rfl) (hb : svs.map st1 = av := by rfl) (hc : svs.flatMap cd1 = [] := by rfl) (hn : Nat.blt d X.n = true := by rfl) : ES X arr (o :: l) k L M (R.f j ms :: fs) ms := by
  intro g a hE
  obtain ⟨ρ, msl, st⟩ := hE.open
  have hSl : Sl X ρ L a g := st.all _ (.tail _ (.head _))
  have hw : Region.wanted o (yielded arr a.tmps) = true := live_wanted (L := []) st.kn (live_none hg)
  have hfe : a.eval fo = .func (.yield lp) #[] #[] := by
    have := eval_den hSl.val hfo
    generalize a.eval fo = x at this
    cases this; rfl
  have hden := sts_ok (evals_den hSl.val ha) (by simp only [hc]; intro p hp; cases hp)
  rw [hb] at hden
  have st2 := st.perm (List.perm_append_comm (l₁ := msl) (l₂ := ms))
  have hJ : R.J j g ms := st2.all (R.f j ms) (.tail _ (.tail _ (.head _)))
  obtain ⟨fn, tmps, assign, body, hy, hr⟩ := hR j av hj g ms ρ _ hJ st2.own.left hden
  have hrun : (execOp a.eval o).run X.P g.w = .ok (.round lp fn tmps assign body) g.w := by
    have e : (az.toList.map a.eval).toArray = az.map a.eval := Array.ext' (by simp)
    rw [e] at hy
    simp only [execOp, ho, resolve, hfe]
    simpa [invoke, go_sem] using hy
  simp only [wl, hw, if_true, wn, hrun]
  refine RoundIn.mono hr ?_
  rintro e w' ⟨v, g', ms', rfl, rfl, hE', hO', hN', hv⟩
  refine ⟨v, rfl, ?_⟩
  rw [hd]
  have s' := st2.frame (fsc := []) (fs' := []) (Split.app ms msl) hE' (fun f hf => (by cases hf)) hO' hN' .nil
  have s3 := s'.perm (List.perm_append_comm (l₁ := ms') (l₂ := msl))
  simp only [List.nil_append] at s3
  rcases hv with ⟨rfl, hA⟩ | ⟨rfl, hB⟩
  · have s4 : St X.toCx [] (F1 ρ M msl :: F2 X ρ L a :: R.f (j + 1) ms' :: fs) (msl ++ ms') g' a := ⟨s3.kn, All.cons (s3.all _ (.head _)) (All.cons (s3.all _ (.tail _ (.head _))) (All.cons hA (fun f hf => s3.all f (.tail _ (.tail _ (.tail _ hf)))))), s3.own, s3.ext, s3.new⟩
    exact ht ms' g' _ (ESt.put s4 hn .v)
  · have s4 : St X.toCx [] (F1 ρ M msl :: F2 X ρ L a :: R.fx ms' :: fs) (msl ++ ms') g' a := ⟨s3.kn, All.cons (s3.all _ (.head _)) (All.cons (s3.all _ (.tail _ (.head _))) (All.cons hB (fun f hf => s3.all f (.tail _ (.tail _ (.tail _ hf)))))), s3.own, s3.ext, s3.new⟩
    exact hf ms' g' _ (ESt.put s4 hn .v)
end
end Go.KX
namespace Go.KX
def colD (D : Nat) : Deferred := { target := .collected D, args := #[] }
theorem ESt.reQ {P : Program} {n : Nat} {g0 : GW} {B0 : List Nat} {Q Q' : Exit → Act → World → Prop} {rd rd' : Option Nat} {df : List Deferred} {ρ0 : Nat → Lc} {L : SL} {M : SM} {fs : List MF} {own : List Res} {g : GW} {a : Act}
    (h : ESt ⟨⟨P, n, g0, B0, Q, rd, df⟩, ρ0⟩ L M fs own g a) : ESt ⟨⟨P, n, g0, B0, Q', rd', df⟩, ρ0⟩ L M fs own g a := by
  obtain ⟨ρ, ms, s1, s2, s3⟩ := h.ex
  exact ⟨ρ, ms, ⟨s1.kn, s1.all, s1.own, s1.ext, s1.new⟩, s2, s3.pin, s3.val⟩
theorem St.putO {X : Cx} {L : LL} {fs : List MF} {own' : List Res} {g : GW} {a : Act} {b : Nat} {o : Obj} (s : St X L fs (Res.blk b o :: own') g a) (o' : Obj) : ∃ g', g'.w = g.w.putObj b o' ∧ St X L fs (Res.blk b o' :: own') g' a := by
  have hlt : b < g.w.heap.size := s.own.lt b (by simp [Res.blk])
  refine s.turn (r' := Res.blk b o') .head (fun c hc hn => World.putObj_heap_other (by simpa [Res.blk] using hn)) rfl rfl rfl (by rw [World.putObj_size]; exact Nat.le_refl _) (World.putObj_heap_same hlt) (by simp [Res.blk]) (fun c hc => ?_) (fun c hc => .inl hc)
  have : c = b := by simpa [Res.blk] using hc
  rw [this, World.putObj_size]; exact hlt
theorem St.alloc2 {X : Cx} {L : LL} {fs : List MF} {own : List Res} {g : GW} {a : Act} (s : St X L fs own g a) (o1 o2 : Obj) : ∃ g' : GW, g'.w = (g.w.alloc o1).alloc o2 ∧ St X L fs (Res.blk (g.w.heap.size + 1) o2 :: Res.blk g.w.heap.size o1 :: own) g' a := by
  have sL := (s.alloc o1).alloc o2
  have e : (g.w.alloc o1).heap.size = g.w.heap.size + 1 := size_alloc g.w o1
  simp only [e] at sL
  exact ⟨_, rfl, sL⟩
theorem zip_fold (ps : Array Nat) (vs : List Value) (T : Array Value) : (ps.zip vs.toArray).foldl (fun tmps (p : Nat × Value) => tmps.setIfInBounds p.1 p.2) T = (ps.toList.zip vs).foldl (fun t p => t.setIfInBounds p.1 p.2) T := by
  rw [← Array.foldl_toList]
  simp
/-- A range over a function. -/
theorem E_range {X : Kx} {k : List It} {L : SL} {M : SM} {fs : List MF} {fo : Operand} {ps : Array Tmp} {assign body : Code} {gf : FuncId} {caps : List SV} {args : List (List SV)} {ι : Type} (Ms : Nat → SM) (Mx : ι → SM) (hit : Itr X.P fs gf caps args)
    (hround : ∀ (j : Nat) a, args[j]? = some a → ∀ (l : Nat) g0 B0 ρ0 Q1 Q2 own1 own2 (J : Act → World → Prop),
      (∀ {L' M'}, E ⟨⟨X.P, X.n, g0, B0, Q2, some l, []⟩, ρ0⟩ [.code body] L' M' fs own2 → E ⟨⟨X.P, X.n, g0, B0, Q1, some l, []⟩, ρ0⟩ [.lp J] L' M' fs own1) →
      (∀ {L' M'}, keepM (Nat.ble 1000) M' = upM (Ms (j + 1)) → E ⟨⟨X.P, X.n, g0, B0, Q2, some l, []⟩, ρ0⟩ [] L' M' fs own2) →
      (∀ {k' L' M'} (i : ι), keepM (Nat.ble 1000) M' = upM (Mx i) → E ⟨⟨X.P, X.n, g0, B0, Q2, some l, []⟩, ρ0⟩ (.code .ret :: k') L' M' fs own2) →
      E ⟨⟨X.P, X.n, g0, B0, Q1, some l, []⟩, ρ0⟩ [.code assign, .lp J] (putP ps.toList a (upS L)) (upM (Ms j)) fs own1)
    (hk : ∀ D, E { X with df := [colD D] } k L (Ms args.length) fs [Res.blk D (.deferred (some []))])
    (hx : ∀ D i, E { X with df := [colD D] } (.code .ret :: k) L (Mx i) fs [Res.blk D (.deferred (some []))])
    (hcl : ∀ a ∈ args, cloL a = true) (hps : ∀ a ∈ args, a.length = ps.size) (hfo : evS (lkS L) fo = some (.f gf [] caps) := by rfl) (hpn : ps.toList.all (fun p => Nat.blt p X.n) = true := by rfl) (hM : keepM (keysB (Ms 0)) M = Ms 0 := by rfl) (hrd : X.rd = none := by rfl) (hdf : X.df = [] := by rfl) : E X (.code (.rangeFunc fo ps assign body) :: k) L M fs [] := by
  intro g a hE
  obtain ⟨ρ, msl, s1, s2, s3⟩ := hE.ex
  obtain ⟨m1, m2, h4, h5⟩ := s2.keep (keysB (Ms 0))
  rw [hM] at h4
  have st0 : St X.toCx [] fs m1 g a := (s1.perm (by simpa using h5)).drop
  have st : St X.toCx [] (F1 ρ (Ms 0) m1 :: F2 X ρ L a :: fs) m1 g a := ⟨st0.kn, All.cons h4 (All.cons s3 st0.all), st0.own, st0.ext, st0.new⟩
  have dfo := eval_den s3.val hfo
  obtain ⟨xs, ys, hfe, d1, d2⟩ := den_f dfo
  obtain rfl := d1.unnil
  show (Code.rangeFunc fo ps assign body).wpIn (fen X.rd) 0 X.P (cont X.P X.rd X.Q k) a g.w
  refine wpIn_rangeFunc (fun fn _ => ?_)
  have hro : (fen X.rd).round = none := hrd
  rw [hro]
  obtain ⟨D, hD⟩ : ∃ D, D = g.w.heap.size := ⟨_, rfl⟩
  obtain ⟨rec, hrec⟩ : ∃ rec : LoopState → Option Code → Loop, rec = fun st pe => { state := st, pending := pe, fn, tmps := a.tmps, params := ps, assign, body, defers := D } := ⟨_, rfl⟩
  obtain ⟨gL, hgL, sL⟩ := st.alloc2 (.deferred (some [])) (.loop (rec .ready none))
  rw [← hD] at sL
  have hent := run_enterLoop_outer (P := X.P) (w := g.w) fn a.tmps ps assign body
  rw [← hD, show ({ state := .ready, pending := none, fn, tmps := a.tmps, params := ps, assign, body, defers := D } : Loop) = rec .ready none by rw [hrec], ← hgL] at hent
  have hfe' : a.eval fo = .func (.func gf) #[] ys.toArray := hfe
  refine ⟨D + 1, [colD D], gL.w, { target := .fn (.func gf) ys.toArray, args := #[.func (.yield (D + 1)) #[] #[]] }, gL.w, gf, #[.func (.yield (D + 1)) #[] #[]] ++ ys.toArray, gL.w, hent, ?_, fun _ _ => trivial, ?_, fun h => by simp [Fence.wide] at h, (callsIn_wide (n := 0)).2 ?_⟩
  · simp only [resolve, hfe']
    simp [go_sem]
  · simp [invoke, go_sem, run_callFunc hit.1]
  have sL2 := sL.perm (own' := (Res.blk (D + 1) (.loop (rec .ready none)) :: m1) ++ [Res.blk D (.deferred (some []))]) (by
    simp only [List.cons_append]
    exact List.Perm.cons _ ((List.perm_append_comm (l₁ := [Res.blk D (.deferred (some []))]) (l₂ := m1))))
  have hF2 : (F2 X ρ L a).p gL := sL2.all _ (.tail _ (.head _))
  have hAL : All fs gL := fun f hf => sL2.all f (.tail _ (.tail _ hf))
  let R : Rnd := {
    J := fun j g ms => ∃ mms, ms = Res.blk (D + 1) (.loop (rec .ready none)) :: mms ∧ DenM g ρ (Ms j) mms ∧ (F2 X ρ L a).p g ∧ All fs g
    Jx := fun g ms => ∃ i mms, ms = Res.blk (D + 1) (.loop (rec .done (some .ret))) :: mms ∧ DenM g ρ (Mx i) mms ∧ (F2 X ρ L a).p g ∧ All fs g
    mono := fun e ⟨mms, h1, h2, h3, h4⟩ => ⟨mms, h1, h2.mono e, (F2 X ρ L a).mono e h3, h4.mono e⟩
    monox := fun e ⟨i, mms, h1, h2, h3, h4⟩ => ⟨i, mms, h1, h2.mono e, (F2 X ρ L a).mono e h3, h4.mono e⟩ }
  have hcaps : DenL gL ρ caps ys := by
    have dfo' := eval_den (Sl.val hF2) hfo
    obtain ⟨_, ys', hfe2, _, d3⟩ := den_f dfo'
    rw [hfe] at hfe2
    have : ys = ys' := by
      have := hfe2
      simp only [Value.func.injEq] at this
      exact List.toArray_inj this.2.2
    rw [this]; exact d3
  have hRnd : RndOK X.P (D + 1) R args := by
    rintro j av hj g1 ms ρa vs ⟨mms, rfl, hM1, hS1, hA1⟩ hO1 hd1
    have hmem : av ∈ args := List.mem_of_getElem? hj
    have hl : g1.w.heap[D + 1]? = some (.loop (rec .ready none)) := hO1.p _ (.head _)
    have hy := run_yield (P := X.P) (args := vs.toArray) hl (by rw [hrec]; simpa using hd1.1.trans (hps av hmem))
    rw [hrec] at hy
    refine ⟨fn, _, assign, body, hy, roundIn_of_wpIn (n := 0) (F := Fence.wide) trivial ?_⟩
    let ms := Res.blk (D + 1) (.loop (rec .ready none)) :: mms
    let ρ0 : Nat → Lc := fun i => ρ (i - 1000)
    have eρ : ∀ i, ρ0 (i + 1000) = ρ i := fun i => by simp [ρ0]
    let RR := RP g1 ms (R.J (j + 1)) R.Jx
    let Q2 := roundPost X.P (D + 1) RR
    let J1 : Act → World → Prop := fun a₁ w₁ => ∃ w₂, (Instr.beginRound (D + 1)).run X.P w₁ = .ok () w₂ ∧ body.wpIn (Fence.wide.inRound (D + 1)) 0 X.P (roundPost X.P (D + 1) RR) a₁ w₂
    have fin : ∀ (stt : LoopState) (pe : Option Code) {L' M' M1 g4 a4}, ESt ⟨⟨X.P, X.n, g1, blks ms, Q2, some (D + 1), []⟩, ρ0⟩ L' M' fs [Res.blk (D + 1) (.loop { rec .ready none with state := .busy })] g4 a4 → keepM (Nat.ble 1000) M' = upM M1 →
        g4.w.heap[D + 1]? = some (.loop { rec .ready none with state := .busy }) ∧ ∃ g' m4, g'.w = g4.w.putObj (D + 1) (.loop (rec stt pe)) ∧ Ext (blks ms) g1 g' ∧ Own (Res.blk (D + 1) (.loop (rec stt pe)) :: m4) g' ∧ (∀ b ∈ blks (Res.blk (D + 1) (.loop (rec stt pe)) :: m4), b ∈ blks ms ∨ g1.w.heap.size ≤ b) ∧ DenM g' ρ M1 m4 ∧ (F2 X ρ L a).p g' ∧ All fs g' := by
      intro stt pe L' M' M1 g4 a4 s4 hk4
      obtain ⟨ρ4, ms4, t1, t2, t3⟩ := s4.ex
      obtain ⟨m4, m5, h6, h7⟩ := t2.keep (Nat.ble 1000)
      rw [hk4] at h6
      have e4 : ∀ i, ρ4 (i + 1000) = ρ i := fun i => (t3.pin _ (by omega)).trans (eρ i)
      have t1p := (t1.perm (own' := (Res.blk (D + 1) (.loop { rec .ready none with state := .busy }) :: m4) ++ m5) ((List.perm_append_comm (l₁ := ms4)).trans (List.Perm.cons _ h7))).drop
      have hl4 := t1p.own.p _ (.head _)
      have t5 : St _ [] (F1 ρ4 (upM M1) m4 :: fs) _ g4 a4 := ⟨t1p.kn, All.cons h6 t1p.all, t1p.own, t1p.ext, t1p.new⟩
      obtain ⟨g', hw, s'⟩ := t5.putO (.loop (rec stt pe))
      exact ⟨hl4, g', m4, hw, s'.ext, s'.own, s'.new, (show DenM g' ρ4 (upM M1) m4 from s'.all _ (.head _)).dn e4, (F2 X ρ L a).mono s'.ext.toFExt hS1, fun f hf => s'.all f (.tail _ hf)⟩
    have key := hround j av hj (D + 1) g1 (blks ms) ρ0 (fun _ _ _ => False) Q2 [Res.blk (D + 1) (.loop (rec .ready none))] [Res.blk (D + 1) (.loop { rec .ready none with state := .busy })] J1 ?_ ?_ ?_
    · refine key g1 { tmps := _, defers := [] } ?_
      have hd1' : DenL g1 ρ0 av vs := hd1.swap (hcl av hmem) ρ0
      have hsz : a.tmps.size = X.n := st0.kn.size
      obtain ⟨h8, h9⟩ := putP_ok ps.toList (g := g1) (ρ := ρ0) (svs := av) (xs := vs) (L := upS L) (T := a.tmps) (by rw [hsz]; exact hpn) hd1' (fun t sv ht => by
        obtain ⟨s0, h10, rfl⟩ := upS_lk ht
        obtain ⟨x, hx, dx⟩ := Sl.val hS1 t s0 h10
        exact ⟨x, hx, dx.up eρ⟩)
      rw [← zip_fold] at h8 h9
      exact ⟨ρ0, mms, ⟨⟨h8.trans hsz, rfl, fun i v hi => by simp [lk] at hi⟩, hA1, hO1.perm (List.perm_append_comm (l₁ := [_])), Ext.refl _ g1, fun b hb => .inl ((blks_perm (List.perm_append_comm (l₁ := mms) (l₂ := [_]))).subset hb)⟩, hM1.up eρ, fun _ _ => rfl, h9⟩
    · intro L' M' hb g2 a2 hs2
      obtain ⟨ρ2, ms2, t2⟩ := hs2.open
      have t3 := t2.perm (List.perm_append_comm (l₂ := [Res.blk (D + 1) (.loop (rec .ready none))]))
      have hl2 : g2.w.heap[D + 1]? = some (.loop (rec .ready none)) := t3.own.p _ (.head _)
      obtain ⟨g3, hw3, t4⟩ := St.putO t3 (.loop { rec .ready none with state := .busy })
      refine ⟨_, run_beginRound hl2 (by rw [hrec]), ?_⟩
      rw [← hw3]
      exact hb g3 a2 (ESt.reQ (ESt.close (t4.perm (List.perm_append_comm (l₁ := [_]) (l₂ := ms2)))))
    · intro L' M' hk4 g4 a4 s4
      obtain ⟨hl4, g', m4, hw, q1, q2, q3, q4, q5, q6⟩ := fin .ready none s4 hk4
      have hr := run_endRound (P := X.P) none hl4
      refine ⟨_, _, hr, .bool true, g', Res.blk (D + 1) (.loop (rec .ready none)) :: m4, rfl, ?_, q1, q2, q3, .inl ⟨rfl, m4, rfl, q4, q5, q6⟩⟩
      rw [hw, hrec]; rfl
    · intro k' L' M' i hk4 g4 a4 s4
      obtain ⟨hl4, g', m4, hw, q1, q2, q3, q4, q5, q6⟩ := fin .done (some .ret) s4 hk4
      refine wpIn_ret ?_
      have hr := run_endRound (P := X.P) (some .ret) hl4
      rw [cont_ret]
      refine ⟨_, _, hr, .bool false, g', Res.blk (D + 1) (.loop (rec .done (some .ret))) :: m4, rfl, ?_, q1, q2, q3, .inr ⟨rfl, i, m4, rfl, q4, q5, q6⟩⟩
      rw [hw, hrec]; rfl
  refine (hit.2 (D + 1) R ρ gL ys _ hAL hcaps hRnd ⟨m1, rfl, sL2.all _ (.head _), hF2, hAL⟩ sL2.own.left).mono ?_
  rintro e w2 ⟨v, g2, ms2, rfl, rfl, hE2, hO2, hN2, hJ2⟩
  have s5 := sL2.frame (fsc := []) (fs' := []) (Split.app _ [Res.blk D (.deferred (some []))]) hE2 (fun f hf => (by cases hf)) hO2 hN2 .nil
  have fin : ∀ (stt : LoopState) (pe : Option Code) mms M1, ms2 = Res.blk (D + 1) (.loop (rec stt pe)) :: mms → DenM g2 ρ M1 mms → (F2 X ρ L a).p g2 → All fs g2 →
      g2.w.heap[D + 1]? = some (.loop (rec stt pe)) ∧ ∃ g3 : GW, g3.w = g2.w.putObj (D + 1) (.loop { rec stt pe with state := .exhausted }) ∧ ESt { X with df := [colD D] } L M1 fs [Res.blk D (.deferred (some []))] g3 { a with defers := [colD D] ++ a.defers } := by
    rintro stt pe mms M1 rfl hM3 hS3 hA3
    have s6 : St X.toCx [] (F1 ρ M1 mms :: F2 X ρ L a :: fs) (Res.blk (D + 1) (.loop (rec stt pe)) :: (mms ++ [Res.blk D (.deferred (some []))])) g2 a := ⟨s5.kn, All.cons hM3 (All.cons hS3 hA3), s5.own, s5.ext, s5.new⟩
    obtain ⟨g3, hw3, s7⟩ := s6.putO (.loop { rec stt pe with state := .exhausted })
    refine ⟨s6.own.p _ (.head _), g3, hw3, ?_⟩
    have s8 := (s7.perm (List.perm_append_comm (l₁ := [_]))).drop
    have hS4 : Sl X ρ L a g3 := s8.all _ (.tail _ (.head _))
    refine ⟨ρ, mms, ⟨⟨s8.kn.size, ?_, fun i v hi => by simp [lk] at hi⟩, fun f hf => s8.all f (.tail _ (.tail _ hf)), s8.own, s8.ext, s8.new⟩, s8.all _ (.head _), hS4.pin, hS4.val⟩
    show [colD D] ++ a.defers = [colD D]
    rw [s8.kn.defers, hdf]; rfl
  rcases hJ2 with ⟨mms, hms, hM3, hS3, hA3⟩ | ⟨i, mms, hms, hM3, hS3, hA3⟩
  · obtain ⟨hl2, g3, hw3, hs⟩ := fin _ _ mms _ hms hM3 hS3 hA3
    have hr := run_endLoop (P := X.P) hl2 (by rw [hrec]; simp)
    have hp : (rec .ready none).pending = none := by rw [hrec]
    exact ⟨(rec .ready none).pending, g3.w, by rw [hw3]; exact hr, by rw [hp]; exact hk D g3 _ hs⟩
  · obtain ⟨hl2, g3, hw3, hs⟩ := fin _ _ mms _ hms hM3 hS3 hA3
    have hr := run_endLoop (P := X.P) hl2 (by rw [hrec]; simp)
    have hp : (rec .done (some .ret)).pending = some .ret := by rw [hrec]
    exact ⟨(rec .done (some .ret)).pending, g3.w, by rw [hw3]; exact hr, by rw [hp]; exact hx D i g3 _ hs⟩
end Go.KX
namespace Go.KX
structure Rm (X : Kx) (fs : List MF) (tb : TT) (rs : List ResultVar) (res : SV) (D : Nat) : Prop where
  ret : ∀ {k L M svs}, resS tb L M rs = some svs → hiS (resVS svs) = true → resVS svs = res → E X (.code .ret :: k) L M fs [Res.blk D (.deferred (some []))]
  fall : ∀ {L M svs}, resS tb L M rs = some svs → hiS (resVS svs) = true → resVS svs = res → E X [] L M fs [Res.blk D (.deferred (some []))]
theorem fbm {P : Program} {fs : List MF} {tb : TT} (hT : tb.Ok P) {f : FuncId} {fn : Func} {c : Code} {args : List SV} {res : SV} (n : Nat) (rs : List ResultVar)
    (hf : P.funcs[f]? = some fn) (hrs : fn.results = rs.toArray) (h : ∀ g0 B0 Q ρ0, Rt ⟨⟨P, n, g0, B0, Q, none, []⟩, ρ0⟩ fs tb rs (fun sv _ => sv = res) → (∀ D, Rm ⟨⟨P, n, g0, B0, Q, none, [colD D]⟩, ρ0⟩ fs tb rs res D) → E ⟨⟨P, n, g0, B0, Q, none, []⟩, ρ0⟩ [.code c] (initS args 0) [] fs []) (hb : fn.body = some c := by rfl)
    (hname : (fn.name == "runtime.NumGoroutine") = false := by kernel_rfl) (hn : fn.ntmps = n := by rfl) (hle : args.length ≤ n := by exact Nat.le_of_ble_eq_true rfl) : Fc P fs f args res := by
  refine ⟨⟨fn, hf, by simp [hb], hname⟩, fun ρ g vs hfs ha => ?_⟩
  refine (callsIn_wide (n := 0)).1 (callsIn_of_wp_marks hf hb trivial ?_)
  let Post : Ending → World → Prop := fun e w' => ∃ v g', e = .returned v ∧ g'.w = w' ∧ Ext [] g g' ∧ Den g' ρ res v
  have hpost0 : ∀ (a : Act) (g' : GW) L M' svs, resS tb L M' rs = some svs → hiS (resVS svs) = true → resVS svs = res → ESt ⟨⟨P, n, g, [], bodyPostM Fence.wide 0 P fn Post, none, []⟩, ρ⟩ L M' fs [] g' a → LeavesInM Fence.wide 0 P fn a.tmps Post a.defers .returning g'.w := by
    intro a g' L M' svs h1 h2 h3 hst
    obtain ⟨ρ', ms', s1, s2, s3⟩ := hst
    obtain ⟨v, hv, dv⟩ := results_ok (X := ⟨⟨P, n, g, [], _, none, []⟩, ρ⟩) hT s1 s2 s3 hrs h1
    rw [s1.kn.defers]
    exact ⟨v, hv, v, g', rfl, rfl, s1.ext, h3 ▸ dv.hi h2 ρ s3.pin⟩
  have hpost : ∀ D (a : Act) (g' : GW) L M' svs, resS tb L M' rs = some svs → hiS (resVS svs) = true → resVS svs = res → ESt ⟨⟨P, n, g, [], bodyPostM Fence.wide 0 P fn Post, none, [colD D]⟩, ρ⟩ L M' fs [Res.blk D (.deferred (some []))] g' a → LeavesInM Fence.wide 0 P fn a.tmps Post a.defers .returning g'.w := by
    intro D a g' L M' svs h1 h2 h3 hst
    obtain ⟨ρ', ms', st⟩ := hst.open
    have s1 := st.perm (List.perm_append_comm (l₂ := [Res.blk D (.deferred (some []))]))
    have hl : g'.w.heap[D]? = some (.deferred (some [])) := s1.own.p _ (.head _)
    obtain ⟨g2, hw, s2⟩ := St.putO s1 (.deferred none)
    have s3 := s2.perm (List.perm_append_comm (l₁ := [_]) (l₂ := ms'))
    have hS : Sl ⟨⟨P, n, g, [], bodyPostM Fence.wide 0 P fn Post, none, [colD D]⟩, ρ⟩ ρ' L a g2 := s3.all _ (.tail _ (.head _))
    obtain ⟨v, hv, dv⟩ := results_ok (X := ⟨⟨P, n, g, [], _, none, [colD D]⟩, ρ⟩) hT s3 (s3.all _ (.head _)) hS hrs h1
    rw [s1.kn.defers]
    refine ⟨by simp, .inl ⟨D, g2.w, rfl, by rw [hw]; exact run_takeDeferred hl, v, hv, v, g2, rfl, rfl, s3.ext, h3 ▸ dv.hi h2 ρ hS.pin⟩⟩
  refine h g [] (bodyPostM Fence.wide 0 P fn Post) ρ ⟨?_, ?_, fun _ _ _ h => h⟩ (fun D => ⟨?_, ?_⟩) g _ ?_
  · intro k L M' svs h1 h2 _ h4 g' a hst
    refine wpIn_ret ?_
    rw [cont_ret]
    exact hpost0 a g' L M' svs h1 h2 h4 hst
  · intro L M' svs h1 h2 _ h4 g' a hst
    exact hpost0 a g' L M' svs h1 h2 h4 hst
  · intro k L M' svs h1 h2 h4 g' a hst
    refine wpIn_ret ?_
    rw [cont_ret]
    exact hpost D a g' L M' svs h1 h2 h4 hst
  · intro L M' svs h1 h2 h4 g' a hst
    exact hpost D a g' L M' svs h1 h2 h4 hst
  · refine ⟨ρ, [], ⟨⟨by simp [hn, ha.1]; omega, rfl, fun i v hi => by simp [lk] at hi⟩, hfs, ⟨fun r hr => (by cases hr), List.nodup_nil, fun b hb => (by cases hb), fun b hb => (by cases hb)⟩, Ext.refl _ g, fun b hb => (by cases hb)⟩, .nil, fun i _ => rfl, fun t sv ht => ?_⟩
    obtain ⟨j, rfl, hj⟩ := initS_lk args 0 t sv ht
    obtain ⟨x, hx, dx⟩ := ha.get hj
    refine ⟨x, ?_, dx⟩
    have hlt : j < vs.length := by
      rcases Nat.lt_or_ge j vs.length with h | h
      · exact h
      · rw [List.getElem?_eq_none h] at hx; cases hx
    simp only [Nat.zero_add]
    rw [Array.getElem?_append_left (by simpa using hlt)]
    simpa using hx
section
variable {X : Kx} {k : List It} {L : SL} {M : SM} {fs : List MF} {arr : Array Oper} {l : List Oper} {o : Oper} {tb : TT} {rs : List ResultVar}
theorem erm {res : SV} {svs : List SV} {k' : List It} {D : Nat} (n : Nat) (R : Rm X fs tb rs res D) (he : resVS svs = res) (hk : normS (lkS L) 64 n k = .code .ret :: k' := by rfl) (hr : resS tb L M rs = some svs := by rfl) (hh : hiS (resVS svs) = true := by rfl) : E X k L M fs [Res.blk D (.deferred (some []))] :=
  norm_E 64 n (hk ▸ R.ret hr hh he)
end
end Go.KX
namespace Go.KX
section
variable {P : Program} {w : World}
structure AppQ {α : Type} (w w' : World) (E : El α) (Te : Nat) (ad : Option Addr) (v' : Value) (zs : List α) : Prop where
  ex : ∃ ad' c', v' = .slice ad' zs.length c' ∧ (Res.que E Te ad' c' zs).p w' ∧ (∀ b, b < w.heap.size → b ∉ vbs ad → w'.heap[b]? = w.heap[b]?) ∧ w'.os = w.os ∧ w'.tape = w.tape ∧ w'.output = w.output ∧ w.heap.size ≤ w'.heap.size ∧ ∀ b ∈ vbs ad', b < w'.heap.size ∧ (b ∈ vbs ad ∨ w.heap.size ≤ b)
end
end Go.KX
namespace Go.KX
section
variable {X : Kx} {k : List It} {L : SL} {M : SM} {fs : List MF} {own : List Res} {arr : Array Oper} {l : List Oper} {o : Oper}
theorem arr_head {w : World} {sz Te : Nat} {hz : 0 < sz} {ad : Option Addr} {c : Nat} {ys : List (Row sz)} (h : (Res.arr (elRow sz hz) Te ad c ys).p w) (hne : 0 < ys.length) : ∃ b, ad = some ⟨b, 0, none⟩ ∧ b < w.heap.size ∧ w.ownsRow 0 Te sz (.slice (some ⟨b, 0, none⟩) ys.length c) ys.length (flat (elRow sz hz) ys) := by
  have h' : w.ownsRow 0 Te sz (.slice ad ys.length c) ys.length (flat (elRow sz hz) ys) := h
  rcases h'.2 with ⟨_, h0⟩ | ⟨gg, cap, cur, had, _, hg, _⟩
  · omega
  · injection had with e1 e2 e3
    subst e1
    exact ⟨gg, rfl, (Array.getElem?_eq_some_iff.1 hg).1, h'⟩
theorem Stp_rix {tb : TT} (hT : tb.Ok X.P) {T Te d i n sz j : Nat} {kk : IntKind} {z : Int} {x ix : Operand} {rows : List (List SV)} {dT de : TD} (hzj : z = (j : Int)) (hj : j < rows.length) (hn : n = rows.length) (ho : o.op = .indexAddr T x ix) (hg : o.guard = none) (hd : o.dst = some d) (hdn : Nat.blt d X.n = true) (hx : evS (lkS L) x = some (.o i n)) (hy : evS (lkS L) ix = some (.v (.int kk z))) (hm : lkM M i = some (.r Te sz rows))
    (hT1 : tb.get T = some dT) (hk1 : dT.kd = .sl Te) (hT2 : tb.get Te = some de) (hsz : de.sz = sz) : Stp X arr o L M fs own (.e i (j * sz)) M := by
  subst hzj hsz
  have hG : gS arr (lkS L) o = some none := by unfold gS; rw [hg]
  refine Stp_read (sv := .e i (j * de.sz)) hG hd hdn (fun L' hL hon g a ρ ms st => ?_)
  have hSl : Sl X ρ L' a g := st.all _ (.tail _ (.head _))
  have hM : DenM g ρ M ms := st.all _ (.head _)
  have hev : evs (lkS L') [x, ix] = some [.o i n, .v (.int kk (j : Int))] := by
    have := evs_agree' hL
    rw [show o.op.operands.toList = [x, ix] by rw [ho]; rfl] at this
    rw [this]
    simp only [evs, hx, hy]
  obtain ⟨_, _, e1, dx, hr1⟩ := (evals_den hSl.val hev).uncons
  obtain ⟨_, _, e2, dy, _⟩ := hr1.uncons
  simp only [List.map_cons, List.cons.injEq] at e1
  obtain ⟨rfl, rfl⟩ := e1
  simp only [List.cons.injEq] at e2
  obtain ⟨rfl, _⟩ := e2
  have hyv := den_int dy
  have u := (TT.get_ok hT hT1).kd
  rw [hk1] at u
  have hti := (TT.get_ok hT hT2).ti
  obtain ⟨r, m1, m2, rfl, hB, _⟩ := hM.split hm
  generalize hvx : a.eval x = vx at dx
  cases hB with
  | r hz ys hl hdd =>
    cases dx with
    | o =>
      obtain ⟨b, had, _, _⟩ := arr_head (st.own.p _ (List.mem_append_left _ (List.mem_append_right _ (.head _)))) (by omega)
      refine ⟨.pointer (some ⟨b, 0 + j * de.sz, none⟩), ?_, .e had⟩
      simp only [execOp, ho, hvx, hyv]
      simp only [Instr.indexAt, asIntOf, Sem.run_bind, Sem.run_pure, Result.andThen_ok, run_underlying u, had]
      rw [if_pos ⟨by omega, by omega⟩]
      simp only [Sem.run_bind, run_sizeOf hti, Result.andThen_ok, Sem.run_pure, addr_add]
      simp
theorem row_cell {w : World} {sz Te b c : Nat} {hz : 0 < sz} {ys : List (Row sz)} (h : w.ownsRow 0 Te sz (.slice (some ⟨b, 0, none⟩) ys.length c) ys.length (flat (elRow sz hz) ys)) {j f : Nat} {y : Row sz} {v : Value} (hj : ys[j]? = some y) (hf : y.1[f]? = some v) : w.cell? ⟨b, j * sz + f, none⟩ = some v := by
  have hg := flat_get (elRow sz hz) ys j f y v hj hf
  have hlt := (List.getElem?_eq_some_iff.1 hg).1
  rw [flat_len] at hlt
  rw [h.cellAt (j * sz + f) hlt]
  exact hg
end
end Go.KX
namespace Go.KX
section
variable {X : Cx} {L : LL} {fs : List MF} {own : List Res}
/-- Cells of rows that are owned are written. -/
theorem St.write {P : Program} {g : GW} {a : Act} {α : Type} {E : El α} {Te : Nat} {ad : Option Addr} {c : Nat} {ys ys' : List α} {own'} (s : St X L fs own g a) (hp : Pick own (Res.arr E Te ad c ys) own') {b off : Nat} {vs : List Value} (had : ad = some ⟨b, 0, none⟩) (hl : ys'.length = ys.length)
    (hfl : flat E ys' = (flat E ys).take off ++ (vs ++ (flat E ys).drop (off + vs.length))) (hoff : off + vs.length ≤ ys.length * E.sz) (h1 : ∀ v ∈ vs, v.oneCell' = true) :
    ∃ g', (storeCells ⟨b, off, none⟩ vs 0).run P g.w = .ok () g'.w ∧ St X L fs (Res.arr E Te ad c ys' :: own') g' a := by
  subst had
  have ho := s.own.perm hp.perm
  have hown : g.w.ownsRow 0 Te E.sz (.slice (some ⟨b, 0, none⟩) ys.length c) ys.length (flat E ys) := ho.p _ (.head _)
  rcases hown.2 with ⟨h', _⟩ | ⟨gg, cap, cur, h', hb0, hblk, hnc, hcm, hcs, htk⟩
  · simp at h'
  simp only [Value.slice.injEq, Option.some.injEq, Addr.mk.injEq, and_true, true_and] at h'
  obtain ⟨h5, h6⟩ := h'
  subst h5
  subst h6
  have hcur : ys.length * E.sz ≤ cur.size := by rw [hcs]; exact Nat.mul_le_mul_right _ hnc
  have hst := run_storeCells_at P b off Te vs 0 cur g.w hblk (by omega) h1
  simp only [Nat.add_zero] at hst
  have hlt : (cur.toList.take off).length = off := by rw [List.length_take, Array.length_toList]; omega
  have happ : AppOK g.w (g.w.setRow b (cur.toList.take off ++ vs ++ cur.toList.drop (off + vs.length)).toArray) Te E.sz (.slice (some ⟨b, 0, none⟩) ys.length c) (.slice (some ⟨b, 0, none⟩) ys'.length c) ys'.length (flat E ys') := by
    rw [hl]
    refine ⟨⟨by rw [flat_len, hl], .inr ⟨b, c, _, rfl, Nat.zero_le _, setRow_heap g.w b cur _ Te _ hblk, hnc, hcm, ?_, ?_⟩⟩, ⟨rfl, rfl, rfl, by simp, fun k _ hk => setRow_other g.w b k _ (fun e => hk (by simp [Value.ownBlock, e]))⟩, fun x hx => .inl hx⟩
    · rw [← hcs]
      simp only [List.size_toArray, List.length_append, hlt, List.length_drop, Array.length_toList]
      omega
    · rw [hfl, ← htk, List.append_assoc, List.take_append, hlt, List.take_of_length_le (by omega), List.take_append, List.take_of_length_le (l := vs) (by omega), List.take_take, Nat.min_eq_left (by omega), List.drop_take]
      rw [show ys.length * E.sz - off - vs.length = ys.length * E.sz - (off + vs.length) by omega]
  obtain ⟨ad', c', g', hv', hw', s'⟩ := s.appd hp happ
  injection hv' with q1 q2 q3
  subst q1 q3
  exact ⟨g', by rw [hw']; exact hst, s'⟩
end
/-- A part of a row is put in place of another one. -/
def putR {α : Type} (r : List α) (f : Nat) (cs : List α) : List α := r.take f ++ (cs ++ r.drop (f + cs.length))
theorem putR_len {α : Type} {r : List α} {f : Nat} {cs : List α} (h : f + cs.length ≤ r.length) : (putR r f cs).length = r.length := by
  unfold putR
  simp only [List.length_append, List.length_take, List.length_drop]
  omega
theorem flat_put {sz : Nat} (hz : 0 < sz) {f : Nat} {vs : List Value} (hf : f + vs.length ≤ sz) : ∀ (ys : List (Row sz)) (j : Nat) (y y' : Row sz), ys[j]? = some y → y'.1 = putR y.1 f vs →
    flat (elRow sz hz) (ys.set j y') = (flat (elRow sz hz) ys).take (j * sz + f) ++ (vs ++ (flat (elRow sz hz) ys).drop (j * sz + f + vs.length))
  | [], j, y, y', h, _ => by simp at h
  | x :: ys, 0, y, y', h, h2 => by
    simp only [List.getElem?_cons_zero, Option.some.injEq] at h
    subst h
    have hx := x.2.1
    show y'.1 ++ flat (elRow sz hz) ys = (x.1 ++ flat (elRow sz hz) ys).take _ ++ (vs ++ (x.1 ++ flat (elRow sz hz) ys).drop _)
    rw [h2, Nat.zero_mul, Nat.zero_add, List.take_append_of_le_length (by omega), List.drop_append_of_le_length (by omega)]
    unfold putR
    simp only [List.append_assoc]
  | x :: ys, j + 1, y, y', h, h2 => by
    have ih := flat_put hz hf ys j y y' (by simpa using h) h2
    have hx := x.2.1
    show x.1 ++ flat (elRow sz hz) (ys.set j y') = (x.1 ++ flat (elRow sz hz) ys).take _ ++ (vs ++ (x.1 ++ flat (elRow sz hz) ys).drop _)
    rw [ih, List.take_append, List.drop_append, hx, List.take_of_length_le (l := x.1) (by rw [hx, Nat.succ_mul]; omega), List.drop_of_length_le (l := x.1) (by rw [hx, Nat.succ_mul]; omega), List.nil_append, List.append_assoc]
    rw [show (j + 1) * sz + f - sz = j * sz + f by rw [Nat.succ_mul]; omega, show (j + 1) * sz + f + vs.length - sz = j * sz + f + vs.length by rw [Nat.succ_mul]; omega]
section
variable {X : Kx} {k : List It} {L : SL} {M : SM} {fs : List MF} {own : List Res} {arr : Array Oper} {l : List Oper} {o : Oper}
/-- A part of an element, of several cells. -/
theorem Stp_rlg {tb : TT} (hT : tb.Ok X.P) {T Te d i sz j f off : Nat} {x : Operand} {cs row : List SV} {rows : List (List SV)} {de : TD} (hoff : off = j * sz + f) (hrow : rows[j]? = some row) (hcs : (row.drop f).take de.sz = cs) (hcl : cs.length = de.sz) (ho : o.op = .load T x) (hg : o.guard = none) (hd : o.dst = some d) (hdn : Nat.blt d X.n = true) (hx : evS (lkS L) x = some (.e i off)) (hm : lkM M i = some (.r Te sz rows)) (hT2 : tb.get T = some de) (hag : de.kd.ag = true) : Stp X arr o L M fs own (.a cs) M := by
  subst hoff
  have hG : gS arr (lkS L) o = some none := by unfold gS; rw [hg]
  refine Stp_read (sv := .a cs) hG hd hdn (fun L' hL hon g a ρ ms st => ?_)
  have hSl : Sl X ρ L' a g := st.all _ (.tail _ (.head _))
  have hM : DenM g ρ M ms := st.all _ (.head _)
  have hev : evs (lkS L') [x] = some [.e i (j * sz + f)] := by
    have := evs_agree' hL
    rw [show o.op.operands.toList = [x] by rw [ho]; rfl] at this
    rw [this]
    simp only [evs, hx]
  obtain ⟨_, _, e1, dx, hr1⟩ := (evals_den hSl.val hev).uncons
  simp only [List.map_cons, List.cons.injEq] at e1
  obtain ⟨rfl, rfl⟩ := e1
  obtain ⟨td, u, hag2⟩ := (TT.get_ok hT hT2).kd.und
  rw [hag] at hag2
  obtain ⟨r, m1, m2, rfl, hB, _⟩ := hM.split hm
  generalize hvx : a.eval x = vx at dx
  cases hB with
  | r hz ys hl hdd =>
    cases dx with
    | e had =>
      have hjl := (List.getElem?_eq_some_iff.1 hrow).1
      have hy := List.getElem?_eq_getElem (l := ys) (i := j) (by omega)
      obtain ⟨b, had2, _, hown⟩ := arr_head (st.own.p _ (List.mem_append_left _ (List.mem_append_right _ (.head _)))) (by omega)
      rw [had] at had2
      injection had2 with had2
      injection had2 with e3 e4
      subst e3 e4
      have hD := hdd ρ j _ row hy hrow
      have hln : ((ys[j].1.drop f).take de.sz).length = de.sz := by
        have h1 := hD.1
        rw [← hcs] at hcl
        simp only [List.length_take, List.length_drop] at hcl ⊢
        omega
      have hcell : ∀ (t : Nat) v, ((ys[j].1.drop f).take de.sz)[t]? = some v → g.w.cell? ⟨_, 0 + (j * sz + f) + t, none⟩ = some v := fun t v ht => by
        rw [List.getElem?_take] at ht
        split at ht
        · rw [List.getElem?_drop] at ht
          have := row_cell hown hy ht
          rw [Nat.zero_add, Nat.add_assoc]
          exact this
        · cases ht
      refine ⟨.agg ((ys[j].1.drop f).take de.sz).toArray, ?_, .a _ (by rw [hln, hcl]) (fun t sv v h1 h2 => ?_)⟩
      · have := run_loadS (P := X.P) (w := g.w) u hag2 (TT.get_ok hT hT2).ti hln hcell
        simp only [Nat.zero_add] at this
        simp only [execOp, ho, hvx, Nat.zero_add]
        simp [this]
      · rw [← hcs, List.getElem?_take] at h1
        rw [List.getElem?_take] at h2
        split at h1
        · rw [if_pos (by assumption)] at h2
          rw [List.getElem?_drop] at h1 h2
          exact hD.2 _ sv v h1 h2
        · cases h1
/-- Something, of several cells or one, stored into an element. -/
theorem Stp_rsg {tb : TT} (hT : tb.Ok X.P) {T Te i sz j f off : Nat} {x y : Operand} {sy : SV} {row : List SV} {rows : List (List SV)} {t : TD} {M2 : SM} {sv : SV} (hoff : off = j * sz + f) (hrow : rows[j]? = some row) (hf : f + t.sz ≤ sz) (ho : o.op = .store T x y) (hg : o.guard = none) (hd : o.dst = none) (hx : evS (lkS L) x = some (.e i off)) (hy : evS (lkS L) y = some sy) (hok : okc sy = true) (hlen : (cellsV sy).length = t.sz) (hclo : cloL (cellsV sy) = true) (hm : lkM M i = some (.r Te sz rows)) (ht : tb.get T = some t)
    (hu : updK M i (.r Te sz (rows.set j (putR row f (cellsV sy)))) some = some M2) : Stp X arr o L M fs own sv M2 := by
  subst hoff
  intro L' hL g a hE
  obtain ⟨ρ, ms, st⟩ := hE.open
  have hSl : Sl X ρ L' a g := st.all _ (.tail _ (.head _))
  have hM : DenM g ρ M ms := st.all _ (.head _)
  have hw : Region.wanted o (yielded arr a.tmps) = true := live_wanted (L := []) st.kn (live_none hg)
  unfold opQ
  rw [if_pos hw]
  have hev : evs (lkS L') [x, y] = some [.e i (j * sz + f), sy] := by
    have := evs_agree' hL
    rw [show o.op.operands.toList = [x, y] by rw [ho]; rfl] at this
    rw [this]
    simp only [evs, hx, hy]
  obtain ⟨_, _, e1, dx, hr1⟩ := (evals_den hSl.val hev).uncons
  obtain ⟨_, _, e2, dy, _⟩ := hr1.uncons
  simp only [List.map_cons, List.cons.injEq] at e1
  obtain ⟨rfl, rfl⟩ := e1
  simp only [List.cons.injEq] at e2
  obtain ⟨rfl, _⟩ := e2
  obtain ⟨d1, d2⟩ := cellsV_ok hok dy
  obtain ⟨r, m1, m2, rfl, hB, hup⟩ := hM.split hm
  obtain ⟨M3, hK, hM3⟩ := hup hu
  cases hK
  generalize hvx : a.eval x = vx at dx
  generalize hvy : a.eval y = vy at d1 d2
  have hvl : vy.cells.toList.length = t.sz := by rw [d1.1, hlen]
  have hcl2 : ∀ (g : GW) (ρ ρ' : Nat → Lc), DenL g ρ (cellsV sy) vy.cells.toList → DenL g ρ' (cellsV sy) vy.cells.toList := fun g ρ ρ' hd => ⟨hd.1, fun j s v h1 h2 => (hd.2 j s v h1 h2).swap (cloL_get hclo j s h1) ρ'⟩
  cases hB with
  | r hz ys hl hdd =>
    cases dx with
    | e had =>
      rename_i b0 o0
      have hjl := (List.getElem?_eq_some_iff.1 hrow).1
      have hys := List.getElem?_eq_getElem (l := ys) (i := j) (by omega)
      have hp : (m1 ++ Res.arr (elRow sz hz) Te (ρ i).ad (ρ i).c ys :: m2 ++ own).Perm (Res.arr (elRow sz hz) Te (ρ i).ad (ρ i).c ys :: (m1 ++ m2 ++ own)) := by
        simp only [List.append_assoc, List.cons_append]
        exact List.perm_middle
      have stp0 := st.perm hp
      have stp : St X.toCx [] (rowsD ys rows :: denF ρ (cellsV sy) vy.cells.toList :: F1 ρ M _ :: F2 X ρ L' a :: fs) _ g a := ⟨stp0.kn, All.cons hdd (All.cons d1 stp0.all), stp0.own, stp0.ext, stp0.new⟩
      obtain ⟨b, had2, hbs, hown⟩ := arr_head (stp.own.p _ (.head _)) (by omega)
      rw [had] at had2
      injection had2 with had2
      injection had2 with e3 e4
      subst e3 e4
      let y0 : Row sz := ys[j]
      have hy0 : y0.1.length = sz := y0.2.1
      let y' : Row sz := ⟨putR y0.1 f vy.cells.toList, by rw [putR_len (by rw [hvl, hy0]; exact hf)]; exact y0.2.1, fun u hu => by
        unfold putR at hu
        rcases List.mem_append.1 hu with hu | hu
        · exact y0.2.2 u (List.mem_of_mem_take hu)
        · rcases List.mem_append.1 hu with hu | hu
          · exact d2 u hu
          · exact y0.2.2 u (List.mem_of_mem_drop hu)⟩
      have hfl := flat_put hz (vs := vy.cells.toList) (by rw [hvl]; exact hf) ys j y0 y' hys rfl
      have hoff : j * sz + f + vy.cells.toList.length ≤ ys.length * (elRow sz hz).sz := by
        have : (j + 1) * sz ≤ ys.length * sz := Nat.mul_le_mul_right _ (by omega)
        rw [Nat.succ_mul] at this
        show _ ≤ ys.length * sz
        rw [hvl]; omega
      obtain ⟨g', hst, s'⟩ := stp.write (P := X.P) (ys' := ys.set j y') .head had (by simp) hfl hoff d2
      have hM' : DenM g' ρ M _ := s'.all (F1 ρ M _) (.tail _ (.tail _ (.head _)))
      have hd1 : (rowsD ys rows).p g' := s'.all _ (.head _)
      have hd2 : DenL g' ρ (cellsV sy) vy.cells.toList := s'.all _ (.tail _ (.head _))
      have hBn : DenB g' ρ i (.r Te sz (rows.set j (putR row f (cellsV sy)))) (Res.arr (elRow sz hz) Te (ρ i).ad (ρ i).c (ys.set j y')) := .r hz _ (by simp [hl]) (fun ρ' k x r hk hr => by
        rw [List.getElem?_set] at hk hr
        by_cases hjk : j = k
        · rw [if_pos hjk] at hk hr
          rw [if_pos (by omega)] at hk hr
          cases hk; cases hr
          have h0 := hd1 ρ' j y0 row hys hrow
          have h3 := hcl2 g' ρ ρ' hd2
          have hrl : row.length = sz := by rw [← h0.1]; exact hy0
          refine ⟨by
            show (putR y0.1 f vy.cells.toList).length = _
            rw [putR_len (by rw [hvl, hy0]; exact hf), putR_len (by rw [hlen, hrl]; exact hf)]
            exact h0.1, fun p s v hp hv => ?_⟩
          have hv2 : (putR y0.1 f vy.cells.toList)[p]? = some v := hv
          unfold putR at hp hv2
          by_cases h1 : p < f
          · rw [List.getElem?_append_left (by rw [List.length_take]; omega), List.getElem?_take, if_pos h1] at hp hv2
            exact h0.2 p s v hp hv2
          · rw [List.getElem?_append_right (by rw [List.length_take]; omega), List.length_take] at hp hv2
            rw [Nat.min_eq_left (by omega)] at hp hv2
            by_cases h2 : p - f < t.sz
            · rw [List.getElem?_append_left (by omega)] at hp hv2
              exact h3.2 _ s v hp hv2
            · rw [List.getElem?_append_right (by omega), List.getElem?_drop, hlen] at hp
              rw [List.getElem?_append_right (by omega), List.getElem?_drop, hvl] at hv2
              exact h0.2 _ s v hp hv2
        · rw [if_neg hjk] at hk hr
          exact hd1 ρ' k x r hk hr)
      have hMn := hM3 g' _ hM' hBn
      have hp2 : (Res.arr (elRow sz hz) Te (ρ i).ad (ρ i).c (ys.set j y') :: (m1 ++ m2 ++ own)).Perm (m1 ++ Res.arr (elRow sz hz) Te (ρ i).ad (ρ i).c (ys.set j y') :: m2 ++ own) := by
        simp only [List.append_assoc, List.cons_append]
        exact List.perm_middle.symm
      have s2 := s'.perm hp2
      have hE' : ESt X L' M2 fs own g' a := ⟨ρ, _, ⟨s2.kn, fun f hf => s2.all f (.tail _ (.tail _ (.tail _ (.tail _ hf)))), s2.own, s2.ext, s2.new⟩, hMn, s2.all (F2 X ρ L' a) (.tail _ (.tail _ (.tail _ (.head _))))⟩
      have hrun : (execOp a.eval o).run X.P g.w = .ok .skip g'.w := by
        simp only [execOp, ho, hvx, hvy, Nat.zero_add]
        simp only [Instr.storeAt, Instr.sureAddr, storeVar, Sem.run_bind, Sem.run_pure, Result.andThen_ok, run_sizeOf (TT.get_ok hT ht).ti]
        have hsz2 : vy.cells.size = t.sz := by rw [← Array.length_toList]; exact hvl
        simp only [hsz2, ne_eq, not_true_eq_false, if_false, hst]
        rfl
      simp only [wn, hrun, hd, updL]
      exact ⟨g', rfl, hE'⟩
/-- The address of an element of rows that are owned. -/
theorem sri {tb : TT} (hT : tb.Ok X.P) (j : Nat) {d i T Te n sz : Nat} {kk : IntKind} {z : Int} {x ix : Operand} {rows : List (List SV)} {dT de : TD} (hzj : z = (j : Int)) (hj : j < rows.length) (hn : n = rows.length) (h : ES X arr l k ((d, .e i (j * sz)) :: L) M fs own) (ho : o.op = .indexAddr T x ix := by rfl) (hg : o.guard = none := by rfl) (hd : o.dst = some d := by rfl) (hdn : Nat.blt d X.n = true := by rfl) (hx : evS (lkS L) x = some (.o i n) := by rfl) (hy : evS (lkS L) ix = some (.v (.int kk z)) := by rfl)
    (hm : lkM M i = some (.r Te sz rows) := by rfl) (hT1 : tb.get T = some dT := by rfl) (hk1 : dT.kd = .sl Te := by rfl) (hT2 : tb.get Te = some de := by rfl) (hsz : de.sz = sz := by rfl) : ES X arr (o :: l) k L M fs own := by
  refine ES_step (Stp_rix hT hzj hj hn ho hg hd hdn hx hy hm hT1 hk1 hT2 hsz) ?_
  rw [hd]
  exact h
/-- An element, or a part of it, of several cells. -/
theorem srl {tb : TT} (hT : tb.Ok X.P) (j f : Nat) {T Te d i sz off : Nat} {x : Operand} {cs row : List SV} {rows : List (List SV)} {de : TD} (hrow : rows[j]? = some row) (h : ES X arr l k ((d, .a cs) :: L) M fs own) (ho : o.op = .load T x := by rfl) (hg : o.guard = none := by rfl) (hd : o.dst = some d := by rfl) (hdn : Nat.blt d X.n = true := by rfl) (hx : evS (lkS L) x = some (.e i off) := by rfl) (hm : lkM M i = some (.r Te sz rows) := by rfl) (hT2 : tb.get T = some de := by rfl) (hag : de.kd.ag = true := by rfl) (hoff : off = j * sz + f := by rfl) (hcs : (row.drop f).take de.sz = cs := by rfl) (hcl : cs.length = de.sz := by rfl) : ES X arr (o :: l) k L M fs own := by
  refine ES_step (Stp_rlg hT hoff hrow hcs hcl ho hg hd hdn hx hm hT2 hag) ?_
  rw [hd]
  exact h
/-- Stored into an element, or a part of it. -/
theorem srs {tb : TT} (hT : tb.Ok X.P) (j f : Nat) {T Te i sz off : Nat} {x y : Operand} {sy : SV} {row : List SV} {rows : List (List SV)} {t : TD} {M2 : SM} (hrow : rows[j]? = some row) (h : ES X arr l k L M2 fs own) (ho : o.op = .store T x y := by rfl) (hg : o.guard = none := by rfl) (hd : o.dst = none := by rfl) (hx : evS (lkS L) x = some (.e i off) := by rfl) (hy : evS (lkS L) y = some sy := by rfl) (hok : okc sy = true := by rfl) (hclo : cloL (cellsV sy) = true := by rfl) (hm : lkM M i = some (.r Te sz rows) := by rfl) (ht : tb.get T = some t := by rfl) (hoff : off = j * sz + f := by rfl) (hf : f + t.sz ≤ sz := by decide) (hlen : (cellsV sy).length = t.sz := by rfl)
    (hu : updK M i (.r Te sz (rows.set j (putR row f (cellsV sy)))) some = some M2 := by rfl) : ES X arr (o :: l) k L M fs own := by
  refine ES_step (sv := .v (.bool true)) (Stp_rsg hT hoff hrow hf ho hg hd hx hy hok hlen hclo hm ht hu) ?_
  rw [hd]
  exact h
end
end Go.KX
namespace Go.KX
theorem run_copy_to {P : Program} {w w' : World} {dT sT ty e sz by_ : Nat} {z : Value} {ad ad2 : Addr} {dLen dCap sLen sCap : Nat} {vs : List Value} (u : P.underlying dT = some (.slice e)) (i : TI P e sz by_ z) (hn : vs.length = Nat.min sLen dLen * sz) (hsrc : ∀ (j : Nat) v, vs[j]? = some v → w.cell? (ad2.add j) = some v) (hst : (storeCells ad vs 0).run P w = .ok () w') :
    (Builtin.copy_ #[dT, sT] ty #[.slice (some ad) dLen dCap, .slice (some ad2) sLen sCap]).run P w = .ok (goInt (Nat.min sLen dLen)) w' := by
  have hl := run_loadCells_list (P := P) (w := w) ad2 vs hsrc
  rw [hn] at hl
  simp [Builtin.copy_, run_underlying u, Builtin.lenOf, Builtin.firstCells, run_sizeOf i, hl, hst]
section
variable {X : Kx} {k : List It} {L : SL} {M : SM} {fs : List MF} {own : List Res} {arr : Array Oper} {l : List Oper} {o : Oper}
/-- copy(xs, ys): xs owned, ys frozen, not longer than xs. -/
theorem Stp_cpy {tb : TT} (hT : tb.Ok X.P) {d T T2 Te i n sz : Nat} {x y : Operand} {rows rows2 : List (List SV)} {dT de : TD} {M2 : SM} (hn : n = rows.length) (hne2 : rows2 ≠ []) (hle : rows2.length ≤ rows.length) (ho : o.op = .call ⟨.builtin .copy, #[x, y], #[T, T2]⟩) (hg : o.guard = none) (hd : o.dst = some d) (hdn : Nat.blt d X.n = true)
    (hx : evS (lkS L) x = some (.o i n)) (hy : evS (lkS L) y = some (.s sz rows2)) (hm : lkM M i = some (.r Te sz rows)) (hT1 : tb.get T = some dT) (hk1 : dT.kd = .sl Te) (hT2 : tb.get Te = some de) (hsz : de.sz = sz) (hu : updK M i (.r Te sz (rows2 ++ rows.drop rows2.length)) some = some M2) :
    Stp X arr o L M fs own (.v (.int .i64 (rows2.length : Int))) M2 := by
  subst hsz hn
  intro L' hL g a hE
  obtain ⟨ρ, ms, st⟩ := hE.open
  have hSl : Sl X ρ L' a g := st.all _ (.tail _ (.head _))
  have hM : DenM g ρ M ms := st.all _ (.head _)
  have hw : Region.wanted o (yielded arr a.tmps) = true := live_wanted (L := []) st.kn (live_none hg)
  unfold opQ
  rw [if_pos hw]
  have hev : evs (lkS L') [x, y] = some [.o i rows.length, .s de.sz rows2] := by
    have := evs_agree' hL
    rw [show o.op.operands.toList = [x, y] by rw [ho]; rfl] at this
    rw [this]
    simp only [evs, hx, hy]
  obtain ⟨_, _, e1, dx, hr1⟩ := (evals_den hSl.val hev).uncons
  obtain ⟨_, _, e2, dy, _⟩ := hr1.uncons
  simp only [List.map_cons, List.cons.injEq] at e1
  obtain ⟨rfl, rfl⟩ := e1
  simp only [List.cons.injEq] at e2
  obtain ⟨rfl, _⟩ := e2
  obtain ⟨r, m1, m2, rfl, hB, hup⟩ := hM.split hm
  obtain ⟨M3, hK, hM3⟩ := hup hu
  cases hK
  generalize hvx : a.eval x = vx at dx
  generalize hvy : a.eval y = vy at dy
  have u := (TT.get_ok hT hT1).kd
  rw [hk1] at u
  have hti := (TT.get_ok hT hT2).ti
  cases hB with
  | r hz ys hl hdd =>
    cases dx with
    | o =>
      cases dy with
      | s xs h1 h2 hxl hxr hxo hne hxd =>
        rename_i ad2 c2
        obtain ⟨ys2, hyl2, hyf⟩ := chunks hz rows2.length xs hxl hxo.1
        obtain ⟨b2, o2, hb2, _, hcell⟩ := hne hne2
        subst hb2
        have hp : (m1 ++ Res.arr (elRow de.sz hz) Te (ρ i).ad (ρ i).c ys :: m2 ++ own).Perm (Res.arr (elRow de.sz hz) Te (ρ i).ad (ρ i).c ys :: (m1 ++ m2 ++ own)) := by
          simp only [List.append_assoc, List.cons_append]
          exact List.perm_middle
        have hpos : 0 < rows2.length := List.length_pos_iff.2 hne2
        have stp0 := st.perm hp
        have hrd2 : (rowsD ys2 rows2).p g := fun ρ' k x r hk hr => by
          have hrl : r.length = de.sz := hxr r (List.mem_of_getElem? hr)
          refine ⟨by rw [hrl]; exact x.2.1, fun j sv v h3 h4 => ?_⟩
          refine hxd ρ' k j r sv v hr h3 ?_
          have := flat_get (elRow de.sz hz) ys2 k j x v hk h4
          rw [hyf] at this
          exact this
        have stp : St X.toCx [] (rowsD ys rows :: rowsD ys2 rows2 :: F1 ρ M _ :: F2 X ρ L' a :: fs) _ g a := ⟨stp0.kn, All.cons hdd (All.cons hrd2 stp0.all), stp0.own, stp0.ext, stp0.new⟩
        obtain ⟨b, had, hbs, hown⟩ := arr_head (stp.own.p _ (.head _)) (by omega)
        have hfl : flat (elRow de.sz hz) (ys2 ++ ys.drop rows2.length) = (flat (elRow de.sz hz) ys).take 0 ++ (xs ++ (flat (elRow de.sz hz) ys).drop (0 + xs.length)) := by
          rw [List.take_zero, List.nil_append, Nat.zero_add, hxl]
          have e1 : flat (elRow de.sz hz) (ys2 ++ ys.drop rows2.length) = flat (elRow de.sz hz) ys2 ++ flat (elRow de.sz hz) (ys.drop rows2.length) := by simp [flat]
          rw [e1, hyf]
          have e2 := flat_drop (elRow de.sz hz) ys rows2.length
          rw [show rows2.length * (elRow de.sz hz).sz = rows2.length * de.sz from rfl] at e2
          rw [e2]
        obtain ⟨g', hst, s'⟩ := stp.write (P := X.P) (ys' := ys2 ++ ys.drop rows2.length) .head had (by rw [List.length_append, hyl2, List.length_drop]; omega) hfl (by
          rw [Nat.zero_add, hxl]
          exact Nat.mul_le_mul_right _ (by omega)) hxo.1
        have hM' : DenM g' ρ M _ := s'.all (F1 ρ M _) (.tail _ (.tail _ (.head _)))
        have hd1 : (rowsD ys rows).p g' := s'.all _ (.head _)
        have hd2 : (rowsD ys2 rows2).p g' := s'.all _ (.tail _ (.head _))
        have hBn : DenB g' ρ i (.r Te de.sz (rows2 ++ rows.drop rows2.length)) (Res.arr (elRow de.sz hz) Te (ρ i).ad (ρ i).c (ys2 ++ ys.drop rows2.length)) := .r hz _ (by simp [hl, hyl2]) (fun ρ' k x r hk hr => by
          by_cases hk2 : k < rows2.length
          · rw [List.getElem?_append_left (by omega)] at hk hr
            exact hd2 ρ' k x r hk hr
          · rw [List.getElem?_append_right (by omega), List.getElem?_drop] at hk hr
            rw [hyl2] at hk
            exact hd1 ρ' _ x r hk hr)
        have hMn := hM3 g' _ hM' hBn
        have hp2 : (Res.arr (elRow de.sz hz) Te (ρ i).ad (ρ i).c (ys2 ++ ys.drop rows2.length) :: (m1 ++ m2 ++ own)).Perm (m1 ++ Res.arr (elRow de.sz hz) Te (ρ i).ad (ρ i).c (ys2 ++ ys.drop rows2.length) :: m2 ++ own) := by
          simp only [List.append_assoc, List.cons_append]
          exact List.perm_middle.symm
        have s2 := s'.perm hp2
        have hmin : Nat.min rows2.length rows.length = rows2.length := Nat.min_eq_left hle
        have hcp := run_copy_to (P := X.P) (w := g.w) (w' := g'.w) (dT := T) (sT := T2) (ty := o.type) (dCap := (ρ i).c) (sCap := c2) (sLen := rows2.length) (dLen := rows.length) (ad := ⟨b, 0, none⟩) (ad2 := ⟨b2, o2, none⟩) (vs := xs) u hti (by rw [hmin]; exact hxl) (fun j v hv => by rw [addr_add]; exact hcell j v hv) hst
        rw [hmin] at hcp
        have hre : (execOp a.eval o).run X.P g.w = .ok (.value (goInt rows2.length)) g'.w := by
          simp only [execOp, ho, resolve]
          simp only [List.map_toArray, List.map_cons, List.map_nil, hvx, hvy, had]
          simp [invoke, builtin, hcp]
        simp only [wn, hre, hd]
        have s3 : St X.toCx [] (F1 ρ M2 (m1 ++ Res.arr (elRow de.sz hz) Te (ρ i).ad (ρ i).c (ys2 ++ ys.drop rows2.length) :: m2) :: F2 X ρ L' a :: fs) (m1 ++ Res.arr (elRow de.sz hz) Te (ρ i).ad (ρ i).c (ys2 ++ ys.drop rows2.length) :: m2 ++ own) g' a := ⟨s2.kn, All.cons hMn (All.cons (s2.all (F2 X ρ L' a) (.tail _ (.tail _ (.tail _ (.head _))))) (fun f hf => s2.all f (.tail _ (.tail _ (.tail _ (.tail _ hf)))))), s2.own, s2.ext, s2.new⟩
        exact ⟨g', rfl, ESt.put s3 hdn .v⟩
/-- copy(xs, ys): xs owned, ys frozen, not longer than xs. -/
theorem scpy {tb : TT} (hT : tb.Ok X.P) {d T T2 Te i n sz : Nat} {x y : Operand} {rows rows2 : List (List SV)} {dT de : TD} {M2 : SM} (hn : n = rows.length) (hne2 : rows2 ≠ []) (hle : rows2.length ≤ rows.length) (h : ES X arr l k ((d, .v (.int .i64 (rows2.length : Int))) :: L) M2 fs own) (ho : o.op = .call ⟨.builtin .copy, #[x, y], #[T, T2]⟩ := by rfl) (hg : o.guard = none := by rfl) (hd : o.dst = some d := by rfl) (hdn : Nat.blt d X.n = true := by rfl)
    (hx : evS (lkS L) x = some (.o i n) := by rfl) (hy : evS (lkS L) y = some (.s sz rows2) := by rfl) (hm : lkM M i = some (.r Te sz rows) := by rfl) (hT1 : tb.get T = some dT := by rfl) (hk1 : dT.kd = .sl Te := by rfl) (hT2 : tb.get Te = some de := by rfl) (hsz : de.sz = sz := by rfl) (hu : updK M i (.r Te sz (rows2 ++ rows.drop rows2.length)) some = some M2 := by rfl) : ES X arr (o :: l) k L M fs own := by
  refine ES_step (Stp_cpy hT hn hne2 hle ho hg hd hdn hx hy hm hT1 hk1 hT2 hsz hu) ?_
  rw [hd]
  exact h
/-- make([]T, n): rows that are owned. -/
theorem smks {tb : TT} (hT : tb.Ok X.P) (i n : Nat) {d T Te sz by_ : Nat} {x y : Operand} {p q : Int} {z : Value} (hz0 : 0 < sz) (ys : List (Row sz)) (hyl : ys.length = n) (hp : p = (n : Int)) (hq : q = (n : Int)) (hmade : madeCells z.cells (n * sz) = (flat (elRow sz hz0) ys).toArray) (hbig : by_ * n ≤ 281474976710656) (h63 : n ≤ maxLen) (ht : TI X.P Te sz by_ z) (u : X.P.underlying T = some (.slice Te))
    (h : ES X arr l k ((d, .o i n) :: L) ((i, .r Te sz (ys.map fun y => y.1.map SV.v)) :: M) fs own) (ho : o.op = .makeSlice T x y := by rfl) (hg : o.guard = none := by rfl) (hd : o.dst = some d := by rfl) (hdn : Nat.blt d X.n = true := by rfl) (hx : evS (lkS L) x = some (.v (.int .i64 p)) := by rfl) (hy : evS (lkS L) y = some (.v (.int .i64 q)) := by rfl) (hoc : (occSL i L || occM i M) = false := by rfl) (hlt : Nat.blt i 1000 = true := by rfl) : ES X arr (o :: l) k L M fs own := by
  subst hp hq hyl
  intro g a hE
  obtain ⟨ρ, ms, st⟩ := hE.open
  simp only [Bool.or_eq_false_iff] at hoc
  have hlt : i < 1000 := by simpa [Nat.blt_eq] using hlt
  have hSl : Sl X ρ L a g := st.all _ (.tail _ (.head _))
  have hM : DenM g ρ M ms := st.all _ (.head _)
  have hw : Region.wanted o (yielded arr a.tmps) = true := live_wanted (L := []) st.kn (live_none hg)
  have hev : evs (lkS L) [x, y] = some [.v (.int .i64 (ys.length : Int)), .v (.int .i64 (ys.length : Int))] := by simp only [evs, hx, hy]
  obtain ⟨_, _, e1, dx, hr1⟩ := (evals_den hSl.val hev).uncons
  obtain ⟨_, _, e2, dy, _⟩ := hr1.uncons
  simp only [List.map_cons, List.cons.injEq] at e1
  obtain ⟨rfl, rfl⟩ := e1
  simp only [List.cons.injEq] at e2
  obtain ⟨rfl, _⟩ := e2
  have hvx := den_int dx
  have hvy := den_int dy
  obtain ⟨i0, hi0, hs0, hb0, hz1⟩ := ht
  subst hs0 hb0
  have h63' : (ys.length : Int) ≤ 9223372036854775807 := by simp only [maxLen] at h63; omega
  have hb' : (i0.bytes : Int) * (ys.length : Int) ≤ 281474976710656 := by
    have : ((i0.bytes * ys.length : Nat) : Int) ≤ 281474976710656 := by omega
    rwa [Int.natCast_mul] at this
  have hrun := run_make (P := X.P) g.w T Te i0 z u hi0 hz1 .i64 .i64 ys.length ys.length (by omega) (Int.le_refl _) hb' h63'
  simp only [Int.toNat_natCast, hmade] at hrun
  have s' := st.alloc (.cells (flat (elRow i0.size hz0) ys).toArray Te)
  have s2 : St X.toCx [] (F1 ρ M ms :: F2 X ρ L a :: fs) (Res.arr (elRow i0.size hz0) Te (some ⟨g.w.heap.size, 0, none⟩) ys.length ys :: (ms ++ own)) ⟨g.w.alloc (.cells (flat (elRow i0.size hz0) ys).toArray Te), g.fz, fun b hb => by have := g.lt b hb; rw [size_alloc]; omega⟩ a := by
    refine ⟨s'.kn, s'.all, ⟨fun r hr' => ?_, s'.own.nodup, s'.own.lt, s'.own.nfz⟩, s'.ext, s'.new⟩
    cases hr' with
    | head =>
      have := World.ownsRow_lit (base := 0) (e := Te) (size := i0.size) g.w (flat (elRow i0.size hz0) ys).toArray ys.length (Nat.zero_le _) h63 (by simp [flat_len, elRow])
      have h3 : World.ownsRow (g.w.alloc (.cells (flat (elRow i0.size hz0) ys).toArray Te)) 0 Te i0.size (.slice (some ⟨g.w.heap.size, 0, none⟩) ys.length ys.length) ys.length (flat (elRow i0.size hz0) ys) := by simpa using this
      exact h3
    | tail _ hm => exact s'.own.p r (.tail _ hm)
  generalize hgg : (⟨g.w.alloc (.cells (flat (elRow i0.size hz0) ys).toArray Te), g.fz, fun b hb => by have := g.lt b hb; rw [size_alloc]; omega⟩ : GW) = g' at s2
  have hgw : g'.w = g.w.alloc (.cells (flat (elRow i0.size hz0) ys).toArray Te) := by rw [← hgg]
  have hre : (execOp a.eval o).run X.P g.w = .ok (.value (.slice (some ⟨g.w.heap.size, 0, none⟩) ys.length ys.length)) g'.w := by
    simp only [execOp, ho, hvx, hvy, hgw]
    simp [hrun]
  let y1 : Lc := ⟨0, some ⟨g.w.heap.size, 0, none⟩, ys.length⟩
  have hM' : DenM g' ρ M ms := s2.all (F1 ρ M ms) (.head _)
  have hS' : Sl X ρ L a g' := s2.all (F2 X ρ L a) (.tail _ (.head _))
  have hB : DenB g' (fun j => if j = i then y1 else ρ j) i (.r Te i0.size (ys.map fun y => y.1.map SV.v)) (Res.arr (elRow i0.size hz0) Te ((fun j => if j = i then y1 else ρ j) i).ad ((fun j => if j = i then y1 else ρ j) i).c ys) := .r hz0 ys (by simp) (fun ρ' k x r hk hr => by
    rw [List.getElem?_map, hk] at hr
    cases hr
    refine ⟨by simp, fun j sv v h1 h2 => ?_⟩
    rw [List.getElem?_map, h2] at h1
    cases h1
    exact .v)
  simp only [if_pos] at hB
  have hMn : DenM g' (fun j => if j = i then y1 else ρ j) ((i, .r Te i0.size (ys.map fun y => y.1.map SV.v)) :: M) (Res.arr (elRow i0.size hz0) Te (some ⟨g.w.heap.size, 0, none⟩) ys.length ys :: ms) := .cons hB (occ_upd hM' hoc.2)
  have s3 : St X.toCx [] (F1 (fun j => if j = i then y1 else ρ j) ((i, .r Te i0.size (ys.map fun y => y.1.map SV.v)) :: M) (Res.arr (elRow i0.size hz0) Te (some ⟨g.w.heap.size, 0, none⟩) ys.length ys :: ms) :: F2 X (fun j => if j = i then y1 else ρ j) L a :: fs) (Res.arr (elRow i0.size hz0) Te (some ⟨g.w.heap.size, 0, none⟩) ys.length ys :: ms ++ own) g' a := ⟨s2.kn, All.cons hMn (All.cons ⟨fun j hj => by
      have : j ≠ i := by omega
      simp only [if_neg this]; exact hS'.pin j hj, fun t sv ht => by
      obtain ⟨x, hx, dx⟩ := hS'.val t sv ht
      exact ⟨x, hx, dx.upd (occSL_get hoc.1 t sv ht)⟩⟩ (fun f hf => s2.all f (.tail _ (.tail _ hf)))), s2.own, s2.ext, s2.new⟩
  simp only [wl, hw, if_true, wn, hre, hd]
  have hfin : ESt X ((d, .o i ys.length) :: L) ((i, .r Te i0.size (ys.map fun y => y.1.map SV.v)) :: M) fs own g' (a.put (some d) (.slice (some ⟨g.w.heap.size, 0, none⟩) ys.length ys.length)) := ESt.put s3 hdn (by
    have : Den g' (fun j => if j = i then y1 else ρ j) (.o i ys.length) (.slice ((fun j => if j = i then y1 else ρ j) i).ad ys.length ((fun j => if j = i then y1 else ρ j) i).c) := .o
    simpa [y1] using this)
  exact h g' _ hfin
end
end Go.KX
