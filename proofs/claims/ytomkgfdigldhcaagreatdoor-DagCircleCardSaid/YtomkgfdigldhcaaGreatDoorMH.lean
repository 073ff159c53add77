/- Rows that are owned: appended to, laid open. No program in sight. -/
import Derived.Test.YtomkgfdigldhcaaGreatDoorMG
import Derived.Sort.OwnSorted
namespace Go.KX
/-- Slots that do not speak of the local thing i; what is covered is dropped. -/
def cln (i : Nat) : List Nat → SL → SL
  | _, [] => []
  | seen, (t, sv) :: r => match seen.elem t with
    | true => cln i seen r
    | false => match occ i sv with
      | true => cln i (t :: seen) r
      | false => (t, sv) :: cln i (t :: seen) r
theorem cln_lk {i : Nat} : ∀ {L : SL} {seen : List Nat} {t : Nat} {sv : SV}, lkS (cln i seen L) t = some sv → seen.elem t = false ∧ lkS L t = some sv ∧ occ i sv = false
  | [], seen, t, sv, h => by simp [cln, lkS] at h
  | (u, x) :: r, seen, t, sv, h => by
    unfold cln at h
    cases hs : seen.elem u with
    | true =>
      rw [hs] at h
      obtain ⟨h1, h2, h3⟩ := cln_lk (L := r) h
      have htu : t ≠ u := by rintro rfl; rw [hs] at h1; cases h1
      exact ⟨h1, by rw [lkS_ne _ _ htu]; exact h2, h3⟩
    | false =>
      rw [hs] at h
      cases ho : occ i x with
      | true =>
        rw [ho] at h
        obtain ⟨h1, h2, h3⟩ := cln_lk (L := r) h
        have htu : t ≠ u := by rintro rfl; simp at h1
        have h4 : seen.elem t = false := by simp at h1 ⊢; exact h1.2
        exact ⟨h4, by rw [lkS_ne _ _ htu]; exact h2, h3⟩
      | false =>
        rw [ho] at h
        by_cases htu : t = u
        · subst htu
          simp only [lkS_same] at h
          cases h
          exact ⟨hs, lkS_same _ _ _, ho⟩
        · simp only at h
          rw [lkS_ne _ _ htu] at h
          obtain ⟨h1, h2, h3⟩ := cln_lk (L := r) h
          have h4 : seen.elem t = false := by simp at h1 ⊢; exact h1.2
          exact ⟨h4, by rw [lkS_ne _ _ htu]; exact h2, h3⟩
/-- The block i is there once, and nowhere else spoken of. -/
def onceM (i : Nat) : SM → Bool
  | [] => false
  | (j, m) :: r => match Nat.beq i j with
    | true => !(occM i r)
    | false => !(occM i [(j, m)]) && onceM i r
theorem DenM.setU {g : GW} {ρ : Nat → Lc} : ∀ {M : SM} {ms : List Res} {i : Nat} {mb : MB}, onceM i M = true → DenM g ρ M ms → lkM M i = some mb → ∃ r m1 m2, ms = m1 ++ r :: m2 ∧ DenB g ρ i mb r ∧
    ∀ {β : Type} {mb' : MB} {K : SM → Option β} {res : β}, updK M i mb' K = some res → ∃ M', K M' = some res ∧ ∀ g' y r', DenM g' ρ M (m1 ++ r :: m2) → DenB g' (fun j => if j = i then y else ρ j) i mb' r' → DenM g' (fun j => if j = i then y else ρ j) M' (m1 ++ r' :: m2)
  | [], _, _, _, ho, _, _ => by cases ho
  | (j, m) :: M, _, i, mb, ho, @DenM.cons _ _ _ _ _ r0 ms0 hb t, h => by
    unfold lkM at h
    unfold onceM at ho
    cases hij : Nat.beq i j with
    | true =>
      rw [hij] at h ho
      simp only [Option.some.injEq] at h
      subst h
      have hj := Nat.eq_of_beq_eq_true hij
      subst hj
      refine ⟨r0, [], ms0, rfl, hb, fun {β mb' K res} hu => ?_⟩
      simp only [updK, hij] at hu
      exact ⟨_, hu, fun g' y r' hM hB => by
        cases hM with
        | cons _ t' => exact .cons hB (occ_upd t' (by simpa using ho))⟩
    | false =>
      rw [hij] at h ho
      simp only [Bool.and_eq_true, Bool.not_eq_true'] at ho
      obtain ⟨r, m1, m2, rfl, hB, hu⟩ := DenM.setU (M := M) ho.2 t h
      refine ⟨r, r0 :: m1, m2, rfl, hB, fun {β mb' K res} hu' => ?_⟩
      simp only [updK, hij] at hu'
      obtain ⟨M', h1, h2⟩ := hu hu'
      exact ⟨_, h1, fun g' y r' hM hB => by
        cases hM with
        | cons hb' t' =>
          have := occ_upd (y := y) (.cons hb' .nil : DenM g' ρ [(j, m)] [r0]) ho.1
          cases this with
          | cons hb2 _ => exact .cons hb2 (h2 g' y r' t' hB)⟩
theorem chunks {sz : Nat} (hz : 0 < sz) : ∀ (n : Nat) (xs : List Value), xs.length = n * sz → (∀ u ∈ xs, u.oneCell' = true) → ∃ ys : List (Row sz), ys.length = n ∧ flat (elRow sz hz) ys = xs
  | 0, xs, hl, _ => ⟨[], rfl, by
      have : xs = [] := List.eq_nil_of_length_eq_zero (by simpa using hl)
      rw [this]; rfl⟩
  | n + 1, xs, hl, h1 => by
    have hs : (n + 1) * sz = n * sz + sz := Nat.succ_mul n sz
    obtain ⟨ys, h2, h3⟩ := chunks hz n (xs.drop sz) (by rw [List.length_drop]; omega) (fun u hu => h1 u (List.mem_of_mem_drop hu))
    refine ⟨⟨xs.take sz, by rw [List.length_take]; omega, fun u hu => h1 u (List.mem_of_mem_take hu)⟩ :: ys, by simp [h2], ?_⟩
    simp only [flat, List.flatMap_cons] at h3 ⊢
    rw [h3]
    exact List.take_append_drop _ _
section
variable {X : Kx} {k : List It} {L : SL} {M : SM} {fs : List MF} {own : List Res} {arr : Array Oper} {l : List Oper} {o : Oper}
/-- A nil slice, as rows that are owned. -/
theorem sonl (t i T sz : Nat) (h : ES X arr l k ((t, .o i 0) :: L) ((i, .r T sz []) :: M) fs own) (hi : lkS L t = some (.s 0 []) := by rfl) (hoc : (occSL i L || occM i M) = false := by rfl) (hlt : Nat.blt i 1000 = true := by rfl) (hz : 0 < sz := by decide) : ES X arr l k L M fs own := by
  intro g a s
  obtain ⟨ρ, ms, h1, h2, h3⟩ := s
  simp only [Bool.or_eq_false_iff] at hoc
  have hlt : i < 1000 := by simpa [Nat.blt_eq] using hlt
  let y : Lc := ⟨0, none, 0⟩
  have hB : DenB g (fun j => if j = i then y else ρ j) i (.r T sz []) (Res.arr (elRow sz hz) T ((fun j => if j = i then y else ρ j) i).ad ((fun j => if j = i then y else ρ j) i).c []) := .r hz [] rfl (fun ρ' k x r h => by simp at h)
  simp only [if_pos] at hB
  refine h g a ⟨fun j => if j = i then y else ρ j, Res.arr (elRow sz hz) T none 0 [] :: ms, ⟨h1.kn, h1.all, h1.own.arr_nil (elRow sz hz) T, h1.ext, h1.new⟩, .cons hB (occ_upd h2 hoc.2), fun j hj => ?_, fun u sv hu => ?_⟩
  · have : j ≠ i := by omega
    simp only [if_neg this]; exact h3.pin j hj
  · by_cases hut : u = t
    · subst hut
      rw [lkS_same] at hu
      cases hu
      obtain ⟨x, hx, dx⟩ := h3.val u _ hi
      refine ⟨x, hx, ?_⟩
      cases dx with
      | s xs _ _ _ _ ho _ _ =>
        obtain ⟨rfl, rfl⟩ := ho.2 rfl
        have : Den g (fun j => if j = i then y else ρ j) (.o i 0) (.slice ((fun j => if j = i then y else ρ j) i).ad 0 ((fun j => if j = i then y else ρ j) i).c) := .o
        simpa [y] using this
    · rw [lkS_ne _ _ hut] at hu
      obtain ⟨x, hx, dx⟩ := h3.val u sv hu
      exact ⟨x, hx, dx.upd (occSL_get hoc.1 u sv hu)⟩
theorem eonl (t i T sz : Nat) (h : E X k ((t, .o i 0) :: L) ((i, .r T sz []) :: M) fs own) (hi : lkS L t = some (.s 0 []) := by rfl) (hoc : (occSL i L || occM i M) = false := by rfl) (hlt : Nat.blt i 1000 = true := by rfl) (hz : 0 < sz := by decide) : E X k L M fs own :=
  sonl (arr := #[]) (l := []) t i T sz (ES_nil h) hi hoc hlt hz |> fun h => h
/-- What the rows are. -/
def rowsD {sz : Nat} (ys : List (Row sz)) (rows : List (List SV)) : MF := ⟨fun g => ∀ (ρ' : Nat → Lc) (k : Nat) x r, ys[k]? = some x → rows[k]? = some r → DenL g ρ' r x.1, fun e h ρ' k x r h1 h2 => (h ρ' k x r h1 h2).mono e⟩
/-- Owned rows are laid open: they are never written again. -/
theorem sezo (t : Nat) {i n T sz : Nat} {rows : List (List SV)} (hn : n = rows.length) (h : ES X arr l k ((t, .s sz rows) :: L) (frM i (.r T sz rows) M) fs own) (hi : lkS L t = some (.o i n) := by rfl) (hm : lkM M i = some (.r T sz rows) := by rfl) (hr : ∀ r ∈ rows, r.length = sz) : ES X arr l k L M fs own := by
  intro g a s
  obtain ⟨ρ, ms, st⟩ := s.open
  have hM : DenM g ρ M ms := st.all _ (.head _)
  obtain ⟨r, m1, m2, rfl, hB, hu⟩ := hM.take hm
  have hp : (m1 ++ r :: m2 ++ own).Perm (r :: (m1 ++ m2 ++ own)) := by
    simp only [List.append_assoc, List.cons_append]
    exact List.perm_middle
  cases hB with
  | r hz ys hl hd =>
    have stp0 := st.perm hp
    have stp : St X.toCx [] (rowsD ys rows :: F1 ρ M _ :: F2 X ρ L a :: fs) _ g a := ⟨stp0.kn, All.cons hd stp0.all, stp0.own, stp0.ext, stp0.new⟩
    obtain ⟨g', hw, s'⟩ := stp.publish .head
    have hd' : (rowsD ys rows).p g' := s'.all _ (.tail _ (.head _))
    have hsm : (SlM (elRow sz hz) (ρ i).ad (ρ i).c ys).p g' := s'.all _ (.head _)
    have hSl : Sl X ρ L a g' := s'.all (F2 X ρ L a) (.tail _ (.tail _ (.tail _ (.head _))))
    · have hM2 : DenM g' ρ M (m1 ++ _ :: m2) := s'.all (F1 ρ M _) (.tail _ (.tail _ (.head _)))
      refine hw ▸ h g' a ⟨ρ, m1 ++ m2, ⟨s'.kn, fun f hf => s'.all f (.tail _ (.tail _ (.tail _ (.tail _ hf)))), s'.own, s'.ext, s'.new⟩, hu g' hM2, hSl.pin, fun u sv hu' => ?_⟩
      by_cases hut : u = t
      · subst hut
        rw [lkS_same] at hu'
        cases hu'
        obtain ⟨x, hx, dx⟩ := hSl.val u _ hi
        refine ⟨x, hx, ?_⟩
        cases dx with
        | o =>
          obtain ⟨q1, q2, q3⟩ := hsm
          rw [hn]
          refine .s (flat (elRow sz hz) ys) (by rw [← hl]; exact q1) (by rw [← hl]; exact q2) (by rw [flat_len, hl]; rfl) hr ⟨flat_one _ _, fun h => absurd h (by omega)⟩ (fun hne => ?_) (fun ρ' i' j r' sv' x' h1 h2 h3 => ?_)
          · obtain ⟨b, oo, e1, e2, e3⟩ := q3 (by intro e; apply hne; rw [← List.length_eq_zero_iff, ← hl, e]; rfl)
            exact ⟨b, oo, e1, e2, e3⟩
          · have hlt : i' < ys.length := by
              rw [hl]
              rcases Nat.lt_or_ge i' rows.length with h | h
              · exact h
              · rw [List.getElem?_eq_none h] at h1; cases h1
            have hy := List.getElem?_eq_getElem hlt
            have hdl := hd' ρ' i' _ r' hy h1
            obtain ⟨y, hyj, dy⟩ := hdl.get h2
            have hfl := flat_get (elRow sz hz) ys i' j _ y hy hyj
            rw [show (elRow sz hz).sz = sz from rfl] at hfl
            have : y = x' := Option.some.inj (hfl.symm.trans h3)
            subst this
            exact dy
      · rw [lkS_ne _ _ hut] at hu'
        exact hSl.val u sv hu'
theorem eezo (t : Nat) {i n T sz : Nat} {rows : List (List SV)} (hn : n = rows.length) (h : E X k ((t, .s sz rows) :: L) (frM i (.r T sz rows) M) fs own) (hi : lkS L t = some (.o i n) := by rfl) (hm : lkM M i = some (.r T sz rows) := by rfl) (hr : ∀ r ∈ rows, r.length = sz) : E X k L M fs own :=
  sezo (arr := #[]) (l := []) t hn (ES_nil h) hi hm hr |> fun h => h
/-- append(xs, ys...): xs owned, ys frozen. -/
theorem sap {tb : TT} (hT : tb.Ok X.P) (m : Nat) (H : List (List SV)) {d T Te i n sz z : Nat} {x y : Operand} {rows rows2 : List (List SV)} {dT de : TD} {M2 l' L' M' φ} (hn : n = rows.length) (hz2 : rows2 ≠ [] → z = sz) (hbig : (rows.length + rows2.length) * de.by_ ≤ 140737488355328) (hk : ES X arr l' k L' M' fs own) (ho : o.op = .call ⟨.builtin .append, #[x, y], #[T, T]⟩ := by rfl) (hg : o.guard = none := by rfl) (hd : o.dst = some d := by rfl) (hdn : Nat.blt d X.n = true := by rfl)
    (hx : evS (lkS L) x = some (.o i n) := by rfl) (hy : evS (lkS L) y = some (.s z rows2) := by rfl) (hm : lkM M i = some (.r Te sz rows) := by rfl) (hT1 : tb.get T = some dT := by rfl) (hk1 : dT.kd = .sl Te := by rfl) (hT2 : tb.get Te = some de := by rfl) (hsz : de.sz = sz := by rfl) (hzl : Nat.beq (cellsV (inj de.z)).length de.sz = true := by rfl) (hby : 1 ≤ de.by_ := by decide) (ho1 : onceM i M = true := by rfl) (hi1 : Nat.blt i 1000 = true := by rfl)
    (hu : updK M i (.r Te sz (rows ++ rows2)) some = some M2 := by rfl) (hr : xrun tb X.n arr m H l ((d, .o i (rows ++ rows2).length) :: cln i [] L) M2 [] = some (l', L', M', φ) := by rfl) (hφ : conj φ := by first | trivial | omega | (simp +contextual [conj]; done)) : ES X arr (o :: l) k L M fs own := by
  subst hsz hn
  intro g a hE
  obtain ⟨ρ, ms, st⟩ := hE.open
  have hSl : Sl X ρ L a g := st.all _ (.tail _ (.head _))
  have hw : Region.wanted o (yielded arr a.tmps) = true := live_wanted (L := []) st.kn (live_none hg)
  have hi1 : i < 1000 := by simpa [Nat.blt_eq] using hi1
  have hM : DenM g ρ M ms := st.all _ (.head _)
  obtain ⟨r, m1, m2, rfl, hB, hup⟩ := hM.setU ho1 hm
  obtain ⟨M3, hK, hM3⟩ := hup hu
  cases hK
  have dx := eval_den hSl.val hx
  have dy := eval_den hSl.val hy
  generalize hvx : a.eval x = vx at dx
  generalize hvy : a.eval y = vy at dy
  have u := (TT.get_ok hT hT1).kd
  rw [hk1] at u
  have hti := (TT.get_ok hT hT2).ti
  have hzs : de.z.cells.size = de.sz := cellsV_len (Nat.eq_of_beq_eq_true hzl)
  cases hB with
  | r hz ys hl hdd =>
    cases dx with
    | o =>
      cases dy with
      | s xs h1 h2 hxl hxr hxo hne hxd =>
        rename_i ad2 c2
        have hxl2 : xs.length = rows2.length * de.sz := by
          by_cases he : rows2 = []
          · rw [he] at hxl ⊢; simpa using hxl
          · rw [← hz2 he]; exact hxl
        obtain ⟨ys2, hyl2, hyf⟩ := chunks hz rows2.length xs hxl2 hxo.1
        have hp : (m1 ++ Res.arr (elRow de.sz hz) Te (ρ i).ad (ρ i).c ys :: m2 ++ own).Perm (Res.arr (elRow de.sz hz) Te (ρ i).ad (ρ i).c ys :: (m1 ++ m2 ++ own)) := by
          simp only [List.append_assoc, List.cons_append]
          exact List.perm_middle
        have stp0 := st.perm hp
        have stp : St X.toCx [] (rowsD ys rows :: rowsD ys2 rows2 :: F1 ρ M _ :: F2 X ρ L a :: fs) _ g a := ⟨stp0.kn, All.cons hdd (All.cons (fun ρ' k x r hk hr => by
          have hrl : r.length = de.sz := by
            have hne2 : rows2 ≠ [] := by intro e; subst e; simp at hr
            rw [← hz2 hne2]; exact hxr r (List.mem_of_getElem? hr)
          refine ⟨by rw [x.2.1, hrl], fun j sv v hj hv => ?_⟩
          have hf := flat_get (elRow de.sz hz) ys2 k j x v hk hv
          rw [hyf] at hf
          have hne2 : rows2 ≠ [] := by intro e; subst e; simp at hr
          exact hxd ρ' k j r sv v hr hj (by rw [hz2 hne2]; exact hf)) stp0.all), stp0.own, stp0.ext, stp0.new⟩
        have hown : g.w.ownsRow 0 Te de.sz (.slice (ρ i).ad ys.length (ρ i).c) ys.length (flat (elRow de.sz hz) ys) := stp.own.p _ (.head _)
        have hbig' : (ys.length + rows2.length) * de.by_ ≤ 140737488355328 := by rw [hl]; exact hbig
        have h63 : ys.length + rows2.length ≤ maxLen := by
          have : ys.length + rows2.length ≤ (ys.length + rows2.length) * de.by_ := Nat.le_mul_of_pos_right _ hby
          simp only [maxLen]; omega
        have hrun : ∃ v' w', (Builtin.append_ #[T, T] o.type #[.slice (ρ i).ad ys.length (ρ i).c, .slice ad2 rows2.length c2]).run X.P g.w = .ok v' w' ∧ AppOK g.w w' Te de.sz (.slice (ρ i).ad ys.length (ρ i).c) v' (ys ++ ys2).length (flat (elRow de.sz hz) (ys ++ ys2)) := by
          rw [List.length_append, flat_append, hyl2, hyf]
          cases ad2 with
          | none =>
            have hr2 : rows2 = [] := by
              rcases rows2 with _ | ⟨q, qs⟩
              · rfl
              · obtain ⟨_, _, he, _⟩ := hne (by simp); cases he
            subst hr2
            have hx0 : xs = [] := List.eq_nil_of_length_eq_zero (by simpa using hxl)
            subst hx0
            obtain ⟨i0, hi0, hs0, hb0, hz0⟩ := hti
            refine ⟨.slice (ρ i).ad ys.length (ρ i).c, g.w, ?_, by simpa using hown, ⟨rfl, rfl, rfl, Nat.le_refl _, fun _ _ _ => rfl⟩, fun b hb => .inl hb⟩
            rcases hown.2 with ⟨hv, _⟩ | ⟨gg, cap, cur, hv, _, _, hnc, _⟩
            · injection hv with e1 e2 e3
              simp [Builtin.append_, run_underlying u, sizeOf, typeInfo, hi0, Builtin.lenOf, Builtin.firstCells, e1, e2, e3]
            · injection hv with e1 e2 e3
              subst e3
              simp [Builtin.append_, run_underlying u, sizeOf, typeInfo, hi0, Builtin.lenOf, Builtin.firstCells, e1, hnc, storeCells]
          | some ad2 =>
            exact run_app u hti hzs hz hown hxl2 (fun j v hv => by
              have hne2 : rows2 ≠ [] := by intro e; subst e; simp at hxl2; subst hxl2; simp at hv
              obtain ⟨b, oo, he, _, hc⟩ := hne hne2
              cases he
              rw [addr_add]
              exact hc j v hv) hxo.1 h63 hbig'
        obtain ⟨v', w', hr0, h1'⟩ := hrun
        obtain ⟨ad', c', g', rfl, rfl, s'⟩ := stp.appd .head h1'
        have hre : (execOp a.eval o).run X.P g.w = .ok (.value (.slice ad' (ys ++ ys2).length c')) g'.w := by
          simp only [execOp, ho, resolve]
          simp only [List.map_toArray, List.map_cons, List.map_nil, hvx, hvy, ← hl]
          simp [invoke, builtin, hr0]
        simp only [wl, hw, if_true, wn, hre, hd]
        let y : Lc := ⟨(ρ i).b, ad', c'⟩
        have hd1 : (rowsD ys rows).p g' := s'.all _ (.head _)
        have hd2 : (rowsD ys2 rows2).p g' := s'.all _ (.tail _ (.head _))
        have hSl' : Sl X ρ L a g' := s'.all (F2 X ρ L a) (.tail _ (.tail _ (.tail _ (.head _))))
        have hM' : DenM g' ρ M (m1 ++ _ :: m2) := s'.all (F1 ρ M _) (.tail _ (.tail _ (.head _)))
        have hBn : DenB g' (fun j => if j = i then y else ρ j) i (.r Te de.sz (rows ++ rows2)) (Res.arr (elRow de.sz hz) Te ((fun j => if j = i then y else ρ j) i).ad ((fun j => if j = i then y else ρ j) i).c (ys ++ ys2)) := .r hz (ys ++ ys2) (by simp [hl, hyl2]) (fun ρ' k x r hk hr => by
          rw [List.getElem?_append] at hk hr
          rw [hl] at hk
          split at hr
          · rename_i hlt; rw [if_pos hlt] at hk; exact hd1 ρ' k x r hk hr
          · rename_i hlt; rw [if_neg hlt] at hk; exact hd2 ρ' _ x r hk hr)
        simp only [if_pos] at hBn
        have hMn := hM3 g' y _ hM' (by simpa using hBn)
        have hp2 : (Res.arr (elRow de.sz hz) Te ad' c' (ys ++ ys2) :: (m1 ++ m2 ++ own)).Perm (m1 ++ Res.arr (elRow de.sz hz) Te ad' c' (ys ++ ys2) :: m2 ++ own) := by
          simp only [List.append_assoc, List.cons_append]
          exact List.perm_middle.symm
        have s2 := s'.perm hp2
        have s3 : St X.toCx [] (F1 (fun j => if j = i then y else ρ j) M2 (m1 ++ Res.arr (elRow de.sz hz) Te ad' c' (ys ++ ys2) :: m2) :: F2 X (fun j => if j = i then y else ρ j) (cln i [] L) a :: fs) (m1 ++ Res.arr (elRow de.sz hz) Te ad' c' (ys ++ ys2) :: m2 ++ own) g' a := ⟨s2.kn, All.cons hMn (All.cons ⟨fun j hj => by
            have : j ≠ i := by omega
            simp only [if_neg this]; exact hSl'.pin j hj, fun t sv ht => by
            obtain ⟨_, h3, h4⟩ := cln_lk ht
            obtain ⟨x, hx, dx⟩ := hSl'.val t sv h3
            exact ⟨x, hx, dx.upd h4⟩⟩ (fun f hf => s2.all f (.tail _ (.tail _ (.tail _ (.tail _ hf)))))), s2.own, s2.ext, s2.new⟩
        refine go hT m H hk hr hφ g' _ (ESt.put s3 hdn ?_)
        have hlen : (ys ++ ys2).length = (rows ++ rows2).length := by simp [hl, hyl2]
        rw [hlen]
        have : Den g' (fun j => if j = i then y else ρ j) (.o i (rows ++ rows2).length) (.slice ((fun j => if j = i then y else ρ j) i).ad (rows ++ rows2).length ((fun j => if j = i then y else ρ j) i).c) := .o
        simpa [y] using this
end
end Go.KX
/- Lists of texts, sorted and made thin in place: the library's contracts, on symbolic values. -/
namespace Go.KX
abbrev rowsB (l : List Bytes) : List (List SV) := l.map fun s => [.str s]
theorem rowsB_ys {g : GW} {ys : List (Row 1)} {l : List Bytes} (hl : ys.length = (rowsB l).length) (hd : ∀ (ρ' : Nat → Lc) (k : Nat) x r, ys[k]? = some x → (rowsB l)[k]? = some r → DenL g ρ' r x.1) : flat (elRow 1 (by decide)) ys = l.map str := by
  apply List.ext_getElem?
  intro k
  have hfl : (flat (elRow 1 (by decide)) ys).length = ys.length := by rw [flat_len]; simp [elRow]
  by_cases hk : k < ys.length
  · have hkl : k < l.length := by rw [hl] at hk; simpa using hk
    have hy := List.getElem?_eq_getElem hk
    have hr : (rowsB l)[k]? = some [.str l[k]] := by simp [hkl]
    have := hd (fun _ => ⟨0, none, 0⟩) k _ _ hy hr
    obtain ⟨x, r, hx, dx, hr2⟩ := this.uncons
    have hx0 : (ys[k]).1[0]? = some x := by rw [hx]; rfl
    have hf := flat_get (elRow 1 (by decide)) ys k 0 _ x hy hx0
    rw [show (elRow 1 (by decide)).sz = 1 from rfl, Nat.mul_one, Nat.add_zero] at hf
    rw [hf, den_str dx]
    simp [hkl]
  · have hyl : ys.length = l.length := by simpa using hl
    rw [List.getElem?_eq_none (by omega), List.getElem?_eq_none (by simp; omega)]
/-- Texts, as rows of one cell. -/
def rowOf (s : Bytes) : Row 1 := ⟨[str s], rfl, fun u hu => by simp at hu; subst hu; rfl⟩
theorem flat_rowOf (l : List Bytes) : flat (elRow 1 (by decide)) (l.map rowOf) = l.map str := by
  induction l with
  | nil => rfl
  | cons s r ih =>
    simp only [flat, List.map_cons, List.flatMap_cons] at ih ⊢
    rw [ih]
    rfl
theorem rowOf_den {g : GW} {l : List Bytes} : ∀ (ρ' : Nat → Lc) (k : Nat) x r, (l.map rowOf)[k]? = some x → (rowsB l)[k]? = some r → DenL g ρ' r x.1 := by
  intro ρ' k x r hx hr
  simp only [List.getElem?_map, Option.map_eq_some_iff] at hx hr
  obtain ⟨s, hs, rfl⟩ := hx
  obtain ⟨s', hs', rfl⟩ := hr
  rw [hs] at hs'
  cases hs'
  exact DenL.cons .str DenL.nil
abbrev sortL (l : List Bytes) : List Bytes := l.mergeSort fun x y => decide (x ≤ y)
theorem sortL_len (l : List Bytes) : (sortL l).length = l.length := (List.mergeSort_perm l _).length_eq
theorem keeps_succ {l : List Bytes} {a : Bytes} (j : Nat) : Lib.keeps (a :: l).toArray (j + 1) = decide (l[j]! ≠ (a :: l)[j]!) := by simp [Lib.keeps]
/-- Runs of equal elements, one of each. -/
def cmpP : Bytes → List Bytes → List Bytes
  | _, [] => []
  | a, b :: r => if b = a then cmpP b r else b :: cmpP b r
def cmpB : List Bytes → List Bytes
  | [] => []
  | a :: r => a :: cmpP a r
theorem cmpP_eq : ∀ (r : List Bytes) (a : Bytes), ((List.range r.length).filter (fun j => decide (r[j]! ≠ (a :: r)[j]!))).map (r[·]!) = cmpP a r
  | [], _ => rfl
  | b :: r, a => by
    have ih := cmpP_eq r b
    simp only [List.length_cons, List.range_succ_eq_map, List.filter_cons, List.filter_map, Function.comp_def, Nat.succ_eq_add_one]
    simp only [List.getElem!_cons_succ, List.getElem!_cons_zero] at ih ⊢
    unfold cmpP
    by_cases h : b = a
    · simp only [h, ne_eq, not_true_eq_false, decide_false, Bool.false_eq_true, if_false, if_true]
      rw [h] at ih
      simp only [List.map_map, Function.comp_def, Nat.succ_eq_add_one, List.getElem!_cons_succ]
      exact ih
    · simp only [h, ne_eq, not_false_eq_true, decide_true, if_true, if_false, List.map_cons, List.map_map, Function.comp_def, List.getElem!_cons_succ, List.getElem!_cons_zero]
      exact congrArg (b :: ·) ih
theorem compactB_eq (l : List Bytes) : Lib.compact l = cmpB l := by
  cases l with
  | nil => rfl
  | cons a r =>
    have ih := cmpP_eq r a
    simp only [Lib.compact, Lib.compactUpTo, List.length_cons, List.range_succ_eq_map, List.filter_cons, List.filter_map, Function.comp_def, Nat.succ_eq_add_one]
    have h0 : Lib.keeps (a :: r).toArray 0 = true := by simp [Lib.keeps]
    simp only [h0, keeps_succ, if_true, List.map_cons, List.map_map, Function.comp_def]
    show _ = a :: cmpP a r
    rw [← ih]
    simp
theorem cmpP_len : ∀ (r : List Bytes) (a : Bytes), (cmpP a r).length ≤ r.length
  | [], _ => Nat.le_refl _
  | b :: r, a => by
    have := cmpP_len r b
    unfold cmpP
    split <;> simp <;> omega
theorem cmpB_len (l : List Bytes) : (cmpB l).length ≤ l.length := by
  cases l with
  | nil => exact Nat.le_refl _
  | cons a r => have := cmpP_len r a; simp [cmpB]; exact this
end Go.KX
namespace Go.Proofs.YtomkgfdigldhcaaGreatDoor
open Go.KX Go.RowKit Go.Sort
/-- One list that is handed over, and turned in place. -/
theorem Fp_list {f : FuncId} (hc : Callable Tryz.prog f) {l l' : List Bytes} {res : SV} (hll : l'.length ≤ l.length)
    (h0 : l = [] → ∀ w, ∀ c, Calls Tryz.prog f #[.slice none 0 c] w fun e w' => ∃ v, e = .returned v ∧ w' = w ∧ ∀ g ρ, (ρ 1000).ad = none → (ρ 1000).c = c → Den g ρ res v)
    (h1 : ∀ (g : GW) gg c (cur : Array Value), g.w.heap[gg]? = some (.cells cur 9 (0, 0)) → l.length ≤ c → c ≤ maxLen → cur.size = c → cur.toList.take l.length = l.map encStr → Calls Tryz.prog f #[.slice (some ⟨gg, 0, none⟩) l.length c] g.w fun e w' => ∃ v, e = .returned v ∧ (∀ g ρ, (ρ 1000).ad = some ⟨gg, 0, none⟩ → (ρ 1000).c = c → Den g ρ res v) ∧ g.w.grownBy w' (some gg) ∧ ∃ cur', w'.heap[gg]? = some (.cells cur' 9 (0, 0)) ∧ cur'.size = c ∧ cur'.toList.take l'.length = l'.map encStr) :
    Fp Tryz.prog gT f [.o 1000 l.length] (.r 9 1 (rowsB l)) res (.r 9 1 (rowsB l')) := by
  refine ⟨hc, fun ρ g vs ms hf ha hM ho => ?_⟩
  obtain ⟨v0, r0, rfl, dv, dr⟩ := ha.uncons
  obtain rfl := dr.unnil
  cases hM with
  | cons hB ht =>
    cases ht
    cases hB with
    | r hz ys hl hd =>
      cases dv with
      | o =>
        have hfl := rowsB_ys hl hd
        obtain ⟨q1, q2⟩ := ho.p _ (.head _)
        have hyl : ys.length = l.length := by simpa using hl
        have hzz : hz = (by decide) := rfl
        rcases q2 with ⟨hv, hn⟩ | ⟨gg, cap, cur, hv, hbase, hgg, r1, r2, r3, r4⟩
        · injection hv with e1 e2 e3
          have hl0 : l = [] := List.eq_nil_of_length_eq_zero (by omega)
          have hl'0 : l' = [] := List.eq_nil_of_length_eq_zero (by rw [hl0] at hll; simpa using hll)
          have ea : (#[.slice (ρ 1000).ad l.length (ρ 1000).c] : Array Value) = #[.slice none 0 (ρ 1000).c] := by rw [e1, hl0]; rfl
          show Calls _ _ #[.slice (ρ 1000).ad l.length (ρ 1000).c] _ _
          rw [ea]
          refine (h0 hl0 g.w (ρ 1000).c).mono ?_
          rintro e w' ⟨v, rfl, rfl, hden⟩
          refine ⟨v, g, res, [(1000, .r 9 1 (rowsB l'))], _, rfl, rfl, Ext.refl _ g, ⟨rfl, rfl⟩, hden g ρ e1 rfl, .cons (.r hz ys ?_ ?_) .nil, ho, fun _ h => .inl h⟩
          · rw [hl, hl0, hl'0]
          · rw [hl'0]; intro ρ' k x r hx hr; simp at hr
        · injection hv with e1 e2 e3
          have ea : (#[.slice (ρ 1000).ad l.length (ρ 1000).c] : Array Value) = #[.slice (some ⟨gg, 0, none⟩) l.length cap] := by rw [e1, e3]
          show Calls _ _ #[.slice (ρ 1000).ad l.length (ρ 1000).c] _ _
          rw [ea]
          have r4' : cur.toList.take l.length = l.map encStr := by
            have h5 := r4
            rw [hfl, hyl] at h5
            have h6 : cur.toList.take l.length = l.map str := by simpa [elRow] using h5
            exact h6
          refine (h1 g gg cap cur hgg (by omega) r2 (by simpa [elRow] using r3) r4').mono ?_
          rintro e w' ⟨v, rfl, hden, hg, cur', hc1, hc2, hc3⟩
          have hbs : (Res.arr (elRow 1 hz) 9 (ρ 1000).ad (ρ 1000).c ys).bs = [gg] := by simp [Res.arr, vbs, e1]
          have hlt : gg < g.w.heap.size := ho.lt gg (by simp [hbs])
          have hnf : ¬ g.fz gg := ho.nfz gg (by simp [hbs])
          let g' : GW := ⟨w', g.fz, fun x hx => Nat.lt_of_lt_of_le (g.lt x hx) hg.size⟩
          have hE : Ext (blks [Res.arr (elRow 1 hz) 9 (ρ 1000).ad (ρ 1000).c ys]) g g' := ⟨⟨hg.os, hg.tape, hg.output, hg.size, fun _ h => h, fun x hf => hg.block x (g.lt x hf) (fun e => hnf (by cases e; exact hf))⟩, fun x h hn => hg.block x h (fun e => hn (by cases e; simp [hbs])), fun _ _ _ h => h⟩
          have hbs' : (Res.arr (elRow 1 hz) 9 (ρ 1000).ad (ρ 1000).c (l'.map rowOf)).bs = [gg] := by simp [Res.arr, vbs, e1]
          refine ⟨v, g', res, [(1000, .r 9 1 (rowsB l'))], [Res.arr (elRow 1 hz) 9 (ρ 1000).ad (ρ 1000).c (l'.map rowOf)], rfl, rfl, hE, ⟨rfl, rfl⟩, hden g' ρ e1 e3, .cons (.r hz _ (by simp) rowOf_den) .nil, ⟨fun x hx => ?_, by simp [hbs'], fun x hx => ?_, fun x hx => ?_⟩, fun x hx => .inl (by simpa [hbs, hbs'] using hx)⟩
          · rcases List.mem_singleton.1 hx with rfl
            refine ⟨by rw [flat_len], .inr ⟨gg, cap, cur', by rw [e1, e3], Nat.zero_le _, hc1, by simp; omega, r2, by simpa [elRow] using hc2, ?_⟩⟩
            have := flat_rowOf l'
            show cur'.toList.take ((l'.map rowOf).length * 1) = flat (elRow 1 hz) (l'.map rowOf)
            rw [this, Nat.mul_one, List.length_map]
            exact hc3
          · have : x = gg := by simpa [hbs'] using hx
            subst this; exact Nat.lt_of_lt_of_le hlt hg.size
          · have : x = gg := by simpa [hbs'] using hx
            subst this; exact hnf
theorem sortB_ok {l : List Bytes} (hl : l.length ≤ 100000000000) : Fp Tryz.prog gT 68 [.o 1000 l.length] (.r 9 1 (rowsB l)) (.t []) (.r 9 1 (rowsB (sortL l))) := by
  refine Fp_list ⟨_, Tryz.func68, rfl, by kernel_rfl⟩ (by rw [sortL_len]; exact Nat.le_refl _) (fun h0 w c => ?_) (fun g gg c cur hgg r1 r2 r3 r4 => ?_)
  · refine (Tryz.slices_Sort_string_none none c w).mono ?_
    rintro e w' ⟨rfl, rfl⟩
    exact ⟨_, rfl, rfl, fun g ρ _ _ => .t [] rfl (fun j sv x h => by simp at h)⟩
  · have hH : Holds encStr g.w gg 0 l.toArray := holds_of_block hgg r4
    have hlt := (Array.getElem?_eq_some_iff.1 hgg).1
    refine (Tryz.slices_Sort_string gg 0 c l g.w hH hlt (by omega)).mono ?_
    rintro e w' ⟨rfl, k, os, rfl⟩
    refine ⟨_, rfl, fun g ρ _ _ => .t [] rfl (fun j sv x h => by simp at h), grownBy_sorted _, putCells encStr 0 (sortL l).toArray cur, heap_sorted _ hgg, by simp [putCells, r3], take_putCells cur (sortL l) (by rw [sortL_len]; omega)⟩
theorem compactB_ok {l : List Bytes} (hl : l.length ≤ 100000000000) : Fp Tryz.prog gT 69 [.o 1000 l.length] (.r 9 1 (rowsB l)) (.o 1000 (cmpB l).length) (.r 9 1 (rowsB (cmpB l))) := by
  refine Fp_list ⟨_, Tryz.func69, rfl, by kernel_rfl⟩ (cmpB_len l) (fun h0 w c => ?_) (fun g gg c cur hgg r1 r2 r3 r4 => ?_)
  · refine (Tryz.slices_Compact_string_empty none c w).mono ?_
    rintro e w' ⟨rfl, rfl⟩
    refine ⟨_, rfl, rfl, fun g ρ h1 h2 => ?_⟩
    rw [h0, ← h1, ← h2]
    exact .o
  · have hH : Holds encStr g.w gg 0 l.toArray := holds_of_block hgg r4
    refine (Tryz.slices_Compact_string gg 0 c l g.w hH (by omega) r1).mono ?_
    rintro e w' ⟨rfl, q, rfl⟩
    rw [compactB_eq]
    have hcl := cmpB_len l
    obtain ⟨ts, hts⟩ : ∃ ts, cmpB l ++ List.replicate (l.length - (cmpB l).length) [] = ts := ⟨_, rfl⟩
    have htl : ts.length = l.length := by rw [← hts]; simp; omega
    rw [hts]
    have hg0 : grow (putRow encStr (Sort.ahead g.w q) gg 0 ts.toArray) #[] = putRow encStr (Sort.ahead g.w q) gg 0 ts.toArray := by
      unfold grow
      simp only [Array.append_empty]
    refine ⟨_, rfl, fun g ρ h1 h2 => by rw [← h1, ← h2]; exact .o, ?_, putCells encStr 0 ts.toArray cur, ?_, by simp [putCells, r3], ?_⟩
    · have := grownBy_sorted (w := g.w) (g := gg) (n := q) (os := #[]) ts.toArray
      rw [hg0] at this
      exact this
    · have := heap_sorted (n := q) (os := #[]) ts.toArray hgg
      rw [hg0] at this
      exact this
    · have h12 := congrArg (List.take (cmpB l).length) (take_putCells cur ts (by omega))
      rw [List.take_take, Nat.min_eq_left (by omega), ← hts, List.map_append] at h12
      rw [← hts, h12]
      exact List.take_left' (by simp)
end Go.Proofs.YtomkgfdigldhcaaGreatDoor
/- Plain: how great a tree is; the refs in it. No program in sight. -/
namespace Go.KX
mutual
def exSize : Ex → Nat
  | .mk _ _ _ l => 1 + exSizes l
def exSizes : List Ex → Nat
  | [] => 0
  | x :: r => exSize x + exSizes r
end
theorem exSize_eq (x : Ex) : exSize x = 1 + exSizes x.kids := by cases x; rfl
theorem exSize_kid : ∀ {l : List Ex} {j : Nat} (h : j < l.length), exSize l[j] ≤ exSizes l
  | x :: r, 0, _ => by simp [exSizes]
  | x :: r, j + 1, h => by
    have := exSize_kid (l := r) (j := j) (by simpa using h)
    simp only [List.getElem_cons_succ, exSizes]
    omega
/-- A tree costs two for each byte, at most. -/
def Sz (s : Bytes) (f : Ps → Ex × Ps) : Prop := ∀ p, p.i ≤ s.length → exSize (f p).1 + 2 * p.i ≤ 2 * (f p).2.i + 1
variable {s : Bytes}
theorem exs0 : exSize ex0 = 1 := rfl
theorem exsN (v : Val) : exSize (exN v) = 1 := rfl
theorem exsR (w : Bytes) : exSize (exR w) = 1 := rfl
theorem exs1 (o : Bytes) (x : Ex) : exSize (exC o [x]) = 1 + exSize x := by simp [exSize, exSizes]
theorem exs2 (o : Bytes) (x y : Ex) : exSize (exC o [x, y]) = 1 + (exSize x + exSize y) := by simp [exSize, exSizes]
theorem loop_sz {f : Ps → Ex × Ps} (hf : Fit s f) (hs : Sz s f) {ops : List Bytes} {alone : Bool} {i0 : Nat} : ∀ (n : Nat) (x : Ex) (p : Ps), p.i ≤ s.length → exSize x + 2 * i0 ≤ 2 * p.i + 1 → exSize (loopG (tkX s) f ops alone n x p).1 + 2 * i0 ≤ 2 * (loopG (tkX s) f ops alone n x p).2.i + 1
  | 0, x, p, h, h2 => h2
  | n + 1, x, p, h, h2 => by
    have h1 := take_fit (l := ops) h
    unfold loopG
    simp only
    split
    · simp only; omega
    · rename_i o ho
      have h3 := take_more ho
      have h4 := hf _ h1.2
      have h5 := hs _ h1.2
      split
      · rw [exs2]; simp only; omega
      · exact loop_sz hf hs n _ _ h4.2 (by rw [exs2]; omega)
theorem lev_sz {f : Ps → Ex × Ps} (hf : Fit s f) (hs : Sz s f) : ∀ n, Sz s (levX s f n)
  | 0 => hs
  | n + 1 => fun p h => by
    have h1 := lev_fit hf n p h
    have h2 := lev_sz hf hs n p h
    exact loop_sz (lev_fit hf n) (lev_sz hf hs n) _ _ _ h1.2 h2
theorem expr_sz {f : Ps → Ex × Ps} (hf : Fit s f) (hs : Sz s f) (d : Nat) : Sz s (exprX s f d) := fun p h => by
  have h1 := enter_fit (d := d) h
  have h2 := lev_sz hf hs 5 _ h1.2
  show exSize (levX s f 5 (enterP s d p)).1 + 2 * p.i ≤ 2 * (levX s f 5 (enterP s d p)).2.i + 1
  omega
theorem par_sz {f : Ps → Ex × Ps} (hf : Fit s f) (hs : Sz s f) : Sz s (parX s f) := fun p h => by
  have h1 := hf p h
  have h2 := must_fit (x := oPR) h1.2
  have h3 := hs p h
  show exSize (f p).1 + 2 * p.i ≤ 2 * (mustP s oPR (f p).2).i + 1
  omega
variable {pv : Bytes → Val × Int}
theorem word_sz {f : Ps → Ex × Ps} (hf : Fit s f) (hs : Sz s f) {r : Bytes} {p : Ps} (h : p.i + r.length ≤ s.length) (h1 : 1 ≤ runB gLD r) : exSize (wordX s f r p).1 + 2 * p.i ≤ 2 * (wordX s f r p).2.i + 1 := by
  have hr := runB_le gLD r
  have hl : (r.take (runB gLD r)).length = runB gLD r := by simp; omega
  have key : ∀ (w : Bytes) (q : Ps), q.i = p.i + runB gLD r → exSize (exC w [(parX s f (mustP s oPL q)).1]) + 2 * p.i ≤ 2 * (parX s f (mustP s oPL q)).2.i + 1 := by
    intro w q hq
    have hq2 : q.i ≤ s.length := by omega
    have h2 := must_fit (x := oPL) hq2
    have h3 := par_sz hf hs _ h2.2
    rw [exs1]
    omega
  unfold wordX
  simp only [hl]
  split
  · rw [exsN]; simp only; omega
  split
  · rw [exsN]; simp only; omega
  split
  · rw [exsN]; simp only; omega
  refine key _ _ ?_
  split
  · rfl
  · rw [fails_i]
theorem let_run {c : UInt8} {r : Bytes} (h : c ∈ gLet) : 1 ≤ runB gLD (c :: r) := by
  have : c ∈ gLD := by
    have : ∀ x ∈ gLet, x ∈ gLD := by decide
    exact this c h
  unfold runB
  rw [if_pos this]
  omega
theorem prim_sz {f : Ps → Ex × Ps} (hf : Fit s f) (hs : Sz s f) : Sz s (primX pv s f) := fun p h => by
  have h1 := rest_ge (s := s) p
  have h2 := rest_le (s := s) h
  have h3 := restT_len (s := s) h
  unfold primX
  simp only
  cases p.dead with
  | true => simp only [exs0]; omega
  | false =>
    cases hr : p.restT s with
    | nil => simp only [exs0]; rw [fails_i]; omega
    | cons c r =>
      rw [hr] at h3
      simp only [List.length_cons] at h3
      simp only
      split
      · have := par_sz hf hs { p.restP s with i := (p.restP s).i + 1 } (by show (p.restP s).i + 1 ≤ _; omega)
        simp only at this
        omega
      split
      · unfold refX
        simp only [exsR]
        omega
      split
      · unfold numberX
        simp only [exsN]
        omega
      split
      · rename_i hle
        have := word_sz hf hs (r := c :: r) (p := p.restP s) (by simp only [List.length_cons]; omega) (let_run hle)
        omega
      · simp only [exs0]; rw [fails_i]; omega
theorem un_sz : ∀ d, Sz s (unX pv s d)
  | 0 => fun p h => by
    have h1 := enter_fit (d := 33) h
    have h2 := take_fit (l := [oSub, oNot]) h1.2
    have h3 := prim_sz (pv := pv) (f := fun q => (ex0, q)) (fun q hq => ⟨Nat.le_refl _, hq⟩) (fun q hq => by simp only [exs0]; omega) _ h2.2
    unfold unX
    omega
  | d + 1 => fun p h => by
    have h1 := enter_fit (d := 32 - d) h
    have h2 := take_fit (l := [oSub, oNot]) h1.2
    unfold unX
    split
    · rename_i o ho
      have h3 := un_sz d _ h2.2
      have h4 := take_more ho
      simp only [exs1]
      omega
    · have h3 := prim_sz (pv := pv) (expr_fit (un_fit d) (33 - d)) (expr_sz (un_fit d) (un_sz d) (33 - d)) _ h2.2
      omega
theorem parse_sz : exSize (parseX pv s).1 ≤ 2049 := by
  unfold parseX
  split
  · simp only [exs0]; omega
  · rename_i hs
    have h1 := expr_sz (s := s) (un_fit (pv := pv) 33) (un_sz 33) 0 ⟨0, 0, 0, false⟩ (Nat.zero_le _)
    have h2 := expr_fit (s := s) (un_fit (pv := pv) 33) 0 ⟨0, 0, 0, false⟩ (Nat.zero_le _)
    simp only at h1 h2 ⊢
    repeat' split
    all_goals first | (simp only [exs0]; omega) | omega
/-! ### Refs -/
mutual
def refsX : Ex → List Bytes
  | .mk k n _ l => if k = 2 then [n] else cmpB (sortL (refsL l))
def refsL : List Ex → List Bytes
  | [] => []
  | x :: r => refsX x ++ refsL r
end
theorem refsX_eq (x : Ex) : refsX x = if x.kind = 2 then [x.name] else cmpB (sortL (refsL x.kids)) := by cases x; rfl
theorem refsL_app : ∀ (a b : List Ex), refsL (a ++ b) = refsL a ++ refsL b
  | [], b => rfl
  | x :: r, b => by simp [refsL, refsL_app r b]
theorem refsL_next {l : List Ex} {j : Nat} (hj : j < l.length) : refsL (l.take (j + 1)) = refsL (l.take j) ++ refsX l[j] := by
  rw [List.take_succ_eq_append_getElem hj, refsL_app]
  simp [refsL]
mutual
theorem refs_len : ∀ x : Ex, (refsX x).length ≤ exSize x
  | .mk k n v l => by
    have h := refs_lens l
    have h1 := cmpB_len (sortL (refsL l))
    rw [sortL_len] at h1
    unfold refsX exSize
    split
    · simp
    · omega
theorem refs_lens : ∀ l : List Ex, (refsL l).length ≤ exSizes l
  | [] => Nat.le_refl _
  | x :: r => by
    have h1 := refs_len x
    have h2 := refs_lens r
    simp only [refsL, exSizes, List.length_append]
    omega
end
theorem exSizes_take {l : List Ex} (j : Nat) : exSizes (l.take j) ≤ exSizes l := by
  induction l generalizing j with
  | nil => simp
  | cons x r ih =>
    cases j with
    | zero => simp [exSizes]
    | succ j =>
      have := ih j
      simp only [List.take_succ_cons, exSizes]
      omega
theorem kids_len : ∀ l : List Ex, l.length ≤ exSizes l
  | [] => Nat.le_refl _
  | x :: r => by
    have := kids_len r
    have h2 := exSize_eq x
    simp only [List.length_cons, exSizes]
    omega
theorem rowsB_len {l : List Bytes} : ∀ r ∈ rowsB l, r.length = 1 := fun r hr => by
  obtain ⟨s, _, rfl⟩ := List.mem_map.1 hr
  rfl
end Go.KX
/- Structs compared where the order is drawn; fields of more kinds. No program in sight. -/
namespace Go.KX
section
variable {X : Kx} {k : List It} {L : SL} {M : SM} {fs : List MF} {own : List Res} {arr : Array Oper} {l : List Oper} {o : Oper}
theorem dsq {tb : TT} (hT : tb.Ok X.P) (m : Nat) (H : List (List SV)) (ne : Bool) {un i : Nat} {D rr π' : List Nat} {Ms Ms' : List SM} {b : Bool} {d T yT : Nat} {x y : Operand} {svs cs ds : List SV} {xs ys : List Value} {fl : Array Field} {G : Option Bool} {L' M' φ ψ} (hu : X.P.underlying T = some (.struct fl)) (hp : X.P.stoodInHeld T = false)
    (hr : ∀ w, (Op.eqFields 9999 xs.toArray ys.toArray fl.toList).run X.P w = .ok b w) (hk : ED X arr k fs own un D π' L' M' Ms') (hi : arr[i]? = some o := by rfl) (hun : un.testBit i = false := by rfl) (hG : gS arr (lkS L) o = some G := by rfl) (hd : o.dst = some d := by rfl) (hn : Nat.blt d X.n = true := by rfl) (ho : o.op = .binOp (neO ne) T x y yT := by rfl)
    (hev : evs (lkS L) [x, y] = some svs := by rfl) (hst : svs.map st1 = [.a cs, .a ds] := by rfl) (v1 : valsL cs = some xs := by rfl) (v2 : valsL ds = some ys := by rfl)
    (hm : ∀ w, (eqGuard (neO ne) T x y (.agg xs.toArray) (.agg ys.toArray)).run X.P w = .ok () w := by intro w; kernel_rfl)
    (hc : wq G (svs.flatMap cd1) = ψ := by rfl) (hψ : conj ψ := by first | trivial | exact id | exact ⟨id, id⟩ | (simp +contextual [conj]; done) | simp_all [conj])
    (hrn : xdrw tb X.n arr un D m H rr ((d, wr G (.v (.bool (neB ne b)))) :: L) M Ms [] = some (π', L', M', Ms', φ) := by rfl) (hφ : conj φ := by first | trivial | omega | (simp +contextual [conj]; done) | (simp +contextual [conj, *]; done) | (simp +contextual [conj, *] <;> omega)) : ED X arr k fs own un D (i :: rr) L M Ms := by
  refine ⟨o, wr G (.v (.bool (neB ne b))), hi, ?_⟩
  rw [hun]
  refine ⟨.inr (fun M' => Stp_eqS (ne := ne) hG hd hn ho hev hst (by rw [hc]; exact conj_all hψ) v1 v2 hu hp hm hr), ?_⟩
  rw [hd]
  exact xd hT m H hk hrn hφ
/-- A plain value, put together with a constant. -/
theorem knc {tb : TT} (hT : tb.Ok X.P) (m : Nat) (H : List (List SV)) {d T yT : Nat} {op : BinOp} {x : Operand} {vx c : Value} (v : Value) {l' L' M' φ} (hr : ∀ w, (binOp op T vx c).run X.P w = .ok v w) (hk : ES X arr l' k L' M' fs own) (ho : o.op = .binOp op T x (.const c) yT := by rfl)
    (hx : evS (lkS L) x = some (.v vx) := by rfl) (he : ∀ w, (eqGuard op T x (.const c) vx c).run X.P w = .ok () w := by intro w; rfl)
    (hg : o.guard = none := by rfl) (hd : o.dst = some d := by rfl) (hn : Nat.blt d X.n = true := by rfl) (hrn : xrun tb X.n arr m H l ((d, .v v) :: L) M [] = some (l', L', M', φ) := by rfl)
    (hφ : conj φ := by first | trivial | omega | (simp +contextual [conj]; done)) : ES X arr (o :: l) k L M fs own := by
  have hG : gS arr (lkS L) o = some none := by unfold gS; rw [hg]
  refine ES_step (Stp_read (sv := .v v) hG hd hn (fun L' hL hon g a ρ ms st => ⟨v, ?_, .v⟩)) ?_
  · have hSl : Sl X ρ L' a g := st.all _ (.tail _ (.head _))
    have hev : evs (lkS L') [x] = some [.v vx] := by
      have h2 : o.op.operands.toList = [x, .const c] := by rw [ho]; rfl
      have h3 : evs (lkS L') [x] = evs (lkS L) [x] := evs_agree (fun t ht => hL t (by
        refine List.mem_append_left _ ?_
        rw [h2]
        cases x with
        | tmp u => simpa [tmpOf] using ht
        | _ => simp [tmpOf] at ht))
      rw [h3]
      simp only [evs, hx]
    obtain ⟨_, _, e1, dx, _⟩ := (evals_den hSl.val hev).uncons
    simp only [List.map_cons, List.cons.injEq] at e1
    obtain ⟨rfl, _⟩ := e1
    have e2 : a.eval (.const c) = c := rfl
    simp only [execOp, ho, den_v dx, e2]
    simp [hr g.w, he g.w]
  · rw [hd]
    exact go hT m H hk hrn hφ
end
theorem eqF_bool {P : Program} {w : World} {d : Nat} {xs ys : Array Value} {f : Field} {r : List Field} {p q : Bool} (hn : f.name ≠ "_") (u : P.underlying f.type = some .bool) (hx : xs[f.offset]? = some (.bool p)) (hy : ys[f.offset]? = some (.bool q)) :
    (Op.eqFields (d + 1) xs ys (f :: r)).run P w = if p = q then (Op.eqFields (d + 1) xs ys r).run P w else .ok false w := by
  simp only [Op.eqFields, hn, if_true, ne_eq, not_false_eq_true, Sem.run_bind, run_part1 u rfl hx, run_part1 u rfl hy, Result.andThen_ok, run_equalIn_bool w d f.type p q u]
  by_cases h : p = q <;> simp [h]
theorem run_partS {P : Program} {w : World} {t sz by_ : Nat} {z : Value} {d : TypeDesc} {cs : Array Value} {off : Nat} (u : P.underlying t = some d) (hd : aggD d = true) (i : TI P t sz by_ z) : (part t cs off).run P w = .ok (.agg (cs.extract off (off + sz))) w := by
  have hag := run_isAgg (P := P) (w := w) u
  rw [hd] at hag
  simp [part, hag, run_sizeOf i]
theorem eqF_st {P : Program} {w : World} {d sz by_ : Nat} {z : Value} {xs ys : Array Value} {f : Field} {r : List Field} {fl : Array Field} {b : Bool} (hn : f.name ≠ "_") (u : P.underlying f.type = some (.struct fl)) (hp : P.stoodInHeld f.type = false) (i : TI P f.type sz by_ z)
    (hb : (Op.eqFields d (xs.extract f.offset (f.offset + sz)) (ys.extract f.offset (f.offset + sz)) fl.toList).run P w = .ok b w) :
    (Op.eqFields (d + 1) xs ys (f :: r)).run P w = if b = true then (Op.eqFields (d + 1) xs ys r).run P w else .ok false w := by
  have hf : P.fieldsOf f.type = fl := by simp [Program.fieldsOf, u]
  have he := run_equalIn_struct w d f.type (xs.extract f.offset (f.offset + sz)) (ys.extract f.offset (f.offset + sz)) (by rw [hf]; exact u) hp
  rw [hf, hb] at he
  simp only [Op.eqFields, hn, if_true, ne_eq, not_false_eq_true, Sem.run_bind, run_partS u rfl i, Result.andThen_ok, he]
  cases b <;> simp
end Go.KX
/- Plain: nodes. No program in sight. -/
namespace Go.KX
structure Nd where
  ref : Bytes
  kind : Int
  source : Bytes
  input : Bytes
  how : Bytes
  strict : Bool
  low : Val
  high : Val
  text : Bytes
  deriving DecidableEq
abbrev ndL (n : Nd) : List SV := [.str n.ref, nI n.kind, .str n.source, .str n.input, .str n.how, bS n.strict, nI n.low.k, nI n.low.n, nI n.high.k, nI n.high.n, .str n.text]
abbrev ndS (n : Nd) : SV := .a (ndL n)
abbrev rN (l : List Nd) : SV := .s 11 (l.map ndL)
def inputsN (n : Nd) : List Bytes := if n.kind = 2 then [n.input] else if n.kind = 4 then [n.input] else if n.kind = 3 then (if (parseX parseV n.text).2.1 = 0 then refsX (parseX parseV n.text).1 else []) else []
def boundV (v : Val) : Bool := isV v && decide (v.k ≠ 2) && decide (v.k ≠ 3)
abbrev hGt : Bytes := [103, 116]
abbrev hLt : Bytes := [108, 116]
abbrev hIn : Bytes := [105, 110]
abbrev hOut : Bytes := [111, 117, 116]
abbrev hCount : Bytes := [99, 111, 117, 110, 116]
def hows : List Bytes := [[108, 97, 115, 116], [109, 105, 110], [109, 97, 120], [115, 117, 109], [109, 101, 97, 110], hCount]
/-- What no points become. -/
def red0 (how : Bytes) : Val × Int := if how ∈ hows then (if how = hCount then numV 0 else nullV, 0) else (zeroV, 100)
def plainN (n : Nd) : Nd :=
  if n.kind = 1 then ⟨n.ref, n.kind, n.source, [], [], false, zeroV, zeroV, []⟩ else
  if n.kind = 2 then ⟨n.ref, n.kind, [], n.input, n.how, n.strict, zeroV, zeroV, []⟩ else
  if n.kind = 3 then ⟨n.ref, n.kind, [], [], [], false, zeroV, zeroV, n.text⟩ else
  if n.kind = 4 then (if n.how = hIn ∨ n.how = hOut then ⟨n.ref, n.kind, [], n.input, n.how, false, n.low, n.high, []⟩ else ⟨n.ref, n.kind, [], n.input, n.how, false, n.low, zeroV, []⟩) else
  ⟨n.ref, n.kind, [], [], [], false, zeroV, zeroV, []⟩
def isK (n : Nd) : Bool :=
  if n.kind = 1 then decide (n.source ≠ []) && decide (n.source.length ≤ 64) else
  if n.kind = 2 then decide (n.how ∈ hows) else
  if n.kind = 3 then decide ((parseX parseV n.text).2.1 = 0) else
  if n.kind = 4 then (if n.how = hGt ∨ n.how = hLt then boundV n.low else if n.how = hIn ∨ n.how = hOut then boundV n.low && boundV n.high else false) else false
def isN (n : Nd) : Bool := if (!refB n.ref || !decide (n = plainN n)) = true then false else isK n
section
variable {n : Nd}
theorem isK1 (h : n.kind = 1) : isK n = (decide (¬ n.source = []) && decide ((n.source.length : Int) ≤ 64)) := by
  have q : decide ((n.source.length : Int) ≤ 64) = decide (n.source.length ≤ 64) := decide_eq_decide.2 (by omega)
  unfold isK; rw [if_pos h, q]
theorem isK2 (h : n.kind = 2) : isK n = decide ((red0 n.how).2 = 0) := by
  unfold isK red0; rw [if_neg (by omega), if_pos h]
  split <;> simp_all
theorem isK3 (h : n.kind = 3) : isK n = decide ((parseX parseV n.text).2.1 = 0) := by
  unfold isK; rw [if_neg (by omega), if_neg (by omega), if_pos h]
theorem isK4a (h : n.kind = 4) (hh : n.how = hGt ∨ n.how = hLt) : isK n = boundV n.low := by
  unfold isK; rw [if_neg (by omega), if_neg (by omega), if_neg (by omega), if_pos h, if_pos hh]
theorem isK4b (h : n.kind = 4) (h1 : ¬ n.how = hGt) (h2 : ¬ n.how = hLt) (hh : n.how = hIn ∨ n.how = hOut) : isK n = (boundV n.low && boundV n.high) := by
  unfold isK; rw [if_neg (by omega), if_neg (by omega), if_neg (by omega), if_pos h, if_neg (fun q => q.elim h1 h2), if_pos hh]
theorem isK4c (h : n.kind = 4) (h1 : ¬ n.how = hGt) (h2 : ¬ n.how = hLt) (h3 : ¬ n.how = hIn) (h4 : ¬ n.how = hOut) : isK n = false := by
  unfold isK; rw [if_neg (by omega), if_neg (by omega), if_neg (by omega), if_pos h, if_neg (fun q => q.elim h1 h2), if_neg (fun q => q.elim h3 h4)]
theorem isK0 (h1 : ¬ n.kind = 1) (h2 : ¬ n.kind = 2) (h3 : ¬ n.kind = 3) (h4 : ¬ n.kind = 4) : isK n = false := by
  unfold isK; rw [if_neg h1, if_neg h2, if_neg h3, if_neg h4]
end
theorem inputs_len (n : Nd) : (inputsN n).length ≤ 2049 := by
  unfold inputsN
  have h1 := refs_len (parseX parseV n.text).1
  have h2 := parse_sz (pv := parseV) (s := n.text)
  repeat' split
  all_goals first | omega | simp
end Go.KX
/- Maps that are owned: looked up, made smaller, ranged over; new blocks that a function hands back. No program in sight. -/
namespace Go.KX
/-- A block, and its name, replaced. -/
def repK {β : Type} : SM → Nat → Nat → MB → (SM → Option β) → Option β
  | [], _, _, _, _ => none
  | (j, m) :: r, i, d, mb, K => match Nat.beq i j with
    | true => K ((d, mb) :: r)
    | false => repK r i d mb (fun r' => K ((j, m) :: r'))
theorem DenM.rep {g : GW} {ρ : Nat → Lc} : ∀ {M : SM} {ms : List Res} {i : Nat} {mb : MB}, DenM g ρ M ms → lkM M i = some mb → ∃ r m1 m2, ms = m1 ++ r :: m2 ∧ DenB g ρ i mb r ∧
    ∀ {β : Type} {d : Nat} {mb' : MB} {K : SM → Option β} {res : β}, repK M i d mb' K = some res → ∃ M', K M' = some res ∧ ∀ g' y r', (occM d M = false) → DenM g' ρ M (m1 ++ r :: m2) → DenB g' (fun j => if j = d then y else ρ j) d mb' r' → DenM g' (fun j => if j = d then y else ρ j) M' (m1 ++ r' :: m2)
  | [], _, _, _, .nil, h => by cases h
  | (j, m) :: M, _, i, mb, @DenM.cons _ _ _ _ _ r0 ms0 hb t, h => by
    have hoc : ∀ {d : Nat}, occM d ((j, m) :: M) = false → occM d [(j, m)] = false ∧ occM d M = false := by
      intro d hd
      cases m <;> simp_all [occM]
    unfold lkM at h
    cases hij : Nat.beq i j with
    | true =>
      rw [hij] at h
      simp only [Option.some.injEq] at h
      subst h
      have hj := Nat.eq_of_beq_eq_true hij
      subst hj
      refine ⟨r0, [], ms0, rfl, hb, fun {β d mb' K res} hu => ?_⟩
      simp only [repK, hij] at hu
      exact ⟨_, hu, fun g' y r' ho hM hB => by
        cases hM with
        | cons _ t' => exact .cons hB (occ_upd t' (hoc ho).2)⟩
    | false =>
      rw [hij] at h
      obtain ⟨r, m1, m2, rfl, hB, hu⟩ := DenM.rep (M := M) t h
      refine ⟨r, r0 :: m1, m2, rfl, hB, fun {β d mb' K res} hu' => ?_⟩
      simp only [repK, hij] at hu'
      obtain ⟨M', h1, h2⟩ := hu hu'
      exact ⟨_, h1, fun g' y r' ho hM hB => by
        cases hM with
        | cons hb' t' =>
          have := occ_upd (y := y) (.cons hb' .nil : DenM g' ρ [(j, m)] [r0]) (hoc ho).1
          cases this with
          | cons hb2 _ => exact .cons hb2 (h2 g' y r' (hoc ho).2 t' hB)⟩
def mF (es : List (Bytes × SV)) (raw : List (Bytes × Value)) : MF := ⟨fun g => ∀ (ρ' : Nat → Lc) (j : Nat) k sv x, es[j]? = some (k, sv) → raw[j]? = some (k, x) → Den g ρ' sv x, fun e h ρ' j k sv x h1 h2 => (h ρ' j k sv x h1 h2).mono e⟩
theorem mget_den {g : GW} {ρ : Nat → Lc} : ∀ {es : List (Bytes × SV)} {raw : List (Bytes × Value)}, raw.map (·.1) = es.map (·.1) → (∀ (j : Nat) k sv x, es[j]? = some (k, sv) → raw[j]? = some (k, x) → Den g ρ sv x) → ∀ q, (mget raw q = none ∧ mget es q = none) ∨ ∃ x sv, mget raw q = some x ∧ mget es q = some sv ∧ Den g ρ sv x
  | [], raw, hk, _, q => by
    cases raw with
    | nil => exact .inl ⟨rfl, rfl⟩
    | cons _ _ => simp at hk
  | e :: es, raw, hk, hd, q => by
    cases raw with
    | nil => simp at hk
    | cons p r =>
      simp only [List.map_cons, List.cons.injEq] at hk
      unfold mget
      rw [hk.1]
      by_cases hq : q = e.1
      · rw [if_pos hq, if_pos hq]
        exact .inr ⟨p.2, e.2, rfl, rfl, hd 0 e.1 e.2 p.2 rfl (by simp [← hk.1])⟩
      · rw [if_neg hq, if_neg hq]
        exact mget_den hk.2 (fun j k sv x h1 h2 => hd (j + 1) k sv x (by simpa using h1) (by simpa using h2)) q
theorem mdel_keys : ∀ {es : List (Bytes × SV)} {raw : List (Bytes × Value)}, raw.map (·.1) = es.map (·.1) → ∀ q, (mdel raw q).map (·.1) = (mdel es q).map (·.1)
  | [], raw, hk, q => by
    cases raw with
    | nil => rfl
    | cons _ _ => simp at hk
  | e :: es, raw, hk, q => by
    cases raw with
    | nil => simp at hk
    | cons p r =>
      simp only [List.map_cons, List.cons.injEq] at hk
      unfold mdel
      rw [hk.1]
      split
      · exact hk.2
      · simp [hk.1, mdel_keys hk.2 q]
theorem mdel_den {P : SV → Value → Prop} : ∀ {es : List (Bytes × SV)} {raw : List (Bytes × Value)}, raw.map (·.1) = es.map (·.1) → (∀ (j : Nat) k sv x, es[j]? = some (k, sv) → raw[j]? = some (k, x) → P sv x) → ∀ (q : Bytes) (j : Nat) k sv x, (mdel es q)[j]? = some (k, sv) → (mdel raw q)[j]? = some (k, x) → P sv x
  | [], raw, hk, h, q, j, k, sv, x, h1, h2 => by simp [mdel] at h1
  | e :: es, raw, hk, h, q, j, k, sv, x, h1, h2 => by
    cases raw with
    | nil => simp at hk
    | cons p r =>
      simp only [List.map_cons, List.cons.injEq] at hk
      unfold mdel at h1 h2
      rw [hk.1] at h2
      by_cases hq : q = e.1
      · rw [if_pos hq] at h1 h2
        exact h (j + 1) k sv x (by simpa using h1) (by simpa using h2)
      · rw [if_neg hq] at h1 h2
        cases j with
        | zero => exact h 0 k sv x (by simpa using h1) (by simpa using h2)
        | succ j => exact mdel_den hk.2 (fun j k sv x h3 h4 => h (j + 1) k sv x (by simpa using h3) (by simpa using h4)) q j k sv x (by simpa using h1) (by simpa using h2)
section
variable {X : Kx} {k : List It} {L : SL} {M : SM} {fs : List MF} {own : List Res} {arr : Array Oper} {l : List Oper} {o : Oper}
theorem den_mp {g ρ i x} (h : Den g ρ (.mp i) x) : x = .map (some (ρ i).b) := by cases h; rfl
/-- v, ok := m[q] ¦ v := m[q], of a map that is owned. -/
theorem smlk {tb : TT} (hT : tb.Ok X.P) (m : Nat) (ck : Bool) {T kT eT d i : Nat} {dT dk de : TD} {x y : Operand} {q : Bytes} {es : List (Bytes × SV)} (r : Option SV) {l' L' M' φ} (hr : mget es q = r) (hk : ES X arr l' k L' M' fs own) (ho : o.op = .lookup T x y ck := by rfl) (hg : o.guard = none := by rfl) (hd : o.dst = some d := by rfl)
    (hx : evS (lkS L) x = some (.mp i) := by rfl) (hy : evS (lkS L) y = some (.str q) := by rfl) (hm : lkM M i = some (.m es) := by rfl) (hT1 : tb.get T = some dT := by rfl) (hk1 : dT.kd = .mp kT eT := by rfl) (hT2 : tb.get kT = some dk := by rfl) (hk2 : dk.kd = .str := by rfl) (hT3 : tb.get eT = some de := by rfl) (hn : Nat.blt d X.n = true := by rfl)
    (hrn : xrun tb X.n arr m [] l ((d, (match ck with | true => .t [r.getD (inj de.z), .v (.bool r.isSome)] | false => r.getD (inj de.z))) :: L) M [] = some (l', L', M', φ) := by rfl) (hφ : conj φ := by first | trivial | omega | (simp +contextual [conj]; done)) : ES X arr (o :: l) k L M fs own := by
  intro g a hE
  obtain ⟨ρ, ms, st⟩ := hE.open
  have hSl : Sl X ρ L a g := st.all _ (.tail _ (.head _))
  have hw : Region.wanted o (yielded arr a.tmps) = true := live_wanted (L := []) st.kn (live_none hg)
  have dx := den_mp (eval_den hSl.val hx)
  have dy := den_str (eval_den hSl.val hy)
  have hM : DenM g ρ M ms := st.all _ (.head _)
  obtain ⟨r0, m1, m2, rfl, hB, _⟩ := hM.split hm
  have u := (TT.get_ok hT hT1).kd
  rw [hk1] at u
  have uk := (TT.get_ok hT hT2).kd
  rw [hk2] at uk
  cases hB with
  | m raw hkk hdd =>
    have hp : (Res.mp str (fun v : Value => v) (ρ i).b raw).p g.w := st.own.p _ (by simp)
    have hrun := run_lookup (K := str) (V := fun v : Value => v) u (keyStr uk) (TT.get_ok hT hT3).ti hp q ck
    subst hr
    have hv : ∃ v, Den g ρ ((mget es q).getD (inj de.z)) (((mget raw q).map fun v => v).getD de.z) ∧ (mget raw q).isSome = (mget es q).isSome ∧ v = () := by
      rcases mget_den hkk (hdd ρ) q with ⟨h1, h2⟩ | ⟨xv, sv, h1, h2, h3⟩
      · rw [h1, h2]; exact ⟨(), den_inj g ρ de.z, rfl, rfl⟩
      · rw [h1, h2]; exact ⟨(), h3, rfl, rfl⟩
    obtain ⟨_, hv1, hv2, _⟩ := hv
    simp only [wl, hw, if_true]
    have hre : (execOp a.eval o).run X.P g.w = .ok (.value (if ck then .tuple #[((mget raw q).map fun v => v).getD de.z, .bool (mget raw q).isSome] else ((mget raw q).map fun v => v).getD de.z)) g.w := by
      simp only [execOp, ho, dx, dy]
      simp [hrun]
    simp only [wn, hre, hd]
    refine go hT m [] hk hrn hφ g _ (ESt.put st hn ?_)
    cases ck with
    | true =>
      rw [hv2]
      exact .t [_, _] rfl (DenL.cons hv1 (DenL.cons .v DenL.nil)).2
    | false => exact hv1
/-- How many entries. -/
theorem smln {tb : TT} (hT : tb.Ok X.P) (m : Nat) {T kT eT d i : Nat} {dT : TD} {x : Operand} {es : List (Bytes × SV)} {l' L' M' φ} (hk : ES X arr l' k L' M' fs own) (ho : o.op = .call ⟨.builtin .len, #[x], #[T]⟩ := by rfl) (hg : o.guard = none := by rfl) (hd : o.dst = some d := by rfl)
    (hx : evS (lkS L) x = some (.mp i) := by rfl) (hm : lkM M i = some (.m es) := by rfl) (hT1 : tb.get T = some dT := by rfl) (hk1 : dT.kd = .mp kT eT := by rfl) (hn : Nat.blt d X.n = true := by rfl)
    (hrn : xrun tb X.n arr m [] l ((d, .v (.int .i64 es.length)) :: L) M [] = some (l', L', M', φ) := by rfl) (hφ : conj φ := by first | trivial | omega | (simp +contextual [conj]; done)) : ES X arr (o :: l) k L M fs own := by
  have hG : gS arr (lkS L) o = some none := by unfold gS; rw [hg]
  refine ES_step (Stp_read (sv := .v (.int .i64 es.length)) hG hd hn (fun L' hL hon g a ρ ms st => ?_)) ?_
  · have hSl : Sl X ρ L' a g := st.all _ (.tail _ (.head _))
    have hev : evs (lkS L') [x] = some [.mp i] := by
      have := evs_agree' hL
      rw [show o.op.operands.toList = [x] by rw [ho]; rfl] at this
      rw [this]
      simp only [evs, hx]
    obtain ⟨_, _, e1, dx, _⟩ := (evals_den hSl.val hev).uncons
    simp only [List.map_cons, List.cons.injEq] at e1
    obtain ⟨rfl, _⟩ := e1
    have hM : DenM g ρ M ms := st.all _ (.head _)
    obtain ⟨r0, m1, m2, rfl, hB, _⟩ := hM.split hm
    have u := (TT.get_ok hT hT1).kd
    rw [hk1] at u
    cases hB with
    | m raw hkk hdd =>
      have hp : (m1 ++ Res.mp str (fun v : Value => v) (ρ i).b raw :: m2 ++ own).Perm (Res.mp str (fun v : Value => v) (ρ i).b raw :: (m1 ++ m2 ++ own)) := by
        simp only [List.append_assoc, List.cons_append]
        exact List.perm_middle
      have st2 := st.perm hp
      obtain ⟨Lr, st', hevl, _⟩ := st2.slots (os := [x]) (e := lkS L') (svs := [.mp i]) (fun t sv ht => by obtain ⟨y, hy, _⟩ := hSl.val t sv ht; exact ⟨y, hy⟩) hev
      obtain ⟨_, _, e2, hx', _⟩ := evl_cons hevl
      simp only [List.map_cons, List.cons.injEq] at e2
      obtain ⟨rfl, _⟩ := e2
      rw [den_mp dx] at hx'
      have hl : raw.length = es.length := by have := congrArg List.length hkk; simpa using this
      exact ⟨_, (Y_mlen ho hx' u .head) g a st', by rw [hl]; exact .v⟩
  · rw [hd]
    exact go hT m [] hk hrn hφ
/-- delete(m, q). -/
theorem smdl {tb : TT} (hT : tb.Ok X.P) {T kT eT i : Nat} {dT dk : TD} {x y : Operand} {q : Bytes} {es : List (Bytes × SV)} {M' : SM} (h : ES X arr l k L M' fs own) (ho : o.op = .call ⟨.builtin .delete, #[x, y], #[T, kT]⟩ := by rfl) (hg : o.guard = none := by rfl) (hd : o.dst = none := by rfl)
    (hx : evS (lkS L) x = some (.mp i) := by rfl) (hy : evS (lkS L) y = some (.str q) := by rfl) (hT1 : tb.get T = some dT := by rfl) (hk1 : dT.kd = .mp kT eT := by rfl) (hT2 : tb.get kT = some dk := by rfl) (hk2 : dk.kd = .str := by rfl)
    (hm : lkM M i = some (.m es) := by rfl) (hu : updK M i (.m (mdel es q)) some = some M' := by rfl) : ES X arr (o :: l) k L M fs own := by
  intro g a hE
  obtain ⟨ρ, ms, st⟩ := hE.open
  have hSl : Sl X ρ L a g := st.all _ (.tail _ (.head _))
  have dx := eval_den hSl.val hx
  have dy := eval_den hSl.val hy
  have hM : DenM g ρ M ms := st.all _ (.head _)
  obtain ⟨r, m1, m2, rfl, hB, hup⟩ := hM.split hm
  obtain ⟨M2, hK, hM2⟩ := hup hu
  cases hK
  have u := (TT.get_ok hT hT1).kd
  rw [hk1] at u
  have uk := (TT.get_ok hT hT2).kd
  rw [hk2] at uk
  have hev : evs (lkS L) [x, y] = some [.mp i, .str q] := by simp only [evs, hx, hy]
  cases hB with
  | m raw hk hdd =>
    have hp : (m1 ++ Res.mp str (fun v : Value => v) (ρ i).b raw :: m2 ++ own).Perm (Res.mp str (fun v : Value => v) (ρ i).b raw :: (m1 ++ m2 ++ own)) := by
      simp only [List.append_assoc, List.cons_append]
      exact List.perm_middle
    have st2 := st.perm hp
    have st3 : St X.toCx [] (mF es raw :: F1 ρ M _ :: F2 X ρ L a :: fs) _ g a := ⟨st2.kn, All.cons hdd st2.all, st2.own, st2.ext, st2.new⟩
    obtain ⟨Lr, st', hevl, hfr⟩ := st3.slots (fun t sv ht => by obtain ⟨x, hx, _⟩ := hSl.val t sv ht; exact ⟨x, hx⟩) hev
    obtain ⟨_, _, e1, hx', hr1⟩ := evl_cons hevl
    obtain ⟨_, _, e2, hy', _⟩ := evl_cons hr1
    simp only [List.map_cons, List.cons.injEq] at e1
    obtain ⟨rfl, rfl⟩ := e1
    simp only [List.cons.injEq] at e2
    obtain ⟨rfl, _⟩ := e2
    rw [den_mp dx] at hx'
    rw [den_str dy] at hy'
    have key := S_mdel (k := [.lp fun a' w' => ∃ g', g'.w = w' ∧ ESt X L M' fs own g' a']) (arr := arr) (l := []) (K := str) (V := fun v : Value => v) ho (live_none hg) hd hx' hy' u (keyStr uk) .head (S_J (fun g' a' s' => by
      refine ⟨g', rfl, ρ, m1 ++ Res.mp str (fun v : Value => v) (ρ i).b (mdel raw q) :: m2, ?_, ?_, ?_⟩
      · have hp2 : (Res.mp str (fun v : Value => v) (ρ i).b (mdel raw q) :: (m1 ++ m2 ++ own)).Perm (m1 ++ Res.mp str (fun v : Value => v) (ρ i).b (mdel raw q) :: m2 ++ own) := by
          simp only [List.append_assoc, List.cons_append]
          exact List.perm_middle.symm
        have s2 := s'.perm hp2
        exact ⟨⟨s2.kn.size, s2.kn.defers, fun i v hv => by simp [lk] at hv⟩, fun f hf => s2.all f (.tail _ (.tail _ (.tail _ hf))), s2.own, s2.ext, s2.new⟩
      · have hv : (mF es raw).p g' := s'.all _ (.head _)
        exact hM2 g' _ (s'.all _ (.tail _ (.head _))) (.m _ (mdel_keys hk q) (fun ρ' => mdel_den hk (hv ρ') q))
      · have hs : Sl X ρ L a g := s'.all (F2 X ρ L a) (.tail _ (.tail _ (.head _))) |> fun _ => hSl
        have hs : Sl X ρ L a g' := s'.all (F2 X ρ L a) (.tail _ (.tail _ (.head _)))
        exact ⟨hs.pin, fun t sv ht => by
          obtain ⟨x, hx, dx⟩ := hs.val t sv ht
          exact ⟨x, s'.kn.val t x (hfr t x hx), dx⟩⟩)) g a st'
    have hw : Region.wanted o (yielded arr a.tmps) = true := live_wanted (L := []) st.kn (live_none hg)
    simp only [wl, hw, if_true] at key ⊢
    exact wn_mono (fun a' w' hh => by
      obtain ⟨g', rfl, hs⟩ := hh
      exact h g' a' hs) key
/-- for k, v := range m: begun. -/
theorem smrg {tb : TT} (hT : tb.Ok X.P) {T kT eT d i : Nat} {dT : TD} {x : Operand} {es : List (Bytes × SV)} {M' : SM} (h : ES X arr l k ((d, .l d 0) :: L) M' fs own) (ho : o.op = .range T x := by rfl) (hg : o.guard = none := by rfl) (hd : o.dst = some d := by rfl) (hn : Nat.blt d X.n = true := by rfl)
    (hx : evS (lkS L) x = some (.mp i) := by rfl) (hT1 : tb.get T = some dT := by rfl) (hk1 : dT.kd = .mp kT eT := by rfl) (hm : lkM M i = some (.m es) := by rfl) (hoc : (occSL d L || occM d M) = false := by rfl) (hlt : Nat.blt d 1000 = true := by rfl) (hne : Nat.beq i d = false := by rfl) (hu : repK M i d (.it i es []) some = some M' := by rfl) : ES X arr (o :: l) k L M fs own := by
  intro g a hE
  obtain ⟨ρ, ms, st⟩ := hE.open
  simp only [Bool.or_eq_false_iff] at hoc
  have hlt : d < 1000 := by simpa [Nat.blt_eq] using hlt
  have hid : i ≠ d := by intro e; subst e; rw [Nat.beq_refl] at hne; cases hne
  have hSl : Sl X ρ L a g := st.all _ (.tail _ (.head _))
  have dx := eval_den hSl.val hx
  have hM : DenM g ρ M ms := st.all _ (.head _)
  obtain ⟨r, m1, m2, rfl, hB, hup⟩ := hM.rep hm
  obtain ⟨M2, hK, hM2⟩ := hup hu
  cases hK
  have u := (TT.get_ok hT hT1).kd
  rw [hk1] at u
  have hev : evs (lkS L) [x] = some [.mp i] := by simp only [evs, hx]
  cases hB with
  | m raw hk hdd =>
    have hp : (m1 ++ Res.mp str (fun v : Value => v) (ρ i).b raw :: m2 ++ own).Perm (Res.mp str (fun v : Value => v) (ρ i).b raw :: (m1 ++ m2 ++ own)) := by
      simp only [List.append_assoc, List.cons_append]
      exact List.perm_middle
    have st2 := st.perm hp
    have st3 : St X.toCx [] (mF es raw :: F1 ρ M _ :: F2 X ρ L a :: fs) _ g a := ⟨st2.kn, All.cons hdd st2.all, st2.own, st2.ext, st2.new⟩
    obtain ⟨Lr, st', hevl, hfr⟩ := st3.slots (fun t sv ht => by obtain ⟨x, hx, _⟩ := hSl.val t sv ht; exact ⟨x, hx⟩) hev
    obtain ⟨_, _, e1, hx', _⟩ := evl_cons hevl
    simp only [List.map_cons, List.cons.injEq] at e1
    obtain ⟨rfl, _⟩ := e1
    rw [den_mp dx] at hx'
    have key := S_range (k := [.lp fun a' w' => ∃ g', g'.w = w' ∧ ESt X ((d, .l d 0) :: L) M' fs own g' a']) (arr := arr) (l := []) (K := str) (V := fun v : Value => v) ho (live_none hg) hd hn hx' u .head (fun rr => S_J (fun g' a' s' => by
      let y : Lc := ⟨rr, none, 0⟩
      have ei : (fun j => if j = d then y else ρ j) i = ρ i := by simp [hid]
      have ed : (fun j => if j = d then y else ρ j) d = y := by simp
      have hv : (mF es raw).p g' := s'.all _ (.head _)
      have hs : Sl X ρ L a g' := s'.all (F2 X ρ L a) (.tail _ (.tail _ (.head _)))
      have hBn : DenB g' (fun j => if j = d then y else ρ j) d (.it i es []) (Res.it str (fun v : Value => v) ((fun j => if j = d then y else ρ j) i).b ((fun j => if j = d then y else ρ j) d).b raw []) := .it raw hk hv
      rw [ei, ed] at hBn
      refine ⟨g', rfl, fun j => if j = d then y else ρ j, m1 ++ Res.it str (fun v : Value => v) (ρ i).b rr raw [] :: m2, ?_, hM2 g' y _ hoc.2 (s'.all _ (.tail _ (.head _))) hBn, fun j hj => ?_, fun t sv ht => ?_⟩
      · have hp2 : (Res.it str (fun v : Value => v) (ρ i).b rr raw [] :: (m1 ++ m2 ++ own)).Perm (m1 ++ Res.it str (fun v : Value => v) (ρ i).b rr raw [] :: m2 ++ own) := by
          simp only [List.append_assoc, List.cons_append]
          exact List.perm_middle.symm
        have s2 := s'.perm hp2
        exact ⟨⟨s2.kn.size, s2.kn.defers, fun i v hv => by simp [lk] at hv⟩, fun f hf => s2.all f (.tail _ (.tail _ (.tail _ hf))), s2.own, s2.ext, s2.new⟩
      · have : j ≠ d := by omega
        simp only [if_neg this]; exact hs.pin j hj
      · by_cases htd : t = d
        · subst htd
          rw [lkS_same] at ht
          cases ht
          refine ⟨_, s'.kn.val t _ (lk_cons_same _ _ _), ?_⟩
          have : Den g' (fun j => if j = t then y else ρ j) (.l t 0) (.pointer (some ⟨((fun j => if j = t then y else ρ j) t).b, 0, none⟩)) := .l
          simpa [y] using this
        · rw [lkS_ne _ _ htd] at ht
          obtain ⟨x, hx, dx⟩ := hs.val t sv ht
          exact ⟨x, s'.kn.val t x (by rw [lk_cons_ne _ _ htd]; exact hfr t x hx), dx.upd (occSL_get hoc.1 t sv ht)⟩)) g a st'
    have hw : Region.wanted o (yielded arr a.tmps) = true := live_wanted (L := []) st.kn (live_none hg)
    simp only [wl, hw, if_true] at key ⊢
    exact wn_mono (fun a' w' hh => by
      obtain ⟨g', rfl, hs⟩ := hh
      exact h g' a' hs) key
/-- The next entry, whichever; or there is none left. -/
theorem smnx {tb : TT} (_hT : tb.Ok X.P) {d j i : Nat} {x : Operand} {es : List (Bytes × SV)} {js : List Nat} (hm : lkM M j = some (.it i es js)) (hend : js.Perm (List.range es.length) → ES X arr l k ((d, .t [.v (.bool false)]) :: L) M fs own)
    (hstep : ∀ (n : Nat) q sv M', n ∉ js → es[n]? = some (q, sv) → updK M j (.it i es (js ++ [n])) some = some M' → ES X arr l k ((d, .t [.v (.bool true), .str q, sv]) :: L) M' fs own) (ho : o.op = .next x false := by rfl) (hg : o.guard = none := by rfl) (hd : o.dst = some d := by rfl) (hn : Nat.blt d X.n = true := by rfl) (hx : evS (lkS L) x = some (.l j 0) := by rfl) : ES X arr (o :: l) k L M fs own := by
  intro g a hE
  obtain ⟨ρ, ms, st⟩ := hE.open
  have hSl : Sl X ρ L a g := st.all _ (.tail _ (.head _))
  have dx := eval_den hSl.val hx
  have hM : DenM g ρ M ms := st.all _ (.head _)
  obtain ⟨r, m1, m2, rfl, hB, hup⟩ := hM.split hm
  have hev : evs (lkS L) [x] = some [.l j 0] := by simp only [evs, hx]
  have upd : ∀ {M : SM} {mb' mb0 : MB}, lkM M j = some mb0 → ∃ M', updK M j mb' some = some M' := by
    intro M mb' mb0
    have gen : ∀ {M : SM} {K : SM → Option SM}, lkM M j = some mb0 → (∀ M, ∃ M', K M = some M') → ∃ M', updK M j mb' K = some M' := by
      intro M
      induction M with
      | nil => intro K h; cases h
      | cons p M ih =>
        intro K h hK
        obtain ⟨u, m⟩ := p
        unfold lkM at h
        unfold updK
        cases hb : Nat.beq j u with
        | true => exact hK _
        | false =>
          rw [hb] at h
          exact ih h (fun M => hK _)
    exact fun h => gen h (fun M => ⟨M, rfl⟩)
  cases hB with
  | it raw hkk hdd =>
    have hp : (m1 ++ Res.it str (fun v : Value => v) (ρ i).b (ρ j).b raw js :: m2 ++ own).Perm (Res.it str (fun v : Value => v) (ρ i).b (ρ j).b raw js :: (m1 ++ m2 ++ own)) := by
      simp only [List.append_assoc, List.cons_append]
      exact List.perm_middle
    have hlen : raw.length = es.length := by have := congrArg List.length hkk; simpa using this
    have st2 := st.perm hp
    have st3 : St X.toCx [] (mF es raw :: F1 ρ M _ :: F2 X ρ L a :: fs) _ g a := ⟨st2.kn, All.cons hdd st2.all, st2.own, st2.ext, st2.new⟩
    obtain ⟨Lr, st', hevl, hfr⟩ := st3.slots (fun t sv ht => by obtain ⟨x, hx, _⟩ := hSl.val t sv ht; exact ⟨x, hx⟩) hev
    obtain ⟨_, _, e1, hx', _⟩ := evl_cons hevl
    simp only [List.map_cons, List.cons.injEq] at e1
    obtain ⟨rfl, _⟩ := e1
    rw [den_l dx] at hx'
    have fin : ∀ (g' : GW) (a' : Act) (js' : List Nat) (M' : SM) (v : Value) (sv : SV), St X.toCx ((d, v) :: Lr) (mF es raw :: F1 ρ M (m1 ++ Res.it str (fun v : Value => v) (ρ i).b (ρ j).b raw js :: m2) :: F2 X ρ L a :: fs) (Res.it str (fun v : Value => v) (ρ i).b (ρ j).b raw js' :: (m1 ++ m2 ++ own)) g' a' → updK M j (.it i es js') some = some M' → Den g' ρ sv v → ESt X ((d, sv) :: L) M' fs own g' a' := by
      intro g' a' js' M' v sv s' hu hdv
      obtain ⟨M2, hK, hM2⟩ := hup hu
      cases hK
      have hv : (mF es raw).p g' := s'.all _ (.head _)
      have hs : Sl X ρ L a g' := s'.all (F2 X ρ L a) (.tail _ (.tail _ (.head _)))
      refine ⟨ρ, m1 ++ Res.it str (fun v : Value => v) (ρ i).b (ρ j).b raw js' :: m2, ?_, hM2 g' _ (s'.all _ (.tail _ (.head _))) (.it raw hkk hv), hs.pin, fun t sv' ht => ?_⟩
      · have hp2 : (Res.it str (fun v : Value => v) (ρ i).b (ρ j).b raw js' :: (m1 ++ m2 ++ own)).Perm (m1 ++ Res.it str (fun v : Value => v) (ρ i).b (ρ j).b raw js' :: m2 ++ own) := by
          simp only [List.append_assoc, List.cons_append]
          exact List.perm_middle.symm
        have s2 := s'.perm hp2
        exact ⟨⟨s2.kn.size, s2.kn.defers, fun i v hv => by simp [lk] at hv⟩, fun f hf => s2.all f (.tail _ (.tail _ (.tail _ hf))), s2.own, s2.ext, s2.new⟩
      · by_cases htd : t = d
        · subst htd
          rw [lkS_same] at ht
          cases ht
          exact ⟨v, s'.kn.val t _ (lk_cons_same _ _ _), hdv⟩
        · rw [lkS_ne _ _ htd] at ht
          obtain ⟨x, hx, dx⟩ := hs.val t sv' ht
          exact ⟨x, s'.kn.val t x (by rw [lk_cons_ne _ _ htd]; exact hfr t x hx), dx⟩
    have key := S_next (k := [.lp fun a' w' => ∃ g', g'.w = w' ∧ ((js.Perm (List.range es.length) ∧ ESt X ((d, .t [.v (.bool false)]) :: L) M fs own g' a') ∨ ∃ (n : Nat) (q : Bytes) (sv : SV) (M' : SM), n ∉ js ∧ es[n]? = some (q, sv) ∧ updK M j (.it i es (js ++ [n])) some = some M' ∧ ESt X ((d, .t [.v (.bool true), .str q, sv]) :: L) M' fs own g' a')]) (arr := arr) (l := []) (K := str) (V := fun v : Value => v) ho (live_none hg) hd hn hx' .head
      (fun hperm => S_J (fun g' a' s' => ⟨g', rfl, .inl ⟨by rw [← hlen]; exact hperm, fin g' a' js M _ _ s' (by rw [updK_same hm]) (.t [_] rfl (DenL.cons .v DenL.nil).2)⟩⟩))
      (fun n y hnj hy => S_J (fun g' a' s' => by
        have hnl : n < es.length := by
          rw [← hlen]
          rcases Nat.lt_or_ge n raw.length with h | h
          · exact h
          · rw [List.getElem?_eq_none h] at hy; cases hy
        obtain ⟨⟨q, sv⟩, hes⟩ : ∃ p, es[n]? = some p := ⟨_, List.getElem?_eq_getElem hnl⟩
        have hq : y.1 = q := by
          have := congrArg (fun l => l[n]?) hkk
          simp only [List.getElem?_map, hy, hes, Option.map_some, Option.some.injEq] at this
          exact this
        obtain ⟨y1, y2⟩ := y
        simp only at hq
        subst hq
        obtain ⟨M', hM'⟩ := upd (mb' := .it i es (js ++ [n])) hm
        have hv : (mF es raw).p g' := s'.all _ (.head _)
        exact ⟨g', rfl, .inr ⟨n, y1, sv, M', hnj, hes, hM', fin g' a' (js ++ [n]) M' _ _ s' hM' (.t [_, _, _] rfl (DenL.cons .v (DenL.cons .str (DenL.cons (hv ρ n y1 sv y2 hes hy) DenL.nil))).2)⟩⟩)) g a st'
    have hw : Region.wanted o (yielded arr a.tmps) = true := live_wanted (L := []) st.kn (live_none hg)
    simp only [wl, hw, if_true] at key ⊢
    exact wn_mono (fun a' w' hh => by
      obtain ⟨g', rfl, hs | ⟨n, q, sv, M', h1, h2, h3, h4⟩⟩ := hh
      · exact hend hs.1 g' a' hs.2
      · exact hstep n q sv M' h1 h2 h3 g' a' h4) key
/-- The entry that has come out last. -/
theorem smen {tb : TT} (hT : tb.Ok X.P) (m : Nat) {d j i n : Nat} {x : Operand} {es : List (Bytes × SV)} {js : List Nat} {q : Bytes} {sv : SV} {l' L' M' φ} (hm : lkM M j = some (.it i es (js ++ [n]))) (hes : es[n]? = some (q, sv)) (hk : ES X arr l' k L' M' fs own) (ho : o.op = .entry x := by rfl) (hg : o.guard = none := by rfl) (hd : o.dst = some d := by rfl) (hn : Nat.blt d X.n = true := by rfl) (hx : evS (lkS L) x = some (.l j 0) := by rfl)
    (hrn : xrun tb X.n arr m [] l ((d, .t [.str q, sv]) :: L) M [] = some (l', L', M', φ) := by rfl) (hφ : conj φ := by first | trivial | omega | (simp +contextual [conj]; done)) : ES X arr (o :: l) k L M fs own := by
  have hG : gS arr (lkS L) o = some none := by unfold gS; rw [hg]
  refine ES_step (Stp_read (sv := .t [.str q, sv]) hG hd hn (fun L' hL hon g a ρ ms st => ?_)) ?_
  · have hSl : Sl X ρ L' a g := st.all _ (.tail _ (.head _))
    have hev : evs (lkS L') [x] = some [.l j 0] := by
      have := evs_agree' hL
      rw [show o.op.operands.toList = [x] by rw [ho]; rfl] at this
      rw [this]
      simp only [evs, hx]
    obtain ⟨_, _, e1, dx, _⟩ := (evals_den hSl.val hev).uncons
    simp only [List.map_cons, List.cons.injEq] at e1
    obtain ⟨rfl, _⟩ := e1
    have hM : DenM g ρ M ms := st.all _ (.head _)
    obtain ⟨r0, m1, m2, rfl, hB, _⟩ := hM.split hm
    cases hB with
    | it raw hkk hdd =>
      have hp : (m1 ++ Res.it str (fun v : Value => v) (ρ i).b (ρ j).b raw (js ++ [n]) :: m2 ++ own).Perm (Res.it str (fun v : Value => v) (ρ i).b (ρ j).b raw (js ++ [n]) :: (m1 ++ m2 ++ own)) := by
        simp only [List.append_assoc, List.cons_append]
        exact List.perm_middle
      have hlen : raw.length = es.length := by have := congrArg List.length hkk; simpa using this
      have hnl : n < es.length := by
        rcases Nat.lt_or_ge n es.length with h | h
        · exact h
        · rw [List.getElem?_eq_none h] at hes; cases hes
      obtain ⟨⟨y1, y2⟩, hy⟩ : ∃ p, raw[n]? = some p := ⟨_, List.getElem?_eq_getElem (by omega)⟩
      have hq : y1 = q := by
        have := congrArg (fun l => l[n]?) hkk
        simp only [List.getElem?_map, hy, hes, Option.map_some, Option.some.injEq] at this
        exact this
      subst hq
      have st2 := st.perm hp
      obtain ⟨Lr, st', hevl, _⟩ := st2.slots (os := [x]) (e := lkS L') (svs := [.l j 0]) (fun t sv ht => by obtain ⟨y, hy, _⟩ := hSl.val t sv ht; exact ⟨y, hy⟩) hev
      obtain ⟨_, _, e2, hx', _⟩ := evl_cons hevl
      simp only [List.map_cons, List.cons.injEq] at e2
      obtain ⟨rfl, _⟩ := e2
      rw [den_l dx] at hx'
      exact ⟨_, (Y_entry (K := str) (V := fun v : Value => v) ho hx' .head hy) g a st', .t [_, _] rfl (DenL.cons .str (DenL.cons (hdd ρ n y1 sv y2 hes hy) DenL.nil)).2⟩
  · rw [hd]
    exact go hT m [] hk hrn hφ
/-- Behind the loop. -/
theorem smie (j : Nat) {i : Nat} {es : List (Bytes × SV)} {js : List Nat} {M' : SM} (h : ES X arr l k L M' fs own) (hm : lkM M j = some (.it i es js) := by rfl) (hu : repK M j i (.m es) some = some M' := by rfl) : ES X arr l k L M fs own := by
  intro g a hE
  obtain ⟨ρ, ms, st⟩ := hE.open
  have hSl : Sl X ρ L a g := st.all _ (.tail _ (.head _))
  have hM : DenM g ρ M ms := st.all _ (.head _)
  have split2 : ∀ {M : SM} {ms : List Res} {mb : MB}, DenM g ρ M ms → lkM M j = some mb → ∃ r m1 m2, ms = m1 ++ r :: m2 ∧ DenB g ρ j mb r ∧ ∀ {β : Type} {d : Nat} {mb' : MB} {K : SM → Option β} {res : β}, repK M j d mb' K = some res → ∃ M', K M' = some res ∧ ∀ r', DenB g ρ d mb' r' → DenM g ρ M' (m1 ++ r' :: m2) := by
    intro M
    induction M with
    | nil => intro ms mb _ h; cases h
    | cons p M ih =>
      intro ms mb hM h
      obtain ⟨u, m⟩ := p
      cases hM with
      | cons hb t =>
        rename_i r0 ms0
        unfold lkM at h
        cases hij : Nat.beq j u with
        | true =>
          rw [hij] at h
          simp only [Option.some.injEq] at h
          subst h
          have hj := Nat.eq_of_beq_eq_true hij
          subst hj
          refine ⟨r0, [], ms0, rfl, hb, fun {β d mb' K res} hu => ?_⟩
          simp only [repK, hij] at hu
          exact ⟨_, hu, fun r' hB => .cons hB t⟩
        | false =>
          rw [hij] at h
          obtain ⟨r, m1, m2, rfl, hB, hu⟩ := ih t h
          refine ⟨r, r0 :: m1, m2, rfl, hB, fun {β d mb' K res} hu' => ?_⟩
          simp only [repK, hij] at hu'
          obtain ⟨M', h1, h2⟩ := hu hu'
          exact ⟨_, h1, fun r' hB => .cons hb (h2 r' hB)⟩
  obtain ⟨r, m1, m2, rfl, hB, hup⟩ := split2 hM hm
  obtain ⟨M2, hK, hM2⟩ := hup hu
  cases hK
  cases hB with
  | it raw hkk hdd =>
    have hp : (m1 ++ Res.it str (fun v : Value => v) (ρ i).b (ρ j).b raw js :: m2 ++ own).Perm (Res.it str (fun v : Value => v) (ρ i).b (ρ j).b raw js :: (m1 ++ m2 ++ own)) := by
      simp only [List.append_assoc, List.cons_append]
      exact List.perm_middle
    have ho := st.own.perm hp
    obtain ⟨_, _, es', clk, since, ss, c0, hb, he, hbn, hbc, _⟩ := ho.p _ (.head _)
    have hp2 : (Res.mp str (fun v : Value => v) (ρ i).b raw :: (m1 ++ m2 ++ own)).Perm (m1 ++ Res.mp str (fun v : Value => v) (ρ i).b raw :: m2 ++ own) := by
      simp only [List.append_assoc, List.cons_append]
      exact List.perm_middle.symm
    have hsub : ∀ x ∈ blks (Res.mp str (fun v : Value => v) (ρ i).b raw :: (m1 ++ m2 ++ own)), x ∈ blks (Res.it str (fun v : Value => v) (ρ i).b (ρ j).b raw js :: (m1 ++ m2 ++ own)) := by
      intro x hx
      simp only [blks_cons, Res.mp, Res.it, List.cons_append, List.nil_append, List.mem_cons] at hx ⊢
      exact hx.imp id .inr
    have hown : Own (Res.mp str (fun v : Value => v) (ρ i).b raw :: (m1 ++ m2 ++ own)) g := by
      refine ⟨fun r hr => ?_, ?_, fun x hx => ho.lt x (hsub x hx), fun x hx => ho.nfz x (hsub x hx)⟩
      · cases hr with
        | head => exact ⟨es', clk, hb, he, hbn, hbc⟩
        | tail _ hm => exact ho.p r (.tail _ hm)
      · have h2 := ho.nodup
        simp only [blks_cons, Res.mp, Res.it, List.cons_append, List.nil_append, List.nodup_cons, List.mem_cons] at h2 ⊢
        exact ⟨fun hx => h2.1 (.inr hx), h2.2.2⟩
    refine h g a ⟨ρ, m1 ++ Res.mp str (fun v : Value => v) (ρ i).b raw :: m2, ⟨st.kn, fun f hf => st.all f (.tail _ (.tail _ hf)), hown.perm hp2, st.ext, fun x hx => ?_⟩, hM2 _ (.m raw hkk hdd), hSl.pin, hSl.val⟩
    exact st.new x ((blks_perm hp).symm.subset (hsub x ((blks_perm hp2).symm.subset hx)))
theorem emie (j : Nat) {i : Nat} {es : List (Bytes × SV)} {js : List Nat} {M' : SM} (h : E X k L M' fs own) (hm : lkM M j = some (.it i es js) := by rfl) (hu : repK M j i (.m es) some = some M' := by rfl) : E X k L M fs own :=
  smie (arr := #[]) (l := []) j (ES_nil h) hm hu |> fun h => h
end
end Go.KX
/- Functions that hand back a new block. No program in sight. -/
namespace Go.KX
mutual
/-- Is i alone met in it? -/
def only (i : Nat) : SV → Bool
  | .l j _ => Nat.beq j i
  | .o j _ => Nat.beq j i
  | .e j _ => Nat.beq j i
  | .mp j => Nat.beq j i
  | .fm _ => true
  | .ni => true
  | .a cs => onlyL i cs
  | .f _ x y => onlyL i x && onlyL i y
  | .t vs => onlyL i vs
  | .g _ x => only i x
  | .v _ => true
  | .str _ => true
  | .s _ _ => true
  | .p _ => true
def onlyL (i : Nat) : List SV → Bool
  | [] => true
  | x :: r => only i x && onlyL i r
end
theorem onlyL_get {i : Nat} : ∀ {l : List SV}, onlyL i l = true → ∀ (j : Nat) sv, l[j]? = some sv → only i sv = true
  | [], _, j, sv, h => by simp at h
  | x :: r, hc, j, sv, h => by
    simp only [onlyL, Bool.and_eq_true] at hc
    cases j with
    | zero => simp at h; exact h ▸ hc.1
    | succ j => exact onlyL_get hc.2 j sv (by simpa using h)
theorem Den.only {g : GW} {ρ sv x} (h : Den g ρ sv x) {i : Nat} : Go.KX.only i sv = true → ∀ ρ', ρ' i = ρ i → Den g ρ' sv x := by
  have key : ∀ {i j : Nat}, Nat.beq j i = true → j = i := fun h => Nat.eq_of_beq_eq_true h
  induction h with
  | v => exact fun _ _ _ => .v
  | str => exact fun _ _ _ => .str
  | s xs h1 h2 hl hr ho hne hd _ => exact fun _ _ _ => .s xs h1 h2 hl hr ho hne hd
  | p xs hl hf hc hd _ => exact fun _ _ _ => .p xs hl hf hc hd
  | l => intro h ρ' e; obtain rfl := key h; rw [← e]; exact .l
  | a xs hl _ ih => exact fun hc ρ' e => .a xs hl (fun j sv x h1 h2 => ih j sv x h1 h2 (onlyL_get hc j sv h1) ρ' e)
  | f xs ys hl _ hl2 _ ih ih2 =>
    intro hc ρ' e
    simp only [Go.KX.only, Bool.and_eq_true] at hc
    exact .f xs ys hl (fun j sv x h1 h2 => ih j sv x h1 h2 (onlyL_get hc.1 j sv h1) ρ' e) hl2 (fun j sv x h1 h2 => ih2 j sv x h1 h2 (onlyL_get hc.2 j sv h1) ρ' e)
  | t xs hl _ ih => exact fun hc ρ' e => .t xs hl (fun j sv x h1 h2 => ih j sv x h1 h2 (onlyL_get hc j sv h1) ρ' e)
  | gt _ ih => exact fun hc ρ' e => .gt (ih hc ρ' e)
  | gf => exact fun _ _ _ => .gf
  | o => intro h ρ' e; obtain rfl := key h; rw [← e]; exact .o
  | e h' => intro h ρ' e; obtain rfl := key h; exact .e (by rw [e]; exact h')
  | fm raw ms clk hf hh he hk hd _ => exact fun _ _ _ => .fm raw ms clk hf hh he hk hd
  | mp => intro h ρ' e; obtain rfl := key h; rw [← e]; exact .mp
  | ni => exact fun _ _ _ => .ni
/-- What comes, and the block i that comes with it. -/
def FnN (P : Program) (fs : List MF) (f : FuncId) (args : List SV) (res : SV) (i : Nat) (mb : MB) : Prop :=
  Callable P f ∧ ∀ ρ g vs, All fs g → DenL g ρ args vs → Calls P f vs.toArray g.w fun e w' => ∃ v g' r ρ', e = .returned v ∧ g'.w = w' ∧ Ext [] g g' ∧ Den g' ρ' res v ∧ DenB g' ρ' i mb r ∧ Own [r] g' ∧ ∀ b ∈ blks [r], g.w.heap.size ≤ b
structure Rn (X : Kx) (fs : List MF) (tb : TT) (rs : List ResultVar) (res : SV) (i : Nat) (mb : MB) : Prop where
  ret : ∀ {k L M svs}, resS tb L M rs = some svs → resVS svs = res → keepM (Nat.beq i) M = [(i, mb)] → E X (.code .ret :: k) L M fs []
theorem fnb {P : Program} {fs : List MF} {tb : TT} (hT : tb.Ok P) {f : FuncId} {fn : Func} {c : Code} {args : List SV} {res : SV} {i : Nat} {mb : MB} (n : Nat) (rs : List ResultVar) (hf : P.funcs[f]? = some fn) (hrs : fn.results = rs.toArray)
    (h : ∀ g0 B0 Q ρ0, Rn ⟨⟨P, n, g0, B0, Q, none, []⟩, ρ0⟩ fs tb rs res i mb → E ⟨⟨P, n, g0, B0, Q, none, []⟩, ρ0⟩ [.code c] (initS args 0) [] fs []) (hb : fn.body = some c := by rfl) (hname : (fn.name == "runtime.NumGoroutine") = false := by kernel_rfl) (hn : fn.ntmps = n := by rfl) (hle : args.length ≤ n := by exact Nat.le_of_ble_eq_true rfl) : FnN P fs f args res i mb := by
  refine ⟨⟨fn, hf, by simp [hb], hname⟩, fun ρ g vs hfs ha => ?_⟩
  refine calls_of_wp hf hb (wpIn_wide (n := 0) |>.1 ?_)
  have hpost : ∀ (a : Act) (g' : GW) L M' svs, resS tb L M' rs = some svs → resVS svs = res → keepM (Nat.beq i) M' = [(i, mb)] → ESt ⟨⟨P, n, g, [], bodyPost P fn (fun e w' => ∃ v g' r ρ', e = .returned v ∧ g'.w = w' ∧ Ext [] g g' ∧ Den g' ρ' res v ∧ DenB g' ρ' i mb r ∧ Own [r] g' ∧ ∀ b ∈ blks [r], g.w.heap.size ≤ b), none, []⟩, ρ⟩ L M' fs [] g' a →
      a.defers = [] ∧ ∃ v, (results fn a.tmps).run P g'.w = .ok v g'.w ∧ ∃ v2 g2 r ρ', Ending.returned v = .returned v2 ∧ g2.w = g'.w ∧ Ext [] g g2 ∧ Den g2 ρ' res v2 ∧ DenB g2 ρ' i mb r ∧ Own [r] g2 ∧ ∀ b ∈ blks [r], g.w.heap.size ≤ b := by
    intro a g' L M' svs h1 h2 h3 hst
    obtain ⟨ρ', ms', s1, s2, s3⟩ := hst
    obtain ⟨v, hv, dv⟩ := results_ok (X := ⟨⟨P, n, g, [], _, none, []⟩, ρ⟩) hT s1 s2 s3 hrs h1
    obtain ⟨m1, m2, h5, h6⟩ := s2.keep (Nat.beq i)
    have s4 := (s1.perm (by simpa using h6)).drop
    rw [h3] at h5
    cases h5 with
    | cons hB ht =>
      cases ht
      exact ⟨s1.kn.defers, v, hv, v, g', _, ρ', rfl, rfl, s1.ext, h2 ▸ dv, hB, s4.own, fun b hb => (s4.new b hb).resolve_left (fun hx => by cases hx)⟩
  refine h g [] (bodyPost P fn (fun e w' => ∃ v g' r ρ', e = .returned v ∧ g'.w = w' ∧ Ext [] g g' ∧ Den g' ρ' res v ∧ DenB g' ρ' i mb r ∧ Own [r] g' ∧ ∀ b ∈ blks [r], g.w.heap.size ≤ b)) ρ ⟨?_⟩ g _ ?_
  · intro k L M' svs h1 h2 h3 g' a hst
    refine wpIn_ret ?_
    rw [cont_ret]
    exact hpost a g' L M' svs h1 h2 h3 hst
  · refine ⟨ρ, [], ⟨⟨by simp [hn, ha.1]; omega, rfl, fun i v hi => by simp [lk] at hi⟩, hfs, ⟨fun r hr => (by cases hr), List.nodup_nil, fun b hb => (by cases hb), fun b hb => (by cases hb)⟩, Ext.refl _ g, fun b hb => (by cases hb)⟩, .nil, fun i _ => rfl, fun t sv ht => ?_⟩
    obtain ⟨j, rfl, hj⟩ := initS_lk args 0 t sv ht
    obtain ⟨x, hx, dx⟩ := ha.get hj
    refine ⟨x, ?_, dx⟩
    have hlt : j < vs.length := by
      rcases Nat.lt_or_ge j vs.length with h | h
      · exact h
      · rw [List.getElem?_eq_none h] at hx; cases hx
    simp only [Nat.zero_add]
    rw [Array.getElem?_append_left (by simpa using hlt)]
    simpa using hx
section
variable {X : Kx} {k : List It} {L : SL} {M : SM} {fs : List MF} {own : List Res} {arr : Array Oper} {l : List Oper} {o : Oper} {tb : TT} {rs : List ResultVar}
theorem ern {res : SV} {svs : List SV} {i : Nat} {mb mb' : MB} {k' : List It} (n : Nat) (R : Rn X fs tb rs res i mb) (he : resVS svs = res ∧ mb' = mb) (hk : normS (lkS L) 64 n k = .code .ret :: k' := by rfl) (hr : resS tb L M rs = some svs := by rfl) (hm : keepM (Nat.beq i) M = [(i, mb')] := by rfl) : E X k L M fs [] :=
  norm_E 64 n (hk ▸ R.ret hr he.1 (by rw [hm, he.2]))
theorem srn {res : SV} {svs : List SV} {i : Nat} {mb mb' : MB} {k' : List It} (n : Nat) (R : Rn X fs tb rs res i mb) (he : resVS svs = res ∧ mb' = mb) (hk : normS (lkS L) 64 n k = .code .ret :: k' := by rfl) (hr : resS tb L M rs = some svs := by rfl) (hm : keepM (Nat.beq i) M = [(i, mb')] := by rfl) : ES X arr [] k L M fs [] := ern n R he hk hr hm
/-- A call with which a new block comes. -/
theorem fnw (hT : tb.Ok X.P) (m : Nat) (H : List (List SV)) {d i : Nat} {f : FuncId} {fo : Operand} {az : Array Operand} {ts : Array TypeId} {svs args : List SV} {res : SV} {mb : MB} {l' L' M' φ} (hs : FnN X.P fs f args res i mb) (hk : ES X arr l' k L' M' fs own) (hg : o.guard = none := by rfl) (hd : o.dst = some d := by rfl) (ho : o.op = .call ⟨.value fo, az, ts⟩ := by rfl) (hfo : evS (lkS L) fo = some (.f f [] []) := by rfl)
    (ha : evs (lkS L) az.toList = some svs := by rfl) (hb : svs.map st1 = args := by rfl) (hc : svs.flatMap cd1 = [] := by rfl) (hn : Nat.blt d X.n = true := by rfl) (hoc : (occSL i L || occM i M) = false := by rfl) (hlt : Nat.blt i 1000 = true := by rfl) (hcb : cloB mb = true := by rfl) (hol : only i res = true := by rfl)
    (hr : xrun tb X.n arr m H l ((d, res) :: L) ((i, mb) :: M) [] = some (l', L', M', φ) := by rfl) (hφ : conj φ := by first | trivial | omega | (simp +contextual [conj]; done) | (simp +contextual [conj, *]; done) | (simp +contextual [conj, *] <;> omega)) : ES X arr (o :: l) k L M fs own := by
  intro g a hE
  obtain ⟨ρ, ms, st⟩ := hE.open
  simp only [Bool.or_eq_false_iff] at hoc
  have hlt : i < 1000 := by simpa [Nat.blt_eq] using hlt
  have h2 : ∀ t sv, lkS L t = some sv → ∃ x, a.tmps[t]? = some x ∧ Den g ρ sv x := (st.all (F2 X ρ L a) (.tail _ (.head _))).val
  have hw : Region.wanted o (yielded arr a.tmps) = true := live_wanted (L := []) st.kn (live_none hg)
  have hall : evs (lkS L) (fo :: az.toList) = some (.f f [] [] :: svs) := by simp only [evs, hfo, ha]
  have hden := sts_ok (evals_den h2 hall) (by simp only [List.flatMap_cons, hc, cd1, List.append_nil]; intro p hp; cases hp)
  obtain ⟨x, rr, e1, dx, dr⟩ := hden.uncons
  simp only [List.map_cons, List.cons.injEq] at e1
  obtain ⟨rfl, rfl⟩ := e1
  obtain ⟨xs, ys, hfe, d1, d2⟩ := den_f dx
  obtain rfl := d1.unnil
  obtain rfl := d2.unnil
  rw [hb] at dr
  obtain ⟨hcl, hcall⟩ := hs
  have hrun := calls_ent hcl (ρe := a.eval) ho hfe g.w
  simp only [List.nil_append, List.append_nil] at hrun
  simp only [wl, hw, if_true, wn, hrun]
  refine (hcall ρ g _ (fun f hf => st.all f (.tail _ (.tail _ hf))) dr).mono ?_
  rintro e w' ⟨v, g', r, ρ', rfl, rfl, hE', dv, hB, hO, hN⟩
  have s' := st.frame (r := ms ++ own) (fsc := []) (ownc := []) (fs' := []) (own' := [r]) .nil hE' (fun f hf => (by cases hf)) hO (fun b hb => .inr (hN b hb)) .nil
  simp only [List.nil_append] at s'
  let ρ2 : Nat → Lc := fun j => if j = i then ρ' i else ρ j
  have e2 : ρ2 i = ρ' i := by simp [ρ2]
  have hM : DenM g' ρ M ms := s'.all _ (.head _)
  have hS : Sl X ρ L a g' := s'.all _ (.tail _ (.head _))
  have s3 : St X.toCx [] (F1 ρ2 ((i, mb) :: M) (r :: ms) :: F2 X ρ2 L a :: fs) ((r :: ms) ++ own) g' a := ⟨s'.kn, All.cons (.cons (hB.move hcb e2) (occ_upd hM hoc.2)) (All.cons ⟨fun j hj => by
      have : j ≠ i := by omega
      simp only [ρ2, if_neg this]; exact hS.pin j hj, fun t sv ht => by
      obtain ⟨x, hx, dx⟩ := hS.val t sv ht
      exact ⟨x, hx, dx.upd (occSL_get hoc.1 t sv ht)⟩⟩ (fun f hf => s'.all f (.tail _ (.tail _ hf)))), s'.own, s'.ext, s'.new⟩
  refine ⟨v, rfl, ?_⟩
  rw [hd]
  exact go hT m H hk hr hφ g' _ (ESt.put s3 hn (dv.only hol ρ2 e2))
end
end Go.KX
/- Plain: nodes by their refs; in which order they are reckoned. No program in sight. -/
namespace Go.KX
abbrev msE (m : List (Bytes × Nd)) : List (Bytes × SV) := m.map fun p => (p.1, ndS p.2)
abbrev ordE (n : Nd) : Bytes × SV := (n.ref, ndS n)
/-- byRef's map. -/
def byR (l : List Nd) : List (Bytes × Nd) := l.foldl (fun m n => mset m n.ref n) []
def okN (l : List Nd) : Bool := decide ((byR l).length = l.length)
section
variable {α β γ : Type} [DecidableEq α]
theorem mset_map (f : β → γ) (m : List (α × β)) (q : α) (v : β) : mset (m.map fun p => (p.1, f p.2)) q (f v) = (mset m q v).map fun p => (p.1, f p.2) := by
  induction m with
  | nil => rfl
  | cons p r ih =>
    simp only [List.map_cons, mset]
    split
    · rfl
    · rw [ih]; rfl
theorem mget_map (f : β → γ) (m : List (α × β)) (q : α) : mget (m.map fun p => (p.1, f p.2)) q = (mget m q).map f := by
  induction m with
  | nil => rfl
  | cons p r ih =>
    simp only [List.map_cons, mget]
    split
    · rfl
    · rw [ih]
theorem mget_mset (m : List (α × β)) (q k : α) (v : β) : mget (mset m q v) k = if k = q then some v else mget m k := by
  induction m with
  | nil => simp [mset, mget]
  | cons p r ih =>
    simp only [mset]
    split
    · rename_i h; subst h; simp only [mget]; split <;> rfl
    · rename_i h
      simp only [mget]
      split
      · rename_i h2; subst h2; rw [if_neg (by rintro rfl; exact h rfl)]
      · exact ih
theorem mset_len (m : List (α × β)) (q : α) (v : β) : (mset m q v).length ≤ m.length + 1 ∧ ((mset m q v).length = m.length + 1 → mset m q v = m ++ [(q, v)] ∧ q ∉ m.map (·.1)) := by
  induction m with
  | nil => simp [mset]
  | cons p r ih =>
    simp only [mset]
    split
    · simp
    · rename_i h
      obtain ⟨h1, h2⟩ := ih
      refine ⟨by simpa using h1, fun h3 => ?_⟩
      obtain ⟨h4, h5⟩ := h2 (by simpa using h3)
      exact ⟨by rw [h4]; rfl, by simp only [List.map_cons, List.mem_cons, not_or]; exact ⟨h, h5⟩⟩
theorem mget_none {m : List (α × β)} {q : α} : mget m q = none ↔ q ∉ m.map (·.1) := by
  induction m with
  | nil => simp [mget]
  | cons p r ih =>
    simp only [mget, List.map_cons, List.mem_cons, not_or]
    split
    · rename_i h; simp [h]
    · rename_i h; rw [ih]; simp [h]
theorem mset_new {m : List (α × β)} {q : α} {v : β} (h : q ∉ m.map (·.1)) : mset m q v = m ++ [(q, v)] := by
  induction m with
  | nil => rfl
  | cons p r ih =>
    simp only [List.map_cons, List.mem_cons, not_or] at h
    simp only [mset, if_neg h.1, ih h.2, List.cons_append]
end
theorem okN_len {l : List Nd} : decide (((msE (byR l)).length : Int) = ((l.map ndL).length : Int)) = okN l := by
  rw [List.length_map, List.length_map]
  exact decide_eq_decide.2 (by omega)
theorem byR_aux : ∀ (l : List Nd) (m : List (Bytes × Nd)), (l.foldl (fun m n => mset m n.ref n) m).length ≤ m.length + l.length ∧ ((l.foldl (fun m n => mset m n.ref n) m).length = m.length + l.length → l.foldl (fun m n => mset m n.ref n) m = m ++ l.map (fun n => (n.ref, n)) ∧ (l.map (·.ref)).Nodup ∧ ∀ n ∈ l, n.ref ∉ m.map (·.1))
  | [], m => ⟨by simp, fun _ => ⟨by simp, by simp, by simp⟩⟩
  | n :: l, m => by
    obtain ⟨h1, h2⟩ := byR_aux l (mset m n.ref n)
    obtain ⟨h3, h4⟩ := mset_len m n.ref n
    simp only [List.foldl_cons, List.length_cons]
    refine ⟨by omega, fun h => ?_⟩
    obtain ⟨h5, h6⟩ := h4 (by omega)
    obtain ⟨h7, h8, h9⟩ := h2 (by omega)
    refine ⟨by rw [h7, h5]; simp, ?_, ?_⟩
    · simp only [List.map_cons, List.nodup_cons]
      refine ⟨fun hm => ?_, h8⟩
      obtain ⟨x, hx, e⟩ := List.mem_map.1 hm
      refine h9 x hx ?_
      rw [h5, e]; simp
    · intro x hx
      cases hx with
      | head => exact h6
      | tail _ hx =>
        have := h9 x hx
        rw [h5] at this
        simp only [List.map_append, List.mem_append, not_or] at this
        exact this.1
theorem byR_ok {l : List Nd} (h : okN l = true) : byR l = l.map (fun n => (n.ref, n)) ∧ (l.map (·.ref)).Nodup := by
  obtain ⟨h1, h2, _⟩ := (byR_aux l []).2 (by have := of_decide_eq_true h; simpa [byR] using this)
  exact ⟨by simpa [byR] using h1, h2⟩
theorem okN_of {l : List Nd} (h : (l.map (·.ref)).Nodup) : okN l = true := by
  have key : ∀ (l : List Nd) (m : List (Bytes × Nd)), (l.map (·.ref)).Nodup → (∀ n ∈ l, n.ref ∉ m.map (·.1)) → (l.foldl (fun m n => mset m n.ref n) m).length = m.length + l.length := by
    intro l
    induction l with
    | nil => intro m _ _; simp
    | cons n l ih =>
      intro m h hm
      simp only [List.map_cons, List.nodup_cons] at h
      have hn := mset_new (v := n) (hm n (.head _))
      simp only [List.foldl_cons]
      rw [ih _ h.2 (fun x hx => ?_), hn]
      · simp; omega
      · rw [hn]
        simp only [List.map_append, List.mem_append, not_or]
        refine ⟨hm x (.tail _ hx), ?_⟩
        simp only [List.map_cons, List.map_nil, List.mem_singleton]
        intro e
        exact h.1 (List.mem_map.2 ⟨x, hx, e⟩)
  have := key l [] h (fun _ _ => by simp)
  exact decide_eq_true (by simpa [byR] using this)
theorem okN_iff {l : List Nd} : okN l = true ↔ (l.map (·.ref)).Nodup := ⟨fun h => (byR_ok h).2, okN_of⟩
theorem byR_next {l : List Nd} {j : Nat} (h : j < l.length) : mset (msE (byR (l.take j))) l[j].ref (ndS l[j]) = msE (byR (l.take (j + 1))) := by
  rw [List.take_succ_eq_append_getElem h]
  simp only [byR, List.foldl_append, List.foldl_cons, List.foldl_nil]
  exact mset_map ndS _ _ _
theorem byR_E {l : List Nd} (h : okN l = true) : msE (byR l) = l.map ordE := by
  rw [(byR_ok h).1, msE, List.map_map]; rfl
theorem rN_get {l : List Nd} {j : Nat} (h : j < l.length) : (l.map ndL)[j]? = some (ndL l[j]) := by simp [h]
theorem ordE_get {l : List Nd} {n : Nat} {q : Bytes} {sv : SV} (h : (l.map ordE)[n]? = some (q, sv)) : ∃ x, l[n]? = some x ∧ q = x.ref ∧ sv = ndS x := by
  simp only [List.getElem?_map, Option.map_eq_some_iff] at h
  obtain ⟨x, hx, e⟩ := h
  simp only [ordE, Prod.mk.injEq] at e
  exact ⟨x, hx, e.1.symm, e.2.symm⟩
/-! ### The order -/
def toldE (out : List Bytes) : List (Bytes × SV) := out.foldl (fun m o => mset m o (bS true)) []
theorem told_next (out : List Bytes) (o : Bytes) : mset (toldE out) o (bS true) = toldE (out ++ [o]) := by simp [toldE, List.foldl_append]
theorem told_get (out : List Bytes) (q : Bytes) : mget (toldE out) q = if q ∈ out then some (bS true) else none := by
  have key : ∀ (out : List Bytes) (m : List (Bytes × SV)), mget (out.foldl (fun m o => mset m o (bS true)) m) q = if q ∈ out then some (bS true) else mget m q := by
    intro out
    induction out with
    | nil => intro m; rfl
    | cons o out ih =>
      intro m
      simp only [List.foldl_cons]
      rw [ih, mget_mset]
      by_cases h1 : q ∈ out
      · rw [if_pos h1, if_pos (List.mem_cons_of_mem _ h1)]
      · rw [if_neg h1]
        by_cases h2 : q = o
        · rw [if_pos h2, if_pos (by rw [h2]; exact List.mem_cons_self ..)]
        · rw [if_neg h2, if_neg (by simp [h1, h2])]
  exact key out []
theorem told_in {out : List Bytes} {q : Bytes} (h : q ∈ out) : mget (toldE out) q = some (bS true) := by rw [told_get, if_pos h]
theorem told_out {out : List Bytes} {q : Bytes} (h : q ∉ out) : mget (toldE out) q = none := by rw [told_get, if_neg h]
def readyN (out : List Bytes) (n : Nd) : Bool := (inputsN n).all fun i => decide (i ∈ out)
abbrev gtB (a b : Bytes) : Bool := !(blt a b || decide (a = b))
def stepB (out : List Bytes) (s : Bytes × Bool) (n : Nd) : Bytes × Bool := if (s.2 && gtB n.ref s.1) = true then s else if readyN out n = true then (n.ref, true) else s
def bestL (out : List Bytes) (l : List Nd) : Bytes × Bool := l.foldl (stepB out) ([], false)
def pickL (l : List Nd) (js : List Nat) : List Nd := js.filterMap (l[·]?)
theorem pickL_snoc {l : List Nd} {js : List Nat} {n : Nat} {x : Nd} (h : l[n]? = some x) : pickL l (js ++ [n]) = pickL l js ++ [x] := by simp [pickL, h]
theorem pickL_all (l : List Nd) : pickL l (List.range l.length) = l := by
  have key : ∀ n, n ≤ l.length → pickL l (List.range n) = l.take n := by
    intro n
    induction n with
    | zero => intro _; simp [pickL]
    | succ n ih =>
      intro h
      rw [List.range_succ, pickL_snoc (List.getElem?_eq_getElem (by omega)), ih (by omega), List.take_succ_eq_append_getElem (by omega)]
  rw [key _ (Nat.le_refl _), List.take_length]
theorem best_snoc {out : List Bytes} {l : List Nd} {x : Nd} : bestL out (l ++ [x]) = stepB out (bestL out l) x := by simp [bestL]
/-! ### The order of texts -/
theorem blt_irrefl : ∀ a : Bytes, blt a a = false
  | [] => rfl
  | x :: a => by
    have ih := blt_irrefl a
    unfold blt at ih ⊢
    simp [Op.bytesLess, ih]
theorem blt_trans : ∀ {a b c : Bytes}, blt a b = true → blt b c = true → blt a c = true
  | _, _, [], _, h => by unfold blt at h; simp [Op.bytesLess] at h
  | _, [], _ :: _, h, _ => by unfold blt at h; simp [Op.bytesLess] at h
  | [], _ :: _, _ :: _, _, _ => by unfold blt; simp [Op.bytesLess]
  | x :: a, y :: b, z :: c, h1, h2 => by
    have ih := @blt_trans a b c
    unfold blt at *
    simp only [Op.bytesLess, Bool.or_eq_true, decide_eq_true_eq, Bool.and_eq_true, beq_iff_eq] at *
    rcases h1 with h1 | ⟨rfl, h1⟩
    · rcases h2 with h2 | ⟨rfl, h2⟩
      · exact .inl (UInt8.lt_trans h1 h2)
      · exact .inl h1
    · rcases h2 with h2 | ⟨rfl, h2⟩
      · exact .inl h2
      · exact .inr ⟨rfl, ih h1 h2⟩
theorem blt_total : ∀ (a b : Bytes), blt a b = true ∨ a = b ∨ blt b a = true
  | [], [] => .inr (.inl rfl)
  | [], _ :: _ => .inl (by unfold blt; simp [Op.bytesLess])
  | _ :: _, [] => .inr (.inr (by unfold blt; simp [Op.bytesLess]))
  | x :: a, y :: b => by
    have ih := blt_total a b
    unfold blt at *
    simp only [Op.bytesLess, Bool.or_eq_true, decide_eq_true_eq, Bool.and_eq_true, beq_iff_eq] at *
    rcases Nat.lt_trichotomy x.toNat y.toNat with h | h | h
    · exact .inl (.inl (UInt8.lt_iff_toNat_lt.2 h))
    · have hxy : x = y := UInt8.toNat_inj.1 h
      subst hxy
      rcases ih with h | rfl | h
      · exact .inl (.inr ⟨rfl, h⟩)
      · exact .inr (.inl rfl)
      · exact .inr (.inr (.inr ⟨rfl, h⟩))
    · exact .inr (.inr (.inl (UInt8.lt_iff_toNat_lt.2 h)))
theorem blt_asymm {a b : Bytes} (h : blt a b = true) : blt b a = false := by
  cases hq : blt b a with
  | false => rfl
  | true => have := blt_trans h hq; rw [blt_irrefl] at this; cases this
theorem blt_ne {a b : Bytes} (h : blt a b = true) : a ≠ b := fun e => by subst e; rw [blt_irrefl] at h; cases h
theorem gtB_iff {a b : Bytes} : gtB a b = true ↔ blt b a = true := by
  unfold gtB
  rcases blt_total a b with h | h | h
  · simp [h, blt_asymm h]
  · subst h; simp [blt_irrefl]
  · have h2 := blt_asymm h
    have h3 := (blt_ne h).symm
    simp [h, h2, h3]
theorem gtB_not {a b : Bytes} : gtB a b = false ↔ (blt a b = true ∨ a = b) := by
  unfold gtB; cases blt a b <;> simp
theorem blt_tri {a b : Bytes} (h : blt a b = false) (h2 : blt b a = false) : a = b := by
  rcases blt_total a b with q | q | q
  · rw [h] at q; cases q
  · exact q
  · rw [h2] at q; cases q
theorem stepB_comm (out : List Bytes) (s : Bytes × Bool) (x y : Nd) : stepB out (stepB out s x) y = stepB out (stepB out s y) x := by
  obtain ⟨b, f⟩ := s
  unfold stepB
  cases hx : readyN out x <;> cases hy : readyN out y <;> cases f <;> simp only [Bool.false_and, Bool.true_and, Bool.false_eq_true, if_false, if_true]
  all_goals (repeat' split) <;> try rfl
  all_goals simp_all only [Bool.not_eq_true, Bool.true_and, Bool.and_true, not_true_eq_false, gtB_iff, Prod.mk.injEq, and_true]
  all_goals grind [blt_asymm, → blt_trans, blt_irrefl, → blt_tri]
theorem best_perm {out : List Bytes} {l l' : List Nd} (h : l.Perm l') : bestL out l = bestL out l' :=
  h.foldl_eq' (fun x _ y _ z => stepB_comm out z x y) _
/-- What is best: it is ready, and none that is ready has a lesser ref. -/
theorem best_some {out : List Bytes} : ∀ {l : List Nd}, (bestL out l).2 = true → ∃ x ∈ l, x.ref = (bestL out l).1 ∧ readyN out x = true := by
  have key : ∀ (l : List Nd) (s : Bytes × Bool), (l.foldl (stepB out) s).2 = true → l.foldl (stepB out) s = s ∨ ∃ x ∈ l, x.ref = (l.foldl (stepB out) s).1 ∧ readyN out x = true := by
    intro l
    induction l with
    | nil => intro s _; exact .inl rfl
    | cons x l ih =>
      intro s h
      simp only [List.foldl_cons] at h ⊢
      rcases ih _ h with e | ⟨y, hy, h2⟩
      · rw [e]
        unfold stepB
        split
        · exact .inl rfl
        · split
          · exact .inr ⟨x, .head _, rfl, by assumption⟩
          · exact .inl rfl
      · exact .inr ⟨y, .tail _ hy, h2⟩
  intro l h
  rcases key l _ h with e | h2
  · rw [bestL, e] at h; cases h
  · exact h2
theorem best_none {out : List Bytes} {l : List Nd} : (bestL out l).2 = false ↔ ∀ x ∈ l, readyN out x = false := by
  have key : ∀ (l : List Nd) (s : Bytes × Bool), (l.foldl (stepB out) s).2 = false ↔ s.2 = false ∧ ∀ x ∈ l, readyN out x = false := by
    intro l
    induction l with
    | nil => intro s; simp
    | cons x l ih =>
      intro s
      simp only [List.foldl_cons, ih, List.mem_cons, forall_eq_or_imp]
      obtain ⟨b, f⟩ := s
      unfold stepB
      cases hx : readyN out x <;> cases f <;> simp
      split <;> simp
  have := key l ([], false)
  simpa [bestL] using this
theorem best_left {out : List Bytes} {l : List Nd} (hn : (l.map (·.ref)).Nodup) (h : (bestL out l).2 = true) : (l.filter fun n => decide (n.ref ≠ (bestL out l).1)).length + 1 = l.length ∧ mdel (l.map ordE) (bestL out l).1 = (l.filter fun n => decide (n.ref ≠ (bestL out l).1)).map ordE := by
  obtain ⟨x, hx, e, _⟩ := best_some h
  rw [← e]
  have key : ∀ (l : List Nd), (l.map (·.ref)).Nodup → x ∈ l → (l.filter fun n => decide (n.ref ≠ x.ref)).length + 1 = l.length ∧ mdel (l.map ordE) x.ref = (l.filter fun n => decide (n.ref ≠ x.ref)).map ordE := by
    intro l
    induction l with
    | nil => intro _ h; cases h
    | cons y l ih =>
      intro hn hx
      simp only [List.map_cons, List.nodup_cons] at hn
      by_cases hy : y.ref = x.ref
      · have hall : l.filter (fun n => decide (n.ref ≠ x.ref)) = l := by
          rw [List.filter_eq_self]
          intro z hz
          simp only [ne_eq, decide_eq_true_eq]
          intro ez
          exact hn.1 (List.mem_map.2 ⟨z, hz, by rw [ez, hy]⟩)
        rw [List.filter_cons_of_neg (by simp [hy]), hall]
        refine ⟨rfl, ?_⟩
        simp only [List.map_cons, ordE, mdel, hy, if_true]
      · have hx2 : x ∈ l := by
          cases hx with
          | head => exact absurd rfl hy
          | tail _ h => exact h
        obtain ⟨h1, h2⟩ := ih hn.2 hx2
        rw [List.filter_cons_of_pos (by simp [hy])]
        refine ⟨by simp only [List.length_cons]; exact congrArg (· + 1) h1, ?_⟩
        simp only [List.map_cons, mdel]
        rw [if_neg (fun e => hy e.symm), h2]
  exact key l hn hx
theorem filter_nodup {l : List Nd} {p : Nd → Bool} (h : (l.map (·.ref)).Nodup) : ((l.filter p).map (·.ref)).Nodup := h.sublist ((List.filter_sublist).map _)
theorem snoc_ok {n m : Nat} {js : List Nat} (h : js.Nodup) (h2 : ∀ i ∈ js, i < m) (hn : n ∉ js) (hm : n < m) : (js ++ [n]).Nodup ∧ ∀ i ∈ js ++ [n], i < m := by
  refine ⟨List.nodup_append.2 ⟨h, by simp, fun a ha b hb => ?_⟩, fun i hi => ?_⟩
  · simp only [List.mem_singleton] at hb; rintro rfl; exact hn (hb ▸ ha)
  · rcases List.mem_append.1 hi with hi | hi
    · exact h2 i hi
    · simp only [List.mem_singleton] at hi; omega
theorem nodup_sub {α : Type} [DecidableEq α] : ∀ {js l : List α}, js.Nodup → (∀ i ∈ js, i ∈ l) → js.length ≤ l.length
  | [], _, _, _ => by simp
  | a :: js, l, h, h2 => by
    rw [List.nodup_cons] at h
    have ha := h2 a (.head _)
    have := nodup_sub (l := l.erase a) h.2 (fun i hi => by
      have hne : i ≠ a := by rintro rfl; exact h.1 hi
      exact (List.mem_erase_of_ne hne).2 (h2 i (.tail _ hi)))
    rw [List.length_erase_of_mem ha] at this
    have := List.length_pos_of_mem ha
    simp only [List.length_cons]
    omega
theorem nodup_le {m : Nat} {js : List Nat} (h : js.Nodup) (h2 : ∀ i ∈ js, i < m) : js.length ≤ m := by
  have := nodup_sub (l := List.range m) h (fun i hi => List.mem_range.2 (h2 i hi))
  simpa using this
theorem snoc_mu {n m : Nat} {js : List Nat} (_h : js.Nodup) (_h2 : ∀ i ∈ js, i < m) (h3 : (js ++ [n]).Nodup ∧ ∀ i ∈ js ++ [n], i < m) : m - (js ++ [n]).length < m - js.length := by
  have := nodup_le h3.1 h3.2
  simp only [List.length_append, List.length_singleton] at this ⊢
  omega
def orderL : Nat → List Bytes → List Nd → List Bytes × Int
  | 0, out, _ => (out, 0)
  | f + 1, out, left => if (bestL out left).2 = false then ([], 121) else orderL f (out ++ [(bestL out left).1]) (left.filter fun n => decide (n.ref ≠ (bestL out left).1))
def orderN (l : List Nd) : List Bytes × Int := if okN l = false then ([], 8) else orderL l.length [] l
/-- What slices.Backward hands over. -/
def bkA (l : List Nd) : List (List SV) := (List.range l.length).map fun (j : Nat) => [nI ((l.length : Int) - 1 - j), ndS (l.getD (l.length - 1 - j) ⟨[], 0, [], [], [], false, zeroV, zeroV, []⟩)]
theorem bkA_len (l : List Nd) : (bkA l).length = l.length := by simp [bkA]
theorem bkA_get {l : List Nd} {j : Nat} (h : j < l.length) : (bkA l)[j]? = some [nI ((l.length : Int) - 1 - j), ndS (l[l.length - 1 - j]'(by omega))] := by
  have h2 : l.length - 1 - j < l.length := by omega
  simp [bkA, h, h2]
end Go.KX
