/- Queues: the executor's words; blocks made in regions that draw their order. No program in sight. -/
import Derived.Test.YtomkgfdigldhcaaGreatDoorML
namespace Go.KX
section
variable {X : Kx} {k : List It} {L : SL} {M : SM} {fs : List MF} {own : List Res} {arr : Array Oper} {l : List Oper} {o : Oper}
/-- append(xs, ys...): xs a queue, ys frozen. -/
theorem sqap {tb : TT} (hT : tb.Ok X.P) (m : Nat) (H : List (List SV)) {d T Te i n sz z : Nat} {x y : Operand} {rows rows2 : List (List SV)} {dT de : TD} {M2 l' L' M' φ} (hn : n = rows.length) (hz2 : rows2 ≠ [] → z = sz) (hbig : (rows.length + rows2.length) * de.by_ ≤ 140737488355328) (hk : ES X arr l' k L' M' fs own) (ho : o.op = .call ⟨.builtin .append, #[x, y], #[T, T]⟩ := by rfl) (hg : o.guard = none := by rfl) (hd : o.dst = some d := by rfl) (hdn : Nat.blt d X.n = true := by rfl)
    (hx : evS (lkS L) x = some (.o i n) := by rfl) (hy : evS (lkS L) y = some (.s z rows2) := by rfl) (hm : lkM M i = some (.q Te sz rows) := by rfl) (hT1 : tb.get T = some dT := by rfl) (hk1 : dT.kd = .sl Te := by rfl) (hT2 : tb.get Te = some de := by rfl) (hsz : de.sz = sz := by rfl) (hzl : Nat.beq (cellsV (inj de.z)).length de.sz = true := by rfl) (hby : 1 ≤ de.by_ := by decide) (ho1 : onceM i M = true := by rfl) (hi1 : Nat.blt i 1000 = true := by rfl)
    (hu : updK M i (.q Te sz (rows ++ rows2)) some = some M2 := by rfl) (hr : xrun tb X.n arr m H l ((d, .o i (rows ++ rows2).length) :: cln i [] L) M2 [] = some (l', L', M', φ) := by rfl) (hφ : conj φ := by first | trivial | omega | (simp +contextual [conj]; done)) : ES X arr (o :: l) k L M fs own := by
  subst hsz hn
  intro g a hE
  obtain ⟨ρ, ms, st⟩ := hE.open
  have hSl : Sl X ρ L a g := st.all _ (.tail _ (.head _))
  have hw : Region.wanted o (yielded arr a.tmps) = true := live_wanted (L := []) st.kn (live_none hg)
  have hi1 : i < 1000 := by simpa [Nat.blt_eq] using hi1
  have hM : DenM g ρ M ms := st.all _ (.head _)
  obtain ⟨r, m1, m2, rfl, hB, hup⟩ := hM.setU ho1 hm
  obtain ⟨M3, hK, hM3⟩ := hup hu
  cases hK
  have dx := eval_den hSl.val hx
  have dy := eval_den hSl.val hy
  generalize hvx : a.eval x = vx at dx
  generalize hvy : a.eval y = vy at dy
  have u := (TT.get_ok hT hT1).kd
  rw [hk1] at u
  have hti := (TT.get_ok hT hT2).ti
  have hzs : de.z.cells.size = de.sz := cellsV_len (Nat.eq_of_beq_eq_true hzl)
  cases hB with
  | q hz ys hl hdd =>
    cases dx with
    | o =>
      cases dy with
      | s xs h1 h2 hxl hxr hxo hne hxd =>
        rename_i ad2 c2
        have hxl2 : xs.length = rows2.length * de.sz := by
          by_cases he : rows2 = []
          · rw [he] at hxl ⊢; simpa using hxl
          · rw [← hz2 he]; exact hxl
        obtain ⟨ys2, hyl2, hyf⟩ := chunks hz rows2.length xs hxl2 hxo.1
        have hp : (m1 ++ Res.que (elRow de.sz hz) Te (ρ i).ad (ρ i).c ys :: m2 ++ own).Perm (Res.que (elRow de.sz hz) Te (ρ i).ad (ρ i).c ys :: (m1 ++ m2 ++ own)) := by
          simp only [List.append_assoc, List.cons_append]
          exact List.perm_middle
        have stp0 := st.perm hp
        have stp : St X.toCx [] (rowsD ys rows :: rowsD ys2 rows2 :: F1 ρ M _ :: F2 X ρ L a :: fs) _ g a := ⟨stp0.kn, All.cons hdd (All.cons (fun ρ' k x r hk hr => by
          have hrl : r.length = de.sz := by
            have hne2 : rows2 ≠ [] := by intro e; subst e; simp at hr
            rw [← hz2 hne2]; exact hxr r (List.mem_of_getElem? hr)
          refine ⟨by rw [x.2.1, hrl], fun j sv v hj hv => ?_⟩
          have hf := flat_get (elRow de.sz hz) ys2 k j x v hk hv
          rw [hyf] at hf
          have hne2 : rows2 ≠ [] := by intro e; subst e; simp at hr
          exact hxd ρ' k j r sv v hr hj (by rw [hz2 hne2]; exact hf)) stp0.all), stp0.own, stp0.ext, stp0.new⟩
        have hq : (Res.que (elRow de.sz hz) Te (ρ i).ad (ρ i).c ys).p g.w := stp.own.p _ (.head _)
        have hbig' : (ys.length + ys2.length) * de.by_ ≤ 140737488355328 := by rw [hl, hyl2]; exact hbig
        obtain ⟨v', w', hr0, ad', c', rfl, p1, p2, p3, p4, p5, p6, p7⟩ := run_appq (P := X.P) (ty := o.type) hz u hti hzs hq (ad2 := ad2) (ys2 := ys2) (c2 := c2) (fun hne2 => by
          have hr2 : rows2 ≠ [] := by intro e; subst e; exact hne2 (List.eq_nil_of_length_eq_zero (by simpa using hyl2))
          obtain ⟨b, oo, he, _, hc⟩ := hne hr2
          exact ⟨b, oo, he, fun j v hv => hc j v (by rw [← hyf]; exact hv)⟩) hby hbig'
        have hnd : (vbs ad').Nodup := by cases ad' <;> simp [vbs]
        obtain ⟨g', rfl, s'⟩ := stp.turn .head p2 p3 p4 p5 p6 p1 hnd (fun b hb => (p7 b hb).1) (fun b hb => (p7 b hb).2)
        rw [hyl2] at hr0
        have hre : (execOp a.eval o).run X.P g.w = .ok (.value (.slice ad' (ys ++ ys2).length c')) g'.w := by
          simp only [execOp, ho, resolve]
          simp only [List.map_toArray, List.map_cons, List.map_nil, hvx, hvy, ← hl]
          simp [invoke, builtin, hr0]
        simp only [wl, hw, if_true, wn, hre, hd]
        let y : Lc := ⟨(ρ i).b, ad', c'⟩
        have hd1 : (rowsD ys rows).p g' := s'.all _ (.head _)
        have hd2 : (rowsD ys2 rows2).p g' := s'.all _ (.tail _ (.head _))
        have hSl' : Sl X ρ L a g' := s'.all (F2 X ρ L a) (.tail _ (.tail _ (.tail _ (.head _))))
        have hM' : DenM g' ρ M (m1 ++ _ :: m2) := s'.all (F1 ρ M _) (.tail _ (.tail _ (.head _)))
        have hBn : DenB g' (fun j => if j = i then y else ρ j) i (.q Te de.sz (rows ++ rows2)) (Res.que (elRow de.sz hz) Te ((fun j => if j = i then y else ρ j) i).ad ((fun j => if j = i then y else ρ j) i).c (ys ++ ys2)) := .q hz (ys ++ ys2) (by simp [hl, hyl2]) (fun ρ' k x r hk hr => by
          rw [List.getElem?_append] at hk hr
          rw [hl] at hk
          split at hr
          · rename_i hlt; rw [if_pos hlt] at hk; exact hd1 ρ' k x r hk hr
          · rename_i hlt; rw [if_neg hlt] at hk; exact hd2 ρ' _ x r hk hr)
        simp only [if_pos] at hBn
        have hMn := hM3 g' y _ hM' (by simpa using hBn)
        have hp2 : (Res.que (elRow de.sz hz) Te ad' c' (ys ++ ys2) :: (m1 ++ m2 ++ own)).Perm (m1 ++ Res.que (elRow de.sz hz) Te ad' c' (ys ++ ys2) :: m2 ++ own) := by
          simp only [List.append_assoc, List.cons_append]
          exact List.perm_middle.symm
        have s2 := s'.perm hp2
        have s3 : St X.toCx [] (F1 (fun j => if j = i then y else ρ j) M2 (m1 ++ Res.que (elRow de.sz hz) Te ad' c' (ys ++ ys2) :: m2) :: F2 X (fun j => if j = i then y else ρ j) (cln i [] L) a :: fs) (m1 ++ Res.que (elRow de.sz hz) Te ad' c' (ys ++ ys2) :: m2 ++ own) g' a := ⟨s2.kn, All.cons hMn (All.cons ⟨fun j hj => by
            have : j ≠ i := by omega
            simp only [if_neg this]; exact hSl'.pin j hj, fun t sv ht => by
            obtain ⟨_, h3, h4⟩ := cln_lk ht
            obtain ⟨x, hx, dx⟩ := hSl'.val t sv h3
            exact ⟨x, hx, dx.upd h4⟩⟩ (fun f hf => s2.all f (.tail _ (.tail _ (.tail _ (.tail _ hf)))))), s2.own, s2.ext, s2.new⟩
        refine go hT m H hk hr hφ g' _ (ESt.put s3 hdn ?_)
        have hlen : (ys ++ ys2).length = (rows ++ rows2).length := by simp [hl, hyl2]
        rw [hlen]
        have : Den g' (fun j => if j = i then y else ρ j) (.o i (rows ++ rows2).length) (.slice ((fun j => if j = i then y else ρ j) i).ad (rows ++ rows2).length ((fun j => if j = i then y else ρ j) i).c) := .o
        simpa [y] using this
/-- A literal of one text, as rows that are owned. -/
theorem sbl1 {tb : TT} (hT : tb.Ok X.P) (i : Nat) {d T Te : Nat} {x : Operand} {q : Bytes} {dT de : TD} (h : ES X arr l k ((d, .o i 1) :: L) ((i, .r Te 1 [[.str q]]) :: M) fs own) (ho : o.op = .buildSlice T 1 #[(0, x)] := by rfl) (hg : o.guard = none := by rfl) (hd : o.dst = some d := by rfl) (hn : Nat.blt d X.n = true := by rfl) (hx : evS (lkS L) x = some (.str q) := by rfl)
    (hT1 : tb.get T = some dT := by rfl) (hk1 : dT.kd = .sl Te := by rfl) (hT2 : tb.get Te = some de := by rfl) (hsz : de.sz = 1 := by rfl) (hzl : Nat.beq (cellsV (inj de.z)).length de.sz = true := by rfl) (hoc : (occSL i L || occM i M) = false := by rfl) (hlt : Nat.blt i 1000 = true := by rfl) : ES X arr (o :: l) k L M fs own := by
  intro g a hE
  obtain ⟨ρ, ms, st⟩ := hE.open
  simp only [Bool.or_eq_false_iff] at hoc
  have hlt : i < 1000 := by simpa [Nat.blt_eq] using hlt
  have hSl : Sl X ρ L a g := st.all _ (.tail _ (.head _))
  have u := (TT.get_ok hT hT1).kd
  rw [hk1] at u
  have hti := (TT.get_ok hT hT2).ti
  have hzs : de.z.cells.size = de.sz := cellsV_len (Nat.eq_of_beq_eq_true hzl)
  rw [hsz] at hti hzs
  have hev : evs (lkS L) [x] = some [.str q] := by simp only [evs, hx]
  obtain ⟨Lr, st', hevl, hfr⟩ := st.slots (fun t sv ht => by obtain ⟨x, hx, _⟩ := hSl.val t sv ht; exact ⟨x, hx⟩) hev
  have hxv : a.eval x = str q := den_str (eval_den hSl.val hx)
  simp only [List.map_cons, List.map_nil, hxv] at hevl
  let y0 : Row 1 := ⟨[str q], rfl, fun u hu => by rcases List.mem_singleton.1 hu with rfl; rfl⟩
  have key := S_lit (k := [.lp fun a' w' => ∃ g', g'.w = w' ∧ ESt X ((d, .o i 1) :: L) ((i, .r Te 1 [[.str q]]) :: M) fs own g' a']) (arr := arr) (l := []) (elRow 1 (by decide)) [y0] (parts := [(0, x)]) (vs := [str q]) ho (live_none hg) hd hn u hti rfl hzs rfl hevl rfl (by decide) (fun ad c => S_J (fun g' a' s' => by
      let y : Lc := ⟨0, ad, c⟩
      have hM' : DenM g' ρ M ms := s'.all (F1 ρ M ms) (.head _)
      have hS' : Sl X ρ L a g' := s'.all (F2 X ρ L a) (.tail _ (.head _))
      have hB : DenB g' (fun j => if j = i then y else ρ j) i (.r Te 1 [[.str q]]) (Res.arr (elRow 1 (by decide)) Te ((fun j => if j = i then y else ρ j) i).ad ((fun j => if j = i then y else ρ j) i).c [y0]) := .r (by decide) [y0] rfl (fun ρ' k x r hk hr => by
        cases k with
        | zero =>
          cases hk; cases hr
          exact DenL.cons .str DenL.nil
        | succ k => cases hk)
      simp only [if_pos] at hB
      refine ⟨g', rfl, fun j => if j = i then y else ρ j, Res.arr (elRow 1 (by decide)) Te ad c [y0] :: ms, ⟨⟨s'.kn.size, s'.kn.defers, fun i v hv => by simp [lk] at hv⟩, fun f hf => s'.all f (.tail _ (.tail _ hf)), s'.own, s'.ext, s'.new⟩, .cons hB (occ_upd hM' hoc.2), fun j hj => ?_, fun t sv ht => ?_⟩
      · have : j ≠ i := by omega
        simp only [if_neg this]; exact hS'.pin j hj
      · by_cases htd : t = d
        · subst htd
          rw [lkS_same] at ht
          cases ht
          refine ⟨_, s'.kn.val t _ (lk_cons_same _ _ _), ?_⟩
          have : Den g' (fun j => if j = i then y else ρ j) (.o i 1) (.slice ((fun j => if j = i then y else ρ j) i).ad 1 ((fun j => if j = i then y else ρ j) i).c) := .o
          simpa [y] using this
        · rw [lkS_ne _ _ htd] at ht
          obtain ⟨x, hx, dx⟩ := hS'.val t sv ht
          exact ⟨x, s'.kn.val t x (by rw [lk_cons_ne _ _ htd]; exact hfr t x hx), dx.upd (occSL_get hoc.1 t sv ht)⟩)) g a st'
  have hw : Region.wanted o (yielded arr a.tmps) = true := live_wanted (L := []) st.kn (live_none hg)
  simp only [wl, hw, if_true] at key ⊢
  exact wn_mono (fun a' w' hh => by
    obtain ⟨g', rfl, hs⟩ := hh
    exact h g' a' hs) key
/-- Rows that are owned are a queue. -/
theorem eaq (i : Nat) {T sz : Nat} {rows : List (List SV)} {M' : SM} (h : E X k L M' fs own) (hm : lkM M i = some (.r T sz rows) := by rfl) (hu : updK M i (.q T sz rows) some = some M' := by rfl) : E X k L M fs own := by
  intro g a hE
  obtain ⟨ρ, ms, st⟩ := hE.open
  have hM : DenM g ρ M ms := st.all _ (.head _)
  have hSl : Sl X ρ L a g := st.all _ (.tail _ (.head _))
  obtain ⟨r, m1, m2, rfl, hB, hup⟩ := hM.split hm
  obtain ⟨M2, hK, hM2⟩ := hup hu
  cases hK
  cases hB with
  | r hz xs hl hdd =>
    have hp : (m1 ++ Res.arr (elRow sz hz) T (ρ i).ad (ρ i).c xs :: m2 ++ own).Perm (Res.arr (elRow sz hz) T (ρ i).ad (ρ i).c xs :: (m1 ++ m2 ++ own)) := by
      simp only [List.append_assoc, List.cons_append]
      exact List.perm_middle
    have hp2 : (Res.que (elRow sz hz) T (ρ i).ad (ρ i).c xs :: (m1 ++ m2 ++ own)).Perm (m1 ++ Res.que (elRow sz hz) T (ρ i).ad (ρ i).c xs :: m2 ++ own) := by
      simp only [List.append_assoc, List.cons_append]
      exact List.perm_middle.symm
    have stp := st.perm hp
    have ho : g.w.ownsRow 0 T sz (.slice (ρ i).ad xs.length (ρ i).c) xs.length (flat (elRow sz hz) xs) := stp.own.p _ (.head _)
    obtain ⟨ad, c, e, hq, _⟩ := own_que (E := elRow sz hz) ho
    injection e with e1 _ e3
    rw [← e1, ← e3] at hq
    have s' : St X.toCx [] (F1 ρ M (m1 ++ Res.arr (elRow sz hz) T (ρ i).ad (ρ i).c xs :: m2) :: F2 X ρ L a :: fs) (Res.que (elRow sz hz) T (ρ i).ad (ρ i).c xs :: (m1 ++ m2 ++ own)) g a := by
      refine ⟨stp.kn, stp.all, ⟨fun r hr => ?_, stp.own.nodup, stp.own.lt, stp.own.nfz⟩, stp.ext, stp.new⟩
      cases hr with
      | head => exact hq
      | tail _ hr => exact stp.own.p r (.tail _ hr)
    have s2 := s'.perm hp2
    have hMn := hM2 g _ hM (.q hz xs hl hdd)
    exact h g a ⟨ρ, _, ⟨s2.kn, fun f hf => s2.all f (.tail _ (.tail _ hf)), s2.own, s2.ext, s2.new⟩, hMn, hSl.pin, hSl.val⟩
/-- xs = xs[1:], of a queue. -/
theorem sqsl {tb : TT} (hT : tb.Ok X.P) (m : Nat) (H : List (List SV)) {d T Te i n sz : Nat} {kk : IntKind} {x y : Operand} {row : List SV} {rows : List (List SV)} {dT de : TD} {M2 l' L' M' φ} (hn : n = rows.length + 1) (hk : ES X arr l' k L' M' fs own) (ho : o.op = .slice T x (some y) none none := by rfl) (hg : o.guard = none := by rfl) (hd : o.dst = some d := by rfl) (hdn : Nat.blt d X.n = true := by rfl)
    (hx : evS (lkS L) x = some (.o i n) := by rfl) (hy : evS (lkS L) y = some (.v (.int kk 1)) := by rfl) (hm : lkM M i = some (.q Te sz (row :: rows)) := by rfl) (hT1 : tb.get T = some dT := by rfl) (hk1 : dT.kd = .sl Te := by rfl) (hT2 : tb.get Te = some de := by rfl) (hsz : de.sz = sz := by rfl) (ho1 : onceM i M = true := by rfl) (hi1 : Nat.blt i 1000 = true := by rfl)
    (hu : updK M i (.q Te sz rows) some = some M2 := by rfl) (hr : xrun tb X.n arr m H l ((d, .o i rows.length) :: cln i [] L) M2 [] = some (l', L', M', φ) := by rfl) (hφ : conj φ := by first | trivial | omega | (simp +contextual [conj]; done)) : ES X arr (o :: l) k L M fs own := by
  subst hsz hn
  intro g a hE
  obtain ⟨ρ, ms, st⟩ := hE.open
  have hSl : Sl X ρ L a g := st.all _ (.tail _ (.head _))
  have hw : Region.wanted o (yielded arr a.tmps) = true := live_wanted (L := []) st.kn (live_none hg)
  have hi1 : i < 1000 := by simpa [Nat.blt_eq] using hi1
  have hM : DenM g ρ M ms := st.all _ (.head _)
  obtain ⟨r, m1, m2, rfl, hB, hup⟩ := hM.setU ho1 hm
  obtain ⟨M3, hK, hM3⟩ := hup hu
  cases hK
  have dx := eval_den hSl.val hx
  have hyv := den_int (eval_den hSl.val hy)
  generalize hvx : a.eval x = vx at dx
  have u := (TT.get_ok hT hT1).kd
  rw [hk1] at u
  have hti := (TT.get_ok hT hT2).ti
  cases hB with
  | q hz ys hl hdd =>
    cases dx with
    | o =>
      have hp : (m1 ++ Res.que (elRow de.sz hz) Te (ρ i).ad (ρ i).c ys :: m2 ++ own).Perm (Res.que (elRow de.sz hz) Te (ρ i).ad (ρ i).c ys :: (m1 ++ m2 ++ own)) := by
        simp only [List.append_assoc, List.cons_append]
        exact List.perm_middle
      have stp0 := st.perm hp
      have stp : St X.toCx [] (rowsD ys (row :: rows) :: F1 ρ M _ :: F2 X ρ L a :: fs) _ g a := ⟨stp0.kn, All.cons hdd stp0.all, stp0.own, stp0.ext, stp0.new⟩
      have hq : (Res.que (elRow de.sz hz) Te (ρ i).ad (ρ i).c ys).p g.w := stp.own.p _ (.head _)
      cases ys with
      | nil => simp at hl
      | cons y0 ys =>
        rcases hq with ⟨_, _, h0⟩ | ⟨gg, off, cur, had, hg0, hnc, hcm, hcs, htk⟩
        · cases h0
        · have hcs' : off + (ρ i).c * de.sz ≤ cur.size := hcs
          have htk' : (cur.toList.drop off).take ((ys.length + 1) * de.sz) = flat (elRow de.sz hz) (y0 :: ys) := htk
          have hlen : ys.length + 1 ≤ (ρ i).c := hnc
          have hrl : ys.length = rows.length := by simpa using hl
          let ad' : Option Addr := if (ρ i).c = 1 then (ρ i).ad else some ⟨gg, off + de.sz, none⟩
          have hvb : vbs ad' = [gg] := by
            simp only [ad']
            split
            · rw [had]; rfl
            · rfl
          have hq' : (Res.que (elRow de.sz hz) Te ad' ((ρ i).c - 1) ys).p g.w := by
            by_cases hc1 : (ρ i).c = 1
            · have hys : ys = [] := List.eq_nil_of_length_eq_zero (by omega)
              subst hys
              refine .inr ⟨gg, off, cur, by simp only [ad', if_pos hc1, had], hg0, by simp, by omega, ?_, by simp⟩
              rw [hc1]; simp; omega
            · refine .inr ⟨gg, off + de.sz, cur, by simp only [ad', if_neg hc1], hg0, by omega, by omega, ?_, ?_⟩
              · show off + de.sz + ((ρ i).c - 1) * de.sz ≤ cur.size
                have : (ρ i).c * de.sz = ((ρ i).c - 1) * de.sz + de.sz := by
                  rw [← Nat.succ_mul]; congr 1; omega
                omega
              · show (cur.toList.drop (off + de.sz)).take (ys.length * de.sz) = _
                have h1 := congrArg (List.drop de.sz) htk'
                rw [List.drop_take, List.drop_drop] at h1
                have e1 : (ys.length + 1) * de.sz - de.sz = ys.length * de.sz := by rw [Nat.succ_mul]; omega
                rw [e1] at h1
                rw [h1]
                have e2 : (elRow de.sz hz).sz = de.sz := rfl
                have h2 := flat_drop (elRow de.sz hz) (y0 :: ys) 1
                rw [Nat.one_mul, e2] at h2
                exact h2
          have hnd : (Res.que (elRow de.sz hz) Te ad' ((ρ i).c - 1) ys).bs.Nodup := by show (vbs ad').Nodup; rw [hvb]; simp
          have hgl : gg < g.w.heap.size := (Array.getElem?_eq_some_iff.1 hg0).1
          obtain ⟨g', hwg, s'⟩ := stp.turn (w' := g.w) .head (fun _ _ _ => rfl) rfl rfl rfl (Nat.le_refl _) hq' hnd (fun b hb => by
            have : b ∈ vbs ad' := hb
            rw [hvb] at this
            rw [List.mem_singleton.1 this]; exact hgl) (fun b hb => .inl (by
            have : b ∈ vbs ad' := hb
            rw [hvb] at this
            show b ∈ vbs (ρ i).ad
            rw [had]; exact this))
          have hre : (execOp a.eval o).run X.P g.w = .ok (.value (.slice ad' rows.length ((ρ i).c - 1))) g.w := by
            have hb1 : (Instr.sliceBound (a.eval y) (rows.length + 1) .sliceB).run X.P g.w = .ok 1 g.w := by
              rw [hyv]
              have := run_sliceBound (P := X.P) (w := g.w) (kk := kk) (z := 1) (m := rows.length + 1) (code := .sliceB) (by decide) (by omega)
              exact this
            have hb2 : (Instr.sliceBounds true (rows.length + 1) (ρ i).c (some (a.eval y)) none none).run X.P g.w = .ok (1, rows.length + 1, (ρ i).c) g.w := by
              simp only [Instr.sliceBounds, Sem.run_bind, Sem.run_pure, Result.andThen_ok, Option.isSome_none, Bool.false_eq_true, if_false, hb1]
            simp only [execOp, ho, hvx]
            simp only [Option.map_some, Option.map_none, Instr.sliceAt, Instr.slice, Sem.run_bind, run_underlying u, Result.andThen_ok, hb2, run_sizeOf hti, Sem.run_pure]
            congr 3
            simp only [ad', had]
            by_cases hc1 : (ρ i).c = 1
            · simp [hc1]
            · simp [hc1, addr_add]
          simp only [wl, hw, if_true, wn, hre, hd]
          let y : Lc := ⟨(ρ i).b, ad', (ρ i).c - 1⟩
          have hdd' : (rowsD (y0 :: ys) (row :: rows)).p g' := s'.all _ (.head _)
          have hSl' : Sl X ρ L a g' := s'.all (F2 X ρ L a) (.tail _ (.tail _ (.head _)))
          have hM' : DenM g' ρ M (m1 ++ _ :: m2) := s'.all (F1 ρ M _) (.tail _ (.head _))
          have hBn : DenB g' (fun j => if j = i then y else ρ j) i (.q Te de.sz rows) (Res.que (elRow de.sz hz) Te ((fun j => if j = i then y else ρ j) i).ad ((fun j => if j = i then y else ρ j) i).c ys) := .q hz ys hrl (fun ρ' k x r hk hr => hdd' ρ' (k + 1) x r (by simpa using hk) (by simpa using hr))
          simp only [if_pos] at hBn
          have hMn := hM3 g' y _ hM' (by simpa using hBn)
          have hp2 : (Res.que (elRow de.sz hz) Te ad' ((ρ i).c - 1) ys :: (m1 ++ m2 ++ own)).Perm (m1 ++ Res.que (elRow de.sz hz) Te ad' ((ρ i).c - 1) ys :: m2 ++ own) := by
            simp only [List.append_assoc, List.cons_append]
            exact List.perm_middle.symm
          have s2 := s'.perm hp2
          have s3 : St X.toCx [] (F1 (fun j => if j = i then y else ρ j) M2 (m1 ++ Res.que (elRow de.sz hz) Te ad' ((ρ i).c - 1) ys :: m2) :: F2 X (fun j => if j = i then y else ρ j) (cln i [] L) a :: fs) (m1 ++ Res.que (elRow de.sz hz) Te ad' ((ρ i).c - 1) ys :: m2 ++ own) g' a := ⟨s2.kn, All.cons hMn (All.cons ⟨fun j hj => by
              have : j ≠ i := by omega
              simp only [if_neg this]; exact hSl'.pin j hj, fun t sv ht => by
              obtain ⟨_, h3, h4⟩ := cln_lk ht
              obtain ⟨x, hx, dx⟩ := hSl'.val t sv h3
              exact ⟨x, hx, dx.upd h4⟩⟩ (fun f hf => s2.all f (.tail _ (.tail _ (.tail _ hf))))), s2.own, s2.ext, s2.new⟩
          rw [← hwg]
          refine go hT m H hk hr hφ g' _ (ESt.put s3 hdn ?_)
          have : Den g' (fun j => if j = i then y else ρ j) (.o i rows.length) (.slice ((fun j => if j = i then y else ρ j) i).ad rows.length ((fun j => if j = i then y else ρ j) i).c) := .o
          simpa [y] using this
end
end Go.KX
/- Regions that draw their order: blocks made there, queues read, maps looked up. No program in sight. -/
namespace Go.KX
section
variable {X : Kx} {k : List It} {L : SL} {M : SM} {fs : List MF} {own : List Res} {arr : Array Oper} {l : List Oper} {o : Oper}
theorem Stp_al {tb : TT} (hT : tb.Ok X.P) {T d : Nat} {t : TD} (hg : o.guard = none) (ho : o.op = .alloc T) (hd : o.dst = some d) (hn : Nat.blt d X.n = true) (ht : tb.get T = some t) (hok : (okc (inj t.z) && Nat.blt d 1000) = true) (hoc : occM d M = false) (hoL : occSL d L = false) : StpU X arr o L M fs own (.l d 0) ((d, .c T (cellsV (inj t.z))) :: M) := by
  intro L' hL hf g a hE
  have hfr : occSL d L' = false := hf d (by unfold isAl; rw [ho]; exact hd) hoL
  have hx : xeff tb L' M o.dst o.op = some ((d, .l d 0) :: L', (d, .c T (cellsV (inj t.z))) :: M, []) := by
    rw [hd, ho]
    simp only [xeff, ht, hok, hfr, hoc, Bool.or_false]
  have := ES_eff (l := []) (arr := arr) (k := [.lp fun a' w' => ∃ g', g'.w = w' ∧ ESt X ((d, .l d 0) :: L') ((d, .c T (cellsV (inj t.z))) :: M) fs own g' a']) hT hg (fun d' h => by rw [hd] at h; cases h; exact hn) hx (fun p hp => by cases hp) (fun g' a' h => ⟨g', rfl, h⟩) g a hE
  have h2 : opQ X.P arr o (fun a' w' => ∃ g', g'.w = w' ∧ ESt X ((d, .l d 0) :: L') ((d, .c T (cellsV (inj t.z))) :: M) fs own g' a') a g.w := this
  rw [hd]
  exact h2
/-- A new block, in a region that draws its order: nothing may speak of it that does not come behind it. -/
theorem dal {tb : TT} (hT : tb.Ok X.P) (m : Nat) (H : List (List SV)) {un i d T : Nat} {D r π' : List Nat} {Ms Ms' : List SM} {t : TD} {L' M' φ} (hk : ED X arr k fs own un D π' L' M' Ms') (hi : arr[i]? = some o := by rfl) (hu : un.testBit i = true := by rfl) (hg : o.guard = none := by rfl) (ho : o.op = .alloc T := by rfl) (hd : o.dst = some d := by rfl) (hn : Nat.blt d X.n = true := by rfl) (ht : tb.get T = some t := by rfl) (hok : (okc (inj t.z) && Nat.blt d 1000) = true := by rfl) (hoc : occM d M = false := by rfl) (hoL : occSL d L = false := by rfl)
    (hr : xdrw tb X.n arr un D m H r ((d, .l d 0) :: L) ((d, .c T (cellsV (inj t.z))) :: M) (M :: Ms) [] = some (π', L', M', Ms', φ) := by rfl) (hφ : conj φ := by first | trivial | omega | (simp +contextual [conj]; done)) : ED X arr k fs own un D (i :: r) L M Ms := by
  refine ⟨o, .l d 0, hi, ?_⟩
  rw [hu]
  refine ⟨_, Stp_al hT hg ho hd hn ht hok hoc hoL, ?_⟩
  rw [hd]
  exact xd hT m H hk hr hφ
def allQ (i : Nat) (mb : MB) : List SM → Prop
  | [] => True
  | M :: r => lkM M i = some mb ∧ allQ i mb r
theorem allQ_get {i : Nat} {mb : MB} : ∀ {Ms : List SM}, allQ i mb Ms → ∀ {q : Nat} {M}, Ms[q]? = some M → lkM M i = some mb
  | [], _, q, M, h => by simp at h
  | M :: Ms, ⟨h1, h2⟩, q, M', h => by
    cases q with
    | zero => simp at h; exact h ▸ h1
    | succ q => exact allQ_get h2 (by simpa using h)
theorem que_head {w : World} {sz Te : Nat} {hz : 0 < sz} {ad : Option Addr} {c : Nat} {y : Row sz} {ys : List (Row sz)} (h : (Res.que (elRow sz hz) Te ad c (y :: ys)).p w) : ∃ b o, ad = some ⟨b, o, none⟩ ∧ ∀ (j : Nat) v, y.1[j]? = some v → w.cell? ⟨b, o + j, none⟩ = some v := by
  rcases h with ⟨_, _, h0⟩ | ⟨gg, off, cur, had, hg, hnc, hcm, hcs, htk⟩
  · cases h0
  · refine ⟨gg, off, had, fun j v hv => ?_⟩
    have htk' : (cur.toList.drop off).take ((ys.length + 1) * sz) = y.1 ++ flat (elRow sz hz) ys := htk
    have hj : j < y.1.length := by
      rcases Nat.lt_or_ge j y.1.length with h | h
      · exact h
      · rw [List.getElem?_eq_none h] at hv; cases hv
    have h2 : (y.1 ++ flat (elRow sz hz) ys)[j]? = some v := by rw [List.getElem?_append_left hj]; exact hv
    rw [← htk'] at h2
    have hlt : j < (ys.length + 1) * sz := by
      have h5 := y.2.1
      rw [Nat.succ_mul]; omega
    rw [List.getElem?_take_of_lt hlt, List.getElem?_drop] at h2
    simp only [World.cell?, hg]
    simpa using h2
theorem Stp_qix {tb : TT} (hT : tb.Ok X.P) {T Te d i n sz : Nat} {kk : IntKind} {x ix : Operand} {row : List SV} {rows : List (List SV)} {dT de : TD} (hn : n = rows.length + 1) (ho : o.op = .indexAddr T x ix) (hg : o.guard = none) (hd : o.dst = some d) (hdn : Nat.blt d X.n = true) (hx : evS (lkS L) x = some (.o i n)) (hy : evS (lkS L) ix = some (.v (.int kk 0))) (hm : lkM M i = some (.q Te sz (row :: rows)))
    (hT1 : tb.get T = some dT) (hk1 : dT.kd = .sl Te) (hT2 : tb.get Te = some de) : Stp X arr o L M fs own (.e i 0) M := by
  have hG : gS arr (lkS L) o = some none := by unfold gS; rw [hg]
  refine Stp_read (sv := .e i 0) hG hd hdn (fun L' hL hon g a ρ ms st => ?_)
  have hSl : Sl X ρ L' a g := st.all _ (.tail _ (.head _))
  have hM : DenM g ρ M ms := st.all _ (.head _)
  have hev : evs (lkS L') [x, ix] = some [.o i n, .v (.int kk 0)] := by
    have := evs_agree' hL
    rw [show o.op.operands.toList = [x, ix] by rw [ho]; rfl] at this
    rw [this]
    simp only [evs, hx, hy]
  obtain ⟨_, _, e1, dx, hr1⟩ := (evals_den hSl.val hev).uncons
  obtain ⟨_, _, e2, dy, _⟩ := hr1.uncons
  simp only [List.map_cons, List.cons.injEq] at e1
  obtain ⟨rfl, rfl⟩ := e1
  simp only [List.cons.injEq] at e2
  obtain ⟨rfl, _⟩ := e2
  have hyv := den_int dy
  have u := (TT.get_ok hT hT1).kd
  rw [hk1] at u
  have hti := (TT.get_ok hT hT2).ti
  obtain ⟨r, m1, m2, rfl, hB, _⟩ := hM.split hm
  generalize hvx : a.eval x = vx at dx
  cases hB with
  | q hz ys hl hdd =>
    cases dx with
    | o =>
      cases ys with
      | nil => simp at hl
      | cons y0 ys =>
        obtain ⟨b, oo, had, _⟩ := que_head (st.own.p _ (List.mem_append_left _ (List.mem_append_right _ (.head _))))
        refine ⟨.pointer (some ⟨b, oo + 0, none⟩), ?_, .e had⟩
        simp only [execOp, ho, hvx, hyv]
        simp only [Instr.indexAt, asIntOf, Sem.run_bind, Sem.run_pure, Result.andThen_ok, run_underlying u, had]
        rw [if_pos ⟨by decide, by omega⟩]
        simp only [Sem.run_bind, run_sizeOf hti, Result.andThen_ok, Sem.run_pure, addr_add]
        simp
/-- The first of a queue: its address. -/
theorem dqi {tb : TT} (hT : tb.Ok X.P) (m : Nat) (H : List (List SV)) {un j d i T Te n sz : Nat} {D r π' : List Nat} {Ms Ms' : List SM} {kk : IntKind} {x ix : Operand} {row : List SV} {rows : List (List SV)} {dT de : TD} {L' M' φ} (hn : n = rows.length + 1) (hk : ED X arr k fs own un D π' L' M' Ms') (hi : arr[j]? = some o := by rfl) (hu : un.testBit j = false := by rfl) (ho : o.op = .indexAddr T x ix := by rfl) (hg : o.guard = none := by rfl) (hd : o.dst = some d := by rfl) (hdn : Nat.blt d X.n = true := by rfl) (hx : evS (lkS L) x = some (.o i n) := by rfl) (hy : evS (lkS L) ix = some (.v (.int kk 0)) := by rfl)
    (hm : lkM M i = some (.q Te sz (row :: rows)) := by rfl) (hall : allQ i (.q Te sz (row :: rows)) Ms := by repeat (first | exact trivial | refine ⟨rfl, ?_⟩)) (hb : Nat.ble (hiU arr.size un D j) Ms.length = true := by rfl) (hT1 : tb.get T = some dT := by rfl) (hk1 : dT.kd = .sl Te := by rfl) (hT2 : tb.get Te = some de := by rfl)
    (hr : xdrw tb X.n arr un D m H r ((d, .e i 0) :: L) M Ms [] = some (π', L', M', Ms', φ) := by rfl) (hφ : conj φ := by first | trivial | omega | (simp +contextual [conj]; done)) : ED X arr k fs own un D (j :: r) L M Ms := by
  refine ⟨o, .e i 0, hi, ?_⟩
  rw [hu]
  refine ⟨.inl ⟨Nat.le_of_ble_eq_true hb, Stp_qix hT hn ho hg hd hdn hx hy hm hT1 hk1 hT2, fun q M2 hq _ => Stp_qix hT hn ho hg hd hdn hx hy (allQ_get hall hq) hT1 hk1 hT2⟩, ?_⟩
  rw [hd]
  exact xd hT m H hk hr hφ
theorem Stp_qld {tb : TT} (hT : tb.Ok X.P) {T Te d i sz : Nat} {x : Operand} {sv : SV} {row : List SV} {rows : List (List SV)} {de : TD} (ho : o.op = .load T x) (hg : o.guard = none) (hd : o.dst = some d) (hdn : Nat.blt d X.n = true) (hx : evS (lkS L) x = some (.e i 0)) (hm : lkM M i = some (.q Te sz ((sv :: row) :: rows))) (hT2 : tb.get T = some de) (hag : de.kd.ag = false) : Stp X arr o L M fs own sv M := by
  have hG : gS arr (lkS L) o = some none := by unfold gS; rw [hg]
  refine Stp_read (sv := sv) hG hd hdn (fun L' hL hon g a ρ ms st => ?_)
  have hSl : Sl X ρ L' a g := st.all _ (.tail _ (.head _))
  have hM : DenM g ρ M ms := st.all _ (.head _)
  have hev : evs (lkS L') [x] = some [.e i 0] := by
    have := evs_agree' hL
    rw [show o.op.operands.toList = [x] by rw [ho]; rfl] at this
    rw [this]
    simp only [evs, hx]
  obtain ⟨_, _, e1, dx, hr1⟩ := (evals_den hSl.val hev).uncons
  simp only [List.map_cons, List.cons.injEq] at e1
  obtain ⟨rfl, rfl⟩ := e1
  obtain ⟨td, u, hag2⟩ := (TT.get_ok hT hT2).kd.und
  rw [hag] at hag2
  obtain ⟨r, m1, m2, rfl, hB, _⟩ := hM.split hm
  generalize hvx : a.eval x = vx at dx
  cases hB with
  | q hz ys hl hdd =>
    cases dx with
    | e had =>
      cases ys with
      | nil => simp at hl
      | cons y0 ys =>
        obtain ⟨b, oo, had2, hc⟩ := que_head (st.own.p _ (List.mem_append_left _ (List.mem_append_right _ (.head _))))
        rw [had] at had2
        injection had2 with had2
        injection had2 with e3 e4
        subst e3 e4
        have hdl := hdd ρ 0 y0 (sv :: row) rfl rfl
        obtain ⟨v, hv, dv⟩ := hdl.get (j := 0) (sv := sv) rfl
        refine ⟨v, ?_, dv⟩
        have := run_load1 (P := X.P) (w := g.w) u hag2 (hc 0 v hv)
        simp only [Nat.add_zero] at this
        simp only [execOp, ho, hvx]
        simp [this]
/-- The first of a queue. -/
theorem dql {tb : TT} (hT : tb.Ok X.P) (m : Nat) (H : List (List SV)) {un j d i T Te sz : Nat} {D r π' : List Nat} {Ms Ms' : List SM} {x : Operand} {sv : SV} {row : List SV} {rows : List (List SV)} {de : TD} {L' M' φ} (hk : ED X arr k fs own un D π' L' M' Ms') (hi : arr[j]? = some o := by rfl) (hu : un.testBit j = false := by rfl) (ho : o.op = .load T x := by rfl) (hg : o.guard = none := by rfl) (hd : o.dst = some d := by rfl) (hdn : Nat.blt d X.n = true := by rfl) (hx : evS (lkS L) x = some (.e i 0) := by rfl)
    (hm : lkM M i = some (.q Te sz ((sv :: row) :: rows)) := by rfl) (hall : allQ i (.q Te sz ((sv :: row) :: rows)) Ms := by repeat (first | exact trivial | refine ⟨rfl, ?_⟩)) (hb : Nat.ble (hiU arr.size un D j) Ms.length = true := by rfl) (hT2 : tb.get T = some de := by rfl) (hag : de.kd.ag = false := by rfl)
    (hr : xdrw tb X.n arr un D m H r ((d, sv) :: L) M Ms [] = some (π', L', M', Ms', φ) := by rfl) (hφ : conj φ := by first | trivial | omega | (simp +contextual [conj]; done)) : ED X arr k fs own un D (j :: r) L M Ms := by
  refine ⟨o, sv, hi, ?_⟩
  rw [hu]
  refine ⟨.inl ⟨Nat.le_of_ble_eq_true hb, Stp_qld hT ho hg hd hdn hx hm hT2 hag, fun q M2 hq _ => Stp_qld hT ho hg hd hdn hx (allQ_get hall hq) hT2 hag⟩, ?_⟩
  rw [hd]
  exact xd hT m H hk hr hφ
/-- A map looked up. -/
theorem dlk {tb : TT} (hT : tb.Ok X.P) (m : Nat) (H : List (List SV)) {un j T kT eT d : Nat} {D r' π' : List Nat} {Ms Ms' : List SM} {dT dk de : TD} {x y : Operand} {q : Bytes} {es : List (Bytes × SV)} (r : Option SV) {L' M' φ} (hr : mget es q = r) (hk : ED X arr k fs own un D π' L' M' Ms') (hi : arr[j]? = some o := by rfl) (hu : un.testBit j = false := by rfl) (ho : o.op = .lookup T x y true := by rfl) (hg : o.guard = none := by rfl) (hd : o.dst = some d := by rfl)
    (hx : evS (lkS L) x = some (.fm es) := by rfl) (hy : evS (lkS L) y = some (.str q) := by rfl) (hT1 : tb.get T = some dT := by rfl) (hk1 : dT.kd = .mp kT eT := by rfl) (hT2 : tb.get kT = some dk := by rfl) (hk2 : dk.kd = .str := by rfl) (hT3 : tb.get eT = some de := by rfl) (hn : Nat.blt d X.n = true := by rfl)
    (hrn : xdrw tb X.n arr un D m H r' ((d, .t [r.getD (inj de.z), .v (.bool r.isSome)]) :: L) M Ms [] = some (π', L', M', Ms', φ) := by rfl) (hφ : conj φ := by first | trivial | omega | (simp +contextual [conj]; done)) : ED X arr k fs own un D (j :: r') L M Ms := by
  refine ⟨o, .t [r.getD (inj de.z), .v (.bool r.isSome)], hi, ?_⟩
  rw [hu]
  refine ⟨.inr (fun M' => Stp_lk2 hT ho hg hd hn hx hy hT1 hk1 hT2 hk2 hT3 hr), ?_⟩
  rw [hd]
  exact xd hT m H hk hrn hφ
end
end Go.KX
/- Rows that are owned, lent to a function that reads alone. No program in sight. -/
namespace Go.KX
theorem slM_of {α : Type} {E : El α} {T : Nat} {ad : Option Addr} {c : Nat} {ys : List α} {g : GW} (h : (Res.arr E T ad c ys).p g.w) (hf : ∀ b ∈ vbs ad, g.fz b) : (SlM E ad c ys).p g := by
  obtain ⟨h1, h2⟩ := h
  rcases h2 with ⟨hv, hn⟩ | ⟨gg, cap, cur, hv, hb, hh, hnc, hcm, hcs, htk⟩
  · have : ys = [] := List.eq_nil_of_length_eq_zero hn
    subst this
    exact SlM.nil E _ _ _
  · injection hv with e1 e2 e3
    subst e1
    refine ⟨Nat.le_trans hnc hcm, by omega, fun _ => ⟨gg, 0, rfl, hf gg (by simp [vbs]), fun j x hx => ?_⟩⟩
    have hlt : j < ys.length * E.sz := by
      rw [← flat_len]
      rcases Nat.lt_or_ge j (flat E ys).length with h | h
      · exact h
      · rw [List.getElem?_eq_none h] at hx; cases hx
    show g.w.cell? _ = _
    simp only [World.cell?, hh, Nat.zero_add]
    rw [← htk, List.getElem?_take_of_lt hlt] at hx
    simpa using hx
theorem den_slM {sz : Nat} {hz : 0 < sz} {ad : Option Addr} {c : Nat} {ys : List (Row sz)} {g : GW} {rows : List (List SV)} {ρ : Nat → Lc} (hsm : (SlM (elRow sz hz) ad c ys).p g) (hl : ys.length = rows.length) (hr : ∀ r ∈ rows, r.length = sz) (hd' : (rowsD ys rows).p g) : Den g ρ (.s sz rows) (.slice ad rows.length c) := by
  obtain ⟨q1, q2, q3⟩ := hsm
  refine .s (flat (elRow sz hz) ys) (by rw [← hl]; exact q1) (by rw [← hl]; exact q2) (by rw [flat_len, hl]; rfl) hr ⟨flat_one _ _, fun h => absurd h (by omega)⟩ (fun hne => ?_) (fun ρ' i' j r' sv' x' h1 h2 h3 => ?_)
  · obtain ⟨b, oo, e1, e2, e3⟩ := q3 (by intro e; apply hne; rw [← List.length_eq_zero_iff, ← hl, e]; rfl)
    exact ⟨b, oo, e1, e2, e3⟩
  · have hlt : i' < ys.length := by
      rw [hl]
      rcases Nat.lt_or_ge i' rows.length with h | h
      · exact h
      · rw [List.getElem?_eq_none h] at h1; cases h1
    have hy := List.getElem?_eq_getElem hlt
    have hdl := hd' ρ' i' _ r' hy h1
    obtain ⟨y, hyj, dy⟩ := hdl.get h2
    have hfl := flat_get (elRow sz hz) ys i' j _ y hy hyj
    rw [show (elRow sz hz).sz = sz from rfl] at hfl
    have : y = x' := Option.some.inj (hfl.symm.trans h3)
    subst this
    exact dy
/-- What is handed over, where the rows i are lent. -/
def lnd (i z : Nat) (rows : List (List SV)) : SV → SV
  | .o j m => match Nat.beq j i with
    | true => .s z rows
    | false => .o j m
  | sv => sv
def lndP (n : Nat) : List SV → Prop
  | [] => True
  | .o _ m :: r => m = n ∧ lndP n r
  | _ :: r => lndP n r
theorem lndP_get {n : Nat} : ∀ {l : List SV} {j i m : Nat}, lndP n l → l[j]? = some (.o i m) → m = n
  | [], j, i, m, _, h => by simp at h
  | x :: r, j, i, m, hp, h => by
    cases j with
    | zero =>
      simp at h
      subst h
      exact hp.1
    | succ j =>
      have hr : lndP n r := by cases x <;> first | exact hp | exact hp.2
      exact lndP_get hr (by simpa using h)
section
variable {X : Kx} {k : List It} {L : SL} {M : SM} {fs : List MF} {own : List Res} {arr : Array Oper} {l : List Oper} {o : Oper}
theorem Stp_lend {d i T sz : Nat} {f : FuncId} {fo : Operand} {az : Array Operand} {ts : Array TypeId} {sf : SV} {svs args : List SV} {rv : Value} {rows : List (List SV)} {G : Option Bool} (hG : gS arr (lkS L) o = some G) (hd : o.dst = some d) (hn : Nat.blt d X.n = true) (ho : o.op = .call ⟨.value fo, az, ts⟩)
    (hfo : evS (lkS L) fo = some sf) (hsf : st1 sf = .f f [] []) (ha : evs (lkS L) az.toList = some svs) (hφ : ∀ p ∈ wq G (cd1 sf ++ svs.flatMap cd1), p) (hm : lkM M i = some (.r T sz rows)) (hr : ∀ r ∈ rows, r.length = sz) (hargs : (svs.map st1).map (lnd i sz rows) = args) (hlp : lndP rows.length (svs.map st1)) (hs : isOn G = true → Fc X.P fs f args (.v rv)) : Stp X arr o L M fs own (wr G (.v rv)) M := by
  intro L' hL g a hE
  obtain ⟨ρ, ms, st⟩ := hE.open
  have h2 : ∀ t sv, lkS L' t = some sv → ∃ x, a.tmps[t]? = some x ∧ Den g ρ sv x := (st.all (F2 X ρ L' a) (.tail _ (.head _))).val
  have hw := gS_ok st.kn h2 ((gS_agree hL).trans hG)
  have hsl : ∀ t ∈ (fo :: az.toList).filterMap tmpOf, lkS L' t = lkS L t := fun t ht => hL t (by
    have : t ∈ o.op.operands.toList.filterMap tmpOf := by rw [ho]; simpa [Op.operands, Call.operands] using ht
    exact List.mem_append_left _ this)
  have hall : evs (lkS L) (fo :: az.toList) = some (sf :: svs) := by simp only [evs, hfo, ha]
  have hall' : evs (lkS L') (fo :: az.toList) = some (sf :: svs) := (evs_agree hsl).trans hall
  unfold opQ
  rw [hw]
  by_cases hon : isOn G = true
  · rw [if_pos hon]
    obtain ⟨hc, hcall⟩ := hs hon
    have hM : DenM g ρ M ms := st.all _ (.head _)
    obtain ⟨r, m1, m2, rfl, hB, _⟩ := hM.split hm
    cases hB with
    | r hz ys hl hdd =>
      have hmem : Res.arr (elRow sz hz) T (ρ i).ad (ρ i).c ys ∈ (m1 ++ Res.arr (elRow sz hz) T (ρ i).ad (ρ i).c ys :: m2 ++ own) := List.mem_append_left _ (List.mem_append_right _ (.head _))
      have hbl : ∀ b ∈ vbs (ρ i).ad, b ∈ blks (m1 ++ Res.arr (elRow sz hz) T (ρ i).ad (ρ i).c ys :: m2 ++ own) := fun b hb => List.mem_flatMap.2 ⟨_, hmem, hb⟩
      let g1 : GW := ⟨g.w, fun b => g.fz b ∨ b ∈ vbs (ρ i).ad, fun b hb => hb.elim (g.lt b) (fun h => st.own.lt b (hbl b h))⟩
      have hF : FExt g g1 := ⟨rfl, rfl, rfl, Nat.le_refl _, fun _ h => .inl h, fun _ _ => rfl⟩
      have hsm : (SlM (elRow sz hz) (ρ i).ad (ρ i).c ys).p g1 := slM_of (g := g1) (st.own.p _ hmem) (fun b hb => .inr hb)
      have hds : Den g1 ρ (.s sz rows) (.slice (ρ i).ad rows.length (ρ i).c) := den_slM hsm hl hr ((rowsD ys rows).mono hF hdd)
      have hden := sts_ok (evals_den h2 hall') (by simpa using wq_ok hφ hon)
      obtain ⟨x, r, e1, dx, dr⟩ := hden.uncons
      simp only [List.map_cons, List.cons.injEq] at e1
      obtain ⟨rfl, rfl⟩ := e1
      rw [hsf] at dx
      obtain ⟨xs, ys2, hfe, d1, d2⟩ := den_f dx
      obtain rfl := d1.unnil
      obtain rfl := d2.unnil
      have hargs' : DenL g1 ρ args (az.toList.map a.eval) := by
        rw [← hargs]
        refine ⟨by simpa using dr.1, fun j sv x h1 h3 => ?_⟩
        rw [List.getElem?_map] at h1
        cases hj : (svs.map st1)[j]? with
        | none => rw [hj] at h1; cases h1
        | some s0 =>
          rw [hj] at h1
          cases h1
          have dj := dr.2 j s0 x hj h3
          unfold lnd
          split
          · rename_i j' m'
            split
            · rename_i hb
              obtain rfl := Nat.eq_of_beq_eq_true hb
              obtain rfl := lndP_get hlp hj
              cases dj
              exact hds
            · exact dj.mono hF
          · exact dj.mono hF
      have hrun := calls_ent hc (ρe := a.eval) ho hfe g.w
      simp only [List.nil_append, List.append_nil] at hrun
      simp only [wn, hrun, hd]
      refine (hcall ρ g1 _ (fun f hf => f.mono hF (st.all f (.tail _ (.tail _ hf)))) hargs').mono ?_
      rintro e w' ⟨v, g2, rfl, rfl, hE', dv⟩
      have hnf : ∀ b ∈ vbs (ρ i).ad, ¬ g.fz b := fun b hb => st.own.nfz b (hbl b hb)
      let g3 : GW := ⟨g2.w, fun b => g2.fz b ∧ b ∉ vbs (ρ i).ad, fun b hb => g2.lt b hb.1⟩
      have hE3 : Ext [] g g3 := by
        refine ⟨⟨hE'.os, hE'.tape, hE'.output, hE'.size, fun b hb => ⟨hE'.fz b (.inl hb), fun h => hnf b h hb⟩, fun b hb => hE'.same b (.inl hb)⟩, hE'.keep, fun b hb hn hf => ?_⟩
        rcases hE'.nofz b hb hn hf.1 with h | h
        · exact h
        · exact absurd h hf.2
      refine ⟨v, rfl, g3, rfl, ESt.put (ESt.ext0 st hE3) hn ?_⟩
      obtain rfl := den_v dv
      cases G with
      | none => exact .v
      | some b => have hb : b = true := hon; subst hb; exact .gt .v
  · rw [if_neg hon]
    simp only [hd, updL]
    refine ⟨g, rfl, ESt.put st hn ?_⟩
    cases G with
    | none => exact absurd rfl hon
    | some b =>
      have hb : b = false := by simpa [isOn] using hon
      subst hb; exact .gf
/-- A call that is lent the rows i. -/
theorem flc {tb : TT} (hT : tb.Ok X.P) (i m : Nat) (H : List (List SV)) {d T sz : Nat} {f : FuncId} {fo : Operand} {az : Array Operand} {ts : Array TypeId} {svs args : List SV} {rv : Value} {rows : List (List SV)} {l' L' M' φ} (hs : Fc X.P fs f args (.v rv)) (hr : ∀ r ∈ rows, r.length = sz) (hk : ES X arr l' k L' M' fs own) (hg : o.guard = none := by rfl) (hd : o.dst = some d := by rfl) (ho : o.op = .call ⟨.value fo, az, ts⟩ := by rfl) (hfo : evS (lkS L) fo = some (.f f [] []) := by rfl)
    (ha : evs (lkS L) az.toList = some svs := by rfl) (hm : lkM M i = some (.r T sz rows) := by rfl) (hb : (svs.map st1).map (lnd i sz rows) = args := by rfl) (hlp : lndP rows.length (svs.map st1) := by repeat (first | exact trivial | refine ⟨rfl, ?_⟩)) (hc : svs.flatMap cd1 = [] := by rfl) (hn : Nat.blt d X.n = true := by rfl) (hrn : xrun tb X.n arr m H l ((d, .v rv) :: L) M [] = some (l', L', M', φ) := by rfl) (hφ : conj φ := by first | trivial | omega | (simp +contextual [conj]; done)) : ES X arr (o :: l) k L M fs own := by
  have hG : gS arr (lkS L) o = some none := by unfold gS; rw [hg]
  have := Stp_lend (M := M) (fs := fs) (own := own) hG hd hn ho hfo rfl ha (by rw [hc]; intro p hp; cases hp) hm hr hb hlp (fun _ => hs)
  refine ES_step this ?_
  rw [hd]
  exact go hT m H hk hrn hφ
/-- Likewise, under a guard. -/
theorem flg {tb : TT} (hT : tb.Ok X.P) (i m : Nat) (H : List (List SV)) {d T sz : Nat} {f : FuncId} {fo : Operand} {az : Array Operand} {ts : Array TypeId} {sf : SV} {svs args : List SV} {rv : Value} {rows : List (List SV)} {b : Bool} {l' L' M' φ ψ} (hs : b = true → Fc X.P fs f args (.v rv)) (hr : ∀ r ∈ rows, r.length = sz) (hk : ES X arr l' k L' M' fs own) (hG : gS arr (lkS L) o = some (some b) := by rfl) (hd : o.dst = some d := by rfl) (ho : o.op = .call ⟨.value fo, az, ts⟩ := by rfl) (hfo : evS (lkS L) fo = some sf := by rfl) (hsf : st1 sf = .f f [] [] := by rfl)
    (ha : evs (lkS L) az.toList = some svs := by rfl) (hm : lkM M i = some (.r T sz rows) := by rfl) (hb : (svs.map st1).map (lnd i sz rows) = args := by rfl) (hlp : lndP rows.length (svs.map st1) := by repeat (first | exact trivial | refine ⟨rfl, ?_⟩)) (hc : wq (some b) (cd1 sf ++ svs.flatMap cd1) = ψ := by rfl) (hψ : conj ψ := by first | trivial | exact id | exact ⟨id, id⟩ | exact ⟨id, id, id⟩ | (simp +contextual [conj]; done) | simp_all [conj]) (hn : Nat.blt d X.n = true := by rfl) (hrn : xrun tb X.n arr m H l ((d, .g b (.v rv)) :: L) M [] = some (l', L', M', φ) := by rfl) (hφ : conj φ := by first | trivial | omega | (simp +contextual [conj]; done)) : ES X arr (o :: l) k L M fs own := by
  have := Stp_lend (M := M) (fs := fs) (own := own) hG hd hn ho hfo hsf ha (by rw [hc]; exact conj_all hψ) hm hr hb hlp (fun h => hs h)
  refine ES_step this ?_
  rw [hd]
  exact go hT m H hk hrn hφ
end
end Go.KX
/- Walks: WV. -/
namespace Go.Proofs.YtomkgfdigldhcaaGreatDoor
open Go.KX
set_option maxRecDepth 100000 in
theorem idxN_ok {l : List Nd} {fn : FuncId} {p : Nd → Bool} (hs : ∀ v ∈ l, Fc Tryz.prog gT fn [ndS v] (bS (p v))) : Fc Tryz.prog gT 124 [rN l, .f fn [] []] (nI (idxF p l)) := by
 refine fb tOK (fn := Tryz.f124) 19 [.tmp 4] Tryz.func124 Tryz.results124 (fun g0 B0 Q ρ0 R => ?_)
 refine en tOK 0 1 [] ?_
 refine sn tOK 0 3 [] ?_
 refine sl 0 ?_
 refine E_loop (σ := Nat) (fun j => j ≤ l.length ∧ ∀ x ∈ l.take j, p x = false) (fun j => l.length - j)
   (fun j => [(0, rN l), (1, .f fn [] []), (4, nI 0), (7, nI l.length), (8, nI j)])
   (fun j => []) 0 ?_ ?_
 ·exact ⟨Nat.zero_le _, by simp⟩
 ·rintro J j ⟨hj0, hj1⟩ hJ
  refine elen 0 rfl (fun hl => ?_)
  simp only [List.length_map] at hl
  refine en tOK 0 1 [] ?_
  refine si 0 rfl rfl (fun h9 => ?_) (fun h9 => ?_)
  ·have hj : j < l.length := by omega
   refine en tOK 0 2 [] ?_
   refine sn tOK 0 5 [ndL l[j]] ?_ (hφ := by exact ⟨by omega, by simpa using rN_get hj⟩)
   refine fc tOK 0 [] (hs l[j] (List.getElem_mem hj)) ?_
   refine sib 0 rfl rfl (fun h16 => ?_) (fun h16 => ?_)
   ·have e := idxF_some hj hj1 h16
    refine en tOK 0 2 [] ?_
    refine sr 0 R ?_
    rw [e]; rfl
   ·have hx := h16
    refine en tOK 0 2 [] ?_
    exact hJ (j + 1) ⟨by omega, take_next hj hj1 hx⟩ (by omega)
  ·have e := idxF_none (p := p) (fun x hx => hj1 x (by rw [List.take_of_length_le (by omega)]; exact hx))
   refine en tOK 0 1 [] ?_
   refine sr 0 R ?_
   rw [e]; rfl
set_option maxRecDepth 100000 in
theorem contN_ok {l : List Nd} {fn : FuncId} {p : Nd → Bool} (hs : ∀ v ∈ l, Fc Tryz.prog gT fn [ndS v] (bS (p v))) : Fc Tryz.prog gT 75 [rN l, .f fn [] []] (bS (l.any p)) := by
 refine fb tOK (fn := Tryz.f75) 9 [.tmp 4] Tryz.func75 Tryz.results75 (fun g0 B0 Q ρ0 R => ?_)
 refine en tOK 0 1 [] ?_
 refine sn tOK 0 2 [] ?_
 refine fc tOK 2 [] (idxN_ok (p := p) hs) ?_
 refine sr 0 R ?_
 rw [← idxF_any]; rfl
set_option maxRecDepth 100000 in
theorem dcheck1_ok {n : Nd} (hr : n.ref.length ≤ 1000000) : Fc Tryz.prog gT 76 [ndS n] (bS (!isN n)) := by
 refine fb tOK (fn := Tryz.f76) 6 [.tmp 2] Tryz.func76 Tryz.results76 (fun g0 B0 Q ρ0 R => ?_)
 refine en tOK 0 2 [] ?_
 refine sn tOK 0 1 [] ?_
 refine fc tOK 2 [] (is_ok (n := n) hr) ?_
 refine sr 0 R ?_
 rfl
set_option maxRecDepth 100000 in
theorem check_ok {cond : Bytes} {l : List Nd} (hr : ∀ n ∈ l, n.ref.length ≤ 1000000) : Fc Tryz.prog gT 35 [.str cond, rN l] (nI (checkN cond l)) := by
 refine fb tOK (fn := Tryz.f35) 64 [.tmp 4] Tryz.func35 Tryz.results35 (fun g0 B0 Q ρ0 R => ?_)
 refine elen 1 rfl (fun hl => ?_)
 rw [List.length_map] at hl
 refine en tOK 0 1 [] ?_
 refine sn tOK 0 4 [] ?_
 refine sas 16 rfl (v' := bS (decide (16 < l.length))) (by simp; omega) ?_
 refine sib 0 rfl rfl (fun h16 => ?_) (fun h16 => ?_)
 ·have e : checkN cond l = 6 := by unfold checkN; rw [if_pos (of_decide_eq_true h16)]
  refine en tOK 0 1 [] ?_
  refine sr 0 R ?_
  rw [e]; rfl
 ·have hn16 : ¬ 16 < l.length := of_decide_eq_false h16
  have e0 : checkN cond l = if (l.any fun n => !isN n) = true then 120 else if okN l = false then 8 else if ((refsN cond l).any fun q => (findN l q).isNone) = true then 7 else (orderN l).2 := by unfold checkN; rw [if_neg hn16]
  refine en tOK 0 1 [] ?_
  refine fc tOK 1 [] (contN_ok (p := fun n => !isN n) (fun v hv => dcheck1_ok (hr v hv))) ?_
  refine sib 0 rfl rfl (fun h20 => ?_) (fun h20 => ?_)
  ·have e : checkN cond l = 120 := by rw [e0, if_pos h20]
   refine en tOK 0 1 [] ?_
   refine sr 0 R ?_
   rw [e]; rfl
  ·have e1 : checkN cond l = if okN l = false then 8 else if ((refsN cond l).any fun q => (findN l q).isNone) = true then 7 else (orderN l).2 := by rw [e0, if_neg (by rw [h20]; decide)]
   refine en tOK 0 1 [] ?_
   refine fc tOK 5 [] (byRef_ok (l := l)) ?_
   refine sn tOK 0 2 [] ?_
   refine sib 0 rfl rfl (fun h29 => ?_) (fun h29 => ?_)
   ·have ok0 : okN l = false := by simpa using h29
    have e : checkN cond l = 8 := by rw [e1, if_pos ok0]
    refine en tOK 0 1 [] ?_
    refine sr 0 R ?_
    rw [e]; rfl
   ·have ok1 : okN l = true := by simpa using h29
    have e2 : checkN cond l = if ((refsN cond l).any fun q => (findN l q).isNone) = true then 7 else (orderN l).2 := by rw [e1, if_neg (by rw [ok1]; decide)]
    refine en tOK 0 1 [] ?_
    refine sbl1 tOK 902 ?_
    refine go tOK 1 [] ?_
    refine sn tOK 0 3 [] ?_
    refine sl 0 ?_
    refine eas 33 rfl (v' := nI l.length) (by simp) ?_
    refine eas 7 rfl (v' := .o 902 (rowsB (cond :: (l.take 0).flatMap inputsN)).length) (by simp) ?_
    refine emb 902 (mb' := .r 9 1 (rowsB (cond :: (l.take 0).flatMap inputsN))) ?_ ?_
    ·simp
    refine E_loop (σ := Nat) (fun j => j ≤ l.length) (fun j => l.length - j)
      (fun j => [(1, rN l), (5, .fm (msE (byR l))), (7, .o 902 (rowsB (cond :: (l.take j).flatMap inputsN)).length), (32, rN l), (33, nI l.length), (34, nI j)])
      (fun j => [(902, .r 9 1 (rowsB (cond :: (l.take j).flatMap inputsN)))]) 0 ?_ ?_
    ·exact Nat.zero_le _
    ·rintro J j hj0 hJ
     refine en tOK 0 1 [] ?_
     refine si 0 rfl rfl (fun h35 => ?_) (fun h35 => ?_)
     ·have hj : j < l.length := by omega
      have hf1 := flat_le (l.take j)
      have hf2 := inputs_len l[j]
      rw [List.length_take] at hf1
      refine en tOK 0 4 [ndL l[j]] ?_ (hφ := by exact ⟨by omega, by simpa using rN_get hj⟩)
      refine sn tOK 0 2 [] ?_
      refine fc tOK 0 [] (inputs_ok (n := l[j])) ?_
      refine sap tOK 1 [] rfl (fun _ => rfl) ?_ ?_
      ·show ((rowsB (cond :: (l.take j).flatMap inputsN)).length + (rowsB (inputsN l[j])).length) * 16 ≤ _
       simp only [List.length_map, List.length_cons]
       omega
      refine sn tOK 0 2 [] ?_
      have ht : cond :: (l.take (j + 1)).flatMap inputsN = (cond :: (l.take j).flatMap inputsN) ++ inputsN l[j] := by rw [List.take_succ_eq_append_getElem hj, List.flatMap_append]; simp
      refine sl 0 ?_
      refine eas 7 rfl (v' := .o 902 (rowsB (cond :: (l.take (j + 1)).flatMap inputsN)).length) (by rw [ht]; simp) ?_
      refine emb 902 (mb' := .r 9 1 (rowsB (cond :: (l.take (j + 1)).flatMap inputsN))) ?_ ?_
      ·rw [ht]; simp
      exact hJ (j + 1) (by omega) (by omega)
     ·have ej : l.take j = l := List.take_of_length_le (by omega)
      rw [ej]
      have hf1 := flat_le l
      have hrl : (refsN cond l).length ≤ 100000 := by simp only [refsN, List.length_cons]; omega
      refine eezo 7 (rows := rowsB (refsN cond l)) ?_ ?_ (hr := rowsB_len)
      ·rfl
      refine en tOK 0 3 [] ?_
      refine sl 0 ?_
      refine eas 44 rfl (v' := nI (refsN cond l).length) (by simp) ?_
      refine E_loop (σ := Nat) (fun k => k ≤ (refsN cond l).length ∧ ∀ q ∈ (refsN cond l).take k, (findN l q).isNone = false) (fun k => (refsN cond l).length - k)
        (fun k => [(1, rN l), (5, .fm (msE (byR l))), (43, rB (refsN cond l)), (44, nI (refsN cond l).length), (45, nI k)])
        (fun k => []) 0 ?_ ?_
      ·exact ⟨Nat.zero_le _, by simp⟩
      ·rintro J k ⟨hk0, hk1⟩ hJ
       refine en tOK 0 1 [] ?_
       refine si 0 rfl rfl (fun h46 => ?_) (fun h46 => ?_)
       ·have hk : k < (refsN cond l).length := by omega
        refine en tOK 0 3 [[.str (refsN cond l)[k]]] ?_ (hφ := by exact ⟨by omega, by simp [hk]⟩)
        have hg : mget (msE (byR l)) (refsN cond l)[k] = (findN l (refsN cond l)[k]).map ndS := by rw [msE, mget_map, byR_get ok1]
        rcases hfq : findN l (refsN cond l)[k] with _ | n
        ·refine sn tOK 0 2 [] ?_
         refine slk tOK 6 none (by rw [hg, hfq]; rfl) ?_
         refine sn tOK 0 2 [] ?_
         refine sn tOK 1 1 [] ?_
         refine sr 0 R ?_
         have e : checkN cond l = 7 := by
          rw [e2, if_pos (List.any_eq_true.2 ⟨_, List.getElem_mem hk, by rw [hfq]; rfl⟩)]
         rw [e]; rfl
        ·refine sn tOK 0 2 [] ?_
         refine slk tOK 6 (some (ndS n)) (by rw [hg, hfq]; rfl) ?_
         refine sn tOK 0 2 [] ?_
         refine sn tOK 1 2 [] ?_
         refine sl 0 ?_
         exact hJ (k + 1) ⟨by omega, by rw [List.take_succ_eq_append_getElem hk]; intro q hq; rcases List.mem_append.1 hq with hq | hq; exact hk1 q hq; simp only [List.mem_singleton] at hq; subst hq; rw [hfq]; rfl⟩ (by omega)
       ·have e : checkN cond l = (orderN l).2 := by
         rw [e2, if_neg (fun h => ?_)]
         obtain ⟨q, hq, h3⟩ := List.any_eq_true.1 h
         rw [hk1 q (by rw [List.take_of_length_le (by omega)]; exact hq)] at h3
         cases h3
        refine en tOK 0 1 [] ?_
        refine fc tOK 5 [] (order_ok (l := l) (by omega)) ?_
        refine sn tOK 0 2 [] ?_
        refine sr 0 R ?_
        rw [e]; rfl
end Go.Proofs.YtomkgfdigldhcaaGreatDoor
/- Walks: WU. -/
namespace Go.Proofs.YtomkgfdigldhcaaGreatDoor
open Go.KX
set_option maxRecDepth 100000 in
theorem backN1_ok {l : List Nd} (hl : l.length ≤ 1000000) : Itr Tryz.prog gT 132 [.p [rN l]] (bkA l) := by
 refine itrb tOK (fn := Tryz.f132) 19 Tryz.func132 Tryz.results132 (fun lp R hR g0 B0 Q ρ0 ms0 RR => ?_)
 rw [bkA_len] at RR
 refine en tOK 0 4 [] ?_
 refine sl 0 ?_
 refine eas 3 rfl (v' := nI ((l.length : Int) - 1 - (0 : Nat))) (by simp) ?_
 refine E_loopO (σ := Nat × List Res) (fun st => st.1 ≤ l.length) (fun st => l.length - st.1)
   (fun st => [(0, .v (.func (.yield lp) #[] #[])), (1, .p [rN l]), (3, nI ((l.length : Int) - 1 - st.1))])
   (fun st => R.f st.1 st.2 :: gT) (fun st => st.2) (0, ms0) ?_ ?_
 ·exact Nat.zero_le _
 ·rintro J ⟨j, ms⟩ hj0 hJ
  dsimp only at hj0 ⊢
  refine en tOK 0 2 [] ?_
  refine si 0 rfl rfl (fun h8 => ?_) (fun h8 => ?_)
  ·have hj : j < l.length := by omega
   refine en tOK 0 6 [ndL (l[l.length - 1 - j]'(by omega))] ?_ (hφ := by exact ⟨by omega, by simpa using rN_get (l := l) (j := l.length - 1 - j) (by omega)⟩)
   refine yw hR (bkA_get hj) (fun ms2 => ?_) (fun ms2 => ?_)
   ·refine go tOK 1 [] ?_
    refine sn tOK 1 3 [] ?_
    refine sl 0 ?_
    exact hJ (j + 1, ms2) (by dsimp only; omega) (by dsimp only; omega)
   ·refine go tOK 1 [] ?_
    refine sl 1 ?_
    exact RR.retx
  ·have ej : j = l.length := by omega
   subst ej
   refine el 0 ?_
   exact RR.fall
end Go.Proofs.YtomkgfdigldhcaaGreatDoor
/- A map that is never written from now on, where blocks speak of it. No program in sight. -/
namespace Go.KX
def frC (i : Nat) (mb : MB) : SM → SM
  | [] => []
  | (j, .c T cs) :: r => (j, .c T (frL i mb cs)) :: frC i mb r
  | (j, m) :: r => (j, m) :: frC i mb r
theorem DenM.frC {g : GW} {ρ : Nat → Lc} {i : Nat} {mb : MB} (hf : FrOK ρ i mb g) : ∀ {M : SM} {ms : List Res}, DenM g ρ M ms → DenM g ρ (Go.KX.frC i mb M) ms
  | [], _, h => h
  | (j, .c T cs) :: M, _, .cons hb t => by
    cases hb with
    | c xs hd h1 =>
      refine .cons (.c xs ⟨by rw [frL_len]; exact hd.1, fun n sv x h2 h3 => ?_⟩ h1) (DenM.frC hf t)
      obtain ⟨s0, h4, rfl⟩ := frL_get h2
      exact (hd.2 n s0 x h4 h3).fr hf
  | (j, .r T z rs) :: M, _, .cons hb t => .cons hb (DenM.frC hf t)
  | (j, .m es) :: M, _, .cons hb t => .cons hb (DenM.frC hf t)
  | (j, .it a b c) :: M, _, .cons hb t => .cons hb (DenM.frC hf t)
  | (j, .q T z rs) :: M, _, .cons hb t => .cons hb (DenM.frC hf t)
section
variable {X : Kx} {k : List It} {L : SL} {M : SM} {fs : List MF} {own : List Res} {arr : Array Oper} {l : List Oper} {o : Oper}
theorem ezm (i : Nat) {es : List (Bytes × SV)} {M' : SM} (h : E X k (frSL i (.m es) L) M' fs own) (hl : lkM M i = some (.m es) := by rfl) (hM' : frC i (.m es) (frM i (.m es) M) = M' := by rfl) : E X k L M fs own := by
  subst hM'
  intro g a s
  obtain ⟨ρ, ms, st⟩ := s.open
  have hM : DenM g ρ M ms := st.all _ (.head _)
  obtain ⟨r, m1, m2, rfl, hB, hu⟩ := hM.take hl
  have hp : (m1 ++ r :: m2 ++ own).Perm (r :: (m1 ++ m2 ++ own)) := by
    simp only [List.append_assoc, List.cons_append]
    exact List.perm_middle
  cases hB with
  | m raw hk hd =>
    have stp := st.perm hp
    obtain ⟨g', hw, hF, hfz, s'⟩ := stp.freezeM .head
    obtain ⟨ms', clk, hh, he, _⟩ := stp.own.p (Res.mp str (fun v : Value => v) (ρ i).b raw) (.head _)
    have hf : FrOK ρ i (.m es) g' := ⟨(fun T cs e => by cases e), fun es' e => by
      cases e
      exact .fm raw ms' clk hfz (by rw [hw]; exact hh) he hk (fun ρ' j k sv x h1 h2 => (hd ρ' j k sv x h1 h2).mono hF)⟩
    have hs : Sl X ρ L a g' := s'.all _ (.tail _ (.head _))
    exact hw ▸ h g' a ⟨ρ, m1 ++ m2, ⟨s'.kn, fun f hf => s'.all f (.tail _ (.tail _ hf)), s'.own, s'.ext, s'.new⟩, (hu g' (s'.all _ (.head _))).frC hf, hs.pin, fun t sv ht => by
      obtain ⟨s0, h1, rfl⟩ := frSL_lk ht
      obtain ⟨x, hx, dx⟩ := hs.val t s0 h1
      exact ⟨x, hx, dx.fr hf⟩⟩
end
end Go.KX
/- Walks: WW. -/
namespace Go.Proofs.YtomkgfdigldhcaaGreatDoor
open Go.KX
set_option maxRecDepth 100000 in
theorem backN_ok {l : List Nd} : Fc Tryz.prog gT 80 [rN l] (.f 132 [] [.p [rN l]]) := by
 refine fb tOK (fn := Tryz.f80) 4 [.tmp 2] Tryz.func80 Tryz.results80 (fun g0 B0 Q ρ0 R => ?_)
 refine en tOK 0 2 [] ?_
 refine sz 1 ?_
 refine sn tOK 0 2 [] ?_
 refine sr 0 R ?_
 rfl
set_option maxRecDepth 100000 in
theorem needs_ok {ref : Bytes} {l : List Nd} (hl : l.length ≤ 1000000) : Fc Tryz.prog gT 37 [.str ref, rN l] (rB (needsN l ref)) := by
 refine fbm tOK (fn := Tryz.f37) 55 [.tmp 4] Tryz.func37 Tryz.results37 (fun g0 B0 Q ρ0 R RM => ?_)
 refine en tOK 0 1 [] ?_
 refine sn tOK 0 0 [] ?_
 refine smk ?_
 refine go tOK 2 [] ?_
 refine sn tOK 0 1 [] ?_
 refine fc tOK 0 [] (backN_ok (l := l)) ?_
 refine sl 0 ?_
 refine E_range (ι := Empty) (fun j => [(5, .c 124 [.mp 11]), (11, .m (msE (bkR l j)))]) (fun _ => []) (backN1_ok hl) (fun j av hj lp g1 B1 ρ1 Q1 Q2 own1 own2 J hJ hE hX => ?_) (fun D => ?_) (fun D i => ?_) (fun a ha => by
    obtain ⟨j, hj, rfl⟩ := List.mem_map.1 ha
    rfl) (fun a ha => by
    obtain ⟨j, hj, rfl⟩ := List.mem_map.1 ha
    rfl)
 ·have hjl : j < l.length := by
   have := (List.getElem?_eq_some_iff.1 hj).1
   rwa [bkA_len] at this
  rw [bkA_get hjl] at hj
  cases hj
  refine en tOK 0 2 [] ?_
  refine sl 0 ?_
  refine hJ ?_
  refine en tOK 0 4 [] ?_
  refine sins tOK ?_
  refine sl 0 ?_
  refine emb 1011 (mb' := .m (msE (bkR l (j + 1)))) ?_ ?_
  ·exact congrArg MB.m (bkR_next hjl)
  exact hE rfl
 ·rw [bkA_len]
  show E _ _ _ [(5, .c 124 [.mp 11]), (11, .m (msE (bkR l l.length)))] _ _
  refine ezm 11 ?_
  refine ez 5 ?_
  refine en tOK 0 1 [] ?_
  refine sbl1 tOK 902 ?_
  refine go tOK 1 [] ?_
  refine sl 0 ?_
  refine eaq 902 ?_
  refine eonl 4 903 9 1 ?_
  refine E_loop (σ := List Bytes × List Bytes) (fun st => NI l st.2 ∧ needA l st.1 st.2 = needA l [ref] [] ∧ muN l st.1 st.2 ≤ muN l [ref] []) (fun st => muN l st.1 st.2)
    (fun st => [(4, .o 903 (rowsB st.2).length), (5, .p [.fm (msE (bkR l l.length))]), (8, .o 902 (rowsB st.1).length)])
    (fun st => [(903, .r 9 1 (rowsB st.2)), (902, .q 9 1 (rowsB st.1))]) ([ref], []) ?_ ?_
  ·exact ⟨NI.nil l, rfl, Nat.le_refl _⟩
  ·rintro J ⟨todo, out⟩ ⟨hI, hnd, hml⟩ hO
   dsimp only at hI hnd hml ⊢
   refine en tOK 0 3 [] ?_
   refine si 0 rfl rfl (fun h24 => ?_) (fun h24 => ?_)
   ·rw [List.length_map] at h24
    cases todo with
    | nil => simp at h24
    | cons q todo => ?_
    have hil := hI.le
    rcases hfq : findN l q with _ | n
    ·refine edr 0 768 [0, 0, 2, 6, 15, 31, 63, 63, 0, 383, 1023] [8, 0, 1, 2, 3, 4, 5, 6, 7, 9, 10] ?_
     refine dal tOK 2 [] ?_
     refine dqi tOK 0 [] ?_ ?_
     ·rfl
     refine dql tOK 0 [] ?_
     have hst := (needA_none (t := todo) (out := out) hfq).symm
     refine dlk tOK 5 [] none (by rw [bkR_get, hfq]; rfl) ?_
     refine xe ?_
     refine sn tOK 0 6 [] ?_
     refine flg tOK 903 1 [] (b := false) (rv := .bool false) (fun hg => by cases hg) rowsB_len ?_
     refine sn tOK 1 1 [] ?_
     refine sqsl tOK 1 [] ?_ ?_
     ·first | rfl | (simp; done) | (simp; omega)
     refine sl 0 ?_
     first
      | exact hO (todo, out) ⟨hI, hst.trans hnd, mu_a hml⟩ mu_b
      | (refine eas 8 rfl (v' := .o 902 (rowsB (todo ++ inputsN n)).length) (by simp) ?_
         refine emb 902 (mb' := .q 9 1 (rowsB (todo ++ inputsN n))) ?_ ?_
         · simp
         refine eas 4 rfl (v' := .o 903 (rowsB (out ++ [n.ref])).length) (by simp) ?_
         refine emb 903 (mb' := .r 9 1 (rowsB (out ++ [n.ref]))) ?_ ?_
         · simp [cellsV]
         exact hO (todo ++ inputsN n, out ++ [n.ref]) ⟨hI2, hst2.trans hnd, Nat.le_of_lt (Nat.lt_of_lt_of_le hmm hml)⟩ hmm)
    ·refine edr 0 768 [0, 0, 2, 6, 15, 31, 63, 63, 0, 383, 1023] [8, 0, 1, 2, 3, 4, 5, 6, 7, 9, 10] ?_
     refine dal tOK 2 [] ?_
     refine dqi tOK 0 [] ?_ ?_
     ·rfl
     refine dql tOK 0 [] ?_
     refine dlk tOK 5 [] (some (ndS n)) (by rw [bkR_get, hfq]; rfl) ?_
     refine xe ?_
     refine sn tOK 0 6 [] ?_
     refine flg tOK 903 1 [] (b := true) (rv := .bool (decide (n.ref ∈ out))) (fun hg => contB_ok (l := out) (v := n.ref)) rowsB_len ?_
     refine sib 0 rfl rfl (fun h42 => ?_) (fun h42 => ?_)
     ·have hin : n.ref ∈ out := by simpa using h42
      have hst := (needA_old (t := todo) hfq hin).symm
      refine en tOK 0 1 [] ?_
      refine sqsl tOK 1 [] ?_ ?_
      ·first | rfl | (simp; done) | (simp; omega)
      refine sl 0 ?_
      first
       | exact hO (todo, out) ⟨hI, hst.trans hnd, mu_a hml⟩ mu_b
       | (refine eas 8 rfl (v' := .o 902 (rowsB (todo ++ inputsN n)).length) (by simp) ?_
          refine emb 902 (mb' := .q 9 1 (rowsB (todo ++ inputsN n))) ?_ ?_
          · simp
          refine eas 4 rfl (v' := .o 903 (rowsB (out ++ [n.ref])).length) (by simp) ?_
          refine emb 903 (mb' := .r 9 1 (rowsB (out ++ [n.ref]))) ?_ ?_
          · simp [cellsV]
          exact hO (todo ++ inputsN n, out ++ [n.ref]) ⟨hI2, hst2.trans hnd, Nat.le_of_lt (Nat.lt_of_lt_of_le hmm hml)⟩ hmm)
     ·have hout : n.ref ∉ out := by simpa using h42
      have hst2 := (needA_new (t := todo) hI hfq hout).symm
      have hI2 := hI.step hfq hout
      have hmm := hI.mu (t := todo) hfq hout
      have hin := inputs_len n
      refine en tOK 0 4 [] ?_
      refine sap tOK 1 [] rfl (fun _ => rfl) ?_ ?_
      ·show ((rowsB out).length + 1) * 16 ≤ _
       simp only [List.length_map]
       omega
      refine sn tOK 0 2 [] ?_
      refine fc tOK 0 [] (inputs_ok (n := n)) ?_
      refine sqap tOK 1 [] rfl (fun _ => rfl) ?_ ?_
      ·show ((rowsB (q :: todo)).length + (rowsB (inputsN n)).length) * 16 ≤ _
       simp only [List.length_map, List.length_cons]
       have htl := todo_le hml hl
       omega
      refine sn tOK 0 1 [] ?_
      refine sqsl tOK 1 [] ?_ ?_
      ·first | rfl | (simp; done) | (simp; omega)
      refine sl 0 ?_
      first
       | exact hO (todo, out) ⟨hI, hst.trans hnd, mu_a hml⟩ mu_b
       | (refine eas 8 rfl (v' := .o 902 (rowsB (todo ++ inputsN n)).length) (by simp) ?_
          refine emb 902 (mb' := .q 9 1 (rowsB (todo ++ inputsN n))) ?_ ?_
          · simp
          refine eas 4 rfl (v' := .o 903 (rowsB (out ++ [n.ref])).length) (by simp) ?_
          refine emb 903 (mb' := .r 9 1 (rowsB (out ++ [n.ref]))) ?_ ?_
          · simp [cellsV]
          exact hO (todo ++ inputsN n, out ++ [n.ref]) ⟨hI2, hst2.trans hnd, Nat.le_of_lt (Nat.lt_of_lt_of_le hmm hml)⟩ hmm)
   ·rw [List.length_map] at h24
    have ht0 : todo = [] := List.eq_nil_of_length_eq_zero (by omega)
    subst ht0
    rw [needA_nil] at hnd
    have hil := hI.le
    have e : needsN l ref = sortL out := by unfold needsN; rw [← hnd]
    refine eas 4 rfl (v' := .o 903 out.length) ?_ ?_
    ·simp
    refine en tOK 0 1 [] ?_
    refine fp tOK 903 0 [] (sortB_ok (l := out) (by omega)) ?_
    refine sn tOK 0 2 [] ?_
    refine sezo 4 (rows := rowsB (sortL out)) ?_ ?_ (hr := rowsB_len)
    ·simp
    refine srm 0 (RM D) ?_
    rw [e]; rfl
 ·exact i.elim
end Go.Proofs.YtomkgfdigldhcaaGreatDoor
/- Walks: WC. -/
namespace Go.Proofs.YtomkgfdigldhcaaGreatDoor
open Go.KX
set_option maxRecDepth 100000 in
theorem val_eq {w : World} (a b : Val) : (Op.eqFields 9999 #[.int .i64 a.k, .int .i64 a.n] #[.int .i64 b.k, .int .i64 b.n] (match Tryz.prog.underlying 26 with | some (.struct fl) => fl | _ => #[]).toList).run Tryz.prog w = .ok (decide (a = b)) w := by
  rw [Tryz.underlying26]
  dsimp only
  rw [eqF_int (by decide) Tryz.underlying3 rfl rfl, eqF_int (by decide) Tryz.underlying2 rfl rfl]
  obtain ⟨k, n⟩ := a
  obtain ⟨k2, n2⟩ := b
  by_cases h1 : k = k2 <;> by_cases h2 : n = n2 <;> simp [h1, h2, Op.eqFields]
set_option maxRecDepth 100000 in
theorem vadd_ok {a b : Val} (ha : isV a = true) (hb : isV b = true) : Fc Tryz.prog gT 237 [vS a, vS b] (vS (addV a b)) := by
 refine fb tOK (fn := Tryz.f237) 38 [.cell 4 26] Tryz.func237 Tryz.results237 (fun g0 B0 Q ρ0 R => ?_)
 have a1 := isV_n ha
 have b1 := isV_n hb
 refine en tOK 0 3 [] ?_
 refine sn tOK 0 1 [] ?_
 refine fc tOK 2 [] (vfin_ok) ?_
 refine fg tOK 2 [] (fun hg => vfin_ok) ?_
 refine sib 0 rfl rfl (fun h5 => ?_) (fun h5 => ?_)
 ·have e : addV a b = numV (a.n + b.n) := by unfold addV; rw [if_pos (by simpa [finV] using h5)]
  refine en tOK 0 5 [] ?_
  refine fc tOK 1 [] (vnum_ok) ?_
  refine sr 0 R ?_
  rw [e]; rfl
 ·refine en tOK 0 1 [] ?_
  refine fc tOK 3 [] (vfin_ok) ?_
  refine fg tOK 5 [] (fun hg => vfin_ok) ?_
  refine sq tOK 2 [] true (b := decide (a = b)) Tryz.underlying26 (by kernel_rfl) (fun w => val_eq _ _) ?_
  refine sib 0 rfl rfl (fun h18 => ?_) (fun h18 => ?_)
  ·have e : addV a b = nanV := by unfold addV; rw [if_neg (by simpa [finV] using h5), if_pos (by simpa [finV, and_assoc] using h18)]
   refine en tOK 0 0 [] ?_
   refine fc tOK 1 [] (vnan_ok) ?_
   refine sr 0 R ?_
   rw [e]; rfl
  ·refine en tOK 0 1 [] ?_
   refine fc tOK 1 [] (vfin_ok) ?_
   refine sib 0 rfl rfl (fun h33 => ?_) (fun h33 => ?_)
   ·have e : addV a b = b := by unfold addV; rw [if_neg (by simpa [finV] using h5), if_neg (by simpa [finV, and_assoc] using h18), if_pos (by simpa [finV] using h33)]
    refine en tOK 0 2 [] ?_
    refine sr 0 R ?_
    rw [e]; rfl
   ·have e : addV a b = a := by unfold addV; rw [if_neg (by simpa [finV] using h5), if_neg (by simpa [finV, and_assoc] using h18), if_neg (by simpa [finV] using h33)]
    refine en tOK 0 2 [] ?_
    refine sr 0 R ?_
    rw [e]; rfl
set_option maxRecDepth 100000 in
theorem vdiv_ok {a b : Val} (ha : isV a = true) (hb : isV b = true) : Fc Tryz.prog gT 242 [vS a, vS b] (vS (divV a b)) := by
 refine fb tOK (fn := Tryz.f242) 52 [.cell 4 26] Tryz.func242 Tryz.results242 (fun g0 B0 Q ρ0 R => ?_)
 have a1 := isV_n ha
 have b1 := isV_n hb
 have a2 := rank_in ha
 refine en tOK 0 3 [] ?_
 refine sn tOK 0 1 [] ?_
 refine fc tOK 3 [] (vfin_ok) ?_
 refine fg tOK 3 [] (fun hg => vfin_ok) ?_
 refine sib 0 rfl rfl (fun h5 => ?_) (fun h5 => ?_)
 ·have e : divV a b = nanV := by unfold divV; rw [if_pos (by simpa [finV] using h5)]
  refine en tOK 0 0 [] ?_
  refine fc tOK 1 [] (vnan_ok) ?_
  refine sr 0 R ?_
  first | (rw [e]; rfl) | (simp only [hq]; rw [e]; rfl)
 ·refine en tOK 0 1 [] ?_
  refine fc tOK 2 [] (vfin_ok) ?_
  refine sib 0 rfl rfl (fun h15 => ?_) (fun h15 => ?_)
  ·have e : divV a b = numV 0 := by unfold divV; rw [if_neg (by simpa [finV] using h5), if_pos (by simpa [finV] using h15)]
   refine en tOK 0 0 [] ?_
   refine fc tOK 1 [] (vnum_ok) ?_
   refine sr 0 R ?_
   first | (rw [e]; rfl) | (simp only [hq]; rw [e]; rfl)
  ·refine en tOK 0 1 [] ?_
   refine fc tOK 7 [] (vfin_ok) ?_
   refine sib 0 rfl rfl (fun h20 => ?_) (fun h20 => ?_)
   ·have e : divV a b = numV (-rankV a) := by unfold divV; rw [if_neg (by simpa [finV] using h5), if_neg (by simpa [finV] using h15), if_pos (by simpa [finV] using h20)]
    rw [← Int.zero_sub] at e
    refine en tOK 0 1 [] ?_
    refine fc tOK 1 [] (vrank_ok) ?_
    refine fc tOK 1 [] (vback_ok) ?_
    refine sr 0 R ?_
    first | (rw [e]; rfl) | (simp only [hq]; rw [e]; rfl)
   ·refine en tOK 0 1 [] ?_
    refine fc tOK 2 [] (vfin_ok) ?_
    refine sib 0 rfl rfl (fun h33 => ?_) (fun h33 => ?_)
    ·have e : divV a b = a := by unfold divV; rw [if_neg (by simpa [finV] using h5), if_neg (by simpa [finV] using h15), if_neg (by simpa [finV] using h20), if_pos (by simpa [finV] using h33)]
     refine en tOK 0 2 [] ?_
     refine sr 0 R ?_
     first | (rw [e]; rfl) | (simp only [hq]; rw [e]; rfl)
    ·refine en tOK 0 4 [] ?_
     refine si 0 rfl rfl (fun h38 => ?_) (fun h38 => ?_)
     ·have e : divV a b = infV a.n := by unfold divV; rw [if_neg (by simpa [finV] using h5), if_neg (by simpa [finV] using h15), if_neg (by simpa [finV] using h20), if_neg (by simpa [finV] using h33), if_pos h38]
      refine en tOK 0 2 [] ?_
      refine fc tOK 1 [] (vinf_ok) ?_
      refine sr 0 R ?_
      first | (rw [e]; rfl) | (simp only [hq]; rw [e]; rfl)
     ·have e : divV a b = numV ((a.n * 1000).tdiv b.n) := by unfold divV; rw [if_neg (by simpa [finV] using h5), if_neg (by simpa [finV] using h15), if_neg (by simpa [finV] using h20), if_neg (by simpa [finV] using h33), if_neg h38]
      have hq := quo_in (a := a.n * 1000) (b := b.n) (by omega) (by omega)
      refine en tOK 0 6 [] ?_
      refine fc tOK 1 [] (vnum_ok) ?_
      refine sr 0 R ?_
      first | (rw [e]; rfl) | (simp only [hq]; rw [e]; rfl)
set_option maxRecDepth 100000 in
theorem vtwo1_ok {a b : Val} (ha : isV a = true) (hb : isV b = true) : Fc Tryz.prog gT 238 [vS a, vS b] (vS (addV a (negV b))) := by
 refine fb tOK (fn := Tryz.f238) 11 [.cell 4 26] Tryz.func238 Tryz.results238 (fun g0 B0 Q ρ0 R => ?_)
 have b2 := rank_in hb
 refine en tOK 0 3 [] ?_
 refine sdr 0 64 [0, 0, 2, 6, 14, 31, 63] [0, 1, 2, 3, 4, 5, 6] ?_
 refine xd tOK 2 [] ?_
 refine dc tOK 1 [] (vrank_ok) ?_
 refine dc tOK 0 [] (vback_ok) ?_
 refine dc tOK 1 [] (vadd_ok ha (isV_num _)) ?_
 refine xe ?_
 refine sr 0 R ?_
 unfold negV; rw [← Int.zero_sub]; rfl
end Go.Proofs.YtomkgfdigldhcaaGreatDoor
/- Walks: WF. -/
namespace Go.Proofs.YtomkgfdigldhcaaGreatDoor
open Go.KX
set_option maxRecDepth 100000 in
theorem rnull_ok  : Fc Tryz.prog gT 84 [] (vS nullV) := by
 refine fb tOK (fn := Tryz.f84) 2 [.cell 0 26] Tryz.func84 Tryz.results84 (fun g0 B0 Q ρ0 R => ?_)
 refine en tOK 0 1 [] ?_
 refine sn tOK 0 2 [] ?_
 refine sr 0 R ?_
 rfl
set_option maxRecDepth 100000 in
theorem rnan_ok  : Fc Tryz.prog gT 192 [] (vS nanV) := by
 refine fb tOK (fn := Tryz.f192) 2 [.cell 0 26] Tryz.func192 Tryz.results192 (fun g0 B0 Q ρ0 R => ?_)
 refine en tOK 0 1 [] ?_
 refine sn tOK 0 2 [] ?_
 refine sr 0 R ?_
 rfl
set_option maxRecDepth 100000 in
theorem rplus_ok  : Fc Tryz.prog gT 90 [] (vS plusV) := by
 refine fb tOK (fn := Tryz.f90) 2 [.cell 0 26] Tryz.func90 Tryz.results90 (fun g0 B0 Q ρ0 R => ?_)
 refine en tOK 0 1 [] ?_
 refine sn tOK 0 2 [] ?_
 refine sr 0 R ?_
 rfl
set_option maxRecDepth 100000 in
theorem rminus_ok  : Fc Tryz.prog gT 91 [] (vS minusV) := by
 refine fb tOK (fn := Tryz.f91) 2 [.cell 0 26] Tryz.func91 Tryz.results91 (fun g0 B0 Q ρ0 R => ?_)
 refine en tOK 0 1 [] ?_
 refine sn tOK 0 2 [] ?_
 refine sr 0 R ?_
 rfl
set_option maxRecDepth 100000 in
theorem rnum_ok {n : Int} : Fc Tryz.prog gT 46 [nI n] (vS (numV n)) := by
 refine fb tOK (fn := Tryz.f46) 11 [.cell 2 26] Tryz.func46 Tryz.results46 (fun g0 B0 Q ρ0 R => ?_)
 refine en tOK 0 1 [] ?_
 refine sn tOK 0 2 [] ?_
 refine si 0 rfl rfl (fun h4 => ?_) (fun h4 => ?_)
 ·have e : numV n = plusV := by unfold numV; rw [if_pos h4]
  refine en tOK 0 0 [] ?_
  refine fc tOK 1 [] (rplus_ok) ?_
  refine sr 0 R ?_
  rw [e]; rfl
 ·refine en tOK 0 2 [] ?_
  refine si 0 rfl rfl (fun h7 => ?_) (fun h7 => ?_)
  ·have e : numV n = minusV := by unfold numV; rw [if_neg h4, if_pos h7]
   refine en tOK 0 0 [] ?_
   refine fc tOK 1 [] (rminus_ok) ?_
   refine sr 0 R ?_
   rw [e]; rfl
  ·have e : numV n = ⟨1, n⟩ := by unfold numV; rw [if_neg h4, if_neg h7]
   refine en tOK 0 3 [] ?_
   refine sr 0 R ?_
   rw [e]; rfl
set_option maxRecDepth 100000 in
theorem rtruth_ok {b : Bool} : Fc Tryz.prog gT 187 [.v (.bool b)] (vS (truthV b)) := by
 refine fb tOK (fn := Tryz.f187) 6 [.cell 2 26] Tryz.func187 Tryz.results187 (fun g0 B0 Q ρ0 R => ?_)
 refine en tOK 0 1 [] ?_
 refine sn tOK 0 1 [] ?_
 refine sib 0 rfl rfl (fun h3 => ?_) (fun h3 => ?_)
 ·refine en tOK 0 0 [] ?_
  refine fc tOK 1 [] (rnum_ok) ?_
  refine sr 0 R ?_
  rw [h3]; rfl
 ·refine en tOK 0 0 [] ?_
  refine fc tOK 1 [] (rnum_ok) ?_
  refine sr 0 R ?_
  rw [h3]; rfl
set_option maxRecDepth 100000 in
theorem rfin_ok {v : Val} : Fc Tryz.prog gT 188 [vS v] (SV.v (.bool (decide (v.k = 1)))) := by
 refine fb tOK (fn := Tryz.f188) 6 [.tmp 2] Tryz.func188 Tryz.results188 (fun g0 B0 Q ρ0 R => ?_)
 refine en tOK 0 2 [] ?_
 refine sn tOK 0 4 [] ?_
 refine sr 0 R ?_
 rfl
set_option maxRecDepth 100000 in
theorem rsign_ok {v : Val} : Fc Tryz.prog gT 189 [vS v] (nI (signR v)) := by
 refine fb tOK (fn := Tryz.f189) 21 [.tmp 2] Tryz.func189 Tryz.results189 (fun g0 B0 Q ρ0 R => ?_)
 refine en tOK 0 2 [] ?_
 refine sn tOK 0 9 [] ?_
 refine sib 0 rfl rfl (fun h3 => ?_) (fun h3 => ?_)
 ·have e : signR v = 1 := by unfold signR; rw [if_pos (by simpa using h3)]
  refine en tOK 0 1 [] ?_
  refine sr 0 R ?_
  rw [e]; rfl
 ·refine en tOK 0 9 [] ?_
  refine sib 0 rfl rfl (fun h12 => ?_) (fun h12 => ?_)
  ·have e : signR v = -1 := by unfold signR; rw [if_neg (by simpa using h3), if_pos (by simpa using h12)]
   refine en tOK 0 1 [] ?_
   refine sr 0 R ?_
   rw [e]; rfl
  ·have e : signR v = 0 := by unfold signR; rw [if_neg (by simpa using h3), if_neg (by simpa using h12)]
   refine en tOK 0 1 [] ?_
   refine sr 0 R ?_
   rw [e]; rfl
set_option maxRecDepth 100000 in
theorem rbeyond_ok {s : Int} : Fc Tryz.prog gT 272 [nI s] (vS (beyondR s)) := by
 refine fb tOK (fn := Tryz.f272) 12 [.cell 2 26] Tryz.func272 Tryz.results272 (fun g0 B0 Q ρ0 R => ?_)
 refine en tOK 0 1 [] ?_
 refine sn tOK 0 3 [] ?_
 refine si 0 rfl rfl (fun h3 => ?_) (fun h3 => ?_)
 ·have e : beyondR s = plusV := by unfold beyondR; rw [if_pos h3]
  refine en tOK 0 0 [] ?_
  refine fc tOK 1 [] (rplus_ok) ?_
  refine sr 0 R ?_
  rw [e]; rfl
 ·refine en tOK 0 3 [] ?_
  refine si 0 rfl rfl (fun h7 => ?_) (fun h7 => ?_)
  ·have e : beyondR s = minusV := by unfold beyondR; rw [if_neg h3, if_pos h7]
   refine en tOK 0 0 [] ?_
   refine fc tOK 1 [] (rminus_ok) ?_
   refine sr 0 R ?_
   rw [e]; rfl
  ·have e : beyondR s = nanV := by unfold beyondR; rw [if_neg h3, if_neg h7]
   refine en tOK 0 0 [] ?_
   refine fc tOK 1 [] (rnan_ok) ?_
   refine sr 0 R ?_
   rw [e]; rfl
set_option maxRecDepth 100000 in
theorem rturned_ok {v : Val} (hv : -1000000000000001 ≤ v.n ∧ v.n ≤ 1000000000000001) : Fc Tryz.prog gT 190 [vS v] (vS (turnedR v)) := by
 refine fb tOK (fn := Tryz.f190) 16 [.cell 2 26] Tryz.func190 Tryz.results190 (fun g0 B0 Q ρ0 R => ?_)
 refine en tOK 0 2 [] ?_
 refine sn tOK 0 2 [] ?_
 refine sn tOK 0 2 [] ?_
 refine si 0 rfl rfl (fun h5 => ?_) (fun h5 => ?_)
 ·have e : turnedR v = minusV := by unfold turnedR; rw [if_pos h5]
  refine en tOK 0 0 [] ?_
  refine fc tOK 1 [] (rminus_ok) ?_
  refine sr 0 R ?_
  rw [e]; rfl
 ·refine en tOK 0 2 [] ?_
  refine si 0 rfl rfl (fun h8 => ?_) (fun h8 => ?_)
  ·have e : turnedR v = plusV := by unfold turnedR; rw [if_neg h5, if_pos h8]
   refine en tOK 0 0 [] ?_
   refine fc tOK 1 [] (rplus_ok) ?_
   refine sr 0 R ?_
   rw [e]; rfl
  ·have e : turnedR v = ⟨v.k, 0 - v.n⟩ := by unfold turnedR; rw [if_neg h5, if_neg h8, Int.zero_sub]
   refine en tOK 0 5 [] ?_
   refine sn tOK 0 2 [] ?_
   refine sr 0 R ?_
   rw [e]; rfl
set_option maxRecDepth 100000 in
theorem rsize_ok {n : Int} (h0 : -1000000000000001 ≤ n ∧ n ≤ 1000000000000001) : Fc Tryz.prog gT 273 [nI n] (nI (sizeR n)) := by
 refine fb tOK (fn := Tryz.f273) 8 [.tmp 2] Tryz.func273 Tryz.results273 (fun g0 B0 Q ρ0 R => ?_)
 refine en tOK 0 1 [] ?_
 refine sn tOK 0 2 [] ?_
 refine si 0 rfl rfl (fun h4 => ?_) (fun h4 => ?_)
 ·have e : sizeR n = 0 - n := by unfold sizeR; rw [if_pos h4, Int.zero_sub]
  refine en tOK 0 3 [] ?_
  refine sr 0 R ?_
  rw [e]; rfl
 ·have e : sizeR n = n := by unfold sizeR; rw [if_neg h4]
  refine en tOK 0 2 [] ?_
  refine sr 0 R ?_
  rw [e]; rfl
set_option maxRecDepth 100000 in
theorem ris_ok {v : Val} : Fc Tryz.prog gT 48 [vS v] (SV.v (.bool (isV v))) := by
 refine fb tOK (fn := Tryz.f48) 27 [.tmp 2] Tryz.func48 Tryz.results48 (fun g0 B0 Q ρ0 R => ?_)
 refine en tOK 0 2 [] ?_
 refine sn tOK 0 3 [] ?_
 refine si 0 rfl rfl (fun h5 => ?_) (fun h5 => ?_)
 ·have e : isV v = (decide (-1000000000000000 ≤ v.n) && decide (v.n ≤ 1000000000000000)) := by unfold isV; rw [if_pos h5, Bool.decide_and]
  refine en tOK 0 9 [] ?_
  refine sr 0 R ?_
  rw [e]; rfl
 ·have e : isV v = (decide (2 ≤ v.k) && decide (v.k ≤ 5) && decide (v.n = 0)) := by unfold isV; rw [if_neg h5]; simp [Bool.and_assoc]
  refine en tOK 0 14 [] ?_
  refine sr 0 R ?_
  rw [e]; rfl
set_option maxRecDepth 100000 in
theorem rtrue_ok {v : Val} : Fc Tryz.prog gT 49 [vS v] (SV.v (.bool (trueR v))) := by
 refine fb tOK (fn := Tryz.f49) 26 [.tmp 2] Tryz.func49 Tryz.results49 (fun g0 B0 Q ρ0 R => ?_)
 refine en tOK 0 2 [] ?_
 refine sn tOK 0 24 [] ?_
 refine sr 0 R ?_
 simp [resVS, trueR, Bool.or_assoc]
set_option maxRecDepth 100000 in
theorem rless_ok {a b : Val} : Fc Tryz.prog gT 191 [vS a, vS b] (SV.v (.bool (lessR a b))) := by
 refine fb tOK (fn := Tryz.f191) 31 [.tmp 4] Tryz.func191 Tryz.results191 (fun g0 B0 Q ρ0 R => ?_)
 refine en tOK 0 3 [] ?_
 refine sn tOK 0 1 [] ?_
 refine fc tOK 2 [] (rfin_ok) ?_
 refine fg tOK 2 [] (fun hg => rfin_ok) ?_
 refine sib 0 rfl rfl (fun h5 => ?_) (fun h5 => ?_)
 ·have e : lessR a b = decide (a.n < b.n) := by unfold lessR; rw [if_pos (by simpa using h5)]
  refine en tOK 0 6 [] ?_
  refine sr 0 R ?_
  rw [e]; rfl
 ·refine en tOK 0 6 [] ?_
  refine si 0 rfl rfl (fun h17 => ?_) (fun h17 => ?_)
  ·have e : lessR a b = false := by unfold lessR; rw [if_neg (by simpa using h5), if_pos h17]
   refine en tOK 0 1 [] ?_
   refine sr 0 R ?_
   rw [e]; rfl
  ·have e : lessR a b = (decide (a.k = 5) || decide (b.k = 4)) := by unfold lessR; rw [if_neg (by simpa using h5), if_neg h17]; simp
   refine en tOK 0 9 [] ?_
   refine sr 0 R ?_
   rw [e]; rfl
set_option maxRecDepth 100000 in
theorem radd_ok {a b : Val} (ha : -1000000000000001 ≤ a.n ∧ a.n ≤ 1000000000000001) (hb : -1000000000000001 ≤ b.n ∧ b.n ≤ 1000000000000001) : Fc Tryz.prog gT 193 [vS a, vS b] (vS (addR a b)) := by
 refine fb tOK (fn := Tryz.f193) 32 [.cell 4 26] Tryz.func193 Tryz.results193 (fun g0 B0 Q ρ0 R => ?_)
 refine en tOK 0 3 [] ?_
 refine sn tOK 0 1 [] ?_
 refine fc tOK 2 [] (rfin_ok) ?_
 refine fg tOK 2 [] (fun hg => rfin_ok) ?_
 refine sib 0 rfl rfl (fun h5 => ?_) (fun h5 => ?_)
 ·have e : addR a b = numV (a.n + b.n) := by unfold addR; rw [if_pos (by simpa using h5)]
  refine en tOK 0 5 [] ?_
  refine fc tOK 1 [] (rnum_ok) ?_
  refine sr 0 R ?_
  rw [e]; rfl
 ·refine en tOK 0 1 [] ?_
  refine fc tOK 1 [] (rfin_ok) ?_
  refine sib 0 rfl rfl (fun h18 => ?_) (fun h18 => ?_)
  ·have e : addR a b = b := by unfold addR; rw [if_neg (by simpa using h5), if_pos (by simpa using h18)]
   refine en tOK 0 2 [] ?_
   refine sr 0 R ?_
   rw [e]; rfl
  ·refine en tOK 0 1 [] ?_
   refine fc tOK 3 [] (rfin_ok) ?_
   refine sq tOK 2 [] false (b := decide (a = b)) Tryz.underlying26 (by kernel_rfl) (fun w => val_eq _ _) ?_
   refine sib 0 rfl rfl (fun h22 => ?_) (fun h22 => ?_)
   ·have e : addR a b = a := by unfold addR; rw [if_neg (by simpa using h5), if_neg (by simpa using h18), if_pos (by simpa using h22)]
    refine en tOK 0 2 [] ?_
    refine sr 0 R ?_
    rw [e]; rfl
   ·have e : addR a b = nanV := by unfold addR; rw [if_neg (by simpa using h5), if_neg (by simpa using h18), if_neg (by simpa using h22)]
    refine en tOK 0 0 [] ?_
    refine fc tOK 1 [] (rnan_ok) ?_
    refine sr 0 R ?_
    rw [e]; rfl
set_option maxRecDepth 100000 in
theorem rover_ok {a b : Val} (ha : -1000000000000000 ≤ a.n ∧ a.n ≤ 1000000000000000) (_hb : -1000000000000000 ≤ b.n ∧ b.n ≤ 1000000000000000) : Fc Tryz.prog gT 195 [vS a, vS b] (vS (overR a b)) := by
 refine fb tOK (fn := Tryz.f195) 53 [.cell 4 26] Tryz.func195 Tryz.results195 (fun g0 B0 Q ρ0 R => ?_)
 refine en tOK 0 3 [] ?_
 refine sn tOK 0 1 [] ?_
 refine fc tOK 2 [] (rfin_ok) ?_
 refine fg tOK 7 [] (fun hg => rfin_ok) ?_
 refine sib 0 rfl rfl (fun h5 => ?_) (fun h5 => ?_)
 ·have e : overR a b = beyondR (signR a) := by unfold overR; rw [if_pos (by simpa [and_assoc] using h5)]
  refine en tOK 0 1 [] ?_
  refine fc tOK 0 [] (rsign_ok) ?_
  refine fc tOK 1 [] (rbeyond_ok) ?_
  refine sr 0 R ?_
  rw [e]; rfl
 ·refine en tOK 0 1 [] ?_
  refine fc tOK 2 [] (rfin_ok) ?_
  refine fg tOK 2 [] (fun hg => rfin_ok) ?_
  refine sib 0 rfl rfl (fun h20 => ?_) (fun h20 => ?_)
  ·have hz : b.n ≠ 0 := fun h => by simp at h5 h20; exact h5 h20.1 h20.2 h
   have hq := quo_in (a := a.n * 1000) (b := b.n) (by omega) (by omega)
   have e : overR a b = numV ((a.n * 1000).tdiv b.n) := by unfold overR; rw [if_neg (by simpa [and_assoc] using h5), if_pos (by simpa using h20)]
   refine en tOK 0 6 [] ?_
   refine fc tOK 1 [] (rnum_ok) ?_
   refine sr 0 R ?_
   simp only [hq]; rw [e]; rfl
  ·refine en tOK 0 1 [] ?_
   refine fc tOK 1 [] (rfin_ok) ?_
   refine sib 0 rfl rfl (fun h34 => ?_) (fun h34 => ?_)
   ·have e : overR a b = numV 0 := by unfold overR; rw [if_neg (by simpa [and_assoc] using h5), if_neg (by simpa using h20), if_pos (by simpa using h34)]
    refine en tOK 0 0 [] ?_
    refine fc tOK 1 [] (rnum_ok) ?_
    refine sr 0 R ?_
    rw [e]; rfl
   ·refine en tOK 0 1 [] ?_
    refine fc tOK 6 [] (rfin_ok) ?_
    refine sib 0 rfl rfl (fun h38 => ?_) (fun h38 => ?_)
    ·have e : overR a b = turnedR a := by unfold overR; rw [if_neg (by simpa [and_assoc] using h5), if_neg (by simpa using h20), if_neg (by simpa using h34), if_pos (by simpa using h38)]
     refine en tOK 0 1 [] ?_
     refine fc tOK 1 [] (rturned_ok (v := a) (by omega)) ?_
     refine sr 0 R ?_
     rw [e]; rfl
    ·refine en tOK 0 1 [] ?_
     refine fc tOK 1 [] (rfin_ok) ?_
     refine sib 0 rfl rfl (fun h48 => ?_) (fun h48 => ?_)
     ·have e : overR a b = a := by unfold overR; rw [if_neg (by simpa [and_assoc] using h5), if_neg (by simpa using h20), if_neg (by simpa using h34), if_neg (by simpa using h38), if_pos (by simpa using h48)]
      refine en tOK 0 2 [] ?_
      refine sr 0 R ?_
      rw [e]; rfl
     ·have e : overR a b = nanV := by unfold overR; rw [if_neg (by simpa [and_assoc] using h5), if_neg (by simpa using h20), if_neg (by simpa using h34), if_neg (by simpa using h38), if_neg (by simpa using h48)]
      refine en tOK 0 0 [] ?_
      refine fc tOK 1 [] (rnan_ok) ?_
      refine sr 0 R ?_
      rw [e]; rfl
set_option maxRecDepth 100000 in
theorem rcheck_ok {l : List Val} : Fc Tryz.prog gT 23 [rV l] (nI (if l.all isV then 0 else 80)) := by
 refine fb tOK (fn := Tryz.f23) 16 [.tmp 2] Tryz.func23 Tryz.results23 (fun g0 B0 Q ρ0 R => ?_)
 refine en tOK 0 1 [] ?_
 refine sn tOK 0 1 [] ?_
 refine sl 0 ?_
 refine E_loop (σ := Nat) (fun j => j ≤ l.length ∧ ∀ x ∈ l.take j, isV x = true) (fun j => l.length - j)
   (fun j => [(0, rV l), (2, nI 0), (3, nI j)])
   (fun j => []) 0 ?_ ?_
 ·exact ⟨Nat.zero_le _, by simp⟩
 ·rintro J j ⟨hj0, hj1⟩ hJ
  refine elen 0 rfl (fun hl => ?_)
  simp only [List.length_map] at hl
  refine en tOK 0 4 [] ?_
  refine si 0 rfl rfl (fun h7 => ?_) (fun h7 => ?_)
  ·have hj : j < l.length := by simpa using h7
   refine en tOK 0 4 [[nI l[j].k, nI l[j].n]] ?_ (hφ := by exact ⟨by omega, row_at _ hj⟩)
   refine fc tOK 1 [] (ris_ok) ?_
   refine sib 0 rfl rfl (fun h15 => ?_) (fun h15 => ?_)
   ·have e : ¬ l.all isV = true := fun h => by have := List.all_eq_true.1 h l[j] (List.getElem_mem hj); simp [this] at h15
    refine en tOK 0 1 [] ?_
    refine sr 0 R ?_
    first | (rw [if_pos e]; rfl) | (rw [if_neg e]; rfl)
   ·have hx : isV l[j] = true := by simpa using h15
    refine en tOK 0 3 [] ?_
    exact hJ (j + 1) ⟨by omega, take_next hj hj1 hx⟩ (by omega)
  ·have e : l.all isV = true := List.all_eq_true.2 fun x hx => hj1 x (by rw [List.take_of_length_le (by have := h7; simp at this; omega)]; exact hx)
   refine en tOK 0 1 [] ?_
   refine sr 0 R ?_
   first | (rw [if_pos e]; rfl) | (rw [if_neg e]; rfl)
set_option maxRecDepth 100000 in
theorem rtimes_ok {a b : Val} (ha : -1000000000000000 ≤ a.n ∧ a.n ≤ 1000000000000000) (hb : -1000000000000000 ≤ b.n ∧ b.n ≤ 1000000000000000) : Fc Tryz.prog gT 194 [vS a, vS b] (vS (timesR a b)) := by
 refine fb tOK (fn := Tryz.f194) 56 [.cell 4 26] Tryz.func194 Tryz.results194 (fun g0 B0 Q ρ0 R => ?_)
 have hs := sgnR_mul a b
 have sa := sizeR_in ha
 have sb := sizeR_in hb
 refine en tOK 0 3 [] ?_
 refine sdr 0 0 [0, 1, 0, 7, 15, 31] [0, 1, 2, 3, 4, 5] ?_
 refine xd tOK 1 [] ?_
 refine dc tOK 1 [] (rsign_ok) ?_
 refine dc tOK 2 [] (rsign_ok) ?_
 refine xe ?_
 refine sn tOK 0 1 [] ?_
 refine fc tOK 3 [] (rfin_ok) ?_
 refine fg tOK 2 [] (fun hg => rfin_ok) ?_
 refine sib 0 rfl rfl (fun h22 => ?_) (fun h22 => ?_)
 ·have e : timesR a b = beyondR (signR a * signR b) := by unfold timesR; rw [if_pos (by simpa using h22)]
  refine en tOK 0 1 [] ?_
  refine fc tOK 1 [] (rbeyond_ok) ?_
  refine sr 0 R ?_
  first | (rw [e]; rfl) | (simp only [hq2]; rw [e]; rfl)
 ·have hx := times_in sa sb
  have hq1 : IntKind.wrap .i64 ((1000000000000000 : Int).tdiv ((sizeR a.n).tdiv 1000)) = (1000000000000000 : Int).tdiv ((sizeR a.n).tdiv 1000) := quo_in (by omega) (by omega)
  refine edr 0 0 [0, 1, 3, 0, 8, 31, 63, 127] [0, 1, 2, 3, 4, 5, 6, 7] ?_
  refine xd tOK 2 [] ?_
  refine dc tOK 2 [] (rsize_ok (n := a.n) (by omega)) ?_
  refine dc tOK 2 [] (rsize_ok (n := b.n) (by omega)) ?_
  refine xe ?_
  refine sn tOK 0 6 [] ?_
  refine sas 8 rfl (v' := nI ((sizeR a.n).tdiv 1000)) ?_ ?_
  ·rw [hx.1]
  refine sn tOK 0 8 [] ?_
  refine sib 0 rfl rfl (fun h42 => ?_) (fun h42 => ?_)
  ·have e : timesR a b = beyondR (signR a * signR b) := by unfold timesR; rw [if_neg (by simpa using h22), if_pos (by have := h42; rw [hq1] at this; simpa using this)]
   refine en tOK 0 1 [] ?_
   refine fc tOK 1 [] (rbeyond_ok) ?_
   refine sr 0 R ?_
   first | (rw [e]; rfl) | (simp only [hq2]; rw [e]; rfl)
  ·have h42' : ¬ (0 < (sizeR a.n).tdiv 1000 ∧ (1000000000000000 : Int).tdiv ((sizeR a.n).tdiv 1000) < sizeR b.n) := by have := h42; rw [hq1] at this; simpa using this
   have hy := times_small sa sb h42'
   have hq2 := quo_in (a := (sizeR a.n).tmod 1000 * sizeR b.n) (b := 1000) (by omega) (by omega)
   have hz := sgn_timesI hs hy.2.2
   have e : timesR a b = numV (signR a * signR b * ((sizeR a.n).tdiv 1000 * sizeR b.n + ((sizeR a.n).tmod 1000 * sizeR b.n).tdiv 1000)) := by unfold timesR; rw [if_neg (by simpa using h22), if_neg h42']
   refine en tOK 0 10 [] ?_ (hφ := by simp only [hq2, conj, i64ok]; omega)
   refine fc tOK 1 [] (rnum_ok) ?_
   refine sr 0 R ?_
   first | (rw [e]; rfl) | (simp only [hq2]; rw [e]; rfl)
end Go.Proofs.YtomkgfdigldhcaaGreatDoor
/- Walks: WX. -/
namespace Go.Proofs.YtomkgfdigldhcaaGreatDoor
open Go.KX
set_option maxRecDepth 100000 in
theorem num12_ok {n : Int} : Fc Tryz.prog gT 34 [nI n] (nI n) := by
 refine fb tOK (fn := Tryz.f34) 4 [.tmp 2] Tryz.func34 Tryz.results34 (fun g0 B0 Q ρ0 R => ?_)
 refine en tOK 0 1 [] ?_
 refine sn tOK 0 2 [] ?_
 refine sr 0 R ?_
 rfl
set_option maxRecDepth 100000 in
theorem texts_ok {a b : List Bytes} : Fc Tryz.prog gT 31 [rB a, rB b] (bS (decide (a = b))) := by
 refine fb tOK (fn := Tryz.f31) 26 [.tmp 4] Tryz.func31 Tryz.results31 (fun g0 B0 Q ρ0 R => ?_)
 refine elen 0 rfl (fun hl => ?_)
 rw [List.length_map] at hl
 refine en tOK 0 1 [] ?_
 refine sn tOK 0 5 [] ?_
 refine si 0 rfl rfl (fun h10 => ?_) (fun h10 => ?_)
 ·rw [List.length_map, List.length_map] at h10
  have e : decide (a = b) = false := decide_eq_false (fun h => h10 (by rw [h]))
  refine en tOK 0 1 [] ?_
  refine sr 0 R ?_
  rw [e]; rfl
 ·rw [List.length_map, List.length_map] at h10
  have hab : a.length = b.length := by omega
  refine en tOK 0 1 [] ?_
  refine sl 0 ?_
  refine E_loop (σ := Nat) (fun j => j ≤ a.length ∧ a.take j = b.take j) (fun j => a.length - j)
    (fun j => [(0, rB a), (1, rB b), (5, nI j)])
    (fun j => []) 0 ?_ ?_
  ·exact ⟨Nat.zero_le _, by simp⟩
  ·rintro J j ⟨hj0, hj1⟩ hJ
   refine en tOK 0 4 [] ?_
   refine si 0 rfl rfl (fun h14 => ?_) (fun h14 => ?_)
   ·rw [List.length_map] at h14
    have hj : j < a.length := by omega
    have hjb : j < b.length := by omega
    refine edr 0 0 [0, 0, 3, 7, 0, 0, 48, 112, 255] [0, 1, 2, 3, 4, 5, 6, 7, 8] ?_
    refine xd tOK 9 [[.str a[j]], [.str b[j]]] ?_ (hφ := by (repeat' refine And.intro ?_ ?_) <;> first | omega | simp [hj] | simp [hjb])
    refine xe ?_
    refine si 0 rfl rfl (fun h25 => ?_) (fun h25 => ?_)
    ·have e : decide (a = b) = false := decide_eq_false (fun h => by subst h; exact h25 rfl)
     refine en tOK 0 1 [] ?_
     refine sr 0 R ?_
     rw [e]; rfl
    ·have h25 : a[j] = b[j] := Decidable.not_not.1 h25
     refine en tOK 0 3 [] ?_
     refine sl 0 ?_
     exact hJ (j + 1) ⟨by omega, eq_next hj (by omega) hj1 h25⟩ (by omega)
   ·rw [List.length_map] at h14
    have e : decide (a = b) = true := decide_eq_true (by rw [List.take_of_length_le (by omega), List.take_of_length_le (by omega)] at hj1; exact hj1)
    refine en tOK 0 1 [] ?_
    refine sr 0 R ?_
    rw [e]; rfl
set_option maxRecDepth 100000 in
theorem place_ok {l : List Bytes} {s : Bytes} : Fc Tryz.prog gT 39 [rB l, .str s] (nI (placeN l s)) := by
 refine fb tOK (fn := Tryz.f39) 19 [.tmp 4] Tryz.func39 Tryz.results39 (fun g0 B0 Q ρ0 R => ?_)
 refine elen 0 rfl (fun hl => ?_)
 rw [List.length_map] at hl
 refine en tOK 0 1 [] ?_
 refine sn tOK 0 1 [] ?_
 refine sl 0 ?_
 refine E_loop (σ := Nat) (fun j => j ≤ l.length ∧ ∀ x ∈ l.take j, decide (x = s) = false) (fun j => l.length - j)
   (fun j => [(0, rB l), (1, .str s), (5, nI j)])
   (fun j => []) 0 ?_ ?_
 ·exact ⟨Nat.zero_le _, by simp⟩
 ·rintro J j ⟨hj0, hj1⟩ hJ
  refine en tOK 0 4 [] ?_
  refine si 0 rfl rfl (fun h9 => ?_) (fun h9 => ?_)
  ·rw [List.length_map] at h9
   have hj : j < l.length := by omega
   refine en tOK 0 6 [[.str l[j]]] ?_ (hφ := by exact ⟨by omega, by simp [hj]⟩)
   refine si 0 rfl rfl (fun h17 => ?_) (fun h17 => ?_)
   ·have e : placeN l s = j := idxF_some (p := fun x => decide (x = s)) hj hj1 (by simpa using h17)
    refine en tOK 0 2 [] ?_
    refine sr 0 R ?_
    rw [e]; rfl
   ·have hx : decide (l[j] = s) = false := by simpa using h17
    refine en tOK 0 3 [] ?_
    refine sl 0 ?_
    exact hJ (j + 1) ⟨by omega, take_next hj hj1 hx⟩ (by omega)
  ·rw [List.length_map] at h9
   have e : placeN l s = -1 := idxF_none (p := fun x => decide (x = s)) (fun x hx => hj1 x (by rw [List.take_of_length_le (by omega)]; exact hx))
   refine en tOK 0 1 [] ?_
   refine sr 0 R ?_
   rw [e]; rfl
set_option maxRecDepth 100000 in
theorem small_ok {l : List Nd} (hb : ∀ n ∈ l, wN n ≤ 703687441776640) : Fc Tryz.prog gT 27 [rN l] (bS (smallN l)) := by
 refine fb tOK (fn := Tryz.f27) 58 [.tmp 2] Tryz.func27 Tryz.results27 (fun g0 B0 Q ρ0 R => ?_)
 refine elen 0 rfl (fun hl => ?_)
 rw [List.length_map] at hl
 refine en tOK 0 1 [] ?_
 refine sn tOK 0 1 [] ?_
 refine sn tOK 0 1 [] ?_
 refine sl 0 ?_
 refine E_loop (σ := Nat) (fun j => j ≤ l.length ∧ j ≤ 25) (fun j => l.length - j)
   (fun j => [(0, rN l), (3, nI (sumN (l.take j))), (4, nI j)])
   (fun j => []) 0 ?_ ?_
 ·exact ⟨Nat.zero_le _, Nat.zero_le _⟩
 ·rintro J j ⟨hj0, hj1⟩ hJ
  refine en tOK 0 8 [] ?_
  refine sib 0 rfl rfl (fun h12 => ?_) (fun h12 => ?_)
  ·simp only [Bool.and_eq_true, decide_eq_true_eq, List.length_map] at h12
   have hj : j < l.length := by omega
   have hw := hb l[j] (List.getElem_mem hj)
   have hs := sumN_le (l := l.take j) (fun n hn => hb n (List.mem_of_mem_take hn))
   rw [List.length_take] at hs
   have hs2 : sumN (l.take j) ≤ 17592186044416000 := by
    have : min j l.length * 703687441776640 ≤ 25 * 703687441776640 := Nat.mul_le_mul_right _ (by omega)
    omega
   unfold wN at hw
   refine edr 0 0 [0, 0, 0, 6, 14, 30, 62, 127, 0, 0, 768, 1792, 3840, 7936, 16383, 0, 0, 98304, 229376, 491520, 1015808, 2097151, 0, 0, 12582912, 29360128, 62914560, 130023424, 268435455, 0, 0, 1610612736, 3758096384, 8053063680, 16642998272, 34359738367, 68719476735] [0, 1, 2, 3, 4, 5, 6, 7, 8, 9, 10, 11, 12, 13, 14, 15, 16, 17, 18, 19, 20, 21, 22, 23, 24, 25, 26, 27, 28, 29, 30, 31, 32, 33, 34, 35, 36] ?_
   refine xd tOK 37 [ndL l[j], ndL l[j], ndL l[j], ndL l[j], ndL l[j]] ?_ (hφ := by (repeat' refine And.intro ?_ ?_) <;> first | omega | simpa using rN_get hj)
   refine xe ?_
   refine sn tOK 0 3 [] ?_
   refine sl 0 ?_
   refine eas 3 rfl (v' := nI (sumN (l.take (j + 1)))) (by rw [sumN_next hj]; simp only [wN]; congr 2; omega) ?_
   exact hJ (j + 1) ⟨by omega, by omega⟩ (by omega)
  ·have e : (decide ((l.length : Int) ≤ 24) && decide ((sumN (l.take j) : Int) ≤ 8000)) = smallN l := by
    simp only [Bool.and_eq_false_iff, decide_eq_false_iff_not, List.length_map] at h12
    unfold smallN
    by_cases h24 : l.length ≤ 24
    · rw [List.take_of_length_le (by omega), List.take_of_length_le (by omega)]
      congr 1 <;> exact decide_eq_decide.2 (by omega)
    · rw [decide_eq_false (by omega : ¬ (l.length : Int) ≤ 24), decide_eq_false h24]; rfl
   refine en tOK 0 8 [] ?_
   refine sr 0 R ?_
   exact congrArg (fun b => SV.v (.bool b)) (by rw [List.length_map]; exact e)
end Go.Proofs.YtomkgfdigldhcaaGreatDoor
/- Walks: WY. -/
namespace Go.Proofs.YtomkgfdigldhcaaGreatDoor
open Go.KX
set_option maxRecDepth 100000 in
theorem live12_ok  : Fc Tryz.prog gT 28 [] (bS true) := by
 refine fb tOK (fn := Tryz.f28) 63 [.tmp 0] Tryz.func28 Tryz.results28 (fun g0 B0 Q ρ0 R => ?_)
 refine en tOK 0 1 [] ?_
 refine sn tOK 0 3 [] ?_
 refine sn tOK 0 3 [] ?_
 refine sn tOK 0 0 [] ?_
 refine fc tOK 3 [] (rnum_ok) ?_
 refine sn tOK 0 4 [] ?_
 refine fc tOK 5 [] (order_ok (l := [nC, nB, nA]) (by decide)) ?_
 refine sn tOK 0 3 [] ?_
 refine sn tOK 0 3 [] ?_
 refine sn tOK 0 1 [] ?_
 refine fc tOK 4 [] (num12_ok) ?_
 refine fg tOK 6 [] (fun hg => texts_ok (a := (orderN [nC, nB, nA]).1) (b := [[65], [66], [67]])) ?_
 refine fg tOK 0 [] (fun hg => check_ok (cond := [67]) (l := [nA, nB, nC]) (by decide)) ?_
 refine fg tOK 6 [] (fun hg => num12_ok) ?_
 refine fg tOK 0 [] (fun hg => check_ok (cond := [65]) (l := [nX, nY]) (by decide)) ?_
 refine fg tOK 5 [] (fun hg => num12_ok) ?_
 refine fg tOK 0 [] (fun hg => check_ok (cond := [65]) (l := [nZ]) (by decide)) ?_
 refine fg tOK 7 [] (fun hg => num12_ok) ?_
 refine fg tOK 1 [] (fun hg => needs_ok (ref := [66]) (l := [nA, nB, nC]) (by decide)) ?_
 refine fg tOK 2 [] (fun hg => texts_ok (a := needsN [nA, nB, nC] [66]) (b := [[65], [66]])) ?_
 refine sr 0 R ?_
 simp only [live1, live2, live3, live4, live5]
 rfl
end Go.Proofs.YtomkgfdigldhcaaGreatDoor
