/- VE VF VG VH VI VJ VK WA WK WL WJ. -/
import Derived.Test.YtomkgfdigldhcaaGreatDoorLEH
import Derived.ArgAppend
import Derived.Laws.OwnMore
namespace Go.KX
section
variable {P : Program} {w : World}
theorem run_append_roomq (t ty e : TypeId) (i : TypeInfo) (ht : P.underlying t = some (.slice e)) (hi : P.info? e = some i) (g off sLen sCap : Nat) (cur : Array Value) (hg : w.heap[g]? = some (.cells cur e (0, 0)))
    (a : Addr) (m c : Nat) (news : List Value) (hl : news.length = m * i.size) (hnews : ∀ (j : Nat) u, news[j]? = some u → w.cell? (a.add j) = some u) (h1 : ∀ u ∈ news, u.oneCell' = true) (hroom : sLen + m ≤ sCap) (hfit : off + sLen * i.size + news.length ≤ cur.size) :
    (Builtin.append_ #[t, t] ty #[.slice (some ⟨g, off, none⟩) sLen sCap, .slice (some a) m c]).run P w = .ok (.slice (some ⟨g, off, none⟩) (sLen + m) sCap) (w.setRow g (cur.toList.take (off + sLen * i.size) ++ news ++ cur.toList.drop (off + sLen * i.size + news.length)).toArray) := by
  have hf := run_firstCells_some (P := P) w i.size m a m c news hl hnews
  have hst := run_storeCells_at P g (off + sLen * i.size) e news 0 cur w hg (by simpa using hfit) h1
  simp only [Nat.add_zero] at hst
  simp [Builtin.append_, run_underlying ht, sizeOf, typeInfo, hi, Builtin.lenOf, hroom, hf, Addr.add_lit, hst]
structure AppQ {α : Type} (w w' : World) (E : El α) (Te : Nat) (ad : Option Addr) (v' : Value) (zs : List α) : Prop where
  ex : ∃ ad' c', v' = .slice ad' zs.length c' ∧ (Res.que E Te ad' c' zs).p w' ∧ (∀ b, b < w.heap.size → b ∉ vbs ad → w'.heap[b]? = w.heap[b]?) ∧ w'.os = w.os ∧ w'.tape = w.tape ∧ w'.output = w.output ∧ w.heap.size ≤ w'.heap.size ∧ ∀ b ∈ vbs ad', b < w'.heap.size ∧ (b ∈ vbs ad ∨ w.heap.size ≤ b)
theorem own_que {α : Type} {E : El α} {B Te : Nat} {v : Value} {zs : List α} (h : w.ownsRow B Te E.sz v zs.length (flat E zs)) : ∃ ad c, v = .slice ad zs.length c ∧ (Res.que E Te ad c zs).p w ∧ ∀ b ∈ vbs ad, B ≤ b ∧ b < w.heap.size := by
  have hlt := h.lt
  rcases h.2 with ⟨rfl, hn⟩ | ⟨g, cap, cur, rfl, hb, hg, hnc, hcm, hcs, htk⟩
  · have : zs = [] := List.eq_nil_of_length_eq_zero hn
    subst this
    exact ⟨none, 0, rfl, .inl ⟨rfl, rfl, rfl⟩, fun b hb => by cases hb⟩
  · refine ⟨some ⟨g, 0, none⟩, cap, rfl, .inr ⟨g, 0, cur, rfl, hg, hnc, hcm, by omega, by simpa using htk⟩, fun b hb => ?_⟩
    have : b = g := by simpa [vbs] using hb
    subst this
    exact hlt b rfl
theorem run_appq {T Te sz by_ ty : Nat} {z : Value} (hz : 0 < sz) (u : P.underlying T = some (.slice Te)) (hti : TI P Te sz by_ z) (hzs : z.cells.size = sz) {ad : Option Addr} {c : Nat} {ys : List (Row sz)} (hq : (Res.que (elRow sz hz) Te ad c ys).p w)
    {ad2 : Option Addr} {ys2 : List (Row sz)} {c2 : Nat} (h2 : ys2 ≠ [] → ∃ b o, ad2 = some ⟨b, o, none⟩ ∧ ∀ (j : Nat) v, (flat (elRow sz hz) ys2)[j]? = some v → w.cell? ⟨b, o + j, none⟩ = some v) (hby : 1 ≤ by_) (hbig : (ys.length + ys2.length) * by_ ≤ 140737488355328) :
    ∃ v' w', (Builtin.append_ #[T, T] ty #[.slice ad ys.length c, .slice ad2 ys2.length c2]).run P w = .ok v' w' ∧ AppQ w w' (elRow sz hz) Te ad v' (ys ++ ys2) := by
  obtain ⟨i0, hi, hs0, hb0, hz0⟩ := hti
  by_cases he : ys2 = []
  · subst he
    have same : AppQ w w (elRow sz hz) Te ad (.slice ad (ys ++ []).length c) (ys ++ []) := by
      refine ⟨ad, c, rfl, by simpa using hq, fun _ _ _ => rfl, rfl, rfl, rfl, Nat.le_refl _, fun b hb => ⟨?_, .inl hb⟩⟩
      rcases hq with ⟨rfl, _, _⟩ | ⟨gg, off, cur, rfl, hg, _⟩
      · cases hb
      · have : b = gg := by simpa [vbs] using hb
        subst this
        exact (Array.getElem?_eq_some_iff.1 hg).1
    refine ⟨_, w, ?_, same⟩
    rcases hq with ⟨rfl, rfl, rfl⟩ | ⟨gg, off, cur, rfl, hg, hnc, _⟩
    · cases ad2 <;> simp [Builtin.append_, run_underlying u, sizeOf, typeInfo, hi, Builtin.lenOf, Builtin.firstCells, loadCells, loadCellsFrom]
    · cases ad2 <;> simp [Builtin.append_, run_underlying u, sizeOf, typeInfo, hi, Builtin.lenOf, Builtin.firstCells, loadCells, loadCellsFrom, storeCells, hnc]
  · obtain ⟨b2, o2, rfl, hcell⟩ := h2 he
    have hm : 0 < ys2.length := List.length_pos_iff.2 he
    have hnl : (flat (elRow sz hz) ys2).length = ys2.length * sz := flat_len (elRow sz hz) ys2
    have h63 : ys.length + ys2.length ≤ maxLen := by
      have : ys.length + ys2.length ≤ (ys.length + ys2.length) * by_ := Nat.le_mul_of_pos_right _ hby
      simp only [maxLen]; omega
    have hnews : ∀ (j : Nat) v, (flat (elRow sz hz) ys2)[j]? = some v → w.cell? ((⟨b2, o2, none⟩ : Addr).add j) = some v := fun j v hv => by rw [addr_add]; exact hcell j v hv
    rcases hq with ⟨rfl, rfl, rfl⟩ | ⟨gg, off, cur, rfl, hg, hnc, hcm, hcs, htk⟩
    · obtain ⟨v', w', r1, r2, r3, _⟩ := run_append_own (P := P) w w.heap.size T ty Te i0 z sz by_ u hi hz0 hs0 hb0 hzs hz (.slice none 0 0) 0 [] ⟨by simp, .inl ⟨rfl, rfl⟩⟩ ⟨b2, o2, none⟩ ys2.length c2 _ hnl hnews (flat_one _ _) (by simpa using h63) (by simpa using hbig) (Nat.le_refl _)
      obtain ⟨ad', c', rfl, q1, q2⟩ := own_que (E := elRow sz hz) (zs := ys2) (by have := r2; simp only [Nat.zero_add, List.nil_append] at this; exact this)
      exact ⟨_, w', r1, ad', c', rfl, q1, fun b hb _ => r3.block b hb (by simp [Value.ownBlock]), r3.os, r3.tape, r3.output, r3.size, fun b hb => ⟨(q2 b hb).2, .inr (q2 b hb).1⟩⟩
    · have hcs' : off + c * sz ≤ cur.size := hcs
      have htk' : (cur.toList.drop off).take (ys.length * sz) = flat (elRow sz hz) ys := htk
      by_cases hroom : ys.length + ys2.length ≤ c
      · have hle : (ys.length + ys2.length) * sz ≤ c * sz := Nat.mul_le_mul_right _ hroom
        rw [Nat.add_mul] at hle
        have hr := run_append_roomq (P := P) (w := w) T ty Te i0 u hi gg off ys.length c cur hg ⟨b2, o2, none⟩ ys2.length c2 _ (by rw [hs0]; exact hnl) hnews (flat_one _ _) hroom (by rw [hs0, hnl]; omega)
        rw [hs0] at hr
        refine ⟨_, _, hr, some ⟨gg, off, none⟩, c, by rw [List.length_append], .inr ⟨gg, off, _, rfl, setRow_heap w gg cur _ Te _ hg, by rw [List.length_append]; exact hroom, hcm, ?_, ?_⟩, fun b _ hb => setRow_other w gg b _ (by simpa [vbs] using hb), rfl, rfl, rfl, by simp, fun b hb => ⟨?_, .inl hb⟩⟩
        · show off + c * sz ≤ _
          simp only [List.size_toArray, List.length_append, List.length_take, List.length_drop, Array.length_toList, hnl]
          omega
        · show List.take ((ys ++ ys2).length * sz) (List.drop off (cur.toList.take (off + ys.length * sz) ++ flat (elRow sz hz) ys2 ++ cur.toList.drop (off + ys.length * sz + (flat (elRow sz hz) ys2).length))) = _
          rw [flat_append, ← htk', List.append_assoc, List.drop_append_of_le_length (by simp; omega), List.drop_take, ← List.append_assoc]
          have e : off + ys.length * sz - off = ys.length * sz := by omega
          rw [e]
          have hl2 : ((cur.toList.drop off).take (ys.length * sz) ++ flat (elRow sz hz) ys2).length = (ys ++ ys2).length * sz := by
            simp only [List.length_append, List.length_take, List.length_drop, Array.length_toList, hnl, Nat.add_mul]
            omega
          rw [← hl2]
          exact List.take_left
        · have : b = gg := by simpa [vbs] using hb
          subst this
          have := (Array.getElem?_eq_some_iff.1 hg).1
          simpa using this
      · have holds : ∀ (j : Nat) v, (flat (elRow sz hz) ys)[j]? = some v → w.cell? ((⟨gg, off, none⟩ : Addr).add j) = some v := by
          intro j v hv
          rw [addr_add]
          rw [← htk'] at hv
          have hlt : j < ys.length * sz := by
            rcases Nat.lt_or_ge j (ys.length * sz) with h | h
            · exact h
            · rw [List.getElem?_eq_none (by simp; omega)] at hv; cases hv
          rw [List.getElem?_take_of_lt hlt, List.getElem?_drop] at hv
          simp only [World.cell?, hg]
          simpa using hv
        obtain ⟨v', w', r1, r2, r3⟩ := run_append_arg_grows (P := P) w T ty Te i0 z sz by_ u hi hz0 hs0 hb0 hzs hz ⟨gg, off, none⟩ ys.length c _ (flat_len (elRow sz hz) ys) holds ⟨b2, o2, none⟩ ys2.length c2 _ hnl hnews (by omega) h63 hbig
        obtain ⟨ad', c', rfl, q1, q2⟩ := own_que (E := elRow sz hz) (zs := ys ++ ys2) (by rw [List.length_append, flat_append]; exact r2)
        exact ⟨_, w', r1, ad', c', rfl, q1, fun b hb _ => r3.block b hb (by simp), r3.os, r3.tape, r3.output, r3.size, fun b hb => ⟨(q2 b hb).2, .inr (q2 b hb).1⟩⟩
end
end Go.KX
namespace Go.KX
section
variable {X : Kx} {k : List It} {L : SL} {M : SM} {fs : List MF} {own : List Res} {arr : Array Oper} {l : List Oper} {o : Oper}
/-- append(xs, ys...): xs a queue, ys frozen. -/
theorem sqap {tb : TT} (hT : tb.Ok X.P) (m : Nat) (H : List (List SV)) {d T Te i n sz z : Nat} {x y : Operand} {rows rows2 : List (List SV)} {dT de : TD} {M2 l' L' M' φ} (hn : n = rows.length) (hz2 : rows2 ≠ [] → z = sz) (hbig : (rows.length + rows2.length) * de.by_ ≤ 140737488355328) (hk : ES X arr l' k L' M' fs own) (ho : o.op = .call ⟨.builtin .append, #[x, y], #[T, T]⟩ := by rfl) (hg : o.guard = none := by rfl) (hd : o.dst = some d := by rfl) (hdn : Nat.blt d X.n = true := by rfl)
    (hx : evS (lkS L) x = some (.o i n) := by rfl) (hy : evS (lkS L) y = some (.s z rows2) := by rfl) (hm : lkM M i = some (.q Te sz rows) := by rfl) (hT1 : tb.get T = some dT := by rfl) (hk1 : dT.kd = .sl Te := by rfl) (hT2 : tb.get Te = some de := by rfl) (hsz : de.sz = sz := by rfl) (hzl : Nat.beq (cellsV (inj de.z)).length de.sz = true := by rfl) (hby : 1 ≤ de.by_ := by decide) (ho1 : onceM i M = true := by rfl) (hi1 : Nat.blt i 1000 = true := by rfl)
    (hu : updK M i (.q Te sz (rows ++ rows2)) some = some M2 := by rfl) (hr : xrun tb X.n arr m H l ((d, .o i (rows ++ rows2).length) :: cln i [] L) M2 [] = some (l', L', M', φ) := by rfl) (hφ : conj φ := by first | trivial | omega | (simp +contextual [conj]; done)) : ES X arr (o :: l) k L M fs own := by
  subst hsz hn
  intro g a hE
  obtain ⟨ρ, ms, st⟩ := hE.open
  have hSl : Sl X ρ L a g := st.all _ (.tail _ (.head _))
  have hw : Region.wanted o (yielded arr a.tmps) = true := live_wanted (L := []) st.kn (live_none hg)
  have hi1 : i < 1000 := by simpa [Nat.blt_eq] using hi1
  have hM : DenM g ρ M ms := st.all _ (.head _)
  obtain ⟨r, m1, m2, rfl, hB, hup⟩ := hM.setU ho1 hm
  obtain ⟨M3, hK, hM3⟩ := hup hu
  cases hK
  have dx := eval_den hSl.val hx
  have dy := eval_den hSl.val hy
  generalize hvx : a.eval x = vx at dx
  generalize hvy : a.eval y = vy at dy
  have u := (TT.get_ok hT hT1).kd
  rw [hk1] at u
  have hti := (TT.get_ok hT hT2).ti
  have hzs : de.z.cells.size = de.sz := cellsV_len (Nat.eq_of_beq_eq_true hzl)
  cases hB with
  | q hz ys hl hdd =>
    cases dx with
    | o =>
      cases dy with
      | s xs h1 h2 hxl hxr hxo hne hxd =>
        rename_i ad2 c2
        have hxl2 : xs.length = rows2.length * de.sz := by
          by_cases he : rows2 = []
          · rw [he] at hxl ⊢; simpa using hxl
          · rw [← hz2 he]; exact hxl
        obtain ⟨ys2, hyl2, hyf⟩ := chunks hz rows2.length xs hxl2 hxo.1
        have hp : (m1 ++ Res.que (elRow de.sz hz) Te (ρ i).ad (ρ i).c ys :: m2 ++ own).Perm (Res.que (elRow de.sz hz) Te (ρ i).ad (ρ i).c ys :: (m1 ++ m2 ++ own)) := by
          simp only [List.append_assoc, List.cons_append]
          exact List.perm_middle
        have stp0 := st.perm hp
        have stp : St X.toCx [] (rowsD ys rows :: rowsD ys2 rows2 :: F1 ρ M _ :: F2 X ρ L a :: fs) _ g a := ⟨stp0.kn, All.cons hdd (All.cons (fun ρ' k x r hk hr => by
          have hrl : r.length = de.sz := by
            have hne2 : rows2 ≠ [] := by intro e; subst e; simp at hr
            rw [← hz2 hne2]; exact hxr r (List.mem_of_getElem? hr)
          refine ⟨by rw [x.2.1, hrl], fun j sv v hj hv => ?_⟩
          have hf := flat_get (elRow de.sz hz) ys2 k j x v hk hv
          rw [hyf] at hf
          have hne2 : rows2 ≠ [] := by intro e; subst e; simp at hr
          exact hxd ρ' k j r sv v hr hj (by rw [hz2 hne2]; exact hf)) stp0.all), stp0.own, stp0.ext, stp0.new⟩
        have hq : (Res.que (elRow de.sz hz) Te (ρ i).ad (ρ i).c ys).p g.w := stp.own.p _ (.head _)
        have hbig' : (ys.length + ys2.length) * de.by_ ≤ 140737488355328 := by rw [hl, hyl2]; exact hbig
        obtain ⟨v', w', hr0, ad', c', rfl, p1, p2, p3, p4, p5, p6, p7⟩ := run_appq (P := X.P) (ty := o.type) hz u hti hzs hq (ad2 := ad2) (ys2 := ys2) (c2 := c2) (fun hne2 => by
          have hr2 : rows2 ≠ [] := by intro e; subst e; exact hne2 (List.eq_nil_of_length_eq_zero (by simpa using hyl2))
          obtain ⟨b, oo, he, _, hc⟩ := hne hr2
          exact ⟨b, oo, he, fun j v hv => hc j v (by rw [← hyf]; exact hv)⟩) hby hbig'
        have hnd : (vbs ad').Nodup := by cases ad' <;> simp [vbs]
        obtain ⟨g', rfl, s'⟩ := stp.turn .head p2 p3 p4 p5 p6 p1 hnd (fun b hb => (p7 b hb).1) (fun b hb => (p7 b hb).2)
        rw [hyl2] at hr0
        have hre : (execOp a.eval o).run X.P g.w = .ok (.value (.slice ad' (ys ++ ys2).length c')) g'.w := by
          simp only [execOp, ho, resolve]
          simp only [List.map_toArray, List.map_cons, List.map_nil, hvx, hvy, ← hl]
          simp [invoke, builtin, hr0]
        simp only [wl, hw, if_true, wn, hre, hd]
        let y : Lc := ⟨(ρ i).b, ad', c'⟩
        have hd1 : (rowsD ys rows).p g' := s'.all _ (.head _)
        have hd2 : (rowsD ys2 rows2).p g' := s'.all _ (.tail _ (.head _))
        have hSl' : Sl X ρ L a g' := s'.all (F2 X ρ L a) (.tail _ (.tail _ (.tail _ (.head _))))
        have hM' : DenM g' ρ M (m1 ++ _ :: m2) := s'.all (F1 ρ M _) (.tail _ (.tail _ (.head _)))
        have hBn : DenB g' (fun j => if j = i then y else ρ j) i (.q Te de.sz (rows ++ rows2)) (Res.que (elRow de.sz hz) Te ((fun j => if j = i then y else ρ j) i).ad ((fun j => if j = i then y else ρ j) i).c (ys ++ ys2)) := .q hz (ys ++ ys2) (by simp [hl, hyl2]) (fun ρ' k x r hk hr => by
          rw [List.getElem?_append] at hk hr
          rw [hl] at hk
          split at hr
          · rename_i hlt; rw [if_pos hlt] at hk; exact hd1 ρ' k x r hk hr
          · rename_i hlt; rw [if_neg hlt] at hk; exact hd2 ρ' _ x r hk hr)
        simp only [if_pos] at hBn
        have hMn := hM3 g' y _ hM' (by simpa using hBn)
        have hp2 : (Res.que (elRow de.sz hz) Te ad' c' (ys ++ ys2) :: (m1 ++ m2 ++ own)).Perm (m1 ++ Res.que (elRow de.sz hz) Te ad' c' (ys ++ ys2) :: m2 ++ own) := by
          simp only [List.append_assoc, List.cons_append]
          exact List.perm_middle.symm
        have s2 := s'.perm hp2
        have s3 : St X.toCx [] (F1 (fun j => if j = i then y else ρ j) M2 (m1 ++ Res.que (elRow de.sz hz) Te ad' c' (ys ++ ys2) :: m2) :: F2 X (fun j => if j = i then y else ρ j) (cln i [] L) a :: fs) (m1 ++ Res.que (elRow de.sz hz) Te ad' c' (ys ++ ys2) :: m2 ++ own) g' a := ⟨s2.kn, All.cons hMn (All.cons ⟨fun j hj => by
            have : j ≠ i := by omega
            simp only [if_neg this]; exact hSl'.pin j hj, fun t sv ht => by
            obtain ⟨_, h3, h4⟩ := cln_lk ht
            obtain ⟨x, hx, dx⟩ := hSl'.val t sv h3
            exact ⟨x, hx, dx.upd h4⟩⟩ (fun f hf => s2.all f (.tail _ (.tail _ (.tail _ (.tail _ hf)))))), s2.own, s2.ext, s2.new⟩
        refine go hT m H hk hr hφ g' _ (ESt.put s3 hdn ?_)
        have hlen : (ys ++ ys2).length = (rows ++ rows2).length := by simp [hl, hyl2]
        rw [hlen]
        have : Den g' (fun j => if j = i then y else ρ j) (.o i (rows ++ rows2).length) (.slice ((fun j => if j = i then y else ρ j) i).ad (rows ++ rows2).length ((fun j => if j = i then y else ρ j) i).c) := .o
        simpa [y] using this
/-- A literal of one text, as rows that are owned. -/
theorem sbl1 {tb : TT} (hT : tb.Ok X.P) (i : Nat) {d T Te : Nat} {x : Operand} {q : Bytes} {dT de : TD} (h : ES X arr l k ((d, .o i 1) :: L) ((i, .r Te 1 [[.str q]]) :: M) fs own) (ho : o.op = .buildSlice T 1 #[(0, x)] := by rfl) (hg : o.guard = none := by rfl) (hd : o.dst = some d := by rfl) (hn : Nat.blt d X.n = true := by rfl) (hx : evS (lkS L) x = some (.str q) := by rfl)
    (hT1 : tb.get T = some dT := by rfl) (hk1 : dT.kd = .sl Te := by rfl) (hT2 : tb.get Te = some de := by rfl) (hsz : de.sz = 1 := by rfl) (hzl : Nat.beq (cellsV (inj de.z)).length de.sz = true := by rfl) (hoc : (occSL i L || occM i M) = false := by rfl) (hlt : Nat.blt i 1000 = true := by rfl) : ES X arr (o :: l) k L M fs own := by
  intro g a hE
  obtain ⟨ρ, ms, st⟩ := hE.open
  simp only [Bool.or_eq_false_iff] at hoc
  have hlt : i < 1000 := by simpa [Nat.blt_eq] using hlt
  have hSl : Sl X ρ L a g := st.all _ (.tail _ (.head _))
  have u := (TT.get_ok hT hT1).kd
  rw [hk1] at u
  have hti := (TT.get_ok hT hT2).ti
  have hzs : de.z.cells.size = de.sz := cellsV_len (Nat.eq_of_beq_eq_true hzl)
  rw [hsz] at hti hzs
  have hev : evs (lkS L) [x] = some [.str q] := by simp only [evs, hx]
  obtain ⟨Lr, st', hevl, hfr⟩ := st.slots (fun t sv ht => by obtain ⟨x, hx, _⟩ := hSl.val t sv ht; exact ⟨x, hx⟩) hev
  have hxv : a.eval x = str q := den_str (eval_den hSl.val hx)
  simp only [List.map_cons, List.map_nil, hxv] at hevl
  let y0 : Row 1 := ⟨[str q], rfl, fun u hu => by rcases List.mem_singleton.1 hu with rfl; rfl⟩
  have key := S_lit (k := [.lp fun a' w' => ∃ g', g'.w = w' ∧ ESt X ((d, .o i 1) :: L) ((i, .r Te 1 [[.str q]]) :: M) fs own g' a']) (arr := arr) (l := []) (elRow 1 (by decide)) [y0] (parts := [(0, x)]) (vs := [str q]) ho (live_none hg) hd hn u hti rfl hzs rfl hevl rfl (by decide) (fun ad c => S_J (fun g' a' s' => by
      let y : Lc := ⟨0, ad, c⟩
      have hM' : DenM g' ρ M ms := s'.all (F1 ρ M ms) (.head _)
      have hS' : Sl X ρ L a g' := s'.all (F2 X ρ L a) (.tail _ (.head _))
      have hB : DenB g' (fun j => if j = i then y else ρ j) i (.r Te 1 [[.str q]]) (Res.arr (elRow 1 (by decide)) Te ((fun j => if j = i then y else ρ j) i).ad ((fun j => if j = i then y else ρ j) i).c [y0]) := .r (by decide) [y0] rfl (fun ρ' k x r hk hr => by
        cases k with
        | zero =>
          cases hk; cases hr
          exact DenL.cons .str DenL.nil
        | succ k => cases hk)
      simp only [if_pos] at hB
      refine ⟨g', rfl, fun j => if j = i then y else ρ j, Res.arr (elRow 1 (by decide)) Te ad c [y0] :: ms, ⟨⟨s'.kn.size, s'.kn.defers, fun i v hv => by simp [lk] at hv⟩, fun f hf => s'.all f (.tail _ (.tail _ hf)), s'.own, s'.ext, s'.new⟩, .cons hB (occ_upd hM' hoc.2), fun j hj => ?_, fun t sv ht => ?_⟩
      · have : j ≠ i := by omega
        simp only [if_neg this]; exact hS'.pin j hj
      · by_cases htd : t = d
        · subst htd
          rw [lkS_same] at ht
          cases ht
          refine ⟨_, s'.kn.val t _ (lk_cons_same _ _ _), ?_⟩
          have : Den g' (fun j => if j = i then y else ρ j) (.o i 1) (.slice ((fun j => if j = i then y else ρ j) i).ad 1 ((fun j => if j = i then y else ρ j) i).c) := .o
          simpa [y] using this
        · rw [lkS_ne _ _ htd] at ht
          obtain ⟨x, hx, dx⟩ := hS'.val t sv ht
          exact ⟨x, s'.kn.val t x (by rw [lk_cons_ne _ _ htd]; exact hfr t x hx), dx.upd (occSL_get hoc.1 t sv ht)⟩)) g a st'
  have hw : Region.wanted o (yielded arr a.tmps) = true := live_wanted (L := []) st.kn (live_none hg)
  simp only [wl, hw, if_true] at key ⊢
  exact wn_mono (fun a' w' hh => by
    obtain ⟨g', rfl, hs⟩ := hh
    exact h g' a' hs) key
/-- Rows that are owned are a queue. -/
theorem eaq (i : Nat) {T sz : Nat} {rows : List (List SV)} {M' : SM} (h : E X k L M' fs own) (hm : lkM M i = some (.r T sz rows) := by rfl) (hu : updK M i (.q T sz rows) some = some M' := by rfl) : E X k L M fs own := by
  intro g a hE
  obtain ⟨ρ, ms, st⟩ := hE.open
  have hM : DenM g ρ M ms := st.all _ (.head _)
  have hSl : Sl X ρ L a g := st.all _ (.tail _ (.head _))
  obtain ⟨r, m1, m2, rfl, hB, hup⟩ := hM.split hm
  obtain ⟨M2, hK, hM2⟩ := hup hu
  cases hK
  cases hB with
  | r hz xs hl hdd =>
    have hp : (m1 ++ Res.arr (elRow sz hz) T (ρ i).ad (ρ i).c xs :: m2 ++ own).Perm (Res.arr (elRow sz hz) T (ρ i).ad (ρ i).c xs :: (m1 ++ m2 ++ own)) := by
      simp only [List.append_assoc, List.cons_append]
      exact List.perm_middle
    have hp2 : (Res.que (elRow sz hz) T (ρ i).ad (ρ i).c xs :: (m1 ++ m2 ++ own)).Perm (m1 ++ Res.que (elRow sz hz) T (ρ i).ad (ρ i).c xs :: m2 ++ own) := by
      simp only [List.append_assoc, List.cons_append]
      exact List.perm_middle.symm
    have stp := st.perm hp
    have ho : g.w.ownsRow 0 T sz (.slice (ρ i).ad xs.length (ρ i).c) xs.length (flat (elRow sz hz) xs) := stp.own.p _ (.head _)
    obtain ⟨ad, c, e, hq, _⟩ := own_que (E := elRow sz hz) ho
    injection e with e1 _ e3
    rw [← e1, ← e3] at hq
    have s' : St X.toCx [] (F1 ρ M (m1 ++ Res.arr (elRow sz hz) T (ρ i).ad (ρ i).c xs :: m2) :: F2 X ρ L a :: fs) (Res.que (elRow sz hz) T (ρ i).ad (ρ i).c xs :: (m1 ++ m2 ++ own)) g a := by
      refine ⟨stp.kn, stp.all, ⟨fun r hr => ?_, stp.own.nodup, stp.own.lt, stp.own.nfz⟩, stp.ext, stp.new⟩
      cases hr with
      | head => exact hq
      | tail _ hr => exact stp.own.p r (.tail _ hr)
    have s2 := s'.perm hp2
    have hMn := hM2 g _ hM (.q hz xs hl hdd)
    exact h g a ⟨ρ, _, ⟨s2.kn, fun f hf => s2.all f (.tail _ (.tail _ hf)), s2.own, s2.ext, s2.new⟩, hMn, hSl.pin, hSl.val⟩
/-- xs = xs[1:], of a queue. -/
theorem sqsl {tb : TT} (hT : tb.Ok X.P) (m : Nat) (H : List (List SV)) {d T Te i n sz : Nat} {kk : IntKind} {x y : Operand} {row : List SV} {rows : List (List SV)} {dT de : TD} {M2 l' L' M' φ} (hn : n = rows.length + 1) (hk : ES X arr l' k L' M' fs own) (ho : o.op = .slice T x (some y) none none := by rfl) (hg : o.guard = none := by rfl) (hd : o.dst = some d := by rfl) (hdn : Nat.blt d X.n = true := by rfl)
    (hx : evS (lkS L) x = some (.o i n) := by rfl) (hy : evS (lkS L) y = some (.v (.int kk 1)) := by rfl) (hm : lkM M i = some (.q Te sz (row :: rows)) := by rfl) (hT1 : tb.get T = some dT := by rfl) (hk1 : dT.kd = .sl Te := by rfl) (hT2 : tb.get Te = some de := by rfl) (hsz : de.sz = sz := by rfl) (ho1 : onceM i M = true := by rfl) (hi1 : Nat.blt i 1000 = true := by rfl)
    (hu : updK M i (.q Te sz rows) some = some M2 := by rfl) (hr : xrun tb X.n arr m H l ((d, .o i rows.length) :: cln i [] L) M2 [] = some (l', L', M', φ) := by rfl) (hφ : conj φ := by first | trivial | omega | (simp +contextual [conj]; done)) : ES X arr (o :: l) k L M fs own := by
  subst hsz hn
  intro g a hE
  obtain ⟨ρ, ms, st⟩ := hE.open
  have hSl : Sl X ρ L a g := st.all _ (.tail _ (.head _))
  have hw : Region.wanted o (yielded arr a.tmps) = true := live_wanted (L := []) st.kn (live_none hg)
  have hi1 : i < 1000 := by simpa [Nat.blt_eq] using hi1
  have hM : DenM g ρ M ms := st.all _ (.head _)
  obtain ⟨r, m1, m2, rfl, hB, hup⟩ := hM.setU ho1 hm
  obtain ⟨M3, hK, hM3⟩ := hup hu
  cases hK
  have dx := eval_den hSl.val hx
  have hyv := den_int (eval_den hSl.val hy)
  generalize hvx : a.eval x = vx at dx
  have u := (TT.get_ok hT hT1).kd
  rw [hk1] at u
  have hti := (TT.get_ok hT hT2).ti
  cases hB with
  | q hz ys hl hdd =>
    cases dx with
    | o =>
      have hp : (m1 ++ Res.que (elRow de.sz hz) Te (ρ i).ad (ρ i).c ys :: m2 ++ own).Perm (Res.que (elRow de.sz hz) Te (ρ i).ad (ρ i).c ys :: (m1 ++ m2 ++ own)) := by
        simp only [List.append_assoc, List.cons_append]
        exact List.perm_middle
      have stp0 := st.perm hp
      have stp : St X.toCx [] (rowsD ys (row :: rows) :: F1 ρ M _ :: F2 X ρ L a :: fs) _ g a := ⟨stp0.kn, All.cons hdd stp0.all, stp0.own, stp0.ext, stp0.new⟩
      have hq : (Res.que (elRow de.sz hz) Te (ρ i).ad (ρ i).c ys).p g.w := stp.own.p _ (.head _)
      cases ys with
      | nil => simp at hl
      | cons y0 ys =>
        rcases hq with ⟨_, _, h0⟩ | ⟨gg, off, cur, had, hg0, hnc, hcm, hcs, htk⟩
        · cases h0
        · have hcs' : off + (ρ i).c * de.sz ≤ cur.size := hcs
          have htk' : (cur.toList.drop off).take ((ys.length + 1) * de.sz) = flat (elRow de.sz hz) (y0 :: ys) := htk
          have hlen : ys.length + 1 ≤ (ρ i).c := hnc
          have hrl : ys.length = rows.length := by simpa using hl
          let ad' : Option Addr := if (ρ i).c = 1 then (ρ i).ad else some ⟨gg, off + de.sz, none⟩
          have hvb : vbs ad' = [gg] := by
            simp only [ad']
            split
            · rw [had]; rfl
            · rfl
          have hq' : (Res.que (elRow de.sz hz) Te ad' ((ρ i).c - 1) ys).p g.w := by
            by_cases hc1 : (ρ i).c = 1
            · have hys : ys = [] := List.eq_nil_of_length_eq_zero (by omega)
              subst hys
              refine .inr ⟨gg, off, cur, by simp only [ad', if_pos hc1, had], hg0, by simp, by omega, ?_, by simp⟩
              rw [hc1]; simp; omega
            · refine .inr ⟨gg, off + de.sz, cur, by simp only [ad', if_neg hc1], hg0, by omega, by omega, ?_, ?_⟩
              · show off + de.sz + ((ρ i).c - 1) * de.sz ≤ cur.size
                have : (ρ i).c * de.sz = ((ρ i).c - 1) * de.sz + de.sz := by
                  rw [← Nat.succ_mul]; congr 1; omega
                omega
              · show (cur.toList.drop (off + de.sz)).take (ys.length * de.sz) = _
                have h1 := congrArg (List.drop de.sz) htk'
                rw [List.drop_take, List.drop_drop] at h1
                have e1 : (ys.length + 1) * de.sz - de.sz = ys.length * de.sz := by rw [Nat.succ_mul]; omega
                rw [e1] at h1
                rw [h1]
                have e2 : (elRow de.sz hz).sz = de.sz := rfl
                have h2 := flat_drop (elRow de.sz hz) (y0 :: ys) 1
                rw [Nat.one_mul, e2] at h2
                exact h2
          have hnd : (Res.que (elRow de.sz hz) Te ad' ((ρ i).c - 1) ys).bs.Nodup := by show (vbs ad').Nodup; rw [hvb]; simp
          have hgl : gg < g.w.heap.size := (Array.getElem?_eq_some_iff.1 hg0).1
          obtain ⟨g', hwg, s'⟩ := stp.turn (w' := g.w) .head (fun _ _ _ => rfl) rfl rfl rfl (Nat.le_refl _) hq' hnd (fun b hb => by
            have : b ∈ vbs ad' := hb
            rw [hvb] at this
            rw [List.mem_singleton.1 this]; exact hgl) (fun b hb => .inl (by
            have : b ∈ vbs ad' := hb
            rw [hvb] at this
            show b ∈ vbs (ρ i).ad
            rw [had]; exact this))
          have hre : (execOp a.eval o).run X.P g.w = .ok (.value (.slice ad' rows.length ((ρ i).c - 1))) g.w := by
            have hb1 : (Instr.sliceBound (a.eval y) (rows.length + 1) .sliceB).run X.P g.w = .ok 1 g.w := by
              rw [hyv]
              have := run_sliceBound (P := X.P) (w := g.w) (kk := kk) (z := 1) (m := rows.length + 1) (code := .sliceB) (by decide) (by omega)
              exact this
            have hb2 : (Instr.sliceBounds true (rows.length + 1) (ρ i).c (some (a.eval y)) none none).run X.P g.w = .ok (1, rows.length + 1, (ρ i).c) g.w := by
              simp only [Instr.sliceBounds, Sem.run_bind, Sem.run_pure, Result.andThen_ok, Option.isSome_none, Bool.false_eq_true, if_false, hb1]
            simp only [execOp, ho, hvx]
            simp only [Option.map_some, Option.map_none, Instr.sliceAt, Instr.slice, Sem.run_bind, run_underlying u, Result.andThen_ok, hb2, run_sizeOf hti, Sem.run_pure]
            congr 3
            simp only [ad', had]
            by_cases hc1 : (ρ i).c = 1
            · simp [hc1]
            · simp [hc1, addr_add]
          simp only [wl, hw, if_true, wn, hre, hd]
          let y : Lc := ⟨(ρ i).b, ad', (ρ i).c - 1⟩
          have hdd' : (rowsD (y0 :: ys) (row :: rows)).p g' := s'.all _ (.head _)
          have hSl' : Sl X ρ L a g' := s'.all (F2 X ρ L a) (.tail _ (.tail _ (.head _)))
          have hM' : DenM g' ρ M (m1 ++ _ :: m2) := s'.all (F1 ρ M _) (.tail _ (.head _))
          have hBn : DenB g' (fun j => if j = i then y else ρ j) i (.q Te de.sz rows) (Res.que (elRow de.sz hz) Te ((fun j => if j = i then y else ρ j) i).ad ((fun j => if j = i then y else ρ j) i).c ys) := .q hz ys hrl (fun ρ' k x r hk hr => hdd' ρ' (k + 1) x r (by simpa using hk) (by simpa using hr))
          simp only [if_pos] at hBn
          have hMn := hM3 g' y _ hM' (by simpa using hBn)
          have hp2 : (Res.que (elRow de.sz hz) Te ad' ((ρ i).c - 1) ys :: (m1 ++ m2 ++ own)).Perm (m1 ++ Res.que (elRow de.sz hz) Te ad' ((ρ i).c - 1) ys :: m2 ++ own) := by
            simp only [List.append_assoc, List.cons_append]
            exact List.perm_middle.symm
          have s2 := s'.perm hp2
          have s3 : St X.toCx [] (F1 (fun j => if j = i then y else ρ j) M2 (m1 ++ Res.que (elRow de.sz hz) Te ad' ((ρ i).c - 1) ys :: m2) :: F2 X (fun j => if j = i then y else ρ j) (cln i [] L) a :: fs) (m1 ++ Res.que (elRow de.sz hz) Te ad' ((ρ i).c - 1) ys :: m2 ++ own) g' a := ⟨s2.kn, All.cons hMn (All.cons ⟨fun j hj => by
              have : j ≠ i := by omega
              simp only [if_neg this]; exact hSl'.pin j hj, fun t sv ht => by
              obtain ⟨_, h3, h4⟩ := cln_lk ht
              obtain ⟨x, hx, dx⟩ := hSl'.val t sv h3
              exact ⟨x, hx, dx.upd h4⟩⟩ (fun f hf => s2.all f (.tail _ (.tail _ (.tail _ hf))))), s2.own, s2.ext, s2.new⟩
          rw [← hwg]
          refine go hT m H hk hr hφ g' _ (ESt.put s3 hdn ?_)
          have : Den g' (fun j => if j = i then y else ρ j) (.o i rows.length) (.slice ((fun j => if j = i then y else ρ j) i).ad rows.length ((fun j => if j = i then y else ρ j) i).c) := .o
          simpa [y] using this
end
end Go.KX
namespace Go.KX
section
variable {X : Kx} {k : List It} {L : SL} {M : SM} {fs : List MF} {own : List Res} {arr : Array Oper} {l : List Oper} {o : Oper}
theorem Stp_al {tb : TT} (hT : tb.Ok X.P) {T d : Nat} {t : TD} (hg : o.guard = none) (ho : o.op = .alloc T) (hd : o.dst = some d) (hn : Nat.blt d X.n = true) (ht : tb.get T = some t) (hok : (okc (inj t.z) && Nat.blt d 1000) = true) (hoc : occM d M = false) (hoL : occSL d L = false) : StpU X arr o L M fs own (.l d 0) ((d, .c T (cellsV (inj t.z))) :: M) := by
  intro L' hL hf g a hE
  have hfr : occSL d L' = false := hf d (by unfold isAl; rw [ho]; exact hd) hoL
  have hx : xeff tb L' M o.dst o.op = some ((d, .l d 0) :: L', (d, .c T (cellsV (inj t.z))) :: M, []) := by
    rw [hd, ho]
    simp only [xeff, ht, hok, hfr, hoc, Bool.or_false]
  have := ES_eff (l := []) (arr := arr) (k := [.lp fun a' w' => ∃ g', g'.w = w' ∧ ESt X ((d, .l d 0) :: L') ((d, .c T (cellsV (inj t.z))) :: M) fs own g' a']) hT hg (fun d' h => by rw [hd] at h; cases h; exact hn) hx (fun p hp => by cases hp) (fun g' a' h => ⟨g', rfl, h⟩) g a hE
  have h2 : opQ X.P arr o (fun a' w' => ∃ g', g'.w = w' ∧ ESt X ((d, .l d 0) :: L') ((d, .c T (cellsV (inj t.z))) :: M) fs own g' a') a g.w := this
  rw [hd]
  exact h2
/-- A new block, in a region that draws its order: nothing may speak of it that does not come behind it. -/
theorem dal {tb : TT} (hT : tb.Ok X.P) (m : Nat) (H : List (List SV)) {un i d T : Nat} {D r π' : List Nat} {Ms Ms' : List SM} {t : TD} {L' M' φ} (hk : ED X arr k fs own un D π' L' M' Ms') (hi : arr[i]? = some o := by rfl) (hu : un.testBit i = true := by rfl) (hg : o.guard = none := by rfl) (ho : o.op = .alloc T := by rfl) (hd : o.dst = some d := by rfl) (hn : Nat.blt d X.n = true := by rfl) (ht : tb.get T = some t := by rfl) (hok : (okc (inj t.z) && Nat.blt d 1000) = true := by rfl) (hoc : occM d M = false := by rfl) (hoL : occSL d L = false := by rfl)
    (hr : xdrw tb X.n arr un D m H r ((d, .l d 0) :: L) ((d, .c T (cellsV (inj t.z))) :: M) (M :: Ms) [] = some (π', L', M', Ms', φ) := by rfl) (hφ : conj φ := by first | trivial | omega | (simp +contextual [conj]; done)) : ED X arr k fs own un D (i :: r) L M Ms := by
  refine ⟨o, .l d 0, hi, ?_⟩
  rw [hu]
  refine ⟨_, Stp_al hT hg ho hd hn ht hok hoc hoL, ?_⟩
  rw [hd]
  exact xd hT m H hk hr hφ
def allQ (i : Nat) (mb : MB) : List SM → Prop
  | [] => True
  | M :: r => lkM M i = some mb ∧ allQ i mb r
theorem allQ_get {i : Nat} {mb : MB} : ∀ {Ms : List SM}, allQ i mb Ms → ∀ {q : Nat} {M}, Ms[q]? = some M → lkM M i = some mb
  | [], _, q, M, h => by simp at h
  | M :: Ms, ⟨h1, h2⟩, q, M', h => by
    cases q with
    | zero => simp at h; exact h ▸ h1
    | succ q => exact allQ_get h2 (by simpa using h)
theorem que_head {w : World} {sz Te : Nat} {hz : 0 < sz} {ad : Option Addr} {c : Nat} {y : Row sz} {ys : List (Row sz)} (h : (Res.que (elRow sz hz) Te ad c (y :: ys)).p w) : ∃ b o, ad = some ⟨b, o, none⟩ ∧ ∀ (j : Nat) v, y.1[j]? = some v → w.cell? ⟨b, o + j, none⟩ = some v := by
  rcases h with ⟨_, _, h0⟩ | ⟨gg, off, cur, had, hg, hnc, hcm, hcs, htk⟩
  · cases h0
  · refine ⟨gg, off, had, fun j v hv => ?_⟩
    have htk' : (cur.toList.drop off).take ((ys.length + 1) * sz) = y.1 ++ flat (elRow sz hz) ys := htk
    have hj : j < y.1.length := by
      rcases Nat.lt_or_ge j y.1.length with h | h
      · exact h
      · rw [List.getElem?_eq_none h] at hv; cases hv
    have h2 : (y.1 ++ flat (elRow sz hz) ys)[j]? = some v := by rw [List.getElem?_append_left hj]; exact hv
    rw [← htk'] at h2
    have hlt : j < (ys.length + 1) * sz := by
      have h5 := y.2.1
      rw [Nat.succ_mul]; omega
    rw [List.getElem?_take_of_lt hlt, List.getElem?_drop] at h2
    simp only [World.cell?, hg]
    simpa using h2
theorem Stp_qix {tb : TT} (hT : tb.Ok X.P) {T Te d i n sz : Nat} {kk : IntKind} {x ix : Operand} {row : List SV} {rows : List (List SV)} {dT de : TD} (hn : n = rows.length + 1) (ho : o.op = .indexAddr T x ix) (hg : o.guard = none) (hd : o.dst = some d) (hdn : Nat.blt d X.n = true) (hx : evS (lkS L) x = some (.o i n)) (hy : evS (lkS L) ix = some (.v (.int kk 0))) (hm : lkM M i = some (.q Te sz (row :: rows)))
    (hT1 : tb.get T = some dT) (hk1 : dT.kd = .sl Te) (hT2 : tb.get Te = some de) : Stp X arr o L M fs own (.e i 0) M := by
  have hG : gS arr (lkS L) o = some none := by unfold gS; rw [hg]
  refine Stp_read (sv := .e i 0) hG hd hdn (fun L' hL hon g a ρ ms st => ?_)
  have hSl : Sl X ρ L' a g := st.all _ (.tail _ (.head _))
  have hM : DenM g ρ M ms := st.all _ (.head _)
  have hev : evs (lkS L') [x, ix] = some [.o i n, .v (.int kk 0)] := by
    have := evs_agree' hL
    rw [show o.op.operands.toList = [x, ix] by rw [ho]; rfl] at this
    rw [this]
    simp only [evs, hx, hy]
  obtain ⟨_, _, e1, dx, hr1⟩ := (evals_den hSl.val hev).uncons
  obtain ⟨_, _, e2, dy, _⟩ := hr1.uncons
  simp only [List.map_cons, List.cons.injEq] at e1
  obtain ⟨rfl, rfl⟩ := e1
  simp only [List.cons.injEq] at e2
  obtain ⟨rfl, _⟩ := e2
  have hyv := den_int dy
  have u := (TT.get_ok hT hT1).kd
  rw [hk1] at u
  have hti := (TT.get_ok hT hT2).ti
  obtain ⟨r, m1, m2, rfl, hB, _⟩ := hM.split hm
  generalize hvx : a.eval x = vx at dx
  cases hB with
  | q hz ys hl hdd =>
    cases dx with
    | o =>
      cases ys with
      | nil => simp at hl
      | cons y0 ys =>
        obtain ⟨b, oo, had, _⟩ := que_head (st.own.p _ (List.mem_append_left _ (List.mem_append_right _ (.head _))))
        refine ⟨.pointer (some ⟨b, oo + 0, none⟩), ?_, .e had⟩
        simp only [execOp, ho, hvx, hyv]
        simp only [Instr.indexAt, asIntOf, Sem.run_bind, Sem.run_pure, Result.andThen_ok, run_underlying u, had]
        rw [if_pos ⟨by decide, by omega⟩]
        simp only [Sem.run_bind, run_sizeOf hti, Result.andThen_ok, Sem.run_pure, addr_add]
        simp
/-- The first of a queue: its address. -/
theorem dqi {tb : TT} (hT : tb.Ok X.P) (m : Nat) (H : List (List SV)) {un j d i T Te n sz : Nat} {D r π' : List Nat} {Ms Ms' : List SM} {kk : IntKind} {x ix : Operand} {row : List SV} {rows : List (List SV)} {dT de : TD} {L' M' φ} (hn : n = rows.length + 1) (hk : ED X arr k fs own un D π' L' M' Ms') (hi : arr[j]? = some o := by rfl) (hu : un.testBit j = false := by rfl) (ho : o.op = .indexAddr T x ix := by rfl) (hg : o.guard = none := by rfl) (hd : o.dst = some d := by rfl) (hdn : Nat.blt d X.n = true := by rfl) (hx : evS (lkS L) x = some (.o i n) := by rfl) (hy : evS (lkS L) ix = some (.v (.int kk 0)) := by rfl)
    (hm : lkM M i = some (.q Te sz (row :: rows)) := by rfl) (hall : allQ i (.q Te sz (row :: rows)) Ms := by repeat (first | exact trivial | refine ⟨rfl, ?_⟩)) (hb : Nat.ble (hiU arr.size un D j) Ms.length = true := by rfl) (hT1 : tb.get T = some dT := by rfl) (hk1 : dT.kd = .sl Te := by rfl) (hT2 : tb.get Te = some de := by rfl)
    (hr : xdrw tb X.n arr un D m H r ((d, .e i 0) :: L) M Ms [] = some (π', L', M', Ms', φ) := by rfl) (hφ : conj φ := by first | trivial | omega | (simp +contextual [conj]; done)) : ED X arr k fs own un D (j :: r) L M Ms := by
  refine ⟨o, .e i 0, hi, ?_⟩
  rw [hu]
  refine ⟨.inl ⟨Nat.le_of_ble_eq_true hb, Stp_qix hT hn ho hg hd hdn hx hy hm hT1 hk1 hT2, fun q M2 hq _ => Stp_qix hT hn ho hg hd hdn hx hy (allQ_get hall hq) hT1 hk1 hT2⟩, ?_⟩
  rw [hd]
  exact xd hT m H hk hr hφ
theorem Stp_qld {tb : TT} (hT : tb.Ok X.P) {T Te d i sz : Nat} {x : Operand} {sv : SV} {row : List SV} {rows : List (List SV)} {de : TD} (ho : o.op = .load T x) (hg : o.guard = none) (hd : o.dst = some d) (hdn : Nat.blt d X.n = true) (hx : evS (lkS L) x = some (.e i 0)) (hm : lkM M i = some (.q Te sz ((sv :: row) :: rows))) (hT2 : tb.get T = some de) (hag : de.kd.ag = false) : Stp X arr o L M fs own sv M := by
  have hG : gS arr (lkS L) o = some none := by unfold gS; rw [hg]
  refine Stp_read (sv := sv) hG hd hdn (fun L' hL hon g a ρ ms st => ?_)
  have hSl : Sl X ρ L' a g := st.all _ (.tail _ (.head _))
  have hM : DenM g ρ M ms := st.all _ (.head _)
  have hev : evs (lkS L') [x] = some [.e i 0] := by
    have := evs_agree' hL
    rw [show o.op.operands.toList = [x] by rw [ho]; rfl] at this
    rw [this]
    simp only [evs, hx]
  obtain ⟨_, _, e1, dx, hr1⟩ := (evals_den hSl.val hev).uncons
  simp only [List.map_cons, List.cons.injEq] at e1
  obtain ⟨rfl, rfl⟩ := e1
  obtain ⟨td, u, hag2⟩ := (TT.get_ok hT hT2).kd.und
  rw [hag] at hag2
  obtain ⟨r, m1, m2, rfl, hB, _⟩ := hM.split hm
  generalize hvx : a.eval x = vx at dx
  cases hB with
  | q hz ys hl hdd =>
    cases dx with
    | e had =>
      cases ys with
      | nil => simp at hl
      | cons y0 ys =>
        obtain ⟨b, oo, had2, hc⟩ := que_head (st.own.p _ (List.mem_append_left _ (List.mem_append_right _ (.head _))))
        rw [had] at had2
        injection had2 with had2
        injection had2 with e3 e4
        subst e3 e4
        have hdl := hdd ρ 0 y0 (sv :: row) rfl rfl
        obtain ⟨v, hv, dv⟩ := hdl.get (j := 0) (sv := sv) rfl
        refine ⟨v, ?_, dv⟩
        have := run_load1 (P := X.P) (w := g.w) u hag2 (hc 0 v hv)
        simp only [Nat.add_zero] at this
        simp only [execOp, ho, hvx]
        simp [this]
/-- The first of a queue. -/
theorem dql {tb : TT} (hT : tb.Ok X.P) (m : Nat) (H : List (List SV)) {un j d i T Te sz : Nat} {D r π' : List Nat} {Ms Ms' : List SM} {x : Operand} {sv : SV} {row : List SV} {rows : List (List SV)} {de : TD} {L' M' φ} (hk : ED X arr k fs own un D π' L' M' Ms') (hi : arr[j]? = some o := by rfl) (hu : un.testBit j = false := by rfl) (ho : o.op = .load T x := by rfl) (hg : o.guard = none := by rfl) (hd : o.dst = some d := by rfl) (hdn : Nat.blt d X.n = true := by rfl) (hx : evS (lkS L) x = some (.e i 0) := by rfl)
    (hm : lkM M i = some (.q Te sz ((sv :: row) :: rows)) := by rfl) (hall : allQ i (.q Te sz ((sv :: row) :: rows)) Ms := by repeat (first | exact trivial | refine ⟨rfl, ?_⟩)) (hb : Nat.ble (hiU arr.size un D j) Ms.length = true := by rfl) (hT2 : tb.get T = some de := by rfl) (hag : de.kd.ag = false := by rfl)
    (hr : xdrw tb X.n arr un D m H r ((d, sv) :: L) M Ms [] = some (π', L', M', Ms', φ) := by rfl) (hφ : conj φ := by first | trivial | omega | (simp +contextual [conj]; done)) : ED X arr k fs own un D (j :: r) L M Ms := by
  refine ⟨o, sv, hi, ?_⟩
  rw [hu]
  refine ⟨.inl ⟨Nat.le_of_ble_eq_true hb, Stp_qld hT ho hg hd hdn hx hm hT2 hag, fun q M2 hq _ => Stp_qld hT ho hg hd hdn hx (allQ_get hall hq) hT2 hag⟩, ?_⟩
  rw [hd]
  exact xd hT m H hk hr hφ
/-- A map looked up. -/
theorem dlk {tb : TT} (hT : tb.Ok X.P) (m : Nat) (H : List (List SV)) {un j T kT eT d : Nat} {D r' π' : List Nat} {Ms Ms' : List SM} {dT dk de : TD} {x y : Operand} {q : Bytes} {es : List (Bytes × SV)} (r : Option SV) {L' M' φ} (hr : mget es q = r) (hk : ED X arr k fs own un D π' L' M' Ms') (hi : arr[j]? = some o := by rfl) (hu : un.testBit j = false := by rfl) (ho : o.op = .lookup T x y true := by rfl) (hg : o.guard = none := by rfl) (hd : o.dst = some d := by rfl)
    (hx : evS (lkS L) x = some (.fm es) := by rfl) (hy : evS (lkS L) y = some (.str q) := by rfl) (hT1 : tb.get T = some dT := by rfl) (hk1 : dT.kd = .mp kT eT := by rfl) (hT2 : tb.get kT = some dk := by rfl) (hk2 : dk.kd = .str := by rfl) (hT3 : tb.get eT = some de := by rfl) (hn : Nat.blt d X.n = true := by rfl)
    (hrn : xdrw tb X.n arr un D m H r' ((d, .t [r.getD (inj de.z), .v (.bool r.isSome)]) :: L) M Ms [] = some (π', L', M', Ms', φ) := by rfl) (hφ : conj φ := by first | trivial | omega | (simp +contextual [conj]; done)) : ED X arr k fs own un D (j :: r') L M Ms := by
  refine ⟨o, .t [r.getD (inj de.z), .v (.bool r.isSome)], hi, ?_⟩
  rw [hu]
  refine ⟨.inr (fun M' => Stp_lk2 hT ho hg hd hn hx hy hT1 hk1 hT2 hk2 hT3 hr), ?_⟩
  rw [hd]
  exact xd hT m H hk hrn hφ
end
end Go.KX
namespace Go.KX
theorem slM_of {α : Type} {E : El α} {T : Nat} {ad : Option Addr} {c : Nat} {ys : List α} {g : GW} (h : (Res.arr E T ad c ys).p g.w) (hf : ∀ b ∈ vbs ad, g.fz b) : (SlM E ad c ys).p g := by
  obtain ⟨h1, h2⟩ := h
  rcases h2 with ⟨hv, hn⟩ | ⟨gg, cap, cur, hv, hb, hh, hnc, hcm, hcs, htk⟩
  · have : ys = [] := List.eq_nil_of_length_eq_zero hn
    subst this
    exact SlM.nil E _ _ _
  · injection hv with e1 e2 e3
    subst e1
    refine ⟨Nat.le_trans hnc hcm, by omega, fun _ => ⟨gg, 0, rfl, hf gg (by simp [vbs]), fun j x hx => ?_⟩⟩
    have hlt : j < ys.length * E.sz := by
      rw [← flat_len]
      rcases Nat.lt_or_ge j (flat E ys).length with h | h
      · exact h
      · rw [List.getElem?_eq_none h] at hx; cases hx
    show g.w.cell? _ = _
    simp only [World.cell?, hh, Nat.zero_add]
    rw [← htk, List.getElem?_take_of_lt hlt] at hx
    simpa using hx
theorem den_slM {sz : Nat} {hz : 0 < sz} {ad : Option Addr} {c : Nat} {ys : List (Row sz)} {g : GW} {rows : List (List SV)} {ρ : Nat → Lc} (hsm : (SlM (elRow sz hz) ad c ys).p g) (hl : ys.length = rows.length) (hr : ∀ r ∈ rows, r.length = sz) (hd' : (rowsD ys rows).p g) : Den g ρ (.s sz rows) (.slice ad rows.length c) := by
  obtain ⟨q1, q2, q3⟩ := hsm
  refine .s (flat (elRow sz hz) ys) (by rw [← hl]; exact q1) (by rw [← hl]; exact q2) (by rw [flat_len, hl]; rfl) hr ⟨flat_one _ _, fun h => absurd h (by omega)⟩ (fun hne => ?_) (fun ρ' i' j r' sv' x' h1 h2 h3 => ?_)
  · obtain ⟨b, oo, e1, e2, e3⟩ := q3 (by intro e; apply hne; rw [← List.length_eq_zero_iff, ← hl, e]; rfl)
    exact ⟨b, oo, e1, e2, e3⟩
  · have hlt : i' < ys.length := by
      rw [hl]
      rcases Nat.lt_or_ge i' rows.length with h | h
      · exact h
      · rw [List.getElem?_eq_none h] at h1; cases h1
    have hy := List.getElem?_eq_getElem hlt
    have hdl := hd' ρ' i' _ r' hy h1
    obtain ⟨y, hyj, dy⟩ := hdl.get h2
    have hfl := flat_get (elRow sz hz) ys i' j _ y hy hyj
    rw [show (elRow sz hz).sz = sz from rfl] at hfl
    have : y = x' := Option.some.inj (hfl.symm.trans h3)
    subst this
    exact dy
/-- What is handed over, where the rows i are lent. -/
def lnd (i z : Nat) (rows : List (List SV)) : SV → SV
  | .o j m => match Nat.beq j i with
    | true => .s z rows
    | false => .o j m
  | sv => sv
def lndP (n : Nat) : List SV → Prop
  | [] => True
  | .o _ m :: r => m = n ∧ lndP n r
  | _ :: r => lndP n r
theorem lndP_get {n : Nat} : ∀ {l : List SV} {j i m : Nat}, lndP n l → l[j]? = some (.o i m) → m = n
  | [], j, i, m, _, h => by simp at h
  | x :: r, j, i, m, hp, h => by
    cases j with
    | zero =>
      simp at h
      subst h
      exact hp.1
    | succ j =>
      have hr : lndP n r := by cases x <;> first | exact hp | exact hp.2
      exact lndP_get hr (by simpa using h)
section
variable {X : Kx} {k : List It} {L : SL} {M : SM} {fs : List MF} {own : List Res} {arr : Array Oper} {l : List Oper} {o : Oper}
theorem Stp_lend {d i T sz : Nat} {f : FuncId} {fo : Operand} {az : Array Operand} {ts : Array TypeId} {sf : SV} {svs args : List SV} {rv : Value} {rows : List (List SV)} {G : Option Bool} (hG : gS arr (lkS L) o = some G) (hd : o.dst = some d) (hn : Nat.blt d X.n = true) (ho : o.op = .call ⟨.value fo, az, ts⟩)
    (hfo : evS (lkS L) fo = some sf) (hsf : st1 sf = .f f [] []) (ha : evs (lkS L) az.toList = some svs) (hφ : ∀ p ∈ wq G (cd1 sf ++ svs.flatMap cd1), p) (hm : lkM M i = some (.r T sz rows)) (hr : ∀ r ∈ rows, r.length = sz) (hargs : (svs.map st1).map (lnd i sz rows) = args) (hlp : lndP rows.length (svs.map st1)) (hs : isOn G = true → Fc X.P fs f args (.v rv)) : Stp X arr o L M fs own (wr G (.v rv)) M := by
  intro L' hL g a hE
  obtain ⟨ρ, ms, st⟩ := hE.open
  have h2 : ∀ t sv, lkS L' t = some sv → ∃ x, a.tmps[t]? = some x ∧ Den g ρ sv x := (st.all (F2 X ρ L' a) (.tail _ (.head _))).val
  have hw := gS_ok st.kn h2 ((gS_agree hL).trans hG)
  have hsl : ∀ t ∈ (fo :: az.toList).filterMap tmpOf, lkS L' t = lkS L t := fun t ht => hL t (by
    have : t ∈ o.op.operands.toList.filterMap tmpOf := by rw [ho]; simpa [Op.operands, Call.operands] using ht
    exact List.mem_append_left _ this)
  have hall : evs (lkS L) (fo :: az.toList) = some (sf :: svs) := by simp only [evs, hfo, ha]
  have hall' : evs (lkS L') (fo :: az.toList) = some (sf :: svs) := (evs_agree hsl).trans hall
  unfold opQ
  rw [hw]
  by_cases hon : isOn G = true
  · rw [if_pos hon]
    obtain ⟨hc, hcall⟩ := hs hon
    have hM : DenM g ρ M ms := st.all _ (.head _)
    obtain ⟨r, m1, m2, rfl, hB, _⟩ := hM.split hm
    cases hB with
    | r hz ys hl hdd =>
      have hmem : Res.arr (elRow sz hz) T (ρ i).ad (ρ i).c ys ∈ (m1 ++ Res.arr (elRow sz hz) T (ρ i).ad (ρ i).c ys :: m2 ++ own) := List.mem_append_left _ (List.mem_append_right _ (.head _))
      have hbl : ∀ b ∈ vbs (ρ i).ad, b ∈ blks (m1 ++ Res.arr (elRow sz hz) T (ρ i).ad (ρ i).c ys :: m2 ++ own) := fun b hb => List.mem_flatMap.2 ⟨_, hmem, hb⟩
      let g1 : GW := ⟨g.w, fun b => g.fz b ∨ b ∈ vbs (ρ i).ad, fun b hb => hb.elim (g.lt b) (fun h => st.own.lt b (hbl b h))⟩
      have hF : FExt g g1 := ⟨rfl, rfl, rfl, Nat.le_refl _, fun _ h => .inl h, fun _ _ => rfl⟩
      have hsm : (SlM (elRow sz hz) (ρ i).ad (ρ i).c ys).p g1 := slM_of (g := g1) (st.own.p _ hmem) (fun b hb => .inr hb)
      have hds : Den g1 ρ (.s sz rows) (.slice (ρ i).ad rows.length (ρ i).c) := den_slM hsm hl hr ((rowsD ys rows).mono hF hdd)
      have hden := sts_ok (evals_den h2 hall') (by simpa using wq_ok hφ hon)
      obtain ⟨x, r, e1, dx, dr⟩ := hden.uncons
      simp only [List.map_cons, List.cons.injEq] at e1
      obtain ⟨rfl, rfl⟩ := e1
      rw [hsf] at dx
      obtain ⟨xs, ys2, hfe, d1, d2⟩ := den_f dx
      obtain rfl := d1.unnil
      obtain rfl := d2.unnil
      have hargs' : DenL g1 ρ args (az.toList.map a.eval) := by
        rw [← hargs]
        refine ⟨by simpa using dr.1, fun j sv x h1 h3 => ?_⟩
        rw [List.getElem?_map] at h1
        cases hj : (svs.map st1)[j]? with
        | none => rw [hj] at h1; cases h1
        | some s0 =>
          rw [hj] at h1
          cases h1
          have dj := dr.2 j s0 x hj h3
          unfold lnd
          split
          · rename_i j' m'
            split
            · rename_i hb
              obtain rfl := Nat.eq_of_beq_eq_true hb
              obtain rfl := lndP_get hlp hj
              cases dj
              exact hds
            · exact dj.mono hF
          · exact dj.mono hF
      have hrun := calls_ent hc (ρe := a.eval) ho hfe g.w
      simp only [List.nil_append, List.append_nil] at hrun
      simp only [wn, hrun, hd]
      refine (hcall ρ g1 _ (fun f hf => f.mono hF (st.all f (.tail _ (.tail _ hf)))) hargs').mono ?_
      rintro e w' ⟨v, g2, rfl, rfl, hE', dv⟩
      have hnf : ∀ b ∈ vbs (ρ i).ad, ¬ g.fz b := fun b hb => st.own.nfz b (hbl b hb)
      let g3 : GW := ⟨g2.w, fun b => g2.fz b ∧ b ∉ vbs (ρ i).ad, fun b hb => g2.lt b hb.1⟩
      have hE3 : Ext [] g g3 := by
        refine ⟨⟨hE'.os, hE'.tape, hE'.output, hE'.size, fun b hb => ⟨hE'.fz b (.inl hb), fun h => hnf b h hb⟩, fun b hb => hE'.same b (.inl hb)⟩, hE'.keep, fun b hb hn hf => ?_⟩
        rcases hE'.nofz b hb hn hf.1 with h | h
        · exact h
        · exact absurd h hf.2
      refine ⟨v, rfl, g3, rfl, ESt.put (ESt.ext0 st hE3) hn ?_⟩
      obtain rfl := den_v dv
      cases G with
      | none => exact .v
      | some b => have hb : b = true := hon; subst hb; exact .gt .v
  · rw [if_neg hon]
    simp only [hd, updL]
    refine ⟨g, rfl, ESt.put st hn ?_⟩
    cases G with
    | none => exact absurd rfl hon
    | some b =>
      have hb : b = false := by simpa [isOn] using hon
      subst hb; exact .gf
/-- A call that is lent the rows i. -/
theorem flc {tb : TT} (hT : tb.Ok X.P) (i m : Nat) (H : List (List SV)) {d T sz : Nat} {f : FuncId} {fo : Operand} {az : Array Operand} {ts : Array TypeId} {svs args : List SV} {rv : Value} {rows : List (List SV)} {l' L' M' φ} (hs : Fc X.P fs f args (.v rv)) (hr : ∀ r ∈ rows, r.length = sz) (hk : ES X arr l' k L' M' fs own) (hg : o.guard = none := by rfl) (hd : o.dst = some d := by rfl) (ho : o.op = .call ⟨.value fo, az, ts⟩ := by rfl) (hfo : evS (lkS L) fo = some (.f f [] []) := by rfl)
    (ha : evs (lkS L) az.toList = some svs := by rfl) (hm : lkM M i = some (.r T sz rows) := by rfl) (hb : (svs.map st1).map (lnd i sz rows) = args := by rfl) (hlp : lndP rows.length (svs.map st1) := by repeat (first | exact trivial | refine ⟨rfl, ?_⟩)) (hc : svs.flatMap cd1 = [] := by rfl) (hn : Nat.blt d X.n = true := by rfl) (hrn : xrun tb X.n arr m H l ((d, .v rv) :: L) M [] = some (l', L', M', φ) := by rfl) (hφ : conj φ := by first | trivial | omega | (simp +contextual [conj]; done)) : ES X arr (o :: l) k L M fs own := by
  have hG : gS arr (lkS L) o = some none := by unfold gS; rw [hg]
  have := Stp_lend (M := M) (fs := fs) (own := own) hG hd hn ho hfo rfl ha (by rw [hc]; intro p hp; cases hp) hm hr hb hlp (fun _ => hs)
  refine ES_step this ?_
  rw [hd]
  exact go hT m H hk hrn hφ
/-- Likewise, under a guard. -/
theorem flg {tb : TT} (hT : tb.Ok X.P) (i m : Nat) (H : List (List SV)) {d T sz : Nat} {f : FuncId} {fo : Operand} {az : Array Operand} {ts : Array TypeId} {sf : SV} {svs args : List SV} {rv : Value} {rows : List (List SV)} {b : Bool} {l' L' M' φ ψ} (hs : b = true → Fc X.P fs f args (.v rv)) (hr : ∀ r ∈ rows, r.length = sz) (hk : ES X arr l' k L' M' fs own) (hG : gS arr (lkS L) o = some (some b) := by rfl) (hd : o.dst = some d := by rfl) (ho : o.op = .call ⟨.value fo, az, ts⟩ := by rfl) (hfo : evS (lkS L) fo = some sf := by rfl) (hsf : st1 sf = .f f [] [] := by rfl)
    (ha : evs (lkS L) az.toList = some svs := by rfl) (hm : lkM M i = some (.r T sz rows) := by rfl) (hb : (svs.map st1).map (lnd i sz rows) = args := by rfl) (hlp : lndP rows.length (svs.map st1) := by repeat (first | exact trivial | refine ⟨rfl, ?_⟩)) (hc : wq (some b) (cd1 sf ++ svs.flatMap cd1) = ψ := by rfl) (hψ : conj ψ := by first | trivial | exact id | exact ⟨id, id⟩ | exact ⟨id, id, id⟩ | (simp +contextual [conj]; done) | simp_all [conj]) (hn : Nat.blt d X.n = true := by rfl) (hrn : xrun tb X.n arr m H l ((d, .g b (.v rv)) :: L) M [] = some (l', L', M', φ) := by rfl) (hφ : conj φ := by first | trivial | omega | (simp +contextual [conj]; done)) : ES X arr (o :: l) k L M fs own := by
  have := Stp_lend (M := M) (fs := fs) (own := own) hG hd hn ho hfo hsf ha (by rw [hc]; exact conj_all hψ) hm hr hb hlp (fun h => hs h)
  refine ES_step this ?_
  rw [hd]
  exact go hT m H hk hrn hφ
end
end Go.KX
namespace Go.KX
def frC (i : Nat) (mb : MB) : SM → SM
  | [] => []
  | (j, .c T cs) :: r => (j, .c T (frL i mb cs)) :: frC i mb r
  | (j, m) :: r => (j, m) :: frC i mb r
theorem DenM.frC {g : GW} {ρ : Nat → Lc} {i : Nat} {mb : MB} (hf : FrOK ρ i mb g) : ∀ {M : SM} {ms : List Res}, DenM g ρ M ms → DenM g ρ (Go.KX.frC i mb M) ms
  | [], _, h => h
  | (j, .c T cs) :: M, _, .cons hb t => by
    cases hb with
    | c xs hd h1 =>
      refine .cons (.c xs ⟨by rw [frL_len]; exact hd.1, fun n sv x h2 h3 => ?_⟩ h1) (DenM.frC hf t)
      obtain ⟨s0, h4, rfl⟩ := frL_get h2
      exact (hd.2 n s0 x h4 h3).fr hf
  | (j, .r T z rs) :: M, _, .cons hb t => .cons hb (DenM.frC hf t)
  | (j, .m es) :: M, _, .cons hb t => .cons hb (DenM.frC hf t)
  | (j, .it a b c) :: M, _, .cons hb t => .cons hb (DenM.frC hf t)
  | (j, .q T z rs) :: M, _, .cons hb t => .cons hb (DenM.frC hf t)
section
variable {X : Kx} {k : List It} {L : SL} {M : SM} {fs : List MF} {own : List Res} {arr : Array Oper} {l : List Oper} {o : Oper}
theorem ezm (i : Nat) {es : List (Bytes × SV)} {M' : SM} (h : E X k (frSL i (.m es) L) M' fs own) (hl : lkM M i = some (.m es) := by rfl) (hM' : frC i (.m es) (frM i (.m es) M) = M' := by rfl) : E X k L M fs own := by
  subst hM'
  intro g a s
  obtain ⟨ρ, ms, st⟩ := s.open
  have hM : DenM g ρ M ms := st.all _ (.head _)
  obtain ⟨r, m1, m2, rfl, hB, hu⟩ := hM.take hl
  have hp : (m1 ++ r :: m2 ++ own).Perm (r :: (m1 ++ m2 ++ own)) := by
    simp only [List.append_assoc, List.cons_append]
    exact List.perm_middle
  cases hB with
  | m raw hk hd =>
    have stp := st.perm hp
    obtain ⟨g', hw, hF, hfz, s'⟩ := stp.freezeM .head
    obtain ⟨ms', clk, hh, he, _⟩ := stp.own.p (Res.mp str (fun v : Value => v) (ρ i).b raw) (.head _)
    have hf : FrOK ρ i (.m es) g' := ⟨(fun T cs e => by cases e), fun es' e => by
      cases e
      exact .fm raw ms' clk hfz (by rw [hw]; exact hh) he hk (fun ρ' j k sv x h1 h2 => (hd ρ' j k sv x h1 h2).mono hF)⟩
    have hs : Sl X ρ L a g' := s'.all _ (.tail _ (.head _))
    exact hw ▸ h g' a ⟨ρ, m1 ++ m2, ⟨s'.kn, fun f hf => s'.all f (.tail _ (.tail _ hf)), s'.own, s'.ext, s'.new⟩, (hu g' (s'.all _ (.head _))).frC hf, hs.pin, fun t sv ht => by
      obtain ⟨s0, h1, rfl⟩ := frSL_lk ht
      obtain ⟨x, hx, dx⟩ := hs.val t s0 h1
      exact ⟨x, hx, dx.fr hf⟩⟩
end
end Go.KX
namespace Go.KX
/-- What is owned as i is owned as j. -/
def rnm (i j : Nat) (mb : MB) : SM → SM
  | [] => []
  | (k, m) :: r => match Nat.beq i k with
    | true => (j, mb) :: r
    | false => (k, m) :: rnm i j mb r
theorem occM_app {j : Nat} {k : Nat} {m : MB} {r : SM} (h : occM j ((k, m) :: r) = false) : occM j [(k, m)] = false ∧ occM j r = false := by
  cases m <;> simp only [occM, Bool.or_eq_false_iff, Bool.or_false] at h ⊢ <;> simp_all
theorem DenM.rn {g : GW} {ρ : Nat → Lc} : ∀ {M : SM} {ms : List Res} {i j : Nat} {mb : MB}, occM j M = false → DenM g ρ M ms → lkM M i = some mb → ∃ r m1 m2, ms = m1 ++ r :: m2 ∧ DenB g ρ i mb r ∧
    ∀ g' y r' mb', DenM g' ρ M (m1 ++ r :: m2) → DenB g' (fun k => if k = j then y else ρ k) j mb' r' → DenM g' (fun k => if k = j then y else ρ k) (rnm i j mb' M) (m1 ++ r' :: m2)
  | [], _, _, _, _, _, _, h => by cases h
  | (k, m) :: M, _, i, j, mb, ho, @DenM.cons _ _ _ _ _ r0 ms0 hb t, h => by
    obtain ⟨ho1, ho2⟩ := occM_app ho
    unfold lkM at h
    cases hij : Nat.beq i k with
    | true =>
      rw [hij] at h
      simp only [Option.some.injEq] at h
      subst h
      obtain rfl := Nat.eq_of_beq_eq_true hij
      refine ⟨r0, [], ms0, rfl, hb, fun g' y r' mb' hM hB => ?_⟩
      simp only [rnm, hij]
      cases hM with
      | cons _ t' => exact .cons hB (occ_upd t' ho2)
    | false =>
      rw [hij] at h
      obtain ⟨r, m1, m2, rfl, hB, hu⟩ := DenM.rn (M := M) ho2 t h
      refine ⟨r, r0 :: m1, m2, rfl, hB, fun g' y r' mb' hM hB' => ?_⟩
      simp only [rnm, hij]
      cases hM with
      | cons hb' t' =>
        have := occ_upd (y := y) (.cons hb' .nil : DenM g' ρ [(k, m)] [r0]) ho1
        cases this with
        | cons hb2 _ => exact .cons hb2 (hu g' y r' mb' t' hB')
section
variable {X : Kx} {k : List It} {L : SL} {M : SM} {fs : List MF} {own : List Res} {arr : Array Oper} {l : List Oper} {o : Oper}
/-- append(xs, ys...): xs owned, ys frozen, in a region that draws its order. -/
theorem Stp_ap {tb : TT} (hT : tb.Ok X.P) {d T Te i n sz z : Nat} {x y : Operand} {rows rows2 : List (List SV)} {dT de : TD} (hn : n = rows.length) (hz2 : rows2 ≠ [] → z = sz) (hbig : (rows.length + rows2.length) * de.by_ ≤ 140737488355328) (ho : o.op = .call ⟨.builtin .append, #[x, y], #[T, T]⟩) (hg : o.guard = none) (hd : o.dst = some d) (hdn : Nat.blt d X.n = true)
    (hx : evS (lkS L) x = some (.o i n)) (hy : evS (lkS L) y = some (.s z rows2)) (hm : lkM M i = some (.r Te sz rows)) (hT1 : tb.get T = some dT) (hk1 : dT.kd = .sl Te) (hT2 : tb.get Te = some de) (hsz : de.sz = sz) (hzl : Nat.beq (cellsV (inj de.z)).length de.sz = true) (hby : 1 ≤ de.by_) (hoL : occSL d L = false) (hoM : occM d M = false) (hi1 : Nat.blt d 1000 = true) :
    StpU X arr o L M fs own (.o d (rows ++ rows2).length) (rnm i d (.r Te sz (rows ++ rows2)) M) := by
  subst hsz hn
  intro L' hL hf g a hE
  have hoL' : occSL d L' = false := hf d (by unfold isAl; rw [ho]; exact hd) hoL
  obtain ⟨ρ, ms, st⟩ := hE.open
  have hSl : Sl X ρ L' a g := st.all _ (.tail _ (.head _))
  have hw : Region.wanted o (yielded arr a.tmps) = true := live_wanted (L := []) st.kn (live_none hg)
  unfold opQ
  rw [if_pos hw]
  have hi1 : d < 1000 := by simpa [Nat.blt_eq] using hi1
  have hM : DenM g ρ M ms := st.all _ (.head _)
  obtain ⟨r, m1, m2, rfl, hB, hup⟩ := hM.rn hoM hm
  have hev : evs (lkS L') [x, y] = some [.o i rows.length, .s z rows2] := by
    have := evs_agree' hL
    rw [show o.op.operands.toList = [x, y] by rw [ho]; rfl] at this
    rw [this]
    simp only [evs, hx, hy]
  obtain ⟨_, _, e1, dx, hr1⟩ := (evals_den hSl.val hev).uncons
  obtain ⟨_, _, e2, dy, _⟩ := hr1.uncons
  simp only [List.map_cons, List.cons.injEq] at e1
  obtain ⟨rfl, rfl⟩ := e1
  simp only [List.cons.injEq] at e2
  obtain ⟨rfl, _⟩ := e2
  generalize hvx : a.eval x = vx at dx
  generalize hvy : a.eval y = vy at dy
  have u := (TT.get_ok hT hT1).kd
  rw [hk1] at u
  have hti := (TT.get_ok hT hT2).ti
  have hzs : de.z.cells.size = de.sz := cellsV_len (Nat.eq_of_beq_eq_true hzl)
  cases hB with
  | r hz ys hl hdd =>
    cases dx with
    | o =>
      cases dy with
      | s xs h1 h2 hxl hxr hxo hne hxd =>
        rename_i ad2 c2
        have hxl2 : xs.length = rows2.length * de.sz := by
          by_cases he : rows2 = []
          · rw [he] at hxl ⊢; simpa using hxl
          · rw [← hz2 he]; exact hxl
        obtain ⟨ys2, hyl2, hyf⟩ := chunks hz rows2.length xs hxl2 hxo.1
        have hp : (m1 ++ Res.arr (elRow de.sz hz) Te (ρ i).ad (ρ i).c ys :: m2 ++ own).Perm (Res.arr (elRow de.sz hz) Te (ρ i).ad (ρ i).c ys :: (m1 ++ m2 ++ own)) := by
          simp only [List.append_assoc, List.cons_append]
          exact List.perm_middle
        have stp0 := st.perm hp
        have stp : St X.toCx [] (rowsD ys rows :: rowsD ys2 rows2 :: F1 ρ M _ :: F2 X ρ L' a :: fs) _ g a := ⟨stp0.kn, All.cons hdd (All.cons (fun ρ' k x r hk hr => by
          have hrl : r.length = de.sz := by
            have hne2 : rows2 ≠ [] := by intro e; subst e; simp at hr
            rw [← hz2 hne2]; exact hxr r (List.mem_of_getElem? hr)
          refine ⟨by rw [x.2.1, hrl], fun j sv v hj hv => ?_⟩
          have hf := flat_get (elRow de.sz hz) ys2 k j x v hk hv
          rw [hyf] at hf
          have hne2 : rows2 ≠ [] := by intro e; subst e; simp at hr
          exact hxd ρ' k j r sv v hr hj (by rw [hz2 hne2]; exact hf)) stp0.all), stp0.own, stp0.ext, stp0.new⟩
        have hown : g.w.ownsRow 0 Te de.sz (.slice (ρ i).ad ys.length (ρ i).c) ys.length (flat (elRow de.sz hz) ys) := stp.own.p _ (.head _)
        have hbig' : (ys.length + rows2.length) * de.by_ ≤ 140737488355328 := by rw [hl]; exact hbig
        have h63 : ys.length + rows2.length ≤ maxLen := by
          have : ys.length + rows2.length ≤ (ys.length + rows2.length) * de.by_ := Nat.le_mul_of_pos_right _ hby
          simp only [maxLen]; omega
        have hrun : ∃ v' w', (Builtin.append_ #[T, T] o.type #[.slice (ρ i).ad ys.length (ρ i).c, .slice ad2 rows2.length c2]).run X.P g.w = .ok v' w' ∧ AppOK g.w w' Te de.sz (.slice (ρ i).ad ys.length (ρ i).c) v' (ys ++ ys2).length (flat (elRow de.sz hz) (ys ++ ys2)) := by
          rw [List.length_append, flat_append, hyl2, hyf]
          cases ad2 with
          | none =>
            have hr2 : rows2 = [] := by
              rcases rows2 with _ | ⟨q, qs⟩
              · rfl
              · obtain ⟨_, _, he, _⟩ := hne (by simp); cases he
            subst hr2
            have hx0 : xs = [] := List.eq_nil_of_length_eq_zero (by simpa using hxl)
            subst hx0
            obtain ⟨i0, hi0, hs0, hb0, hz0⟩ := hti
            refine ⟨.slice (ρ i).ad ys.length (ρ i).c, g.w, ?_, by simpa using hown, ⟨rfl, rfl, rfl, Nat.le_refl _, fun _ _ _ => rfl⟩, fun b hb => .inl hb⟩
            rcases hown.2 with ⟨hv, _⟩ | ⟨gg, cap, cur, hv, _, _, hnc, _⟩
            · injection hv with e1 e2 e3
              simp [Builtin.append_, run_underlying u, sizeOf, typeInfo, hi0, Builtin.lenOf, Builtin.firstCells, e1, e2, e3]
            · injection hv with e1 e2 e3
              subst e3
              simp [Builtin.append_, run_underlying u, sizeOf, typeInfo, hi0, Builtin.lenOf, Builtin.firstCells, e1, hnc, storeCells]
          | some ad2 =>
            exact run_app u hti hzs hz hown hxl2 (fun j v hv => by
              have hne2 : rows2 ≠ [] := by intro e; subst e; simp at hxl2; subst hxl2; simp at hv
              obtain ⟨b, oo, he, _, hc⟩ := hne hne2
              cases he
              rw [addr_add]
              exact hc j v hv) hxo.1 h63 hbig'
        obtain ⟨v', w', hr0, h1'⟩ := hrun
        obtain ⟨ad', c', g', rfl, rfl, s'⟩ := stp.appd .head h1'
        have hre : (execOp a.eval o).run X.P g.w = .ok (.value (.slice ad' (ys ++ ys2).length c')) g'.w := by
          simp only [execOp, ho, resolve]
          simp only [List.map_toArray, List.map_cons, List.map_nil, hvx, hvy, ← hl]
          simp [invoke, builtin, hr0]
        simp only [wn, hre, hd]
        let y : Lc := ⟨(ρ i).b, ad', c'⟩
        have hd1 : (rowsD ys rows).p g' := s'.all _ (.head _)
        have hd2 : (rowsD ys2 rows2).p g' := s'.all _ (.tail _ (.head _))
        have hSl' : Sl X ρ L' a g' := s'.all (F2 X ρ L' a) (.tail _ (.tail _ (.tail _ (.head _))))
        have hM' : DenM g' ρ M (m1 ++ _ :: m2) := s'.all (F1 ρ M _) (.tail _ (.tail _ (.head _)))
        have hBn : DenB g' (fun k => if k = d then y else ρ k) d (.r Te de.sz (rows ++ rows2)) (Res.arr (elRow de.sz hz) Te ((fun k => if k = d then y else ρ k) d).ad ((fun k => if k = d then y else ρ k) d).c (ys ++ ys2)) := .r hz (ys ++ ys2) (by simp [hl, hyl2]) (fun ρ' k x r hk hr => by
          rw [List.getElem?_append] at hk hr
          rw [hl] at hk
          split at hr
          · rename_i hlt; rw [if_pos hlt] at hk; exact hd1 ρ' k x r hk hr
          · rename_i hlt; rw [if_neg hlt] at hk; exact hd2 ρ' _ x r hk hr)
        simp only [if_pos] at hBn
        have hMn := hup g' y _ _ hM' (by simpa using hBn)
        have hp2 : (Res.arr (elRow de.sz hz) Te ad' c' (ys ++ ys2) :: (m1 ++ m2 ++ own)).Perm (m1 ++ Res.arr (elRow de.sz hz) Te ad' c' (ys ++ ys2) :: m2 ++ own) := by
          simp only [List.append_assoc, List.cons_append]
          exact List.perm_middle.symm
        have s2 := s'.perm hp2
        have s3 : St X.toCx [] (F1 (fun k => if k = d then y else ρ k) (rnm i d (.r Te de.sz (rows ++ rows2)) M) (m1 ++ Res.arr (elRow de.sz hz) Te ad' c' (ys ++ ys2) :: m2) :: F2 X (fun k => if k = d then y else ρ k) L' a :: fs) (m1 ++ Res.arr (elRow de.sz hz) Te ad' c' (ys ++ ys2) :: m2 ++ own) g' a := ⟨s2.kn, All.cons hMn (All.cons ⟨fun q hq => by
            have : q ≠ d := by omega
            simp only [if_neg this]; exact hSl'.pin q hq, fun t sv ht => by
            obtain ⟨x, hx, dx⟩ := hSl'.val t sv ht
            exact ⟨x, hx, dx.upd (occSL_get hoL' t sv ht)⟩⟩ (fun f hf => s2.all f (.tail _ (.tail _ (.tail _ (.tail _ hf)))))), s2.own, s2.ext, s2.new⟩
        refine ⟨g', rfl, ESt.put s3 hdn ?_⟩
        have hlen : (ys ++ ys2).length = (rows ++ rows2).length := by simp [hl, hyl2]
        rw [hlen]
        have : Den g' (fun k => if k = d then y else ρ k) (.o d (rows ++ rows2).length) (.slice ((fun k => if k = d then y else ρ k) d).ad (rows ++ rows2).length ((fun k => if k = d then y else ρ k) d).c) := .o
        simpa [y] using this
theorem dap {tb : TT} (hT : tb.Ok X.P) (m : Nat) (H : List (List SV)) {un q d T Te i n sz z : Nat} {D r π' : List Nat} {Ms Ms' : List SM} {x y : Operand} {rows rows2 : List (List SV)} {dT de : TD} {L' M' φ} (hn : n = rows.length) (hz2 : rows2 ≠ [] → z = sz) (hbig : (rows.length + rows2.length) * de.by_ ≤ 140737488355328) (hk : ED X arr k fs own un D π' L' M' Ms') (hi : arr[q]? = some o := by rfl) (hu : un.testBit q = true := by rfl) (ho : o.op = .call ⟨.builtin .append, #[x, y], #[T, T]⟩ := by rfl) (hg : o.guard = none := by rfl) (hd : o.dst = some d := by rfl) (hdn : Nat.blt d X.n = true := by rfl)
    (hx : evS (lkS L) x = some (.o i n) := by rfl) (hy : evS (lkS L) y = some (.s z rows2) := by rfl) (hm : lkM M i = some (.r Te sz rows) := by rfl) (hT1 : tb.get T = some dT := by rfl) (hk1 : dT.kd = .sl Te := by rfl) (hT2 : tb.get Te = some de := by rfl) (hsz : de.sz = sz := by rfl) (hzl : Nat.beq (cellsV (inj de.z)).length de.sz = true := by rfl) (hby : 1 ≤ de.by_ := by decide) (hoL : occSL d L = false := by rfl) (hoM : occM d M = false := by rfl) (hi1 : Nat.blt d 1000 = true := by rfl)
    (hr : xdrw tb X.n arr un D m H r ((d, .o d (rows ++ rows2).length) :: L) (rnm i d (.r Te sz (rows ++ rows2)) M) (M :: Ms) [] = some (π', L', M', Ms', φ) := by rfl) (hφ : conj φ := by first | trivial | omega | (simp +contextual [conj]; done)) : ED X arr k fs own un D (q :: r) L M Ms := by
  refine ⟨o, .o d (rows ++ rows2).length, hi, ?_⟩
  rw [hu]
  refine ⟨_, Stp_ap hT hn hz2 hbig ho hg hd hdn hx hy hm hT1 hk1 hT2 hsz hzl hby hoL hoM hi1, ?_⟩
  rw [hd]
  exact xd hT m H hk hr hφ
end
end Go.KX
namespace Go.KX
section
variable {X : Kx} {k : List It} {L : SL} {M : SM} {fs : List MF} {own : List Res} {arr : Array Oper} {l : List Oper} {o : Oper}
/-- An empty literal, as rows that are owned. -/
theorem opl0 {tb : TT} (hT : tb.Ok X.P) (i : Nat) {d T Te sz : Nat} {dT de : TD} (ho : o.op = .buildSlice T 0 #[]) (hg : o.guard = none) (hd : o.dst = some d) (hn : Nat.blt d X.n = true)
    (hT1 : tb.get T = some dT) (hk1 : dT.kd = .sl Te) (hT2 : tb.get Te = some de) (hsz : de.sz = sz) (hz0 : 0 < sz) (hzl : Nat.beq (cellsV (inj de.z)).length de.sz = true) (hoc : (occSL i L || occM i M) = false) (hlt : Nat.blt i 1000 = true) :
    ∀ g a, ESt X L M fs own g a → opQ X.P arr o (fun a' w' => ∃ g', g'.w = w' ∧ ESt X ((d, .o i 0) :: L) ((i, .r Te sz []) :: M) fs own g' a') a g.w := by
  intro g a hE
  obtain ⟨ρ, ms, st⟩ := hE.open
  simp only [Bool.or_eq_false_iff] at hoc
  have hlt : i < 1000 := by simpa [Nat.blt_eq] using hlt
  have hSl : Sl X ρ L a g := st.all _ (.tail _ (.head _))
  have u := (TT.get_ok hT hT1).kd
  rw [hk1] at u
  have hti := (TT.get_ok hT hT2).ti
  have hzs : de.z.cells.size = de.sz := cellsV_len (Nat.eq_of_beq_eq_true hzl)
  rw [hsz] at hti hzs
  have hev : evs (lkS L) [] = some [] := rfl
  obtain ⟨Lr, st', hevl, hfr⟩ := st.slots (fun t sv ht => by obtain ⟨x, hx, _⟩ := hSl.val t sv ht; exact ⟨x, hx⟩) hev
  simp only [List.map_cons, List.map_nil] at hevl
  have key := S_lit (k := [.lp fun a' w' => ∃ g', g'.w = w' ∧ ESt X ((d, .o i 0) :: L) ((i, .r Te sz []) :: M) fs own g' a']) (arr := arr) (l := []) (elRow sz hz0) ([] : List (Row sz)) (parts := []) (vs := []) (fs := F1 ρ M ms :: F2 X ρ L a :: fs) ho (live_none hg) hd hn u hti rfl hzs rfl hevl rfl (by omega) (fun ad c => S_J (fun g' a' s' => by
      let y : Lc := ⟨0, ad, c⟩
      have hM' : DenM g' ρ M ms := s'.all (F1 ρ M ms) (.head _)
      have hS' : Sl X ρ L a g' := s'.all (F2 X ρ L a) (.tail _ (.head _))
      have hB : DenB g' (fun j => if j = i then y else ρ j) i (.r Te sz []) (Res.arr (elRow sz hz0) Te ((fun j => if j = i then y else ρ j) i).ad ((fun j => if j = i then y else ρ j) i).c []) := .r hz0 [] rfl (fun ρ' k x r hk hr => by simp at hk)
      simp only [if_pos] at hB
      refine ⟨g', rfl, fun j => if j = i then y else ρ j, Res.arr (elRow sz hz0) Te ad c [] :: ms, ⟨⟨s'.kn.size, s'.kn.defers, fun i v hv => by simp [lk] at hv⟩, fun f hf => s'.all f (.tail _ (.tail _ hf)), s'.own, s'.ext, s'.new⟩, .cons hB (occ_upd hM' hoc.2), fun j hj => ?_, fun t sv ht => ?_⟩
      · have : j ≠ i := by omega
        simp only [if_neg this]; exact hS'.pin j hj
      · by_cases htd : t = d
        · subst htd
          rw [lkS_same] at ht
          cases ht
          refine ⟨_, s'.kn.val t _ (lk_cons_same _ _ _), ?_⟩
          have : Den g' (fun j => if j = i then y else ρ j) (.o i 0) (.slice ((fun j => if j = i then y else ρ j) i).ad 0 ((fun j => if j = i then y else ρ j) i).c) := .o
          simpa [y] using this
        · rw [lkS_ne _ _ htd] at ht
          obtain ⟨x, hx, dx⟩ := hS'.val t sv ht
          exact ⟨x, s'.kn.val t x (by rw [lk_cons_ne _ _ htd]; exact hfr t x hx), dx.upd (occSL_get hoc.1 t sv ht)⟩)) g a st'
  have hw : Region.wanted o (yielded arr a.tmps) = true := live_wanted (L := []) st.kn (live_none hg)
  unfold opQ
  rw [if_pos hw]
  simp only [wl, hw, if_true] at key
  exact key
theorem sbl0 {tb : TT} (hT : tb.Ok X.P) (i : Nat) {d T Te sz : Nat} {dT de : TD} (h : ES X arr l k ((d, .o i 0) :: L) ((i, .r Te sz []) :: M) fs own) (ho : o.op = .buildSlice T 0 #[] := by rfl) (hg : o.guard = none := by rfl) (hd : o.dst = some d := by rfl) (hn : Nat.blt d X.n = true := by rfl)
    (hT1 : tb.get T = some dT := by rfl) (hk1 : dT.kd = .sl Te := by rfl) (hT2 : tb.get Te = some de := by rfl) (hsz : de.sz = sz := by rfl) (hz0 : 0 < sz := by decide) (hzl : Nat.beq (cellsV (inj de.z)).length de.sz = true := by rfl) (hoc : (occSL i L || occM i M) = false := by rfl) (hlt : Nat.blt i 1000 = true := by rfl) : ES X arr (o :: l) k L M fs own := by
  intro g a s
  show opQ X.P arr o (wl X.P arr (cont X.P X.rd X.Q k .normal) l) a g.w
  exact opQ_mono (fun a' w' ⟨g', hw, s'⟩ => hw ▸ h g' a' s') (opl0 hT i ho hg hd hn hT1 hk1 hT2 hsz hz0 hzl hoc hlt g a s)
/-- An empty literal, as rows that are owned, in a region that draws its order. -/
theorem dbl0 {tb : TT} (hT : tb.Ok X.P) (m : Nat) (H : List (List SV)) {un q d T Te sz : Nat} {D r π' : List Nat} {Ms Ms' : List SM} {dT de : TD} {L' M' φ} (hk : ED X arr k fs own un D π' L' M' Ms') (hi : arr[q]? = some o := by rfl) (hu : un.testBit q = true := by rfl) (ho : o.op = .buildSlice T 0 #[] := by rfl) (hg : o.guard = none := by rfl) (hd : o.dst = some d := by rfl) (hn : Nat.blt d X.n = true := by rfl)
    (hT1 : tb.get T = some dT := by rfl) (hk1 : dT.kd = .sl Te := by rfl) (hT2 : tb.get Te = some de := by rfl) (hsz : de.sz = sz := by rfl) (hz0 : 0 < sz := by decide) (hzl : Nat.beq (cellsV (inj de.z)).length de.sz = true := by rfl) (hoL : occSL d L = false := by rfl) (hoM : occM d M = false := by rfl) (hlt : Nat.blt d 1000 = true := by rfl)
    (hr : xdrw tb X.n arr un D m H r ((d, .o d 0) :: L) ((d, .r Te sz []) :: M) (M :: Ms) [] = some (π', L', M', Ms', φ) := by rfl) (hφ : conj φ := by first | trivial | omega | (simp +contextual [conj]; done)) : ED X arr k fs own un D (q :: r) L M Ms := by
  refine ⟨o, .o d 0, hi, ?_⟩
  rw [hu]
  refine ⟨_, (fun L' _ hf g a s => ?_ : StpU X arr o L M fs own (.o d 0) ((d, .r Te sz []) :: M)), ?_⟩
  · have h0 : occSL d L' = false := hf d (by unfold isAl; rw [ho]; exact hd) hoL
    have := opl0 (L := L') (M := M) (fs := fs) (own := own) (arr := arr) hT d ho hg hd hn hT1 hk1 hT2 hsz hz0 hzl (by rw [h0, hoM]; rfl) hlt g a s
    rw [hd]
    exact this
  · rw [hd]
    exact xd hT m H hk hr hφ
/-- A guard that holds. -/
theorem sgd (h : ES X arr ({ o with guard := none } :: l) k L M fs own) (hG : gS arr (lkS L) o = some (some true) := by rfl) : ES X arr (o :: l) k L M fs own := by
  intro g a s
  have h1 := h g a s
  obtain ⟨ρ, ms, st⟩ := s.open
  have hw := gS_ok st.kn (st.all (F2 X ρ L a) (.tail _ (.head _))).val hG
  have hw2 := live_wanted (arr := arr) (L := []) (o := { o with guard := none }) st.kn (live_none rfl)
  simp only [wl, hw2, if_true] at h1
  simp only [wl, hw, isOn, if_true]
  exact h1
theorem add_zeroA (a : Addr) : a.add 0 = a := by
  obtain ⟨b, o, s⟩ := a
  cases s <;> simp [Addr.add]
/-- xs[:b], of a list that is never written. -/
theorem Stp_cut {tb : TT} (hT : tb.Ok X.P) {T Te d sz b : Nat} {kk : IntKind} {z : Int} {x hi : Operand} {rows : List (List SV)} {dT de : TD} (hzb : z = (b : Int)) (hb : b ≤ rows.length) (ho : o.op = .slice T x none (some hi) none) (hg : o.guard = none) (hd : o.dst = some d) (hdn : Nat.blt d X.n = true) (hx : evS (lkS L) x = some (.s sz rows)) (hy : evS (lkS L) hi = some (.v (.int kk z)))
    (hT1 : tb.get T = some dT) (hk1 : dT.kd = .sl Te) (hT2 : tb.get Te = some de) : Stp X arr o L M fs own (.s sz (rows.take b)) M := by
  subst hzb
  have hG : gS arr (lkS L) o = some none := by unfold gS; rw [hg]
  refine Stp_read (sv := .s sz (rows.take b)) hG hd hdn (fun L' hL hon g a ρ ms st => ?_)
  have hSl : Sl X ρ L' a g := st.all _ (.tail _ (.head _))
  have hev : evs (lkS L') [x, hi] = some [.s sz rows, .v (.int kk (b : Int))] := by
    have := evs_agree' hL
    rw [show o.op.operands.toList = [x, hi] by rw [ho]; rfl] at this
    rw [this]
    simp only [evs, hx, hy]
  obtain ⟨_, _, e1, dx, hr1⟩ := (evals_den hSl.val hev).uncons
  obtain ⟨_, _, e2, dy, _⟩ := hr1.uncons
  simp only [List.map_cons, List.cons.injEq] at e1
  obtain ⟨rfl, rfl⟩ := e1
  simp only [List.cons.injEq] at e2
  obtain ⟨rfl, _⟩ := e2
  have hyv := den_int dy
  have u := (TT.get_ok hT hT1).kd
  rw [hk1] at u
  have hti := (TT.get_ok hT hT2).ti
  generalize hvx : a.eval x = vx at dx
  cases dx with
  | s xs q1 q2 q3 q4 q5 q6 q7 =>
    rename_i ad c
    have hlen : (rows.take b).length = b := by rw [List.length_take]; omega
    refine ⟨.slice ad b c, ?_, ?_⟩
    · have hh := run_sliceBound (P := X.P) (w := g.w) (kk := kk) (z := (b : Int)) (m := c) (code := .sliceAcap) (by omega) (by omega)
      have hb2 : (Instr.sliceBounds true rows.length c none (some (.int kk (b : Int))) none).run X.P g.w = .ok (0, b, c) g.w := by
        simp only [Instr.sliceBounds, Sem.run_bind, Sem.run_pure, Result.andThen_ok, if_true, hh, Int.toNat_natCast]
      simp only [execOp, ho, hvx]
      simp only [Option.map_some, Option.map_none, hyv, Instr.sliceAt, Instr.slice, Sem.run_bind, run_underlying u, Result.andThen_ok, hb2, run_sizeOf hti, Sem.run_pure]
      cases ad <;> simp [add_zeroA]
    · have := Den.s (g := g) (ρ := ρ) (sz := sz) (rows := rows.take b) (ad := ad) (c := c) (xs.take (b * sz)) (by rw [hlen]; omega) (by rw [hlen]; omega) (by rw [hlen, List.length_take, q3, Nat.min_eq_left (Nat.mul_le_mul_right _ hb)]) (fun r hr => q4 r (List.mem_of_mem_take hr)) ⟨fun u hu => q5.1 u (List.mem_of_mem_take hu), q5.2⟩ (fun hne => by
          obtain ⟨b', o', e3, e4, e5⟩ := q6 (fun e => hne (by rw [e]; simp))
          exact ⟨b', o', e3, e4, fun k v hk => e5 k v (by rw [List.getElem?_take] at hk; split at hk; exact hk; cases hk)⟩) (fun ρ' i j r sv v h1 h2 h3 => by
          rw [List.getElem?_take] at h1 h3
          split at h1
          · split at h3
            · exact q7 ρ' i j r sv v h1 h2 h3
            · cases h3
          · cases h1)
      rw [hlen] at this
      exact this
/-- xs[a:], of a list that is never written. -/
theorem Stp_tl {tb : TT} (hT : tb.Ok X.P) {T Te d sz b : Nat} {kk : IntKind} {z : Int} {x lo : Operand} {rows : List (List SV)} {dT de : TD} (hzb : z = (b : Int)) (hb : b ≤ rows.length) (ho : o.op = .slice T x (some lo) none none) (hg : o.guard = none) (hd : o.dst = some d) (hdn : Nat.blt d X.n = true) (hx : evS (lkS L) x = some (.s sz rows)) (hy : evS (lkS L) lo = some (.v (.int kk z)))
    (hT1 : tb.get T = some dT) (hk1 : dT.kd = .sl Te) (hT2 : tb.get Te = some de) (hsz : de.sz = sz) : Stp X arr o L M fs own (.s sz (rows.drop b)) M := by
  subst hzb hsz
  have hG : gS arr (lkS L) o = some none := by unfold gS; rw [hg]
  refine Stp_read (sv := .s de.sz (rows.drop b)) hG hd hdn (fun L' hL hon g a ρ ms st => ?_)
  have hSl : Sl X ρ L' a g := st.all _ (.tail _ (.head _))
  have hev : evs (lkS L') [x, lo] = some [.s de.sz rows, .v (.int kk (b : Int))] := by
    have := evs_agree' hL
    rw [show o.op.operands.toList = [x, lo] by rw [ho]; rfl] at this
    rw [this]
    simp only [evs, hx, hy]
  obtain ⟨_, _, e1, dx, hr1⟩ := (evals_den hSl.val hev).uncons
  obtain ⟨_, _, e2, dy, _⟩ := hr1.uncons
  simp only [List.map_cons, List.cons.injEq] at e1
  obtain ⟨rfl, rfl⟩ := e1
  simp only [List.cons.injEq] at e2
  obtain ⟨rfl, _⟩ := e2
  have hyv := den_int dy
  have u := (TT.get_ok hT hT1).kd
  rw [hk1] at u
  have hti := (TT.get_ok hT hT2).ti
  generalize hvx : a.eval x = vx at dx
  cases dx with
  | s xs q1 q2 q3 q4 q5 q6 q7 =>
    rename_i ad c
    have hlen : (rows.drop b).length = rows.length - b := List.length_drop ..
    refine ⟨.slice (if c = b then ad else ad.map (·.add (b * de.sz))) (rows.length - b) (c - b), ?_, ?_⟩
    · have hb1 := run_sliceBound (P := X.P) (w := g.w) (kk := kk) (z := (b : Int)) (m := rows.length) (code := .sliceB) (by omega) (by omega)
      have hb2 : (Instr.sliceBounds true rows.length c (some (.int kk (b : Int))) none none).run X.P g.w = .ok (b, rows.length, c) g.w := by
        simp only [Instr.sliceBounds, Sem.run_bind, Sem.run_pure, Result.andThen_ok, Option.isSome_none, Bool.false_eq_true, if_false, hb1, Int.toNat_natCast]
      simp only [execOp, ho, hvx]
      simp only [Option.map_some, Option.map_none, hyv, Instr.sliceAt, Instr.slice, Sem.run_bind, run_underlying u, Result.andThen_ok, hb2, run_sizeOf hti, Sem.run_pure]
      first | done | rfl
    · have := Den.s (g := g) (ρ := ρ) (sz := de.sz) (rows := rows.drop b) (ad := if c = b then ad else ad.map (·.add (b * de.sz))) (c := c - b) (xs.drop (b * de.sz)) (by rw [hlen]; omega) (by rw [hlen]; omega) (by rw [hlen, List.length_drop, q3, ← Nat.sub_mul]) (fun r hr => q4 r (List.mem_of_mem_drop hr)) ⟨fun u hu => q5.1 u (List.mem_of_mem_drop hu), fun h0 => by
          obtain ⟨h1, h2⟩ := q5.2 h0
          refine ⟨?_, by omega⟩
          rw [h1]; split <;> rfl⟩ (fun hne => by
          have hbl : b < rows.length := by
            rcases Nat.lt_or_ge b rows.length with h | h
            · exact h
            · exact absurd (List.drop_eq_nil_of_le h) hne
          obtain ⟨b', o', e3, e4, e5⟩ := q6 (fun e => by rw [e] at hbl; simp at hbl)
          refine ⟨b', o' + b * de.sz, by rw [if_neg (by omega), e3]; simp [addr_add], e4, fun k v hk => ?_⟩
          rw [List.getElem?_drop] at hk
          have := e5 _ v hk
          rw [← Nat.add_assoc] at this
          exact this) (fun ρ' i j r sv v h1 h2 h3 => by
          rw [List.getElem?_drop] at h1 h3
          refine q7 ρ' (b + i) j r sv v h1 h2 ?_
          rw [← h3]
          congr 1
          rw [Nat.add_mul]; omega)
      rw [hlen] at this
      exact this
theorem dct {tb : TT} (hT : tb.Ok X.P) (b m : Nat) (H : List (List SV)) {un q d T Te sz : Nat} {D r π' : List Nat} {Ms Ms' : List SM} {kk : IntKind} {z : Int} {x hi : Operand} {rows : List (List SV)} {dT de : TD} {L' M' φ} (hzb : z = (b : Int)) (hb : b ≤ rows.length) (hk : ED X arr k fs own un D π' L' M' Ms') (hq : arr[q]? = some o := by rfl) (hu : un.testBit q = false := by rfl) (ho : o.op = .slice T x none (some hi) none := by rfl) (hg : o.guard = none := by rfl) (hd : o.dst = some d := by rfl) (hdn : Nat.blt d X.n = true := by rfl) (hx : evS (lkS L) x = some (.s sz rows) := by rfl) (hy : evS (lkS L) hi = some (.v (.int kk z)) := by rfl)
    (hT1 : tb.get T = some dT := by rfl) (hk1 : dT.kd = .sl Te := by rfl) (hT2 : tb.get Te = some de := by rfl)
    (hr : xdrw tb X.n arr un D m H r ((d, .s sz (rows.take b)) :: L) M Ms [] = some (π', L', M', Ms', φ) := by rfl) (hφ : conj φ := by first | trivial | omega | (simp +contextual [conj]; done)) : ED X arr k fs own un D (q :: r) L M Ms := by
  refine ⟨o, .s sz (rows.take b), hq, ?_⟩
  rw [hu]
  refine ⟨.inr (fun M' => Stp_cut hT hzb hb ho hg hd hdn hx hy hT1 hk1 hT2), ?_⟩
  rw [hd]
  exact xd hT m H hk hr hφ
theorem dtl {tb : TT} (hT : tb.Ok X.P) (b m : Nat) (H : List (List SV)) {un q d T Te sz : Nat} {D r π' : List Nat} {Ms Ms' : List SM} {kk : IntKind} {z : Int} {x lo : Operand} {rows : List (List SV)} {dT de : TD} {L' M' φ} (hzb : z = (b : Int)) (hb : b ≤ rows.length) (hk : ED X arr k fs own un D π' L' M' Ms') (hi : arr[q]? = some o := by rfl) (hu : un.testBit q = false := by rfl) (ho : o.op = .slice T x (some lo) none none := by rfl) (hg : o.guard = none := by rfl) (hd : o.dst = some d := by rfl) (hdn : Nat.blt d X.n = true := by rfl) (hx : evS (lkS L) x = some (.s sz rows) := by rfl) (hy : evS (lkS L) lo = some (.v (.int kk z)) := by rfl)
    (hT1 : tb.get T = some dT := by rfl) (hk1 : dT.kd = .sl Te := by rfl) (hT2 : tb.get Te = some de := by rfl) (hsz : de.sz = sz := by rfl)
    (hr : xdrw tb X.n arr un D m H r ((d, .s sz (rows.drop b)) :: L) M Ms [] = some (π', L', M', Ms', φ) := by rfl) (hφ : conj φ := by first | trivial | omega | (simp +contextual [conj]; done)) : ED X arr k fs own un D (q :: r) L M Ms := by
  refine ⟨o, .s sz (rows.drop b), hi, ?_⟩
  rw [hu]
  refine ⟨.inr (fun M' => Stp_tl hT hzb hb ho hg hd hdn hx hy hT1 hk1 hT2 hsz), ?_⟩
  rw [hd]
  exact xd hT m H hk hr hφ
end
end Go.KX
namespace Go.Proofs.YtomkgfdigldhcaaGreatDoor
open Go.KX
set_option maxRecDepth 100000 in
theorem vnan_ok  : Fc Tryz.prog gT 205 [] (vS nanV) := by
 refine fb tOK (fn := Tryz.f205) 2 [.cell 0 26] Tryz.func205 Tryz.results205 (fun g0 B0 Q ρ0 R => ?_)
 refine en tOK 0 1 [] ?_
 refine sn tOK 0 2 [] ?_
 refine sr 0 R ?_
 rfl
set_option maxRecDepth 100000 in
theorem vplus_ok  : Fc Tryz.prog gT 226 [] (vS plusV) := by
 refine fb tOK (fn := Tryz.f226) 2 [.cell 0 26] Tryz.func226 Tryz.results226 (fun g0 B0 Q ρ0 R => ?_)
 refine en tOK 0 1 [] ?_
 refine sn tOK 0 2 [] ?_
 refine sr 0 R ?_
 rfl
set_option maxRecDepth 100000 in
theorem vminus_ok  : Fc Tryz.prog gT 227 [] (vS minusV) := by
 refine fb tOK (fn := Tryz.f227) 2 [.cell 0 26] Tryz.func227 Tryz.results227 (fun g0 B0 Q ρ0 R => ?_)
 refine en tOK 0 1 [] ?_
 refine sn tOK 0 2 [] ?_
 refine sr 0 R ?_
 rfl
set_option maxRecDepth 100000 in
theorem vnull_ok  : Fc Tryz.prog gT 87 [] (vS nullV) := by
 refine fb tOK (fn := Tryz.f87) 2 [.cell 0 26] Tryz.func87 Tryz.results87 (fun g0 B0 Q ρ0 R => ?_)
 refine en tOK 0 1 [] ?_
 refine sn tOK 0 2 [] ?_
 refine sr 0 R ?_
 rfl
set_option maxRecDepth 100000 in
theorem vnum_ok {n : Int} : Fc Tryz.prog gT 156 [nI n] (vS (numV n)) := by
 refine fb tOK (fn := Tryz.f156) 13 [.cell 2 26] Tryz.func156 Tryz.results156 (fun g0 B0 Q ρ0 R => ?_)
 refine en tOK 0 1 [] ?_
 refine sn tOK 0 3 [] ?_
 refine si 0 rfl rfl (fun h3 => ?_) (fun h3 => ?_)
 ·have e : numV n = plusV := by unfold numV; rw [if_pos h3]
  refine en tOK 0 0 [] ?_
  refine fc tOK 1 [] (vplus_ok) ?_
  refine sr 0 R ?_
  rw [e]; rfl
 ·refine en tOK 0 3 [] ?_
  refine si 0 rfl rfl (fun h7 => ?_) (fun h7 => ?_)
  ·have e : numV n = minusV := by unfold numV; rw [if_neg h3, if_pos h7]
   refine en tOK 0 0 [] ?_
   refine fc tOK 1 [] (vminus_ok) ?_
   refine sr 0 R ?_
   rw [e]; rfl
  ·have e : numV n = ⟨1, n⟩ := by unfold numV; rw [if_neg h3, if_neg h7]
   refine en tOK 0 3 [] ?_
   refine sr 0 R ?_
   rw [e]; rfl
set_option maxRecDepth 100000 in
theorem vis_ok {v : Val} : Fc Tryz.prog gT 117 [vS v] (SV.v (.bool (isV v))) := by
 refine fb tOK (fn := Tryz.f117) 23 [.tmp 2] Tryz.func117 Tryz.results117 (fun g0 B0 Q ρ0 R => ?_)
 refine en tOK 0 2 [] ?_
 refine sn tOK 0 2 [] ?_
 refine sn tOK 0 2 [] ?_
 refine si 0 rfl rfl (fun h5 => ?_) (fun h5 => ?_)
 ·refine en tOK 0 9 [] ?_
  refine sr 0 R ?_
  simp [resVS, isV, *] <;> omega
 ·refine en tOK 0 2 [] ?_
  refine si 0 rfl rfl (fun h15 => ?_) (fun h15 => ?_)
  ·refine ei 0 rfl rfl (fun h15 => ?_) (fun h15 => ?_)
   ·refine en tOK 0 4 [] ?_
    refine sr 0 R ?_
    simp [resVS, isV, *] <;> omega
   ·refine en tOK 0 1 [] ?_
    refine sr 0 R ?_
    simp [resVS, isV, *] <;> omega
  ·refine en tOK 0 2 [] ?_
   refine si 0 rfl rfl (fun h15 => ?_) (fun h15 => ?_)
   ·refine ei 0 rfl rfl (fun h15 => ?_) (fun h15 => ?_)
    ·refine en tOK 0 4 [] ?_
     refine sr 0 R ?_
     simp [resVS, isV, *] <;> omega
    ·refine en tOK 0 1 [] ?_
     refine sr 0 R ?_
     simp [resVS, isV, *] <;> omega
   ·refine en tOK 0 2 [] ?_
    refine si 0 rfl rfl (fun h15 => ?_) (fun h15 => ?_)
    ·refine ei 0 rfl rfl (fun h15 => ?_) (fun h15 => ?_)
     ·refine en tOK 0 4 [] ?_
      refine sr 0 R ?_
      simp [resVS, isV, *] <;> omega
     ·refine en tOK 0 1 [] ?_
      refine sr 0 R ?_
      simp [resVS, isV, *] <;> omega
    ·refine en tOK 0 2 [] ?_
     refine si 0 rfl rfl (fun h15 => ?_) (fun h15 => ?_)
     ·refine en tOK 0 4 [] ?_
      refine sr 0 R ?_
      simp [resVS, isV, *] <;> omega
     ·refine en tOK 0 1 [] ?_
      refine sr 0 R ?_
      simp [resVS, isV, *] <;> omega
end Go.Proofs.YtomkgfdigldhcaaGreatDoor
namespace Go.Proofs.YtomkgfdigldhcaaGreatDoor
open Go.KX
set_option maxRecDepth 100000 in
theorem run_ok {s g : Bytes} (hs : s.length ≤ 1000000) : Fc Tryz.prog gT 116 [.str s, .str g] (nI (runB g s)) := by
 refine fb tOK (fn := Tryz.f116) 21 [.tmp 4] Tryz.func116 Tryz.results116 (fun g0 B0 Q ρ0 R => ?_)
 refine en tOK 0 1 [] ?_
 refine sn tOK 0 3 [] ?_
 refine sl 0 ?_
 refine E_loop (σ := Nat) (fun j => j ≤ s.length ∧ ∀ x ∈ s.take j, x ∈ g) (fun j => s.length - j)
   (fun j => [(0, .str s), (1, .str g), (7, nI s.length), (8, nI j)])
   (fun j => []) 0 ?_ ?_
 ·exact ⟨Nat.zero_le _, by simp⟩
 ·rintro J j ⟨hj0, hj1⟩ hJ
  refine en tOK 0 1 [] ?_
  refine si 0 rfl rfl (fun h9 => ?_) (fun h9 => ?_)
  ·have hj : j < s.length := by omega
   have ec : s.getD ((j : Int)).toNat 0 = s[j] := by simp [List.getD_eq_getElem?_getD, hj]
   refine en tOK 0 2 [] ?_
   refine sn tOK 0 4 [] ?_
   refine fc tOK 1 [] (ib_ok (n := ((s.getD ((j : Int)).toNat 0).toNat : Int)) (c := s[j]) (by rw [ec])) ?_
   refine si 0 rfl rfl (fun h16 => ?_) (fun h16 => ?_)
   ·have hx : s[j] ∉ g := (ib_mem _ _).1 h16
    have e : runB g s = j := by
      rw [runB_add hj0 hj1, List.drop_eq_getElem_cons hj]
      have : runB g (s[j] :: s.drop (j + 1)) = 0 := by unfold runB; rw [if_neg hx]
      omega
    refine en tOK 0 2 [] ?_
    refine sr 0 R ?_
    rw [e]; rfl
   ·have hx : s[j] ∈ g := Classical.byContradiction fun h => h16 ((ib_mem _ _).2 h)
    refine en tOK 0 2 [] ?_
    exact hJ (j + 1) ⟨by omega, take_next hj hj1 hx⟩ (by omega)
  ·have e : runB g s = s.length := by
     have hjj : j = s.length := by omega
     rw [runB_add hj0 hj1, hjj, List.drop_length]; rfl
   refine en tOK 0 3 [] ?_
   refine sr 0 R ?_
   rw [e]; rfl
end Go.Proofs.YtomkgfdigldhcaaGreatDoor
namespace Go.Proofs.YtomkgfdigldhcaaGreatDoor
open Go.KX
set_option maxRecDepth 100000 in
theorem idxB_ok {l : List Bytes} {v : Bytes} : Fc Tryz.prog gT 133 [rB l, .str v] (nI (idxF (fun x => decide (v = x)) l)) := by
 refine fb tOK (fn := Tryz.f133) 19 [.tmp 4] Tryz.func133 Tryz.results133 (fun g0 B0 Q ρ0 R => ?_)
 refine en tOK 0 1 [] ?_
 refine sn tOK 0 3 [] ?_
 refine sl 0 ?_
 refine E_loop (σ := Nat) (fun j => j ≤ l.length ∧ ∀ x ∈ l.take j, decide (v = x) = false) (fun j => l.length - j)
   (fun j => [(0, rB l), (1, .str v), (4, nI 0), (7, nI l.length), (8, nI j)])
   (fun j => []) 0 ?_ ?_
 ·exact ⟨Nat.zero_le _, by simp⟩
 ·rintro J j ⟨hj0, hj1⟩ hJ
  refine elen 0 rfl (fun hl => ?_)
  simp only [List.length_map] at hl
  refine en tOK 0 1 [] ?_
  refine si 0 rfl rfl (fun h9 => ?_) (fun h9 => ?_)
  ·have hj : j < l.length := by omega
   refine en tOK 0 2 [] ?_
   refine sn tOK 0 6 [[.str l[j]]] ?_ (hφ := by exact ⟨by omega, row_at _ hj⟩)
   refine si 0 rfl rfl (fun h16 => ?_) (fun h16 => ?_)
   ·have e := idxF_some (p := fun x => decide (v = x)) hj hj1 (by simpa using h16)
    refine en tOK 0 2 [] ?_
    refine sr 0 R ?_
    rw [e]; rfl
   ·have hx : decide (v = l[j]) = false := by simpa using h16
    refine en tOK 0 2 [] ?_
    exact hJ (j + 1) ⟨by omega, take_next hj hj1 hx⟩ (by omega)
  ·have e := idxF_none (p := fun x => decide (v = x)) (fun x hx => hj1 x (by rw [List.take_of_length_le (by omega)]; exact hx))
   refine en tOK 0 1 [] ?_
   refine sr 0 R ?_
   rw [e]; rfl
set_option maxRecDepth 100000 in
theorem contB_ok {l : List Bytes} {v : Bytes} : Fc Tryz.prog gT 81 [rB l, .str v] (bS (decide (v ∈ l))) := by
 refine fb tOK (fn := Tryz.f81) 9 [.tmp 4] Tryz.func81 Tryz.results81 (fun g0 B0 Q ρ0 R => ?_)
 refine en tOK 0 1 [] ?_
 refine sn tOK 0 2 [] ?_
 refine fc tOK 2 [] (idxB_ok) ?_
 refine sr 0 R ?_
 have e : decide (v ∈ l) = (l.any fun x => decide (v = x)) := by simp [List.any_eq, eq_comm]
 rw [e, ← idxF_any]; rfl
set_option maxRecDepth 100000 in
theorem fails_ok {s : Bytes} {p : Ps} {er a : Int} : Fp Tryz.prog gT 64 [.l 1000 0, nI er, nI a] (psC s p) (.t []) (psC s (p.fails er a)) := by
 refine fpb tOK (fn := Tryz.f64) 22 [] Tryz.func64 Tryz.results64 (fun g0 B0 Q ρ0 R => ?_)
 refine en tOK 0 5 [] ?_
 refine sib 0 rfl rfl (fun h10 => ?_) (fun h10 => ?_)
 ·have hd : p.dead = false := by simpa using h10
  have ef : p.fails er a = ⟨p.i, er, a, true⟩ := by unfold Ps.fails; rw [if_neg (by simp [hd])]
  refine en tOK 0 14 [] ?_
  refine sfp 0 R ?_
  exact ⟨rfl, by rw [ef] <;> rfl⟩
 ·have ef : p.fails er a = p := by unfold Ps.fails; rw [if_pos (by simpa using h10)]
  refine efp 0 R ?_
  exact ⟨rfl, by rw [ef] <;> rfl⟩
set_option maxRecDepth 100000 in
theorem rest_ok {s : Bytes} {p : Ps} (hi : p.i ≤ s.length) (hs : s.length ≤ 1024) : Fp Tryz.prog gT 63 [.l 1000 0] (psC s p) (.str (p.restT s)) (psC s (p.restP s)) := by
 refine fpb tOK (fn := Tryz.f63) 33 [.tmp 2] Tryz.func63 Tryz.results63 (fun g0 B0 Q ρ0 R => ?_)
 refine en tOK 0 1 [] ?_
 refine sn tOK 0 4 [] ?_
 refine sib 0 rfl rfl (fun h6 => ?_) (fun h6 => ?_)
 ·have e1 : p.restT s = [] := by unfold Ps.restT; rw [if_pos h6]
  have e2 : p.restP s = p := by unfold Ps.restP; rw [if_pos h6]
  refine en tOK 0 1 [] ?_
  refine srp 0 R ?_
  exact ⟨by rw [e1] <;> rfl, by rw [e2] <;> rfl⟩
 ·have hr := runB_le [32] (s.drop p.i)
  have hr2 : (s.drop p.i).length = s.length - p.i := by simp
  have e2 : p.restP s = { p with i := p.i + runB [32] (s.drop p.i) } := by unfold Ps.restP; rw [if_neg (by simp [h6])]
  have e1 : p.restT s = s.drop (p.i + runB [32] (s.drop p.i)) := by unfold Ps.restT; rw [if_neg (by simp [h6]), e2]
  refine edr 0 131072 [0, 1, 3, 7, 0, 16, 48, 112, 0, 256, 768, 1792, 4080, 8176, 16383, 32767, 65535, 131071] [0, 1, 2, 3, 4, 5, 6, 7, 8, 9, 10, 11, 12, 13, 14, 15, 16, 17] ?_
  refine xd tOK 13 [] ?_
  refine dc tOK 4 [] (run_ok (s := s.drop p.i) (by omega)) ?_
  refine xe ?_
  refine sdr 0 0 [0, 1, 3, 7, 0, 16, 48, 112, 255, 511] [0, 1, 2, 3, 4, 5, 6, 7, 8, 9] ?_
  refine xd tOK 10 [] ?_
  refine xe ?_
  refine srp 0 R ?_
  exact ⟨by rw [e1] <;> rfl, by rw [e2] <;> rfl⟩
set_option maxRecDepth 100000 in
theorem take_ok {s : Bytes} {l : List Bytes} {p : Ps} (hi : p.i ≤ s.length) (hs : s.length ≤ 1024) : Fp Tryz.prog gT 168 [.l 1000 0, rB l] (psC s p) (.t [.str ((takeT s l p).getD []), bS (takeT s l p).isSome]) (psC s (takeP s l p)) := by
 refine fpb tOK (fn := Tryz.f168) 32 [.tmp 4, .tmp 5] Tryz.func168 Tryz.results168 (fun g0 B0 Q ρ0 R => ?_)
 refine en tOK 0 2 [] ?_
 refine sn tOK 0 1 [] ?_
 refine fp tOK 1000 1 [] (rest_ok (by omega) (by omega)) ?_
 refine sn tOK 0 0 [] ?_
 have hle := rest_le (s := s) hi
 refine glo tOK 1 [] (r := .a (signsT.map .str)) signs_den ?_
 
 refine sl 0 ?_
 refine E_loop (σ := Nat) (fun j => j ≤ 15 ∧ ∀ x ∈ signsT.take j, Lib.hasPrefix (p.restT s) x = false) (fun j => 15 - j)
   (fun j => [(0, .l 1000 0), (1, rB l), (6, .str (p.restT s)), (11, .a (signsT.map .str)), (12, nI j)])
   (fun j => [(1000, psC s (p.restP s))]) 0 ?_ ?_
 ·exact ⟨Nat.zero_le _, by simp⟩
 ·rintro J j ⟨hj0, hj1⟩ hJ
  refine en tOK 0 1 [] ?_
  refine si 0 rfl rfl (fun h13 => ?_) (fun h13 => ?_)
  ·have hjl : j < 15 := by omega
   have hj : j < signsT.length := hjl
   refine en tOK 0 0 [] ?_
   refine ixg tOK 1 [] (n := 15) (z := (j : Int)) (cs := signsT.map .str) (.str signsT[j]) (by omega) (by simp [hj]) ?_
   
   refine sn tOK 0 2 [] ?_
   refine fc tOK 0 [] (hp_ok) ?_
   refine sib 0 rfl rfl (fun h17 => ?_) (fun h17 => ?_)
   ·have e1 : firstSign (p.restT s) = some signsT[j] := find_at hj hj1 h17
    refine en tOK 0 2 [] ?_
    refine fc tOK 0 [] (contB_ok) ?_
    refine sib 0 rfl rfl (fun h20 => ?_) (fun h20 => ?_)
    ·have h20 := of_decide_eq_true h20
     have e2 : takeT s l p = some signsT[j] := by unfold takeT; rw [e1]; simp only; rw [if_pos h20]
     have e3 : takeP s l p = { p.restP s with i := (p.restP s).i + signsT[j].length } := by unfold takeP; rw [e2]
     have hsl : signsT[j].length ≤ 2 := (show ∀ x ∈ signsT, x.length ≤ 2 by decide) _ (List.getElem_mem hj)
     refine en tOK 0 10 [] ?_
     refine sn tOK 0 3 [] ?_
     refine srp 0 R ?_
     exact ⟨by rw [e2] <;> rfl, by rw [e3] <;> rfl⟩
    ·have h20 := of_decide_eq_false h20
     have e2 : takeT s l p = none := by unfold takeT; rw [e1]; simp only; rw [if_neg h20]
     have e3 : takeP s l p = p.restP s := by unfold takeP; rw [e2]
     refine en tOK 0 2 [] ?_
     refine srp 0 R ?_
     exact ⟨by rw [e2] <;> rfl, by rw [e3] <;> rfl⟩
   ·have hx := h17
    refine en tOK 0 2 [] ?_
    exact hJ (j + 1) ⟨by omega, take_next hj hj1 hx⟩ (by omega)
  ·have hj15 : signsT.take j = signsT := by rw [List.take_of_length_le]; show 15 ≤ j; omega
   rw [hj15] at hj1
   have e1 : firstSign (p.restT s) = none := List.find?_eq_none.2 (fun x hx => by simp [hj1 x hx])
   have e2 : takeT s l p = none := by unfold takeT; rw [e1]
   have e3 : takeP s l p = p.restP s := by unfold takeP; rw [e2]
   refine en tOK 0 2 [] ?_
   refine srp 0 R ?_
   exact ⟨by rw [e2] <;> rfl, by rw [e3] <;> rfl⟩
set_option maxRecDepth 100000 in
theorem must_ok {s x : Bytes} {p : Ps} (hi : p.i ≤ s.length) (hs : s.length ≤ 1024) : Fp Tryz.prog gT 297 [.l 1000 0, .str x] (psC s p) (.t []) (psC s (mustP s x p)) := by
 refine fpb tOK (fn := Tryz.f297) 21 [] Tryz.func297 Tryz.results297 (fun g0 B0 Q ρ0 R => ?_)
 refine en tOK 0 3 [] ?_
 refine fp tOK 1000 5 [] (take_ok (l := [x]) hi hs) ?_
 refine sn tOK 0 2 [] ?_
 refine sib 0 rfl rfl (fun h14 => ?_) (fun h14 => ?_)
 ·have e1 : takeT s [x] p = none := by simpa using h14
  have e2 : mustP s x p = (takeP s [x] p).fails 110 (takeP s [x] p).i := by unfold mustP; rw [e1]
  refine en tOK 0 5 [] ?_
  refine fp tOK 1000 0 [] (fails_ok) ?_
  refine sfp 0 R ?_
  exact ⟨rfl, by rw [e2] <;> rfl⟩
 ·obtain ⟨y, e1⟩ : ∃ y, takeT s [x] p = some y := Option.isSome_iff_exists.1 (by simpa using h14)
  have e2 : mustP s x p = takeP s [x] p := by unfold mustP; rw [e1]
  refine efp 0 R ?_
  exact ⟨rfl, by rw [e2] <;> rfl⟩
set_option maxRecDepth 100000 in
theorem enter_ok {s : Bytes} {p : Ps} {d : Nat} (hi : p.i ≤ s.length) (hs : s.length ≤ 1024) : Fp Tryz.prog gT 114 [.l 1000 0, nI d] (psC s p) (.t []) (psC s (enterP s d p)) := by
 refine fpb tOK (fn := Tryz.f114) 14 [] Tryz.func114 Tryz.results114 (fun g0 B0 Q ρ0 R => ?_)
 refine en tOK 0 1 [] ?_
 refine fp tOK 1000 0 [] (rest_ok (by omega) (by omega)) ?_
 refine sn tOK 0 2 [] ?_
 refine si 0 rfl rfl (fun h7 => ?_) (fun h7 => ?_)
 ·have e2 : enterP s d p = (p.restP s).fails 111 (p.restP s).i := by unfold enterP; rw [if_pos (by omega)]
  refine en tOK 0 5 [] ?_
  refine fp tOK 1000 0 [] (fails_ok) ?_
  refine sfp 0 R ?_
  exact ⟨rfl, by rw [e2] <;> rfl⟩
 ·have e2 : enterP s d p = p.restP s := by unfold enterP; rw [if_neg (by omega)]
  refine efp 0 R ?_
  exact ⟨rfl, by rw [e2] <;> rfl⟩
set_option maxRecDepth 100000 in
theorem call2_ok {o : Bytes} {x y : Ex} : Fc Tryz.prog gT 169 [.str o, .s 5 [exL x, exL y]] (exS (exC o [x, y])) := by
 refine fb tOK (fn := Tryz.f169) 8 [.cell 4 29] Tryz.func169 Tryz.results169 (fun g0 B0 Q ρ0 R => ?_)
 refine en tOK 0 1 [] ?_
 refine sn tOK 0 4 [] ?_
 refine sr 0 R ?_
 rw [ex_pair]; rfl
set_option maxRecDepth 100000 in
theorem call1_ok {o : Bytes} {x : Ex} : Fc Tryz.prog gT 169 [.str o, .s 5 [exL x]] (exS (exC o [x])) := by
 refine fb tOK (fn := Tryz.f169) 8 [.cell 4 29] Tryz.func169 Tryz.results169 (fun g0 B0 Q ρ0 R => ?_)
 refine en tOK 0 1 [] ?_
 refine sn tOK 0 4 [] ?_
 refine sr 0 R ?_
 rw [ex_one]; rfl
set_option maxRecDepth 100000 in
theorem function_ok {w : Bytes} : Fc Tryz.prog gT 67 [.str w] (bS (functionB w)) := by
 refine fb tOK (fn := Tryz.f67) 6 [.tmp 2] Tryz.func67 Tryz.results67 (fun g0 B0 Q ρ0 R => ?_)
 refine en tOK 0 1 [] ?_
 refine sn tOK 0 2 [] ?_
 refine fc tOK 1 [] (contB_ok (l := [oAbs, oFloor, oNull, oNan, oInf, oNum])) ?_
 refine sr 0 R ?_
 rfl
set_option maxRecDepth 100000 in
theorem ref_ok {w : Bytes} (hs : w.length ≤ 1000000) : Fc Tryz.prog gT 125 [.str w] (bS (refB w)) := by
 refine fb tOK (fn := Tryz.f125) 23 [.tmp 2] Tryz.func125 Tryz.results125 (fun g0 B0 Q ρ0 R => ?_)
 refine en tOK 0 1 [] ?_
 refine sn tOK 0 10 [] ?_ (hφ := by
   refine ⟨fun h => ?_, id, id, id, id⟩
   cases w with
   | nil => simp at h
   | cons _ _ => exact ⟨by omega, by simp⟩)
 refine fg tOK 4 [] (fun hg => ib_ok (c := w.getD 0 0) rfl) ?_
 refine fg tOK 5 [] (fun hg => run_ok hs) ?_
 refine sr 0 R ?_
 cases w with
 | nil => rfl
 | cons c r =>
   have e : (decide (¬ (c :: r : Bytes) = []) && decide (((c :: r).length : Int) ≤ 16) && decide (0 ≤ Lib.indexByte gGreat c) && decide ((runB gLD (c :: r) : Int) = ((c :: r).length : Int))) = refB (c :: r) := by
     have a3 := ib_ge gGreat c
     have a2 : decide (((c :: r).length : Int) ≤ 16) = decide ((c :: r).length ≤ 16) := decide_eq_decide.2 (by omega)
     have a4 : decide ((runB gLD (c :: r) : Int) = ((c :: r).length : Int)) = decide (runB gLD (c :: r) = (c :: r).length) := decide_eq_decide.2 (by omega)
     rw [a2, a3, a4]
     simp [refB]
   exact congrArg (fun b => SV.v (.bool b)) e
end Go.Proofs.YtomkgfdigldhcaaGreatDoor
namespace Go.Proofs.YtomkgfdigldhcaaGreatDoor
open Go.KX
set_option maxRecDepth 100000 in
theorem vprint_ok {v : Val} : Fc Tryz.prog gT 65 [vS v] (.str (printV v)) := by
 refine fb tOK (fn := Tryz.f65) 42 [.tmp 2] Tryz.func65 Tryz.results65 (fun g0 B0 Q ρ0 R => ?_)
 refine en tOK 0 2 [] ?_
 refine sn tOK 0 1 [] ?_
 refine fc tOK 1 [] (vis_ok) ?_
 refine sib 0 rfl rfl (fun h7 => ?_) (fun h7 => ?_)
 ·have e : printV v = [] := by unfold printV; rw [if_pos (by simpa using h7)]
  refine en tOK 0 1 [] ?_
  refine sr 0 R ?_
  first | (rw [e]; rfl) | (rw [e, e0]; rfl)
 ·have hv : isV v = true := by simpa using h7
  have hnn := isV_n hv
  refine en tOK 0 3 [] ?_
  refine si 0 rfl rfl (fun h10 => ?_) (fun h10 => ?_)
  ·have hc : v.k = 2 ∨ v.k = 3 ∨ v.k = 4 ∨ v.k = 5 := by rcases isV_cases hv with ⟨h, _⟩ | rfl | rfl | rfl | rfl <;> first | exact absurd h h10 | simp
   rcases hc with hk | hk | hk | hk
   ·refine en tOK 0 0 [] ?_
    refine bld tOK 2 [] #[(2, str [110, 117, 108, 108]), (3, str [78, 97, 78]), (4, str [43, 73, 110, 102]), (5, str [45, 73, 110, 102])] (.agg #[str [], str [], str [110, 117, 108, 108], str [78, 97, 78], str [43, 73, 110, 102], str [45, 73, 110, 102]]) (fun w => by kernel_rfl) ?_
    refine sas 13 rfl (v' := nI 2) ?_ ?_
    ·rw [hk]
    refine ixa tOK 1 [] (.str [110, 117, 108, 108]) (fun w => by kernel_rfl) (fun _ _ => .str) ?_
    have e : printV v = [110, 117, 108, 108] := by subst_vars; unfold printV; rw [if_neg (by simp [hv])]; simp [hk]
    
    refine sr 0 R ?_
    first | (rw [e]; rfl) | (rw [e, e0]; rfl)
   ·refine en tOK 0 0 [] ?_
    refine bld tOK 2 [] #[(2, str [110, 117, 108, 108]), (3, str [78, 97, 78]), (4, str [43, 73, 110, 102]), (5, str [45, 73, 110, 102])] (.agg #[str [], str [], str [110, 117, 108, 108], str [78, 97, 78], str [43, 73, 110, 102], str [45, 73, 110, 102]]) (fun w => by kernel_rfl) ?_
    refine sas 13 rfl (v' := nI 3) ?_ ?_
    ·rw [hk]
    refine ixa tOK 1 [] (.str [78, 97, 78]) (fun w => by kernel_rfl) (fun _ _ => .str) ?_
    have e : printV v = [78, 97, 78] := by subst_vars; unfold printV; rw [if_neg (by simp [hv])]; simp [hk]
    
    refine sr 0 R ?_
    first | (rw [e]; rfl) | (rw [e, e0]; rfl)
   ·refine en tOK 0 0 [] ?_
    refine bld tOK 2 [] #[(2, str [110, 117, 108, 108]), (3, str [78, 97, 78]), (4, str [43, 73, 110, 102]), (5, str [45, 73, 110, 102])] (.agg #[str [], str [], str [110, 117, 108, 108], str [78, 97, 78], str [43, 73, 110, 102], str [45, 73, 110, 102]]) (fun w => by kernel_rfl) ?_
    refine sas 13 rfl (v' := nI 4) ?_ ?_
    ·rw [hk]
    refine ixa tOK 1 [] (.str [43, 73, 110, 102]) (fun w => by kernel_rfl) (fun _ _ => .str) ?_
    have e : printV v = [43, 73, 110, 102] := by subst_vars; unfold printV; rw [if_neg (by simp [hv])]; simp [hk]
    
    refine sr 0 R ?_
    first | (rw [e]; rfl) | (rw [e, e0]; rfl)
   ·refine en tOK 0 0 [] ?_
    refine bld tOK 2 [] #[(2, str [110, 117, 108, 108]), (3, str [78, 97, 78]), (4, str [43, 73, 110, 102]), (5, str [45, 73, 110, 102])] (.agg #[str [], str [], str [110, 117, 108, 108], str [78, 97, 78], str [43, 73, 110, 102], str [45, 73, 110, 102]]) (fun w => by kernel_rfl) ?_
    refine sas 13 rfl (v' := nI 5) ?_ ?_
    ·rw [hk]
    refine ixa tOK 1 [] (.str [45, 73, 110, 102]) (fun w => by kernel_rfl) (fun _ _ => .str) ?_
    have e : printV v = [45, 73, 110, 102] := by subst_vars; unfold printV; rw [if_neg (by simp [hv])]; simp [hk]
    
    refine sr 0 R ?_
    first | (rw [e]; rfl) | (rw [e, e0]; rfl)
  ·have h1 : v.k = 1 := Decidable.byContradiction h10
   have hm : printV v = if v.n < 0 then 45 :: magV v.n.natAbs else magV v.n.natAbs := by unfold printV; rw [if_neg (by simp [hv]), if_neg (by omega), if_neg (by omega), if_neg (by omega), if_neg (by omega)]
   obtain ⟨N, hN⟩ : ∃ N : Nat, max v.n (0 - v.n) = N := ⟨v.n.natAbs, by omega⟩
   have hN2 : v.n.natAbs = N := by omega
   have ed : ((N : Int)).tdiv 1000 = ((N / 1000 : Nat) : Int) := by rw [show (1000 : Int) = ((1000 : Nat) : Int) from rfl, ← Int.ofNat_tdiv]
   have em : ((N : Int)).tmod 1000 = ((N % 1000 : Nat) : Int) := by rw [show (1000 : Int) = ((1000 : Nat) : Int) from rfl, ← Int.ofNat_tmod]
   have hlen1 := dec_len (n := N / 1000) (by omega)
   have hl4 : (Lib.decDigits (1000 + N % 1000)).length = 4 := by have := congrArg List.length (dec4 (r := N % 1000) (by omega)); simp at this; omega
   refine en tOK 0 7 [] ?_
   refine sas 3 rfl (v' := nI (N : Int)) ?_ ?_
   ·rw [hN]
   refine sn tOK 0 2 [] ?_
   refine fc tOK 1 [] (fmtI (p := IntKind.wrap .i64 ((N : Int).tdiv 1000)) (x := N / 1000) (by rw [ed]; exact wrap_i64 (by omega) (by omega)) (by omega)) ?_
   refine sn tOK 0 3 [] ?_
   refine si 0 rfl rfl (fun h26 => ?_) (fun h26 => ?_)
   ·have hr : N % 1000 ≠ 0 := by omega
    have hlt : (Lib.trimRightB ((Lib.decDigits (1000 + N % 1000)).drop 1) 48).length ≤ 3 := by have := trim_len ((Lib.decDigits (1000 + N % 1000)).drop 1); rw [List.length_drop, hl4] at this; exact this
    have e0 : magV N = Lib.decDigits (N / 1000) ++ ([46] ++ Lib.trimRightB ((Lib.decDigits (1000 + N % 1000)).drop 1) 48) := by unfold magV fracV; rw [if_neg hr]; rfl
    refine en tOK 0 4 [] ?_
    refine fc tOK 1 [] (fmtI (p := 1000 + (N : Int).tmod 1000) (x := 1000 + N % 1000) (by rw [em]; omega) (by omega)) ?_
    refine fc tOK 3 [] (trim0_ok (s := (Lib.decDigits (1000 + N % 1000)).drop 1) (by simp; omega)) ?_ (hφ := by simp only [conj, List.length_append]; show (Lib.decDigits (N / 1000)).length + (1 + (Lib.trimRightB ((Lib.decDigits (1000 + N % 1000)).drop 1) 48).length) ≤ 9223372036854775807 ∧ 1 + (Lib.trimRightB ((Lib.decDigits (1000 + N % 1000)).drop 1) 48).length ≤ 9223372036854775807; omega)
    refine sn tOK 0 3 [] ?_
    refine si 0 rfl rfl (fun h38 => ?_) (fun h38 => ?_)
    ·have e : printV v = [45] ++ magV N := by rw [hm, if_pos h38, hN2]; rfl
     refine en tOK 0 3 [] ?_ (hφ := by simp only [conj, List.length_append, List.length_cons, List.length_nil, List.length_drop]; omega)
     refine sr 0 R ?_
     first | (rw [e]; rfl) | (rw [e, e0]; rfl)
    ·have e : printV v = magV N := by rw [hm, if_neg h38, hN2]
     refine en tOK 0 2 [] ?_
     refine sr 0 R ?_
     first | (rw [e]; rfl) | (rw [e, e0]; rfl)
   ·have e0 : magV N = Lib.decDigits (N / 1000) := by unfold magV fracV; rw [if_pos (by omega), List.append_nil]
    refine en tOK 0 3 [] ?_
    refine si 0 rfl rfl (fun h38 => ?_) (fun h38 => ?_)
    ·have e : printV v = [45] ++ magV N := by rw [hm, if_pos h38, hN2]; rfl
     refine en tOK 0 3 [] ?_ (hφ := by simp only [conj, List.length_append, List.length_cons, List.length_nil, List.length_drop]; omega)
     refine sr 0 R ?_
     first | (rw [e]; rfl) | (rw [e, e0]; rfl)
    ·have e : printV v = magV N := by rw [hm, if_neg h38, hN2]
     refine en tOK 0 2 [] ?_
     refine sr 0 R ?_
     first | (rw [e]; rfl) | (rw [e, e0]; rfl)
end Go.Proofs.YtomkgfdigldhcaaGreatDoor
