/- XR XS XU YC PU SH GT XV. -/
import Derived.Test.YtomkgfdigldhcaaGreatDoorLFD
import Derived.WideLaws
import Derived.Lib.IndexMore
import Derived.Shelf.Pu.Lays
import Derived.Shelf.Pu.Lower
import Derived.Shelf.Pu.ToError
import Derived.Lib.AtoiErrMem
import Derived.Lib.Strings
import Derived.Lib.Walk
import Derived.Lib.ConvBytes
import Derived.Lib.ParseIntBMem
import Derived.Lib.Hide
import Derived.Laws.Strings3
import Derived.Laws.Closers25
import Derived.Laws.Closers25b
import Derived.WalkKit
import Derived.BigCall
import Derived.BigGuard
import Derived.Shelf.Strings.Trim
import Derived.Shelf.Small.Bits
import Derived.Shelf.Small.Strs
import Derived.Shelf.Small.Wraps
import Derived.Shelf.Strconv.Itoa3
import Derived.Shelf.Strconv.Itoa4
import Derived.Shelf.Strings.Cut
import Derived.Shelf.Sort.Plain
import Derived.Shelf.Strings.Prefix
import Derived.Shelf.Strings.Runes
import Derived.Shelf.Bits.Mul64
import Derived.Shelf.Strings.Repeat
import Derived.Shelf.Slices.Turned
import Derived.Shelf.Slices.CompactS
import Derived.Shelf.Slices.In.SortNone
import Derived.Test.YtomkgfdigldhcaaGreatDoorProg
namespace Go.KX
section
variable {X : Kx} {k : List It} {L : SL} {M : SM} {fs : List MF} {own : List Res} {arr : Array Oper} {l : List Oper} {o : Oper}
/-- Two plain values, put together. -/
theorem kn2 {tb : TT} (hT : tb.Ok X.P) (m : Nat) (H : List (List SV)) {d T yT : Nat} {op : BinOp} {x y : Operand} {vx vy : Value} (v : Value) {l' L' M' φ} (hr : ∀ w, (binOp op T vx vy).run X.P w = .ok v w) (hk : ES X arr l' k L' M' fs own) (ho : o.op = .binOp op T x y yT := by rfl)
    (hx : evS (lkS L) x = some (.v vx) := by rfl) (hy : evS (lkS L) y = some (.v vy) := by rfl) (he : ∀ w, (eqGuard op T x y vx vy).run X.P w = .ok () w := by intro w; rfl)
    (hg : o.guard = none := by rfl) (hd : o.dst = some d := by rfl) (hn : Nat.blt d X.n = true := by rfl) (hrn : xrun tb X.n arr m H l ((d, .v v) :: L) M [] = some (l', L', M', φ) := by rfl)
    (hφ : conj φ := by first | trivial | omega | (simp +contextual [conj]; done) | (simp +contextual [conj, *]; done) | (simp +contextual [conj, *] <;> omega)) : ES X arr (o :: l) k L M fs own := by
  have hG : gS arr (lkS L) o = some none := by unfold gS; rw [hg]
  refine ES_step (Stp_read (sv := .v v) hG hd hn (fun L' hL hon g a ρ ms st => ⟨v, ?_, .v⟩)) ?_
  · have hSl : Sl X ρ L' a g := st.all _ (.tail _ (.head _))
    have hev : evs (lkS L') [x, y] = some [.v vx, .v vy] := by
      have := evs_agree' hL
      rw [show o.op.operands.toList = [x, y] by rw [ho]; rfl] at this
      rw [this]
      simp only [evs, hx, hy]
    obtain ⟨_, _, e1, dx, hr1⟩ := (evals_den hSl.val hev).uncons
    obtain ⟨_, _, e2, dy, _⟩ := hr1.uncons
    simp only [List.map_cons, List.cons.injEq] at e1
    obtain ⟨rfl, rfl⟩ := e1
    simp only [List.cons.injEq] at e2
    obtain ⟨rfl, _⟩ := e2
    simp only [execOp, ho, den_v dx, den_v dy]
    simp [hr g.w, he g.w]
  · rw [hd]
    exact go hT m H hk hrn hφ
/-- An interface that is not nil, compared with nil. -/
theorem nnil {tb : TT} (hT : tb.Ok X.P) (m : Nat) (H : List (List SV)) (ne : Bool) {d T yT : Nat} {x : Operand} {l' L' M' φ} (hu : X.P.underlying T = some (.interface (X.P.methodsAt T))) (hk : ES X arr l' k L' M' fs own) (ho : o.op = .binOp (neO ne) T x (.const .nilIface) yT := by rfl)
    (hx : evS (lkS L) x = some .ni := by rfl) (hg : o.guard = none := by rfl) (hd : o.dst = some d := by rfl) (hn : Nat.blt d X.n = true := by rfl) (hrn : xrun tb X.n arr m H l ((d, .v (.bool ne)) :: L) M [] = some (l', L', M', φ) := by rfl)
    (hφ : conj φ := by first | trivial | omega | (simp +contextual [conj]; done) | (simp +contextual [conj, *]; done) | (simp +contextual [conj, *] <;> omega)) : ES X arr (o :: l) k L M fs own := by
  have hG : gS arr (lkS L) o = some none := by unfold gS; rw [hg]
  refine ES_step (Stp_read (sv := .v (.bool ne)) hG hd hn (fun L' hL hon g a ρ ms st => ⟨.bool ne, ?_, .v⟩)) ?_
  · have hSl : Sl X ρ L' a g := st.all _ (.tail _ (.head _))
    have hev : evs (lkS L') [x, .const .nilIface] = some [.ni, .v .nilIface] := by
      have := evs_agree' hL
      rw [show o.op.operands.toList = [x, .const .nilIface] by rw [ho]; cases ne <;> rfl] at this
      rw [this]
      simp only [evs, hx]
      rfl
    obtain ⟨_, _, e1, dx, hr1⟩ := (evals_den hSl.val hev).uncons
    simp only [List.map_cons, List.cons.injEq] at e1
    obtain ⟨rfl, _⟩ := e1
    have e2 : a.eval (.const .nilIface) = .nilIface := rfl
    generalize hax : a.eval x = vx at dx
    cases dx with
    | ni =>
      cases ne with
      | true =>
        simp only [neO] at ho
        simp only [execOp, ho, hax, e2]
        simp [eqGuard, run_neq_held_nil, hu]
      | false =>
        simp only [neO] at ho
        simp only [execOp, ho, hax, e2]
        simp [eqGuard, run_eql_held_nil, hu]
  · rw [hd]
    exact go hT m H hk hrn hφ
end
end Go.KX
namespace Go.KX
/-- An argument, where the block i is called 1000. -/
def rn1 (i : Nat) : SV → Option SV
  | .l k off => match Nat.beq i k with
    | true => some (.l 1000 off)
    | false => none
  | .o k n => match Nat.beq i k with
    | true => some (.o 1000 n)
    | false => none
  | sv => match clo sv with
    | true => some sv
    | false => none
/-- What comes back, where the block 1000 is called i. -/
def bk (i : Nat) : SV → Option SV
  | .l k off => match Nat.beq k 1000 with
    | true => some (.l i off)
    | false => none
  | .o k n => match Nat.beq k 1000 with
    | true => some (.o i n)
    | false => none
  | sv => match clo sv with
    | true => some sv
    | false => none
theorem bk_ok {g : GW} {ρ : Nat → Lc} {i : Nat} {sv sv' : SV} {x : Value} (h : bk i sv = some sv') (hd : Den g (fun j => if j = 1000 then ρ i else ρ j) sv x) : Den g ρ sv' x := by
  unfold bk at h
  split at h
  · rename_i k off
    split at h
    · rename_i hb
      have := Nat.eq_of_beq_eq_true hb
      subst this
      cases h
      rw [den_l hd]
      have : Den g ρ (.l i off) (.pointer (some ⟨(ρ i).b, off, none⟩)) := .l
      simpa using this
    · cases h
  · rename_i k n
    split at h
    · rename_i hb
      have := Nat.eq_of_beq_eq_true hb
      subst this
      cases h
      cases hd
      have : Den g ρ (.o i n) (.slice (ρ i).ad n (ρ i).c) := .o
      simpa using this
    · cases h
  · split at h
    · cases h; exact hd.swap ‹_› _
    · cases h
def rnA (i : Nat) : List SV → Option (List SV)
  | [] => some []
  | x :: r => match rn1 i x with
    | some y => match rnA i r with
      | some ys => some (y :: ys)
      | none => none
    | none => none
theorem rn1_ok {g : GW} {ρ : Nat → Lc} {i : Nat} {sv sv' : SV} {x : Value} (h : rn1 i sv = some sv') (hd : Den g ρ sv x) : Den g (fun j => if j = 1000 then ρ i else ρ j) sv' x := by
  unfold rn1 at h
  split at h
  · rename_i k off
    split at h
    · rename_i hb
      have := Nat.eq_of_beq_eq_true hb
      subst this
      cases h
      rw [den_l hd]
      have : Den g (fun j => if j = 1000 then ρ i else ρ j) (.l 1000 off) (.pointer (some ⟨((fun j => if j = 1000 then ρ i else ρ j) 1000).b, off, none⟩)) := .l
      simpa using this
    · cases h
  · rename_i k n
    split at h
    · rename_i hb
      have := Nat.eq_of_beq_eq_true hb
      subst this
      cases h
      cases hd
      have : Den g (fun j => if j = 1000 then ρ i else ρ j) (.o 1000 n) (.slice ((fun j => if j = 1000 then ρ i else ρ j) 1000).ad n ((fun j => if j = 1000 then ρ i else ρ j) 1000).c) := .o
      simpa using this
    · cases h
  · split at h
    · cases h; exact hd.swap ‹_› _
    · cases h
theorem rnA_ok {g : GW} {ρ : Nat → Lc} {i : Nat} : ∀ {svs svs' : List SV} {xs : List Value}, rnA i svs = some svs' → DenL g ρ svs xs → DenL g (fun j => if j = 1000 then ρ i else ρ j) svs' xs
  | [], svs', xs, h, hd => by cases h; rw [hd.unnil]; exact DenL.nil
  | sv :: r, svs', xs, h, hd => by
    obtain ⟨x, ys, rfl, hx, hr⟩ := hd.uncons
    unfold rnA at h
    split at h
    · split at h
      · cases h; exact DenL.cons (rn1_ok ‹_› hx) (rnA_ok ‹_› hr)
      · cases h
    · cases h
/-- A function that is handed a block: what comes of it, what stands in the block then. -/
def Fp (P : Program) (fs : List MF) (f : FuncId) (args : List SV) (mb : MB) (res : SV) (mb' : MB) : Prop := FnM P fs f args [(1000, mb)] (fun sv M' => sv = res ∧ M' = [(1000, mb')])
section
variable {X : Kx} {k : List It} {L : SL} {M : SM} {fs : List MF} {own : List Res} {arr : Array Oper} {l : List Oper} {o : Oper}
theorem Stp_fp {f : FuncId} {fo : Operand} {az : Array Operand} {ts : Array TypeId} {svs args : List SV} {res : SV} {i : Nat} {mb mb' : MB} {M' : SM} (hg : o.guard = none) (hn : ∀ d, o.dst = some d → Nat.blt d X.n = true) (ho : o.op = .call ⟨.value fo, az, ts⟩) (hfo : evS (lkS L) fo = some (.f f [] [])) (ha : evs (lkS L) az.toList = some svs)
    (hc : svs.flatMap cd1 = []) (hargs : rnA i (svs.map st1) = some args) (hm : lkM M i = some mb) (hcb : cloB mb = true) (hcb' : cloB mb' = true) {res' : SV} (hcr : bk i res = some res') (hu : updK M i mb' some = some M') (hs : Fp X.P fs f args mb res mb') : Stp X arr o L M fs own res' M' := by
  intro L' hL g a hE
  obtain ⟨ρ, ms, st⟩ := hE.open
  have h2 : ∀ t sv, lkS L' t = some sv → ∃ x, a.tmps[t]? = some x ∧ Den g ρ sv x := (st.all (F2 X ρ L' a) (.tail _ (.head _))).val
  have hw : Region.wanted o (yielded arr a.tmps) = true := live_wanted (L := []) st.kn (live_none hg)
  have hsl : ∀ t ∈ (fo :: az.toList).filterMap tmpOf, lkS L' t = lkS L t := fun t ht => hL t (by
    have : t ∈ o.op.operands.toList.filterMap tmpOf := by rw [ho]; simpa [Op.operands, Call.operands] using ht
    exact List.mem_append_left _ this)
  have hall : evs (lkS L) (fo :: az.toList) = some (.f f [] [] :: svs) := by simp only [evs, hfo, ha]
  have hall' : evs (lkS L') (fo :: az.toList) = some (.f f [] [] :: svs) := (evs_agree hsl).trans hall
  have hM : DenM g ρ M ms := st.all _ (.head _)
  obtain ⟨r, m1, m2, rfl, hB, hup⟩ := hM.split hm
  obtain ⟨M2, hK, hM2⟩ := hup hu
  cases hK
  have hden := sts_ok (evals_den h2 hall') (by simp only [List.flatMap_cons, hc, cd1, List.append_nil]; intro p hp; cases hp)
  obtain ⟨x, rr, e1, dx, dr⟩ := hden.uncons
  simp only [List.map_cons, List.cons.injEq] at e1
  obtain ⟨rfl, rfl⟩ := e1
  obtain ⟨xs, ys, hfe, d1, d2⟩ := den_f dx
  obtain rfl := d1.unnil
  obtain rfl := d2.unnil
  obtain ⟨hcl, hcall⟩ := hs
  have hB' : DenB g (fun j => if j = 1000 then ρ i else ρ j) 1000 mb r := hB.move hcb (by simp)
  have hp : (m1 ++ r :: m2 ++ own).Perm (r :: (m1 ++ m2 ++ own)) := by
    simp only [List.append_assoc, List.cons_append]
    exact List.perm_middle
  have stp := st.perm hp
  have hown : Own [r] g := Own.left (b := m1 ++ m2 ++ own) (by simpa using stp.own)
  have hrun := calls_ent hcl (ρe := a.eval) ho hfe g.w
  simp only [List.nil_append, List.append_nil] at hrun
  unfold opQ
  rw [hw, if_pos rfl]
  simp only [wn, hrun]
  refine (hcall _ g _ [r] (fun f hf => st.all f (.tail _ (.tail _ hf))) (rnA_ok hargs dr) (.cons hB' .nil) hown).mono ?_
  rintro e w' ⟨v, g', sv, M3, ms', rfl, rfl, hE', ⟨rfl, rfl⟩, dv, hM3, ho', hn'⟩
  cases hM3 with
  | cons hb3 ht =>
    cases ht
    rename_i r'
    have s' := stp.frame (r := m1 ++ m2 ++ own) (fsc := []) (ownc := [r]) (fs' := []) (own' := [r']) (.cons .head .nil) hE' (fun f hf => (by cases hf)) ho' hn' .nil
    simp only [List.nil_append, List.cons_append] at s'
    have hp2 : (r' :: (m1 ++ m2 ++ own)).Perm (m1 ++ r' :: m2 ++ own) := by
      simp only [List.append_assoc, List.cons_append]
      exact List.perm_middle.symm
    have s2 := s'.perm hp2
    have hMn := hM2 g' r' (s2.all _ (.head _)) (hb3.move hcb' (by simp))
    have hS : Sl X ρ L' a g' := s2.all _ (.tail _ (.head _))
    have s3 : St X.toCx [] (F1 ρ _ (m1 ++ r' :: m2) :: F2 X ρ L' a :: fs) (m1 ++ r' :: m2 ++ own) g' a := ⟨s2.kn, All.cons hMn (All.cons hS (fun f hf => s2.all f (.tail _ (.tail _ hf)))), s2.own, s2.ext, s2.new⟩
    refine ⟨v, rfl, g', rfl, ?_⟩
    cases hd : o.dst with
    | none => exact ESt.close s3
    | some d => exact ESt.put s3 (hn d hd) (bk_ok hcr dv)
/-- A call that is handed the block i, then m operations. -/
theorem fp {tb : TT} (hT : tb.Ok X.P) (i m : Nat) (H : List (List SV)) {d : Nat} {f : FuncId} {fo : Operand} {az : Array Operand} {ts : Array TypeId} {svs args : List SV} {res res' : SV} {mb mb' : MB} {M2 l' L' M' φ} (hs : Fp X.P fs f args mb res mb') (hk : ES X arr l' k L' M' fs own) (hg : o.guard = none := by rfl) (hd : o.dst = some d := by rfl) (ho : o.op = .call ⟨.value fo, az, ts⟩ := by rfl) (hfo : evS (lkS L) fo = some (.f f [] []) := by rfl)
    (ha : evs (lkS L) az.toList = some svs := by rfl) (hc : svs.flatMap cd1 = [] := by rfl) (hb : rnA i (svs.map st1) = some args := by rfl) (hm : lkM M i = some mb := by rfl) (hcb : cloB mb = true := by rfl) (hcb' : cloB mb' = true := by rfl) (hcr : bk i res = some res' := by rfl) (hu : updK M i mb' some = some M2 := by rfl) (hn : Nat.blt d X.n = true := by rfl)
    (hr : xrun tb X.n arr m H l ((d, res') :: L) M2 [] = some (l', L', M', φ) := by rfl) (hφ : conj φ := by first | trivial | omega | (simp +contextual [conj]; done) | (simp +contextual [conj, *]; done) | (simp +contextual [conj, *] <;> omega)) : ES X arr (o :: l) k L M fs own := by
  have := Stp_fp (arr := arr) (fs := fs) (own := own) hg (fun d' h => by rw [hd] at h; cases h; exact hn) ho hfo ha hc hb hm hcb hcb' hcr hu hs
  refine ES_step this ?_
  rw [hd]
  exact go hT m H hk hr hφ
/-- In a region that draws its order. -/
theorem dpc {tb : TT} (hT : tb.Ok X.P) (i0 m : Nat) (H : List (List SV)) {un i d : Nat} {D r π' : List Nat} {Ms Ms' : List SM} {f : FuncId} {fo : Operand} {az : Array Operand} {ts : Array TypeId} {svs args : List SV} {res res' : SV} {mb mb' : MB} {M2 L' M' φ} (hs : Fp X.P fs f args mb res mb') (hk : ED X arr k fs own un D π' L' M' Ms') (hi : arr[i]? = some o := by rfl) (hun : un.testBit i = true := by rfl) (hg : o.guard = none := by rfl) (hd : o.dst = some d := by rfl) (ho : o.op = .call ⟨.value fo, az, ts⟩ := by rfl) (hfo : evS (lkS L) fo = some (.f f [] []) := by rfl)
    (ha : evs (lkS L) az.toList = some svs := by rfl) (hc : svs.flatMap cd1 = [] := by rfl) (hb : rnA i0 (svs.map st1) = some args := by rfl) (hm : lkM M i0 = some mb := by rfl) (hcb : cloB mb = true := by rfl) (hcb' : cloB mb' = true := by rfl) (hcr : bk i0 res = some res' := by rfl) (hu : updK M i0 mb' some = some M2 := by rfl) (hn : Nat.blt d X.n = true := by rfl)
    (hr : xdrw tb X.n arr un D m H r ((d, res') :: L) M2 (M :: Ms) [] = some (π', L', M', Ms', φ) := by rfl) (hφ : conj φ := by first | trivial | omega | (simp +contextual [conj]; done) | (simp +contextual [conj, *]; done) | (simp +contextual [conj, *] <;> omega)) : ED X arr k fs own un D (i :: r) L M Ms := by
  have := Stp_fp (arr := arr) (fs := fs) (own := own) hg (fun d' h => by rw [hd] at h; cases h; exact hn) ho hfo ha hc hb hm hcb hcb' hcr hu hs
  refine ⟨o, res', hi, ?_⟩
  rw [hun]
  refine ⟨M2, this.u, ?_⟩
  rw [hd]
  exact xd hT m H hk hr hφ
/-- A contract out of the body. -/
theorem fpb {P : Program} {fs : List MF} {tb : TT} (hT : tb.Ok P) {f : FuncId} {fn : Func} {c : Code} {args : List SV} {res : SV} {mb mb' : MB} (n : Nat) (rs : List ResultVar)
    (hf : P.funcs[f]? = some fn) (hrs : fn.results = rs.toArray) (h : ∀ g0 B0 Q ρ0, Rt ⟨⟨P, n, g0, B0, Q, none, []⟩, ρ0⟩ fs tb rs (fun sv M' => sv = res ∧ M' = [(1000, mb')]) → E ⟨⟨P, n, g0, B0, Q, none, []⟩, ρ0⟩ [.code c] (initS args 0) [(1000, mb)] fs []) (hb : fn.body = some c := by rfl)
    (hname : (fn.name == "runtime.NumGoroutine") = false := by kernel_rfl) (hn : fn.ntmps = n := by rfl) (hle : args.length ≤ n := by exact Nat.le_of_ble_eq_true rfl) : Fp P fs f args mb res mb' := FnM_body hT n rs hf hb hname hn hle hrs h
end
section
variable {X : Kx} {k : List It} {L : SL} {M : SM} {fs : List MF} {arr : Array Oper} {l : List Oper} {o : Oper} {tb : TT} {rs : List ResultVar}
/-- The end of such a body. -/
theorem erp {res : SV} {mb mb' : MB} {svs : List SV} {k' : List It} (n : Nat) (R : Rt X fs tb rs (fun sv M' => sv = res ∧ M' = [(1000, mb')])) (he : resVS svs = res ∧ mb = mb') (hk : normS (lkS L) 64 n k = .code .ret :: k' := by rfl) (hr : resS tb L M rs = some svs := by rfl) (hh : hiS (resVS svs) = true := by rfl) (hm : keepM (Nat.ble 1000) M = [(1000, mb)] := by rfl) (hb : hiB mb = true := by rfl) : E X k L M fs [] :=
  norm_E 64 n (hk ▸ R.ret hr hh (by rw [hm]; simp only [hiM, hb]; rfl) ⟨he.1, by rw [hm, he.2]⟩)
theorem efp {res : SV} {mb mb' : MB} {svs : List SV} (n : Nat) (R : Rt X fs tb rs (fun sv M' => sv = res ∧ M' = [(1000, mb')])) (he : resVS svs = res ∧ mb = mb') (hk : normS (lkS L) 64 n k = [] := by rfl) (hr : resS tb L M rs = some svs := by rfl) (hh : hiS (resVS svs) = true := by rfl) (hm : keepM (Nat.ble 1000) M = [(1000, mb)] := by rfl) (hb : hiB mb = true := by rfl) : E X k L M fs [] :=
  norm_E 64 n (hk ▸ R.fall hr hh (by rw [hm]; simp only [hiM, hb]; rfl) ⟨he.1, by rw [hm, he.2]⟩)
theorem srp {res : SV} {mb mb' : MB} {svs : List SV} {k' : List It} (n : Nat) (R : Rt X fs tb rs (fun sv M' => sv = res ∧ M' = [(1000, mb')])) (he : resVS svs = res ∧ mb = mb') (hk : normS (lkS L) 64 n k = .code .ret :: k' := by rfl) (hr : resS tb L M rs = some svs := by rfl) (hh : hiS (resVS svs) = true := by rfl) (hm : keepM (Nat.ble 1000) M = [(1000, mb)] := by rfl) (hb : hiB mb = true := by rfl) : ES X arr [] k L M fs [] := erp n R he hk hr hh hm hb
theorem sfp {res : SV} {mb mb' : MB} {svs : List SV} (n : Nat) (R : Rt X fs tb rs (fun sv M' => sv = res ∧ M' = [(1000, mb')])) (he : resVS svs = res ∧ mb = mb') (hk : normS (lkS L) 64 n k = [] := by rfl) (hr : resS tb L M rs = some svs := by rfl) (hh : hiS (resVS svs) = true := by rfl) (hm : keepM (Nat.ble 1000) M = [(1000, mb)] := by rfl) (hb : hiB mb = true := by rfl) : ES X arr [] k L M fs [] := efp n R he hk hr hh hm hb
end
end Go.KX
namespace Go.KX
/-- The elements' sizes of an array. -/
def arrOf (tb : TT) (T : Nat) : Option (Nat × Nat × Nat) := match tb.get T with
  | some d => match d.kd with
    | .arr n el => match tb.get el with
      | some de => some (n, el, de.sz)
      | none => none
    | _ => none
  | none => none
theorem arrOf_ok {P : Program} {tb : TT} (hT : tb.Ok P) {T n el sz : Nat} (h : arrOf tb T = some (n, el, sz)) : P.underlying T = some (.array n el) ∧ ∃ by_ z, TI P el sz by_ z := by
  unfold arrOf at h
  split at h
  · rename_i d hd
    have u := (TT.get_ok hT hd).kd
    split at h
    · rename_i hk
      rw [hk] at u
      split at h
      · rename_i de hde
        cases h
        exact ⟨u, _, _, (TT.get_ok hT hde).ti⟩
      · cases h
    · cases h
  · cases h
section
variable {X : Kx} {k : List It} {L : SL} {M : SM} {fs : List MF} {own : List Res} {arr : Array Oper} {l : List Oper} {o : Oper}
/-- A package-level variable is read. -/
theorem glo {tb : TT} (hT : tb.Ok X.P) (m : Nat) (H : List (List SV)) {d T b : Nat} {cs : List SV} {r : SV} {l' L' M' φ} (hD : ∀ g ρ, All fs g → Den g ρ (.p cs) (.pointer (some ⟨b, 0, none⟩))) (hk : ES X arr l' k L' M' fs own) (ho : o.op = .load T (.global b) := by rfl) (hx : xLoad tb M T [.p cs] = some (r, []) := by rfl)
    (hg : o.guard = none := by rfl) (hd : o.dst = some d := by rfl) (hn : Nat.blt d X.n = true := by rfl) (hr : xrun tb X.n arr m H l ((d, r) :: L) M [] = some (l', L', M', φ) := by rfl) (hφ : conj φ := by first | trivial | omega | (simp +contextual [conj]; done) | (simp +contextual [conj, *]; done) | (simp +contextual [conj, *] <;> omega)) : ES X arr (o :: l) k L M fs own := by
  have hG : gS arr (lkS L) o = some none := by unfold gS; rw [hg]
  refine ES_step (Stp_read (sv := r) hG hd hn (fun L' hL hon g a ρ ms st => ?_)) ?_
  · have hA : All fs g := fun f hf => st.all f (.tail _ (.tail _ hf))
    exact xLoad_ok hT st (st.all _ (.head _)) ho rfl (DenL.cons (hD g ρ hA) DenL.nil) hx
  · rw [hd]
    exact go hT m H hk hr hφ
/-- An element's address in an array that is a package-level variable. -/
theorem gix {tb : TT} (hT : tb.Ok X.P) (m : Nat) (H : List (List SV)) {d T b n el sz : Nat} {ix : Operand} {ki : IntKind} {z : Int} {cs : List SV} (row : List SV) {l' L' M' φ} (hD : ∀ g ρ, All fs g → Den g ρ (.p cs) (.pointer (some ⟨b, 0, none⟩))) (hz : 0 ≤ z ∧ z < n) (hrow : cs.drop (z.toNat * sz) = row) (hk : ES X arr l' k L' M' fs own) (ho : o.op = .indexAddr T (.global b) ix := by rfl) (ha : arrOf tb T = some (n, el, sz) := by rfl) (hi : evS (lkS L) ix = some (.v (.int ki z)) := by rfl)
    (hg : o.guard = none := by rfl) (hd : o.dst = some d := by rfl) (hn : Nat.blt d X.n = true := by rfl) (hr : xrun tb X.n arr m H l ((d, .p row) :: L) M [] = some (l', L', M', φ) := by rfl) (hφ : conj φ := by first | trivial | omega | (simp +contextual [conj]; done) | (simp +contextual [conj, *]; done) | (simp +contextual [conj, *] <;> omega)) : ES X arr (o :: l) k L M fs own := by
  have hG : gS arr (lkS L) o = some none := by unfold gS; rw [hg]
  obtain ⟨u, by_, z0, hti⟩ := arrOf_ok hT ha
  refine ES_step (Stp_read (sv := .p row) hG hd hn (fun L' hL hon g a ρ ms st => ?_)) ?_
  · have hA : All fs g := fun f hf => st.all f (.tail _ (.tail _ hf))
    have hSl : Sl X ρ L' a g := st.all _ (.tail _ (.head _))
    have hev : evs (lkS L') [.global b, ix] = some [.v (.pointer (some ⟨b, 0, none⟩)), .v (.int ki z)] := by
      have := evs_agree' hL
      rw [show o.op.operands.toList = [.global b, ix] by rw [ho]; rfl] at this
      rw [this]
      simp only [evs, hi]
      rfl
    obtain ⟨_, _, e1, _, hr1⟩ := (evals_den hSl.val hev).uncons
    obtain ⟨_, _, e2, dy, _⟩ := hr1.uncons
    simp only [List.map_cons, List.cons.injEq] at e1
    obtain ⟨rfl, rfl⟩ := e1
    simp only [List.cons.injEq] at e2
    obtain ⟨rfl, _⟩ := e2
    have hv := den_int dy
    have hp := hD g ρ hA
    cases hp with
    | p xs hl hf hc hdd =>
      refine ⟨.pointer (some ⟨b, 0 + z.toNat * sz, none⟩), ?_, .p (xs.drop (z.toNat * sz)) (by rw [← hrow]; simp [hl]) hf (fun j x hx => ?_) (fun ρ' j sv x h1 h2 => ?_)⟩
      · simp only [execOp, ho, hv]
        simp only [Act.eval, Instr.indexAt, asIntOf, Instr.sureAddr, Sem.run_bind, Sem.run_pure, Result.andThen_ok, run_underlying u]
        rw [if_pos hz]
        simp only [Sem.run_bind, run_sizeOf hti, Result.andThen_ok, Sem.run_pure, addr_add]
      · rw [List.getElem?_drop] at hx
        have := hc _ x hx
        simpa [Nat.add_assoc] using this
      · rw [← hrow, List.getElem?_drop] at h1
        rw [List.getElem?_drop] at h2
        exact hdd ρ' _ sv x h1 h2
  · rw [hd]
    exact go hT m H hk hr hφ
/-- An array's element of one cell. -/
theorem ixg {tb : TT} (hT : tb.Ok X.P) (m : Nat) (H : List (List SV)) {d T n el : Nat} {x ix : Operand} {ki : IntKind} {z : Int} {cs : List SV} {de : TD} (sv : SV) {l' L' M' φ} (hz : 0 ≤ z ∧ z < n) (hrow : cs[z.toNat]? = some sv) (hk : ES X arr l' k L' M' fs own) (ho : o.op = .index T x ix := by rfl) (ha : arrOf tb T = some (n, el, 1) := by rfl) (he : tb.get el = some de := by rfl) (hna : de.kd.ag = false := by rfl) (hx : evS (lkS L) x = some (.a cs) := by rfl) (hi : evS (lkS L) ix = some (.v (.int ki z)) := by rfl)
    (hg : o.guard = none := by rfl) (hd : o.dst = some d := by rfl) (hn : Nat.blt d X.n = true := by rfl) (hr : xrun tb X.n arr m H l ((d, sv) :: L) M [] = some (l', L', M', φ) := by rfl) (hφ : conj φ := by first | trivial | omega | (simp +contextual [conj]; done) | (simp +contextual [conj, *]; done) | (simp +contextual [conj, *] <;> omega)) : ES X arr (o :: l) k L M fs own := by
  have hG : gS arr (lkS L) o = some none := by unfold gS; rw [hg]
  obtain ⟨u, by_, z0, hti⟩ := arrOf_ok hT ha
  obtain ⟨td, ue, hag⟩ := (TT.get_ok hT he).kd.und
  rw [hna] at hag
  refine ES_step (Stp_read (sv := sv) hG hd hn (fun L' hL hon g a ρ ms st => ?_)) ?_
  · have hSl : Sl X ρ L' a g := st.all _ (.tail _ (.head _))
    have hev : evs (lkS L') [x, ix] = some [.a cs, .v (.int ki z)] := by
      have := evs_agree' hL
      rw [show o.op.operands.toList = [x, ix] by rw [ho]; rfl] at this
      rw [this]
      simp only [evs, hx, hi]
    obtain ⟨_, _, e1, dx, hr1⟩ := (evals_den hSl.val hev).uncons
    obtain ⟨_, _, e2, dy, _⟩ := hr1.uncons
    simp only [List.map_cons, List.cons.injEq] at e1
    obtain ⟨rfl, rfl⟩ := e1
    simp only [List.cons.injEq] at e2
    obtain ⟨rfl, _⟩ := e2
    have hv := den_int dy
    generalize hvx : a.eval x = vx at dx
    cases dx with
    | a xs hl hdd =>
      have hD : DenL g ρ cs xs := ⟨hl, hdd⟩
      obtain ⟨y, hy, dv⟩ := hD.get hrow
      refine ⟨y, ?_, dv⟩
      have hagr := run_isAgg (w := g.w) ue
      rw [hag] at hagr
      have hy2 : xs.toArray[z.toNat * 1]? = some y := by simpa using hy
      simp only [execOp, ho, hv, hvx]
      simp only [Instr.index, asIntOf, Sem.run_bind, Sem.run_pure, Result.andThen_ok, run_underlying u]
      rw [if_pos hz]
      simp only [Sem.run_bind, run_sizeOf hti, Result.andThen_ok, part, hagr, hy2]
      rfl
  · rw [hd]
    exact go hT m H hk hr hφ
theorem updK_same {β : Type} {i : Nat} {mb : MB} : ∀ {M : SM} {K : SM → Option β}, lkM M i = some mb → updK M i mb K = K M
  | [], K, h => by cases h
  | (j, m) :: r, K, h => by
    unfold lkM at h
    unfold updK
    cases hb : Nat.beq i j with
    | true =>
      rw [hb] at h
      simp only [Option.some.injEq] at h
      subst h; rfl
    | false =>
      rw [hb] at h
      exact updK_same (M := r) (K := fun r' => K ((j, m) :: r')) h
/-- A block said otherwise. -/
theorem smb (i : Nat) {mb mb' : MB} {M' : SM} (e : mb = mb') (h : ES X arr l k L M' fs own) (hm : lkM M i = some mb := by rfl) (hu : updK M i mb' some = some M' := by rfl) : ES X arr l k L M fs own := by
  subst e
  rw [updK_same hm] at hu
  cases hu
  exact h
theorem emb (i : Nat) {mb mb' : MB} {M' : SM} (e : mb = mb') (h : E X k L M' fs own) (hm : lkM M i = some mb := by rfl) (hu : updK M i mb' some = some M' := by rfl) : E X k L M fs own := by
  subst e
  rw [updK_same hm] at hu
  cases hu
  exact h
/-- In a region that draws its order: what is read comes out alike ahead of and behind all that writes till now. -/
def allX (tb : TT) (e : Nat → Option SV) (H : List (List SV)) (op : Op) (r : SV × List Prop) : List SM → Prop
  | [] => True
  | M :: Ms => xst tb e M H op = some r ∧ allX tb e H op r Ms
theorem allX_get {tb : TT} {e : Nat → Option SV} {H : List (List SV)} {op : Op} {r : SV × List Prop} : ∀ {Ms : List SM} {q : Nat} {M' : SM}, allX tb e H op r Ms → Ms[q]? = some M' → xst tb e M' H op = some r
  | [], q, M', _, h => by simp at h
  | M :: Ms, 0, M', ⟨h1, _⟩, h => by simp at h; exact h ▸ h1
  | M :: Ms, q + 1, M', ⟨_, h2⟩, h => allX_get h2 (by simpa using h)
theorem dl {tb : TT} (hT : tb.Ok X.P) (m : Nat) (H : List (List SV)) {un i d : Nat} {D r π' : List Nat} {Ms Ms' : List SM} {sv : SV} {L' M' φ} (hk : ED X arr k fs own un D π' L' M' Ms') (hi : arr[i]? = some o := by rfl) (hu : un.testBit i = false := by rfl) (hg : o.guard = none := by rfl) (hd : o.dst = some d := by rfl) (hn : Nat.blt d X.n = true := by rfl) (hx : xst tb (lkS L) M [] o.op = some (sv, []) := by rfl) (hall : allX tb (lkS L) [] o.op (sv, []) Ms := by repeat (first | exact trivial | refine ⟨rfl, ?_⟩)) (hb : Nat.ble (hiU arr.size un D i) Ms.length = true := by rfl)
    (hr : xdrw tb X.n arr un D m H r ((d, sv) :: L) M Ms [] = some (π', L', M', Ms', φ) := by rfl) (hφ : conj φ := by first | trivial | omega | (simp +contextual [conj]; done) | (simp +contextual [conj, *]; done) | (simp +contextual [conj, *] <;> omega)) : ED X arr k fs own un D (i :: r) L M Ms := by
  have hG : gS arr (lkS L) o = some none := by unfold gS; rw [hg]
  refine ⟨o, sv, hi, ?_⟩
  rw [hu]
  refine ⟨.inl ⟨Nat.le_of_ble_eq_true hb, Stp_st hT hG hd hn hx (fun p hp => nomatch hp), fun q M2 hq _ => Stp_st hT hG hd hn (allX_get hall hq) (fun p hp => nomatch hp)⟩, ?_⟩
  rw [hd]
  exact xd hT m H hk hr hφ
end
end Go.KX
namespace Go.KX
abbrev rB (l : List Bytes) : SV := .s 1 (l.map fun s => [.str s])
/-- A slice without elements has, as a symbolic value, elements of size 0. -/
def kz {α : Type} (l : List α) (z : Nat) : Nat := match l with
  | [] => 0
  | _ => z
mutual
def rowE : Ex → List SV
  | .mk k n v l => [nI k, .str n, nI v.k, nI v.n, .s (kz l 5) (rowsE l)]
def rowsE : List Ex → List (List SV)
  | [] => []
  | x :: r => rowE x :: rowsE r
end
abbrev exL (x : Ex) : List SV := [nI x.kind, .str x.name, nI x.val.k, nI x.val.n, .s (kz x.kids 5) (rowsE x.kids)]
abbrev exS (x : Ex) : SV := .a (exL x)
theorem rowE_eq (x : Ex) : rowE x = exL x := by cases x; rfl
theorem rowsE_len : ∀ l : List Ex, (rowsE l).length = l.length
  | [] => rfl
  | x :: r => by simp [rowsE, rowsE_len r]
theorem rowsE_get : ∀ {l : List Ex} {j : Nat} (h : j < l.length), (rowsE l)[j]? = some (exL l[j])
  | x :: r, 0, _ => by simp [rowsE, rowE_eq]
  | x :: r, j + 1, h => by simp only [rowsE, List.getElem?_cons_succ, List.getElem_cons_succ]; exact rowsE_get (by simpa using h)
theorem ex_pair (o : Bytes) (x y : Ex) : exS (exC o [x, y]) = .a [nI 3, .str o, nI 0, nI 0, .s 5 [exL x, exL y]] := by
  show SV.a [nI 3, .str o, nI 0, nI 0, .s 5 [rowE x, rowE y]] = _
  rw [rowE_eq, rowE_eq]
theorem ex_one (o : Bytes) (x : Ex) : exS (exC o [x]) = .a [nI 3, .str o, nI 0, nI 0, .s 5 [exL x]] := by
  show SV.a [nI 3, .str o, nI 0, nI 0, .s 5 [rowE x]] = _
  rw [rowE_eq]
theorem ib_mem : ∀ (g : Bytes) (c : UInt8), Lib.indexByte g c < 0 ↔ c ∉ g
  | [], c => by simp [Lib.indexByte]
  | b :: g, c => by
    have ih := ib_mem g c
    unfold Lib.indexByte
    by_cases h : b = c
    · subst h; simp
    · have hb : (b == c) = false := by simpa using h
      simp only [hb]
      have h2 : ¬ c = b := fun e => h e.symm
      simp only [List.mem_cons, h2, false_or]
      rw [← ih]
      by_cases h0 : Lib.indexByte g c = -1
      · simp [h0]
      · have hge : ∀ (g : Bytes), -1 ≤ Lib.indexByte g c := by
          intro g
          induction g with
          | nil => simp [Lib.indexByte]
          | cons b g ih => unfold Lib.indexByte; split <;> (try split) <;> (try simp) <;> omega
        have := hge g
        have h1 : (Lib.indexByte g c == -1) = false := by simpa using h0
        simp [h1]
        omega
theorem ib_ge (g : Bytes) (c : UInt8) : decide (0 ≤ Lib.indexByte g c) = decide (c ∈ g) := by
  have h := ib_mem g c
  by_cases hc : c ∈ g
  · have h2 : ¬ Lib.indexByte g c < 0 := fun hx => h.1 hx hc
    simp [hc]; omega
  · have h2 := h.2 hc
    simp [hc]; omega
theorem runB_le (g : Bytes) : ∀ l : Bytes, runB g l ≤ l.length
  | [] => Nat.le_refl _
  | c :: r => by
    have := runB_le g r
    unfold runB
    split <;> simp <;> omega
theorem runB_add {g s : Bytes} : ∀ {j : Nat}, j ≤ s.length → (∀ x ∈ s.take j, x ∈ g) → runB g s = j + runB g (s.drop j) := by
  induction s with
  | nil => intro j hj _; have : j = 0 := by simpa using hj
           subst this; simp
  | cons c r ih =>
    intro j hj h
    cases j with
    | zero => simp
    | succ j =>
      have hc : c ∈ g := h c (by simp)
      have e : runB g (c :: r) = runB g r + 1 := by conv => lhs; unfold runB
                                                    rw [if_pos hc]
      rw [e, List.drop_succ_cons, ih (j := j) (by simpa using hj) (fun x hx => h x (by simp [hx]))]
      omega
abbrev psC (s : Bytes) (p : Ps) : MB := .c 117 [.str s, nI p.i, nI p.err, nI p.at_, bS p.dead]
theorem find_at {α : Type} {p : α → Bool} : ∀ {l : List α} {j : Nat} (hj : j < l.length), (∀ x ∈ l.take j, p x = false) → p l[j] = true → l.find? p = some l[j]
  | [], j, hj, _, _ => by simp at hj
  | x :: r, 0, _, _, h => by simp at h; simp [h]
  | x :: r, j + 1, hj, h0, h => by
    have e := find_at (l := r) (j := j) (by simpa using hj) (fun y hy => h0 y (by simp [hy])) (by simpa using h)
    have hx := h0 x (by simp)
    simp [hx, e]
theorem rest_le {s : Bytes} {p : Ps} (h : p.i ≤ s.length) : (p.restP s).i ≤ s.length := by
  unfold Ps.restP
  split
  · exact h
  · have := runB_le [32] (s.drop p.i)
    simp at this ⊢
    omega
end Go.KX
namespace Go.Proofs
open Go.Shelf Go.RowKit
/-- What comes of a text that is no number. -/
abbrev synU : Lib.NumEnd Nat := Lib.parseUintM 0 0 [0]
variable {P : Program} {ρ : Ren}
set_option maxHeartbeats 32000000 in
set_option maxRecDepth 100000 in
theorem uint_in (L : LaysPu.n16 P ρ) (t : ByteArray) (hne : t.size ≠ 0) (h16 : t.size ≤ 16) (w : World) :
    Calls P (ρ.f 16) #[.string t, .int .i64 10, .int .i64 62] w fun e w' => e = .returned (Lib.uintTupleM (ρ.t 34) 4611686018427387903 (Lib.parseUintM 4611686018427387903 0 t.data.toList)) ∧ w' = Lib.bytesWorld w (ρ.t 5) t := by
  have hmax : t.size ≤ 9223372036854775806 := by omega
  have hp : ∀ k, k < t.size → 10 ^ k ≤ 1000000000000000 := fun k hk => Nat.le_trans (Nat.pow_le_pow_right (by decide) (show k ≤ 15 by omega)) (by decide)
  have mixed := L.mixed
  have t9 := L.t9; have a9 := L.a9; have z9 := L.z9; have v9 := L.v9
  have t3 := L.t3; have a3 := L.a3; have z3 := L.z3; have v3 := L.v3
  have t22 := L.t22; have a22 := L.a22; have z22 := L.z22; have v22 := L.v22
  have t24 := L.t24; have a24 := L.a24; have z24 := L.z24; have v24 := L.v24
  have t4 := L.t4; have a4 := L.a4; have z4 := L.z4; have v4 := L.v4
  have t34 := L.t34; have a34 := L.a34; have z34 := L.z34; have v34 := L.v34
  have t5 := L.t5; have a5 := L.a5; have z5 := L.z5; have v5 := L.v5
  have t36 := L.t36; have a36 := L.a36; have z36 := L.z36; have v36 := L.v36
  have t37 := L.t37; have a37 := L.a37; have z37 := L.z37; have v37 := L.v37
  have t0 := L.t0; have a0 := L.a0; have z0 := L.z0; have v0 := L.v0
  have e19 : ∀ args w, (callFunc (ρ.f 19) args).run P w = .ok (.enter (ρ.f 19) args) w := enters_of L.f19 (by kernel_rfl) rfl
  have hemp : t.toList.isEmpty = false := by
    rw [← decide_eq_emptyBytes]
    exact decide_eq_false (fun h => hne (by rw [h]; rfl))
  have hcv := Lib.run_convert_string_bytes (P := P) w (ρ.t 9) (ρ.t 37) (ρ.t 5) t (u := .string) L.t9 L.t37 L.t5
  have hB : ∀ j, j < t.size → (Lib.bytesWorld w (ρ.t 5) t).cell? ⟨w.heap.size, j, none⟩ = some (.int .u8 (t.data.toList.getD j 0).toNat) := fun j hj => Lib.bytesWorld_cell w (ρ.t 5) t j hj
  obtain ⟨W1, hW1⟩ : ∃ W1, W1 = Lib.bytesWorld w (ρ.t 5) t := ⟨_, rfl⟩
  rw [← hW1] at hcv hB ⊢
  clear hW1
  obtain ⟨bs, hL⟩ : ∃ bs, bs = t.data.toList := ⟨_, rfl⟩
  have hLn : bs.length = t.size := by rw [hL, Lib.size_eq]
  rw [← hL] at hB ⊢
  clear hL
  have hmv : IntKind.u64.wrap (IntKind.u64.wrap 4611686018427387904 - 1) = 4611686018427387903 := by
    rw [IntKind.wrap_u64, IntKind.wrap_u64]
    decide
  go_enter L.f16, BodyPu.n16_ntmps ρ
  go_wp2
  go_loop [12, 13, 101] (fun vu vn vi => ∃ (k acc : Nat) (a : Int), vu = .bool false ∧ vn = .int .u64 a ∧ vi = .int .i64 k ∧ k ≤ t.size ∧ Hid (a = (acc : Int) ∧ acc < 10 ^ k ∧ Lib.parseUintM 4611686018427387903 0 bs = Lib.parseUintM 4611686018427387903 acc (bs.drop k)))
    (fun _ _ vi => t.size - (intOf vi).toNat)
  case atStart => exact ⟨0, 0, 0, rfl, rfl, rfl, by omega, rfl, by decide, rfl⟩
  case round =>
    obtain ⟨k, acc, a, rfl, rfl, rfl, hk, hh⟩ := hrel
    obtain ⟨ha, hacc, hdec⟩ := hh.out
    clear hh
    have a0 : 0 ≤ a := by omega
    by_cases hkn : k < t.size
    · have hpk := hp k hkn
      have a1 : a ≤ 1000000000000000 := by omega
      have hc := hB k hkn
      have hdrop : bs.drop k = bs[k]'(by omega) :: bs.drop (k + 1) := List.drop_eq_getElem_cons (by omega)
      have hget : bs.getD k 0 = bs[k]'(by omega) := by simp [List.getD, List.getElem?_eq_getElem (show k < bs.length by omega)]
      rw [hdrop] at hdec
      rw [hget] at hc
      generalize bs[k]'(by omega) = c at hc hdec
      have hc256 : c.toNat < 256 := c.toNat_lt
      clear hB hdrop hget
      by_cases hdig : 48 ≤ c.toNat ∧ c.toNat ≤ 57
      · obtain ⟨hd0, hd1⟩ := hdig
        have hcut : ¬ 1844674407370955162 ≤ acc := by omega
        have hov : ¬ 4611686018427387903 < acc * 10 + (c.toNat - 48) := by omega
        have hF : Lib.parseUintM 4611686018427387903 acc (c :: bs.drop (k + 1)) = Lib.parseUintM 4611686018427387903 (acc * 10 + (c.toNat - 48)) (bs.drop (k + 1)) := by simp [Lib.parseUintM, hd0, hd1, hcut, hov]
        have HN : Hid (a * 10 + ((c.toNat : Int) - 48) = ((acc * 10 + (c.toNat - 48) : Nat) : Int) ∧ acc * 10 + (c.toNat - 48) < 10 ^ (k + 1) ∧ Lib.parseUintM 4611686018427387903 0 bs = Lib.parseUintM 4611686018427387903 (acc * 10 + (c.toNat - 48)) (bs.drop (k + 1))) := Lib.hid ⟨by omega, by rw [Nat.pow_succ]; omega, hdec.trans hF⟩
        have iov : a * 10 + ((c.toNat : Int) - 48) ≤ 4611686018427387903 := by omega
        clear hcut hacc hF hov hdec ha
        clear hp hpk
        go_wp2
        refine ⟨⟨k + 1, acc * 10 + (c.toNat - 48), a * 10 + ((c.toNat : Int) - 48), rfl, (by first | rfl | (congr 1; omega)), (by first | rfl | (congr 1; omega)), by omega, HN⟩, by simp [intOf]; omega⟩
      · clear hp hpk
        have hF : Lib.parseUintM 4611686018427387903 acc (c :: bs.drop (k + 1)) = synU := by simp [synU, Lib.parseUintM, hdig]
        rw [hF] at hdec
        clear hacc hF ha
        have hv0 := bits_lo_u8 .or (c.toNat : Int) 32
        have hv1 := bits_hi_u8 .or (c.toNat : Int) 32
        have hu0 := bits_lo_u8 .or 95 32
        have hu1 := bits_hi_u8 .or 95 32
        go_wp2_with (go_at_fn (ρ.f 19); refine (AnyPu.internal_strconv_lower { L with } _ _).mono ?_; rintro e w' ⟨rfl, rfl⟩)
        all_goals go_ret2
        all_goals first | exact ⟨rfl, rfl⟩ | exact ⟨by rw [hdec]; rfl, rfl⟩
    · clear hp
      have hkk : k = t.size := by omega
      subst hkk
      have hF : Lib.parseUintM 4611686018427387903 acc (bs.drop t.size) = .ok acc := by rw [List.drop_eq_nil_of_le (by omega)]; rfl
      rw [hF] at hdec
      subst ha
      clear hacc hF a0
      go_wp2
      go_ret2
      exact ⟨rfl, rfl⟩
set_option maxHeartbeats 4000000 in
set_option maxRecDepth 100000 in
theorem uint_ok (L : LaysPu.n14 P ρ) (s : ByteArray) (hne : s.size ≠ 0) (h16 : s.size ≤ 16) (u : Nat) (h : Lib.parseUintM 4611686018427387903 0 s.data.toList = .ok u) (w : World) :
    Calls P (ρ.f 14) #[.string s, .int .i64 10, .int .i64 62] w fun e w' => e = .returned (.tuple #[.int .u64 u, .nilIface]) ∧ w' = Lib.bytesWorld w (ρ.t 5) s := by
  have mixed := L.mixed
  have t9 := L.t9; have a9 := L.a9; have z9 := L.z9; have v9 := L.v9
  have t3 := L.t3; have a3 := L.a3; have z3 := L.z3; have v3 := L.v3
  have t22 := L.t22; have a22 := L.a22; have z22 := L.z22; have v22 := L.v22
  have t24 := L.t24; have a24 := L.a24; have z24 := L.z24; have v24 := L.v24
  have t25 := L.t25; have a25 := L.a25; have z25 := L.z25; have v25 := L.v25
  have t4 := L.t4; have a4 := L.a4; have z4 := L.z4; have v4 := L.v4
  have e16 : ∀ args w, (callFunc (ρ.f 16) args).run P w = .ok (.enter (ρ.f 16) args) w := enters_of L.f16 (by kernel_rfl) rfl
  have hI := uint_in { L with } s hne h16 w
  rw [h] at hI
  have hI : Calls P (ρ.f 16) #[.string s, .int .i64 10, .int .i64 62] w fun e w' => e = .returned (.tuple #[.int .u64 u, .nilIface]) ∧ w' = Lib.bytesWorld w (ρ.t 5) s := hI
  clear h
  go_enter L.f14, BodyPu.n14_ntmps ρ
  go_wp2_with (go_at_fn (ρ.f 16); refine hI.mono ?_; rintro e W1 ⟨rfl, hW⟩)
  go_wp2
  go_ret2
  exact ⟨rfl, rfl⟩
set_option maxHeartbeats 4000000 in
set_option maxRecDepth 100000 in
theorem uint_bad (L : LaysPu.n14 P ρ) (s : ByteArray) (hne : s.size ≠ 0) (h16 : s.size ≤ 16) (h : Lib.parseUintM 4611686018427387903 0 s.data.toList = synU) (ev : Value) (w : World) (hv : w.cell? ⟨(ρ.g 0), 0, none⟩ = some ev) (hev : ev = .nilIface ∨ ∃ te pe, ev = .iface te pe) :
    Calls P (ρ.f 14) #[.string s, .int .i64 10, .int .i64 62] w fun e w' => ∃ v, e = .returned (.tuple #[.int .u64 0, .iface (ρ.t 39) v]) ∧ Below w.heap.size w w' := by
  have hlim : s.size ≤ 281474976710656 := by omega
  have mixed := L.mixed
  have t9 := L.t9; have a9 := L.a9; have z9 := L.z9; have v9 := L.v9
  have t3 := L.t3; have a3 := L.a3; have z3 := L.z3; have v3 := L.v3
  have t22 := L.t22; have a22 := L.a22; have z22 := L.z22; have v22 := L.v22
  have t24 := L.t24; have a24 := L.a24; have z24 := L.z24; have v24 := L.v24
  have t25 := L.t25; have a25 := L.a25; have z25 := L.z25; have v25 := L.v25
  have t4 := L.t4; have a4 := L.a4; have z4 := L.z4; have v4 := L.v4
  have e16 : ∀ args w, (callFunc (ρ.f 16) args).run P w = .ok (.enter (ρ.f 16) args) w := enters_of L.f16 (by kernel_rfl) rfl
  have e17 : ∀ args w, (callFunc (ρ.f 17) args).run P w = .ok (.enter (ρ.f 17) args) w := enters_of L.f17 (by kernel_rfl) rfl
  have hG : (ρ.g 0) < w.heap.size := Lib.lt_of_cell hv
  have hI := uint_in { L with } s hne h16 w
  rw [h] at hI
  have hI : Calls P (ρ.f 16) #[.string s, .int .i64 10, .int .i64 62] w fun e w' => e = .returned (.tuple #[.int .u64 0, .iface (ρ.t 34) (.int .i64 2)]) ∧ w' = Lib.bytesWorld w (ρ.t 5) s := hI
  clear h
  go_enter L.f14, BodyPu.n14_ntmps ρ
  go_wp2_with (go_at_fn (ρ.f 16); refine hI.mono ?_)
  rintro e W1 ⟨rfl, hW⟩
  have hb1 : Below w.heap.size w W1 := by
    subst hW
    exact Lib.bytesWorld_below _ _ _
  have hv1 : W1.cell? ⟨(ρ.g 0), 0, none⟩ = some ev := (hb1.cell (show (⟨(ρ.g 0), 0, none⟩ : Addr).block < w.heap.size from hG)).trans hv
  clear hW
  go_wp2_with (go_at_fn (ρ.f 17); refine (AnyPu.strconv_toError_syntax { L with } ⟨#[80, 97, 114, 115, 101, 85, 105, 110, 116]⟩ s 10 62 ev _ hlim ?_ hev).mono ?_)
  · exact hv1
  rintro e W2 ⟨N, rfl, h1, h2, h3⟩
  go_wp2
  go_ret2
  exact ⟨_, rfl, hb1.trans (h3.mono hb1.size)⟩
end Go.Proofs
namespace Go.Proofs
open Go.Shelf
def Tryz.lays162_ren : Go.Shelf.Ren := ⟨fun | 162 => 119 | 232 => 172 | 227 => 173 | 234 => 174 | 236 => 175 | 228 => 263 | 271 => 264 | 151 => 265 | 120 => 306 | 197 => 307 | 152 => 308 | 260 => 323 | 137 => 170 | 119 => 324 | 224 => 325 | 225 => 326 | 217 => 258 | 266 => 301 | n => n, fun | 9 => 9 | 4 => 4 | 3 => 3 | 5 => 5 | 117 => 218 | 116 => 217 | 0 => 0 | 124 => 221 | 21 => 21 | 105 => 269 | 46 => 172 | 119 => 331 | 139 => 334 | 138 => 333 | n => n, fun | 3 => 8 | 4 => 9 | n => n⟩
theorem Tryz.lays162 : Go.Proofs.Lays.n162 Tryz.prog Tryz.lays162_ren := {
  mixed := by kernel_rfl
  f119 := Tryz.func324.trans (congrArg some (by kernel_rfl))
  f120 := Tryz.func306.trans (congrArg some (by kernel_rfl))
  f137 := Tryz.func170.trans (congrArg some (by kernel_rfl))
  f151 := Tryz.func265.trans (congrArg some (by kernel_rfl))
  f152 := Tryz.func308.trans (congrArg some (by kernel_rfl))
  f162 := Tryz.func119.trans (congrArg some (by kernel_rfl))
  f197 := Tryz.func307.trans (congrArg some (by kernel_rfl))
  f217 := Tryz.func258.trans (congrArg some (by kernel_rfl))
  f224 := Tryz.func325.trans (congrArg some (by kernel_rfl))
  f225 := Tryz.func326.trans (congrArg some (by kernel_rfl))
  f227 := Tryz.func173.trans (congrArg some (by kernel_rfl))
  f228 := Tryz.func263.trans (congrArg some (by kernel_rfl))
  f232 := Tryz.func172.trans (congrArg some (by kernel_rfl))
  f234 := Tryz.func174.trans (congrArg some (by kernel_rfl))
  f236 := Tryz.func175.trans (congrArg some (by kernel_rfl))
  f260 := Tryz.func323.trans (congrArg some (by kernel_rfl))
  f266 := Tryz.func301.trans (congrArg some (by kernel_rfl))
  f271 := Tryz.func264.trans (congrArg some (by kernel_rfl))
  t0 := Tryz.underlying0
  a0 := Tryz.isAgg0
  z0 := Tryz.sizeOf0
  v0 := Tryz.zeroValue0
  t3 := Tryz.underlying3
  a3 := Tryz.isAgg3
  z3 := Tryz.sizeOf3
  v3 := Tryz.zeroValue3
  t4 := Tryz.underlying4
  a4 := Tryz.isAgg4
  z4 := Tryz.sizeOf4
  v4 := Tryz.zeroValue4
  t5 := Tryz.underlying5
  a5 := Tryz.isAgg5
  z5 := Tryz.sizeOf5
  v5 := Tryz.zeroValue5
  t9 := Tryz.underlying9
  a9 := Tryz.isAgg9
  z9 := Tryz.sizeOf9
  v9 := Tryz.zeroValue9
  t21 := Tryz.underlying21
  a21 := Tryz.isAgg21
  z21 := Tryz.sizeOf21
  v21 := Tryz.zeroValue21
  t46 := Tryz.underlying172
  a46 := Tryz.isAgg172
  z46 := Tryz.sizeOf172
  v46 := Tryz.zeroValue172
  t105 := Tryz.underlying269
  a105 := Tryz.isAgg269
  z105 := Tryz.sizeOf269
  v105 := Tryz.zeroValue269
  t116 := Tryz.underlying217
  a116 := Tryz.isAgg217
  z116 := Tryz.sizeOf217
  t117 := Tryz.underlying218
  a117 := Tryz.isAgg218
  z117 := Tryz.sizeOf218
  v117 := Tryz.zeroValue218
  t119 := Tryz.underlying331
  a119 := Tryz.isAgg331
  z119 := Tryz.sizeOf331
  t124 := Tryz.underlying221
  a124 := Tryz.isAgg221
  z124 := Tryz.sizeOf221
  v124 := Tryz.zeroValue221
  t138 := Tryz.underlying333
  a138 := Tryz.isAgg333
  z138 := Tryz.sizeOf333
  v138 := Tryz.zeroValue333
  t139 := Tryz.underlying334
  a139 := Tryz.isAgg334
  z139 := Tryz.sizeOf334
  v139 := Tryz.zeroValue334
  g3 := by kernel_rfl
  g4 := by kernel_rfl }
open Go.RowKit in
theorem Tryz.strings_TrimRight_one (s : ByteArray) (c : UInt8) (hc : c.toNat < 128) (w : World) (hs : s.size ≤ 9223372036854775807) :
    Calls Tryz.prog 119 #[.string s, .string ⟨#[c]⟩] w fun e w' => e = .returned (.string ⟨(Lib.trimRightB s.data.toList c).toArray⟩) ∧ w' = w := Any.strings_TrimRight_one Tryz.lays162 s c hc w hs
def Tryz.lays134_ren : Go.Shelf.Ren := ⟨fun | 134 => 319 | 129 => 186 | n => n, fun | 53 => 234 | 3 => 3 | 4 => 4 | 46 => 172 | 5 => 5 | 9 => 9 | n => n, fun | n => n⟩
theorem Tryz.lays134 : Go.Proofs.Lays.n134 Tryz.prog Tryz.lays134_ren := {
  mixed := by kernel_rfl
  f129 := Tryz.func186.trans (congrArg some (by kernel_rfl))
  f134 := Tryz.func319.trans (congrArg some (by kernel_rfl))
  t3 := Tryz.underlying3
  a3 := Tryz.isAgg3
  z3 := Tryz.sizeOf3
  v3 := Tryz.zeroValue3
  t4 := Tryz.underlying4
  a4 := Tryz.isAgg4
  z4 := Tryz.sizeOf4
  v4 := Tryz.zeroValue4
  t5 := Tryz.underlying5
  a5 := Tryz.isAgg5
  z5 := Tryz.sizeOf5
  v5 := Tryz.zeroValue5
  t9 := Tryz.underlying9
  a9 := Tryz.isAgg9
  z9 := Tryz.sizeOf9
  v9 := Tryz.zeroValue9
  t46 := Tryz.underlying172
  a46 := Tryz.isAgg172
  z46 := Tryz.sizeOf172
  v46 := Tryz.zeroValue172
  t53 := Tryz.underlying234
  a53 := Tryz.isAgg234
  z53 := Tryz.sizeOf234
  v53 := Tryz.zeroValue234 }
theorem Tryz.bits_LeadingZeros64 (x : Int) (w : World) (h0 : 0 ≤ x) (h1 : x ≤ 18446744073709551615) :
    Calls Tryz.prog 319 #[.int .u64 x] w fun e w' => e = .returned (.int .i64 (64 - (Lib.bitLen x.toNat : Int))) ∧ w' = w := Any.bits_LeadingZeros64 Tryz.lays134 x w h0 h1
def Tryz.lays137_ren : Go.Shelf.Ren := ⟨fun | 137 => 170 | 217 => 258 | 266 => 301 | n => n, fun | 9 => 9 | 5 => 5 | 3 => 3 | n => n, fun | n => n⟩
theorem Tryz.lays137 : Go.Proofs.Lays.n137 Tryz.prog Tryz.lays137_ren := {
  mixed := by kernel_rfl
  f137 := Tryz.func170.trans (congrArg some (by kernel_rfl))
  f217 := Tryz.func258.trans (congrArg some (by kernel_rfl))
  f266 := Tryz.func301.trans (congrArg some (by kernel_rfl))
  t3 := Tryz.underlying3
  a3 := Tryz.isAgg3
  z3 := Tryz.sizeOf3
  v3 := Tryz.zeroValue3
  t5 := Tryz.underlying5
  a5 := Tryz.isAgg5
  z5 := Tryz.sizeOf5
  v5 := Tryz.zeroValue5
  t9 := Tryz.underlying9
  a9 := Tryz.isAgg9
  z9 := Tryz.sizeOf9
  v9 := Tryz.zeroValue9 }
open Go.RowKit in
theorem Tryz.strings_IndexByte (s : ByteArray) (c : Int) (w : World) :
    Calls Tryz.prog 170 #[.string s, .int .u8 c] w fun e w' => e = .returned (.int .i64 (Lib.indexByte s.data.toList c.toNat.toUInt8)) ∧ w' = w := Any.strings_IndexByte Tryz.lays137 s c w
def Tryz.lays103_ren : Go.Shelf.Ren := ⟨fun | 103 => 332 | 210 => 343 | 206 => 300 | n => n, fun | 9 => 9 | 4 => 4 | 24 => 210 | 3 => 3 | n => n, fun | n => n⟩
theorem Tryz.lays103 : Go.Proofs.Lays.n103 Tryz.prog Tryz.lays103_ren := {
  mixed := by kernel_rfl
  f103 := Tryz.func332.trans (congrArg some (by kernel_rfl))
  f206 := Tryz.func300.trans (congrArg some (by kernel_rfl))
  f210 := Tryz.func343.trans (congrArg some (by kernel_rfl))
  t3 := Tryz.underlying3
  a3 := Tryz.isAgg3
  z3 := Tryz.sizeOf3
  v3 := Tryz.zeroValue3
  t4 := Tryz.underlying4
  a4 := Tryz.isAgg4
  z4 := Tryz.sizeOf4
  v4 := Tryz.zeroValue4
  t9 := Tryz.underlying9
  a9 := Tryz.isAgg9
  z9 := Tryz.sizeOf9
  v9 := Tryz.zeroValue9
  t24 := Tryz.underlying210
  a24 := Tryz.isAgg210
  z24 := Tryz.sizeOf210
  v24 := Tryz.zeroValue210 }
open Go.RowKit in
theorem Tryz.strings_CutPrefix (s p : ByteArray) (w : World) :
    Calls Tryz.prog 332 #[.string s, .string p] w fun e w' => e = .returned (.tuple #[.string ⟨(Lib.trimPrefix s.data.toList p.data.toList).toArray⟩, .bool (Lib.hasPrefix s.data.toList p.data.toList)]) ∧ w' = w := Any.strings_CutPrefix Tryz.lays103 s p w
def Tryz.laysM173_ren : Go.Shelf.Ren := ⟨fun | 173 => 118 | 246 => 171 | 283 => 259 | 284 => 260 | 285 => 261 | 286 => 262 | 129 => 186 | 317 => 302 | 318 => 303 | 319 => 304 | 320 => 305 | 337 => 321 | 338 => 322 | n => n, fun | 2 => 2 | 3 => 3 | 9 => 9 | 4 => 4 | 171 => 264 | 0 => 0 | 53 => 234 | 37 => 266 | 5 => 5 | 173 => 267 | 212 => 304 | 51 => 232 | 20 => 20 | 213 => 305 | 46 => 172 | 232 => 329 | 233 => 330 | n => n, fun | 17 => 3 | 18 => 6 | 19 => 7 | n => n⟩
theorem Tryz.laysM173 : Go.Proofs.LaysM.n173 Tryz.prog Tryz.laysM173_ren := {
  mixed := by kernel_rfl
  f129 := Tryz.func186.trans (congrArg some (by kernel_rfl))
  f173 := Tryz.func118.trans (congrArg some (by kernel_rfl))
  f246 := Tryz.func171.trans (congrArg some (by kernel_rfl))
  f283 := Tryz.func259.trans (congrArg some (by kernel_rfl))
  f284 := Tryz.func260.trans (congrArg some (by kernel_rfl))
  f285 := Tryz.func261.trans (congrArg some (by kernel_rfl))
  f286 := Tryz.func262.trans (congrArg some (by kernel_rfl))
  f317 := Tryz.func302.trans (congrArg some (by kernel_rfl))
  f318 := Tryz.func303.trans (congrArg some (by kernel_rfl))
  f319 := Tryz.func304.trans (congrArg some (by kernel_rfl))
  f320 := Tryz.func305.trans (congrArg some (by kernel_rfl))
  f337 := Tryz.func321.trans (congrArg some (by kernel_rfl))
  f338 := Tryz.func322.trans (congrArg some (by kernel_rfl))
  t0 := Tryz.underlying0
  a0 := Tryz.isAgg0
  z0 := Tryz.sizeOf0
  v0 := Tryz.zeroValue0
  t2 := Tryz.underlying2
  a2 := Tryz.isAgg2
  z2 := Tryz.sizeOf2
  v2 := Tryz.zeroValue2
  t3 := Tryz.underlying3
  a3 := Tryz.isAgg3
  z3 := Tryz.sizeOf3
  v3 := Tryz.zeroValue3
  t4 := Tryz.underlying4
  a4 := Tryz.isAgg4
  z4 := Tryz.sizeOf4
  v4 := Tryz.zeroValue4
  t5 := Tryz.underlying5
  a5 := Tryz.isAgg5
  z5 := Tryz.sizeOf5
  v5 := Tryz.zeroValue5
  t9 := Tryz.underlying9
  a9 := Tryz.isAgg9
  z9 := Tryz.sizeOf9
  v9 := Tryz.zeroValue9
  t20 := Tryz.underlying20
  a20 := Tryz.isAgg20
  z20 := Tryz.sizeOf20
  v20 := Tryz.zeroValue20
  t37 := Tryz.underlying266
  a37 := Tryz.isAgg266
  z37 := Tryz.sizeOf266
  v37 := Tryz.zeroValue266
  t46 := Tryz.underlying172
  a46 := Tryz.isAgg172
  z46 := Tryz.sizeOf172
  v46 := Tryz.zeroValue172
  t51 := Tryz.underlying232
  a51 := Tryz.isAgg232
  z51 := Tryz.sizeOf232
  v51 := Tryz.zeroValue232
  t53 := Tryz.underlying234
  a53 := Tryz.isAgg234
  z53 := Tryz.sizeOf234
  v53 := Tryz.zeroValue234
  t171 := Tryz.underlying264
  a171 := Tryz.isAgg264
  z171 := Tryz.sizeOf264
  v171 := Tryz.zeroValue264
  t173 := Tryz.underlying267
  a173 := Tryz.isAgg267
  z173 := Tryz.sizeOf267
  v173 := Tryz.zeroValue267
  t212 := Tryz.underlying304
  a212 := Tryz.isAgg304
  z212 := Tryz.sizeOf304
  v212 := Tryz.zeroValue304
  t213 := Tryz.underlying305
  a213 := Tryz.isAgg305
  z213 := Tryz.sizeOf305
  t232 := Tryz.underlying329
  a232 := Tryz.isAgg329
  z232 := Tryz.sizeOf329
  v232 := Tryz.zeroValue329
  t233 := Tryz.underlying330
  a233 := Tryz.isAgg330
  z233 := Tryz.sizeOf330
  v233 := Tryz.zeroValue330
  g17 := by kernel_rfl
  g18 := by kernel_rfl
  g19 := by kernel_rfl
  i0 := by kernel_rfl
  i2 := by kernel_rfl
  i3 := by kernel_rfl
  i4 := by kernel_rfl
  i5 := by kernel_rfl
  i9 := by kernel_rfl
  i20 := by kernel_rfl
  i37 := by kernel_rfl
  i46 := by kernel_rfl
  i51 := by kernel_rfl
  i53 := by kernel_rfl
  i171 := by kernel_rfl
  i173 := by kernel_rfl
  i212 := by kernel_rfl
  i232 := by kernel_rfl
  i233 := by kernel_rfl
  m17 := by kernel_rfl
  m18 := by kernel_rfl
  m19 := by kernel_rfl }
open Go.RowKit Go.Sort Go.Lib in
theorem Tryz.strconv_FormatInt_10 (n : Int) (h0 : -9223372036854775808 ≤ n) (h1 : n ≤ 9223372036854775807) (w : World) (htab : Lib.TabIs Tryz.prog w "internal/strconv.uint64pow10" .u64 Lib.pow10Tab) :
    Calls Tryz.prog 118 #[.int .i64 n, .int .i64 10] w fun e w' => e = .returned (.string ⟨(Lib.itoa n).toArray⟩) ∧ ∃ k os, w' = grow (w.drewN k) os := Any.strconv_FormatInt_10 Tryz.laysM173 n h0 h1 w htab
def Tryz.laysPu14_ren : Go.Shelf.Ren := ⟨fun | 14 => 334 | 16 => 345 | 17 => 346 | 19 => 353 | 20 => 354 | 21 => 355 | 22 => 356 | 23 => 357 | 24 => 358 | 25 => 363 | 27 => 365 | 26 => 364 | 28 => 369 | 29 => 171 | 30 => 259 | 31 => 260 | 32 => 261 | 33 => 262 | 35 => 186 | 34 => 302 | 36 => 303 | 37 => 304 | 38 => 305 | 39 => 321 | 40 => 322 | n => n, fun | 9 => 9 | 3 => 3 | 22 => 234 | 24 => 318 | 25 => 326 | 4 => 4 | 34 => 345 | 5 => 5 | 36 => 172 | 37 => 266 | 0 => 0 | 39 => 347 | 21 => 21 | 44 => 353 | 47 => 350 | 50 => 361 | 48 => 359 | 2 => 2 | 52 => 264 | 55 => 267 | 59 => 304 | 60 => 232 | 20 => 20 | 61 => 305 | 65 => 329 | 66 => 330 | 67 => 118 | n => n, fun | 0 => 10 | 1 => 11 | 2 => 3 | 3 => 6 | 4 => 7 | n => n⟩
theorem Tryz.laysPu14 : Go.Proofs.LaysPu.n14 Tryz.prog Tryz.laysPu14_ren := {
  mixed := by kernel_rfl
  f14 := Tryz.func334.trans (congrArg some (by kernel_rfl))
  f16 := Tryz.func345.trans (congrArg some (by kernel_rfl))
  f17 := Tryz.func346.trans (congrArg some (by kernel_rfl))
  f19 := Tryz.func353.trans (congrArg some (by kernel_rfl))
  f20 := Tryz.func354.trans (congrArg some (by kernel_rfl))
  f21 := Tryz.func355.trans (congrArg some (by kernel_rfl))
  f22 := Tryz.func356.trans (congrArg some (by kernel_rfl))
  f23 := Tryz.func357.trans (congrArg some (by kernel_rfl))
  f24 := Tryz.func358.trans (congrArg some (by kernel_rfl))
  f25 := Tryz.func363.trans (congrArg some (by kernel_rfl))
  f26 := Tryz.func364.trans (congrArg some (by kernel_rfl))
  f27 := Tryz.func365.trans (congrArg some (by kernel_rfl))
  f28 := Tryz.func369.trans (congrArg some (by kernel_rfl))
  f29 := Tryz.func171.trans (congrArg some (by kernel_rfl))
  f30 := Tryz.func259.trans (congrArg some (by kernel_rfl))
  f31 := Tryz.func260.trans (congrArg some (by kernel_rfl))
  f32 := Tryz.func261.trans (congrArg some (by kernel_rfl))
  f33 := Tryz.func262.trans (congrArg some (by kernel_rfl))
  f34 := Tryz.func302.trans (congrArg some (by kernel_rfl))
  f35 := Tryz.func186.trans (congrArg some (by kernel_rfl))
  f36 := Tryz.func303.trans (congrArg some (by kernel_rfl))
  f37 := Tryz.func304.trans (congrArg some (by kernel_rfl))
  f38 := Tryz.func305.trans (congrArg some (by kernel_rfl))
  f39 := Tryz.func321.trans (congrArg some (by kernel_rfl))
  f40 := Tryz.func322.trans (congrArg some (by kernel_rfl))
  t0 := Tryz.underlying0
  a0 := Tryz.isAgg0
  z0 := Tryz.sizeOf0
  v0 := Tryz.zeroValue0
  i0 := by kernel_rfl
  t2 := Tryz.underlying2
  a2 := Tryz.isAgg2
  z2 := Tryz.sizeOf2
  v2 := Tryz.zeroValue2
  i2 := by kernel_rfl
  t3 := Tryz.underlying3
  a3 := Tryz.isAgg3
  z3 := Tryz.sizeOf3
  v3 := Tryz.zeroValue3
  i3 := by kernel_rfl
  t4 := Tryz.underlying4
  a4 := Tryz.isAgg4
  z4 := Tryz.sizeOf4
  v4 := Tryz.zeroValue4
  i4 := by kernel_rfl
  t5 := Tryz.underlying5
  a5 := Tryz.isAgg5
  z5 := Tryz.sizeOf5
  v5 := Tryz.zeroValue5
  i5 := by kernel_rfl
  t9 := Tryz.underlying9
  a9 := Tryz.isAgg9
  z9 := Tryz.sizeOf9
  v9 := Tryz.zeroValue9
  i9 := by kernel_rfl
  t20 := Tryz.underlying20
  a20 := Tryz.isAgg20
  z20 := Tryz.sizeOf20
  v20 := Tryz.zeroValue20
  i20 := by kernel_rfl
  t21 := Tryz.underlying21
  a21 := Tryz.isAgg21
  z21 := Tryz.sizeOf21
  v21 := Tryz.zeroValue21
  i21 := by kernel_rfl
  t22 := Tryz.underlying234
  a22 := Tryz.isAgg234
  z22 := Tryz.sizeOf234
  v22 := Tryz.zeroValue234
  i22 := by kernel_rfl
  t24 := Tryz.underlying318
  a24 := Tryz.isAgg318
  z24 := Tryz.sizeOf318
  v24 := Tryz.zeroValue318
  i24 := by kernel_rfl
  t25 := Tryz.underlying326
  a25 := Tryz.isAgg326
  z25 := Tryz.sizeOf326
  v25 := Tryz.zeroValue326
  i25 := by kernel_rfl
  t34 := Tryz.underlying345
  a34 := Tryz.isAgg345
  z34 := Tryz.sizeOf345
  v34 := Tryz.zeroValue345
  i34 := by kernel_rfl
  c34 := by kernel_rfl
  t36 := Tryz.underlying172
  a36 := Tryz.isAgg172
  z36 := Tryz.sizeOf172
  v36 := Tryz.zeroValue172
  i36 := by kernel_rfl
  t37 := Tryz.underlying266
  a37 := Tryz.isAgg266
  z37 := Tryz.sizeOf266
  v37 := Tryz.zeroValue266
  i37 := by kernel_rfl
  t39 := Tryz.underlying347
  a39 := Tryz.isAgg347
  z39 := Tryz.sizeOf347
  v39 := Tryz.zeroValue347
  i39 := by kernel_rfl
  t44 := Tryz.underlying353
  a44 := Tryz.isAgg353
  z44 := Tryz.sizeOf353
  v44 := Tryz.zeroValue353
  i44 := by kernel_rfl
  t47 := Tryz.underlying350
  a47 := Tryz.isAgg350
  z47 := Tryz.sizeOf350
  v47 := Tryz.zeroValue350
  i47 := by kernel_rfl
  t48 := Tryz.underlying359
  a48 := Tryz.isAgg359
  z48 := Tryz.sizeOf359
  v48 := Tryz.zeroValue359
  i48 := by kernel_rfl
  t50 := Tryz.underlying361
  a50 := Tryz.isAgg361
  z50 := Tryz.sizeOf361
  v50 := Tryz.zeroValue361
  i50 := by kernel_rfl
  t52 := Tryz.underlying264
  a52 := Tryz.isAgg264
  z52 := Tryz.sizeOf264
  v52 := Tryz.zeroValue264
  i52 := by kernel_rfl
  t55 := Tryz.underlying267
  a55 := Tryz.isAgg267
  z55 := Tryz.sizeOf267
  v55 := Tryz.zeroValue267
  i55 := by kernel_rfl
  t59 := Tryz.underlying304
  a59 := Tryz.isAgg304
  z59 := Tryz.sizeOf304
  v59 := Tryz.zeroValue304
  i59 := by kernel_rfl
  t60 := Tryz.underlying232
  a60 := Tryz.isAgg232
  z60 := Tryz.sizeOf232
  v60 := Tryz.zeroValue232
  i60 := by kernel_rfl
  t61 := Tryz.underlying305
  a61 := Tryz.isAgg305
  z61 := Tryz.sizeOf305
  t65 := Tryz.underlying329
  a65 := Tryz.isAgg329
  z65 := Tryz.sizeOf329
  v65 := Tryz.zeroValue329
  i65 := by kernel_rfl
  t66 := Tryz.underlying330
  a66 := Tryz.isAgg330
  z66 := Tryz.sizeOf330
  v66 := Tryz.zeroValue330
  i66 := by kernel_rfl
  t67 := Tryz.underlying118
  a67 := Tryz.isAgg118
  z67 := Tryz.sizeOf118
  v67 := Tryz.zeroValue118
  i67 := by kernel_rfl
  g0 := by kernel_rfl
  m0 := by kernel_rfl
  g1 := by kernel_rfl
  m1 := by kernel_rfl
  g2 := by kernel_rfl
  m2 := by kernel_rfl
  g3 := by kernel_rfl
  m3 := by kernel_rfl
  g4 := by kernel_rfl
  m4 := by kernel_rfl }
def Tryz.lays145_ren : Go.Shelf.Ren := ⟨fun | 145 => 333 | 220 => 344 | 219 => 352 | 217 => 258 | 225 => 326 | 224 => 325 | 267 => 362 | 266 => 301 | 314 => 368 | n => n, fun | 9 => 9 | 4 => 4 | 59 => 324 | 3 => 3 | 5 => 5 | 46 => 172 | 146 => 292 | 51 => 232 | n => n, fun | 1 => 2 | n => n⟩
theorem Tryz.lays145 : Go.Proofs.Lays.n145 Tryz.prog Tryz.lays145_ren := {
  mixed := by kernel_rfl
  f145 := Tryz.func333.trans (congrArg some (by kernel_rfl))
  f217 := Tryz.func258.trans (congrArg some (by kernel_rfl))
  f219 := Tryz.func352.trans (congrArg some (by kernel_rfl))
  f220 := Tryz.func344.trans (congrArg some (by kernel_rfl))
  f224 := Tryz.func325.trans (congrArg some (by kernel_rfl))
  f225 := Tryz.func326.trans (congrArg some (by kernel_rfl))
  f266 := Tryz.func301.trans (congrArg some (by kernel_rfl))
  f267 := Tryz.func362.trans (congrArg some (by kernel_rfl))
  f314 := Tryz.func368.trans (congrArg some (by kernel_rfl))
  t3 := Tryz.underlying3
  a3 := Tryz.isAgg3
  z3 := Tryz.sizeOf3
  v3 := Tryz.zeroValue3
  t4 := Tryz.underlying4
  a4 := Tryz.isAgg4
  z4 := Tryz.sizeOf4
  v4 := Tryz.zeroValue4
  t5 := Tryz.underlying5
  a5 := Tryz.isAgg5
  z5 := Tryz.sizeOf5
  v5 := Tryz.zeroValue5
  t9 := Tryz.underlying9
  a9 := Tryz.isAgg9
  z9 := Tryz.sizeOf9
  v9 := Tryz.zeroValue9
  t46 := Tryz.underlying172
  a46 := Tryz.isAgg172
  z46 := Tryz.sizeOf172
  v46 := Tryz.zeroValue172
  t51 := Tryz.underlying232
  a51 := Tryz.isAgg232
  z51 := Tryz.sizeOf232
  v51 := Tryz.zeroValue232
  t59 := Tryz.underlying324
  a59 := Tryz.isAgg324
  z59 := Tryz.sizeOf324
  v59 := Tryz.zeroValue324
  t146 := Tryz.underlying292
  a146 := Tryz.isAgg292
  z146 := Tryz.sizeOf292
  v146 := Tryz.zeroValue292
  g1 := by kernel_rfl }
open Go.RowKit Go.Lib in
theorem Tryz.strings_Cut (s sep : ByteArray) (m : Int) (w : World) (hs : s.size < 4294967281) (hm : w.cell? ⟨2, 0, none⟩ = some (.int .i64 m)) :
    Calls Tryz.prog 333 #[.string s, .string sep] w fun e w' => e = .returned (.tuple #[.string ⟨(Lib.cut s.data.toList sep.data.toList).1.toArray⟩, .string ⟨(Lib.cut s.data.toList sep.data.toList).2.1.toArray⟩, .bool (Lib.cut s.data.toList sep.data.toList).2.2]) ∧ ∃ n, w' = w.drewN n := Any.strings_Cut Tryz.lays145 s sep m w hs hm
def Tryz.lays190_ren : Go.Shelf.Ren := ⟨fun | 190 => 68 | 125 => 121 | 258 => 120 | 128 => 185 | 129 => 186 | 302 => 176 | 303 => 177 | 304 => 178 | 305 => 179 | 306 => 180 | 307 => 181 | 308 => 182 | 309 => 183 | 310 => 184 | 333 => 266 | 329 => 267 | 330 => 268 | 334 => 269 | 335 => 270 | 336 => 271 | 344 => 309 | n => n, fun | 31 => 48 | 9 => 9 | 3 => 3 | 46 => 172 | 0 => 0 | 51 => 232 | 53 => 234 | 4 => 4 | 183 => 224 | 182 => 223 | 131 => 229 | 5 => 5 | 218 => 272 | 222 => 276 | 228 => 308 | 229 => 309 | n => n, fun | n => n⟩
theorem Tryz.lays190 : Go.Proofs.Lays.n190 Tryz.prog Tryz.lays190_ren := {
  mixed := by kernel_rfl
  f125 := Tryz.func121.trans (congrArg some (by kernel_rfl))
  f128 := Tryz.func185.trans (congrArg some (by kernel_rfl))
  f129 := Tryz.func186.trans (congrArg some (by kernel_rfl))
  f190 := Tryz.func68.trans (congrArg some (by kernel_rfl))
  f258 := Tryz.func120.trans (congrArg some (by kernel_rfl))
  f302 := Tryz.func176.trans (congrArg some (by kernel_rfl))
  f303 := Tryz.func177.trans (congrArg some (by kernel_rfl))
  f304 := Tryz.func178.trans (congrArg some (by kernel_rfl))
  f305 := Tryz.func179.trans (congrArg some (by kernel_rfl))
  f306 := Tryz.func180.trans (congrArg some (by kernel_rfl))
  f307 := Tryz.func181.trans (congrArg some (by kernel_rfl))
  f308 := Tryz.func182.trans (congrArg some (by kernel_rfl))
  f309 := Tryz.func183.trans (congrArg some (by kernel_rfl))
  f310 := Tryz.func184.trans (congrArg some (by kernel_rfl))
  f329 := Tryz.func267.trans (congrArg some (by kernel_rfl))
  f330 := Tryz.func268.trans (congrArg some (by kernel_rfl))
  f333 := Tryz.func266.trans (congrArg some (by kernel_rfl))
  f334 := Tryz.func269.trans (congrArg some (by kernel_rfl))
  f335 := Tryz.func270.trans (congrArg some (by kernel_rfl))
  f336 := Tryz.func271.trans (congrArg some (by kernel_rfl))
  f344 := Tryz.func309.trans (congrArg some (by kernel_rfl))
  t0 := Tryz.underlying0
  a0 := Tryz.isAgg0
  z0 := Tryz.sizeOf0
  v0 := Tryz.zeroValue0
  t3 := Tryz.underlying3
  a3 := Tryz.isAgg3
  z3 := Tryz.sizeOf3
  v3 := Tryz.zeroValue3
  t4 := Tryz.underlying4
  a4 := Tryz.isAgg4
  z4 := Tryz.sizeOf4
  v4 := Tryz.zeroValue4
  t5 := Tryz.underlying5
  a5 := Tryz.isAgg5
  z5 := Tryz.sizeOf5
  v5 := Tryz.zeroValue5
  t9 := Tryz.underlying9
  a9 := Tryz.isAgg9
  z9 := Tryz.sizeOf9
  v9 := Tryz.zeroValue9
  t31 := Tryz.underlying48
  a31 := Tryz.isAgg48
  z31 := Tryz.sizeOf48
  v31 := Tryz.zeroValue48
  t46 := Tryz.underlying172
  a46 := Tryz.isAgg172
  z46 := Tryz.sizeOf172
  v46 := Tryz.zeroValue172
  t51 := Tryz.underlying232
  a51 := Tryz.isAgg232
  z51 := Tryz.sizeOf232
  v51 := Tryz.zeroValue232
  t53 := Tryz.underlying234
  a53 := Tryz.isAgg234
  z53 := Tryz.sizeOf234
  v53 := Tryz.zeroValue234
  t131 := Tryz.underlying229
  a131 := Tryz.isAgg229
  z131 := Tryz.sizeOf229
  v131 := Tryz.zeroValue229
  t182 := Tryz.underlying223
  a182 := Tryz.isAgg223
  z182 := Tryz.sizeOf223
  v182 := Tryz.zeroValue223
  t183 := Tryz.underlying224
  a183 := Tryz.isAgg224
  z183 := Tryz.sizeOf224
  v183 := Tryz.zeroValue224
  t218 := Tryz.underlying272
  a218 := Tryz.isAgg272
  z218 := Tryz.sizeOf272
  v218 := Tryz.zeroValue272
  t222 := Tryz.underlying276
  a222 := Tryz.isAgg276
  z222 := Tryz.sizeOf276
  v222 := Tryz.zeroValue276
  t228 := Tryz.underlying308
  a228 := Tryz.isAgg308
  z228 := Tryz.sizeOf308
  v228 := Tryz.zeroValue308
  t229 := Tryz.underlying309
  a229 := Tryz.isAgg309
  z229 := Tryz.sizeOf309
  v229 := Tryz.zeroValue309 }
open Go.Sort Go.RowKit in
theorem Tryz.slices_Sort_string (blk off cap : Nat) (ss : List (List UInt8)) (w : World) (hH : Holds encStr w blk off ss.toArray) (hblk : blk < w.heap.size) (hsz : ss.length < 4611686018427387904) :
    Calls Tryz.prog 68 #[.slice (some ⟨blk, off, none⟩) ss.length cap] w fun e w' =>
      e = .returned (.tuple #[]) ∧ ∃ n os, w' = grow (putRow encStr (Sort.ahead w n) blk off (ss.mergeSort fun x y => decide (x ≤ y)).toArray) os := Any.slices_Sort_string Tryz.lays190 blk off cap ss w hH hblk hsz
def Tryz.lays99_ren : Go.Shelf.Ren := ⟨fun | 99 => 257 | 206 => 300 | n => n, fun | 9 => 9 | 4 => 4 | 3 => 3 | n => n, fun | n => n⟩
theorem Tryz.lays99 : Go.Proofs.Lays.n99 Tryz.prog Tryz.lays99_ren := {
  mixed := by kernel_rfl
  f99 := Tryz.func257.trans (congrArg some (by kernel_rfl))
  f206 := Tryz.func300.trans (congrArg some (by kernel_rfl))
  t3 := Tryz.underlying3
  a3 := Tryz.isAgg3
  z3 := Tryz.sizeOf3
  v3 := Tryz.zeroValue3
  t4 := Tryz.underlying4
  a4 := Tryz.isAgg4
  z4 := Tryz.sizeOf4
  v4 := Tryz.zeroValue4
  t9 := Tryz.underlying9
  a9 := Tryz.isAgg9
  z9 := Tryz.sizeOf9
  v9 := Tryz.zeroValue9 }
open Go.RowKit Go.Lib in
theorem Tryz.strings_HasPrefix (s p : ByteArray) (w : World) :
    Calls Tryz.prog 257 #[.string s, .string p] w fun e w' => e = .returned (.bool (Lib.hasPrefix s.data.toList p.data.toList)) ∧ w' = w := Any.strings_HasPrefix Tryz.lays99 s p w
def Tryz.lays264_ren : Go.Shelf.Ren := ⟨fun | 264 => 288 | n => n, fun | 53 => 234 | 46 => 172 | n => n, fun | n => n⟩
theorem Tryz.lays264 : Go.Proofs.Lays.n264 Tryz.prog Tryz.lays264_ren := {
  mixed := by kernel_rfl
  f264 := Tryz.func288.trans (congrArg some (by kernel_rfl))
  t46 := Tryz.underlying172
  a46 := Tryz.isAgg172
  z46 := Tryz.sizeOf172
  v46 := Tryz.zeroValue172
  t53 := Tryz.underlying234
  a53 := Tryz.isAgg234
  z53 := Tryz.sizeOf234
  v53 := Tryz.zeroValue234 }
open Go.RowKit Go.Lib in
theorem Tryz.bits_Mul64 (x y : Nat) (hx : x < 18446744073709551616) (hy : y < 18446744073709551616) (w : World) :
    Calls Tryz.prog 288 #[.int .u64 x, .int .u64 y] w fun e w' => e = .returned (.tuple #[.int .u64 ((x * y / 18446744073709551616 : Nat) : Int), .int .u64 ((x * y % 18446744073709551616 : Nat) : Int)]) ∧ w' = w := Any.bits_Mul64 Tryz.lays264 x y hx hy w
def Tryz.lays105_ren : Go.Shelf.Ren := ⟨fun | 105 => 335 | 212 => 225 | 99 => 257 | 165 => 347 | 166 => 348 | 170 => 349 | 169 => 350 | 263 => 287 | 264 => 288 | 206 => 300 | 240 => 359 | 241 => 360 | 276 => 366 | 277 => 367 | n => n, fun | 9 => 9 | 3 => 3 | 4 => 4 | 20 => 20 | 0 => 0 | 46 => 172 | 109 => 251 | 5 => 5 | 72 => 341 | 76 => 342 | 51 => 232 | 146 => 292 | 53 => 234 | 148 => 294 | 70 => 339 | 37 => 266 | 75 => 318 | 127 => 350 | 164 => 355 | 80 => 118 | n => n, fun | n => n⟩
theorem Tryz.lays105 : Go.Proofs.Lays.n105 Tryz.prog Tryz.lays105_ren := {
  mixed := by kernel_rfl
  f99 := Tryz.func257.trans (congrArg some (by kernel_rfl))
  f105 := Tryz.func335.trans (congrArg some (by kernel_rfl))
  f165 := Tryz.func347.trans (congrArg some (by kernel_rfl))
  f166 := Tryz.func348.trans (congrArg some (by kernel_rfl))
  f169 := Tryz.func350.trans (congrArg some (by kernel_rfl))
  f170 := Tryz.func349.trans (congrArg some (by kernel_rfl))
  f206 := Tryz.func300.trans (congrArg some (by kernel_rfl))
  f212 := Tryz.func225.trans (congrArg some (by kernel_rfl))
  f240 := Tryz.func359.trans (congrArg some (by kernel_rfl))
  f241 := Tryz.func360.trans (congrArg some (by kernel_rfl))
  f263 := Tryz.func287.trans (congrArg some (by kernel_rfl))
  f264 := Tryz.func288.trans (congrArg some (by kernel_rfl))
  f276 := Tryz.func366.trans (congrArg some (by kernel_rfl))
  f277 := Tryz.func367.trans (congrArg some (by kernel_rfl))
  t0 := Tryz.underlying0
  a0 := Tryz.isAgg0
  z0 := Tryz.sizeOf0
  v0 := Tryz.zeroValue0
  t3 := Tryz.underlying3
  a3 := Tryz.isAgg3
  z3 := Tryz.sizeOf3
  v3 := Tryz.zeroValue3
  t4 := Tryz.underlying4
  a4 := Tryz.isAgg4
  z4 := Tryz.sizeOf4
  v4 := Tryz.zeroValue4
  t5 := Tryz.underlying5
  a5 := Tryz.isAgg5
  z5 := Tryz.sizeOf5
  v5 := Tryz.zeroValue5
  t9 := Tryz.underlying9
  a9 := Tryz.isAgg9
  z9 := Tryz.sizeOf9
  v9 := Tryz.zeroValue9
  t20 := Tryz.underlying20
  a20 := Tryz.isAgg20
  z20 := Tryz.sizeOf20
  v20 := Tryz.zeroValue20
  t37 := Tryz.underlying266
  a37 := Tryz.isAgg266
  z37 := Tryz.sizeOf266
  v37 := Tryz.zeroValue266
  t46 := Tryz.underlying172
  a46 := Tryz.isAgg172
  z46 := Tryz.sizeOf172
  v46 := Tryz.zeroValue172
  t51 := Tryz.underlying232
  a51 := Tryz.isAgg232
  z51 := Tryz.sizeOf232
  v51 := Tryz.zeroValue232
  t53 := Tryz.underlying234
  a53 := Tryz.isAgg234
  z53 := Tryz.sizeOf234
  v53 := Tryz.zeroValue234
  t70 := Tryz.underlying339
  a70 := Tryz.isAgg339
  z70 := Tryz.sizeOf339
  v70 := Tryz.zeroValue339
  t72 := Tryz.underlying341
  a72 := Tryz.isAgg341
  z72 := Tryz.sizeOf341
  v72 := Tryz.zeroValue341
  t75 := Tryz.underlying318
  a75 := Tryz.isAgg318
  z75 := Tryz.sizeOf318
  v75 := Tryz.zeroValue318
  t76 := Tryz.underlying342
  a76 := Tryz.isAgg342
  z76 := Tryz.sizeOf342
  v76 := Tryz.zeroValue342
  t109 := Tryz.underlying251
  a109 := Tryz.isAgg251
  z109 := Tryz.sizeOf251
  v109 := Tryz.zeroValue251
  t127 := Tryz.underlying350
  a127 := Tryz.isAgg350
  z127 := Tryz.sizeOf350
  v127 := Tryz.zeroValue350
  t146 := Tryz.underlying292
  a146 := Tryz.isAgg292
  z146 := Tryz.sizeOf292
  v146 := Tryz.zeroValue292
  t148 := Tryz.underlying294
  a148 := Tryz.isAgg294
  z148 := Tryz.sizeOf294
  v148 := Tryz.zeroValue294
  t164 := Tryz.underlying355
  a164 := Tryz.isAgg355
  z164 := Tryz.sizeOf355
  v164 := Tryz.zeroValue355 }
theorem Tryz.Builder_Extra_105 : Builder.Extra Tryz.prog Tryz.lays105_ren := {
  sizeBuilder := by kernel_rfl
  liesBuilder := by kernel_rfl
  t5 := Tryz.underlying5
  a5 := Tryz.isAgg5
  z5 := Tryz.sizeOf5
  v5 := Tryz.zeroValue5
  infoByte := by kernel_rfl
  cellsByte := by kernel_rfl
  sizeByte := by kernel_rfl
  neB5 := by decide }
open Go.RowKit Go.Lib in
theorem Tryz.strings_Repeat_main (s : ByteArray) (c : Nat) (w : World) (hc2 : 2 ≤ c) (hc : c ≤ 9223372036854775807) (hlen : s.size * c ≤ 140737488355328) (h0 : 0 < s.size) :
    Calls Tryz.prog 335 #[.string s, .int .i64 c] w fun e w' => e = .returned (.string ⟨(Lib.repeatL s.data.toList c).toArray⟩) ∧ Below w.heap.size w w' := Any.strings_Repeat_main Tryz.lays105 Tryz.Builder_Extra_105 s c w hc2 hc hlen h0
open Go.RowKit Go.Lib in
theorem Tryz.strings_Repeat_zero (s : ByteArray) (w : World) :
    Calls Tryz.prog 335 #[.string s, .int .i64 0] w fun e w' => e = .returned (.string ⟨#[]⟩) ∧ w' = w := Any.strings_Repeat_zero Tryz.lays105 s w
open Go.RowKit Go.Lib in
theorem Tryz.strings_Repeat_one (s : ByteArray) (w : World) :
    Calls Tryz.prog 335 #[.string s, .int .i64 1] w fun e w' => e = .returned (.string s) ∧ w' = w := Any.strings_Repeat_one Tryz.lays105 s w
def Tryz.lays194_ren : Go.Shelf.Ren := ⟨fun | 194 => 69 | n => n, fun | 31 => 48 | 9 => 9 | 3 => 3 | 4 => 4 | 0 => 0 | n => n, fun | n => n⟩
theorem Tryz.lays194 : Go.Proofs.Lays.n194 Tryz.prog Tryz.lays194_ren := {
  mixed := by kernel_rfl
  f194 := Tryz.func69.trans (congrArg some (by kernel_rfl))
  t0 := Tryz.underlying0
  a0 := Tryz.isAgg0
  z0 := Tryz.sizeOf0
  v0 := Tryz.zeroValue0
  t3 := Tryz.underlying3
  a3 := Tryz.isAgg3
  z3 := Tryz.sizeOf3
  v3 := Tryz.zeroValue3
  t4 := Tryz.underlying4
  a4 := Tryz.isAgg4
  z4 := Tryz.sizeOf4
  v4 := Tryz.zeroValue4
  t9 := Tryz.underlying9
  a9 := Tryz.isAgg9
  z9 := Tryz.sizeOf9
  v9 := Tryz.zeroValue9
  t31 := Tryz.underlying48
  a31 := Tryz.isAgg48
  z31 := Tryz.sizeOf48
  v31 := Tryz.zeroValue48 }
open Go.RowKit Go.Lib Go.Sort in
theorem Tryz.slices_Compact_string (blk off cap : Nat) (zs : List (List UInt8)) (w : World) (hH : Holds encStr w blk off zs.toArray) (hsz : zs.length ≤ 9223372036854775807) (hcap : zs.length ≤ cap) :
    Calls Tryz.prog 69 #[.slice (some ⟨blk, off, none⟩) zs.length cap] w fun e w' => e = .returned (.slice (some ⟨blk, off, none⟩) (Lib.compact zs).length cap) ∧ ∃ q, w' = putRow encStr (Sort.ahead w q) blk off (Lib.compact zs ++ List.replicate (zs.length - (Lib.compact zs).length) []).toArray := Any.slices_Compact_string Tryz.lays194 blk off cap zs w hH hsz hcap
open Go.RowKit Go.Lib Go.Sort in
theorem Tryz.slices_Compact_string_empty (a : Option Addr) (cap : Nat) (w : World) :
    Calls Tryz.prog 69 #[.slice a 0 cap] w fun e w' => e = .returned (.slice a 0 cap) ∧ w' = w := Any.slices_Compact_string_empty Tryz.lays194 a cap w
open Go.RowKit Go.Sort in
theorem Tryz.slices_Sort_string_none (p : Option Addr) (cap : Nat) (w : World) :
    Calls Tryz.prog 68 #[.slice p 0 cap] w fun e w' => e = .returned (.tuple #[]) ∧ w' = w := Any.slices_Sort_string_none Tryz.lays190 p cap w
end Go.Proofs
namespace Go.Proofs.YtomkgfdigldhcaaGreatDoor
open Go.KX Go.RowKit Go.Sort
structure GlF (w : World) : Prop where
  pow10 : Lib.TabIs Tryz.prog w "internal/strconv.uint64pow10" .u64 Lib.pow10Tab
  maxlen : ∃ m, w.cell? ⟨2, 0, none⟩ = some (.int .i64 m)
  esyn : ∃ ev, w.cell? ⟨10, 0, none⟩ = some ev ∧ (ev = .nilIface ∨ ∃ te pe, ev = .iface te pe)
  signs : ∀ (j : Nat) x, signsT[j]? = some x → w.cell? ⟨1, j, none⟩ = some (str x)
  levels : ∀ (j : Nat) ls, levelsT[j]? = some ls → ∃ b o c, w.cell? ⟨0, j, none⟩ = some (.slice (some ⟨b, o, none⟩) ls.length c) ∧ ls.length ≤ c ∧ ∀ (k : Nat) x, ls[k]? = some x → w.cell? ⟨b, o + k, none⟩ = some (str x)
theorem GlF.below {w w' : World} (h : GlF w) (hb : Below w.heap.size w w') : GlF w' :=
  ⟨tab_below (b := 3) (by kernel_rfl) h.pow10 hb, h.maxlen.elim fun m hm => ⟨m, KX.cell_below hb hm⟩, h.esyn.elim fun ev he => ⟨ev, KX.cell_below hb he.1, he.2⟩,
    fun j x hj => KX.cell_below hb (h.signs j x hj), fun j ls hj => by
      obtain ⟨b, o, c, h1, h2, h3⟩ := h.levels j ls hj
      exact ⟨b, o, c, KX.cell_below hb h1, h2, fun k x hk => KX.cell_below hb (h3 k x hk)⟩⟩
abbrev gT : List MF := [factF GlF]
theorem glf {g : GW} (h : All gT g) : GlF g.w := factF_at (fun _ _ => GlF.below) (h _ (.head _))
theorem fmt_ok {n : Int} (h0 : -9223372036854775808 ≤ n) (h1 : n ≤ 9223372036854775807) : Fc Tryz.prog gT 118 [nI n, nI 10] (.str (Lib.itoa n)) :=
  Fc_lib ⟨_, Tryz.func118, rfl, by kernel_rfl⟩ fun ρ g vs hf ha => by
    rw [args_v (xs := [.int .i64 n, .int .i64 10]) rfl ha]
    refine (Tryz.strconv_FormatInt_10 n h0 h1 g.w (glf hf).pow10).mono ?_
    rintro e w' ⟨rfl, k, os, rfl⟩
    exact ⟨_, rfl, (below_drewN _ k).trans (show Below g.w.heap.size _ _ from below_grow (g.w.drewN k) os), fun _ _ => .str⟩
theorem fmtI {p : Int} {x : Nat} (hp : p = x) (hx : x < 10000000000000000) : Fc Tryz.prog gT 118 [nI p, nI 10] (.str (Lib.decDigits x)) := by
  subst hp
  rw [← Lib.itoa_nonneg]
  exact fmt_ok (by omega) (by omega)
theorem trim0_ok {s : Bytes} (hs : s.length ≤ 9223372036854775807) : Fc Tryz.prog gT 119 [.str s, .str [48]] (.str (Lib.trimRightB s 48)) :=
  Fc_lib ⟨_, Tryz.func119, rfl, by kernel_rfl⟩ fun ρ g vs hf ha => by
    rw [args_v (xs := [str s, str [48]]) rfl ha]
    refine (Tryz.strings_TrimRight_one ⟨s.toArray⟩ 48 (by decide) g.w (by simpa [ByteArray.size] using hs)).mono ?_
    rintro e w' ⟨rfl, rfl⟩
    exact ⟨_, rfl, Below.refl _ _, fun _ _ => .str⟩
theorem cutp_ok {s p : Bytes} : Fc Tryz.prog gT 332 [.str s, .str p] (.t [.str (Lib.trimPrefix s p), bS (Lib.hasPrefix s p)]) :=
  Fc_lib ⟨_, Tryz.func332, rfl, by kernel_rfl⟩ fun ρ g vs hf ha => by
    rw [args_v (xs := [str s, str p]) rfl ha]
    refine (Tryz.strings_CutPrefix ⟨s.toArray⟩ ⟨p.toArray⟩ g.w).mono ?_
    rintro e w' ⟨rfl, rfl⟩
    exact ⟨_, rfl, Below.refl _ _, fun _ _ => .t [_, _] rfl (DenL.cons .str (DenL.cons .v DenL.nil)).2⟩
theorem cut_ok {s p : Bytes} (hs : s.length < 4294967281) : Fc Tryz.prog gT 333 [.str s, .str p] (.t [.str (Lib.cut s p).1, .str (Lib.cut s p).2.1, bS (Lib.cut s p).2.2]) :=
  Fc_lib ⟨_, Tryz.func333, rfl, by kernel_rfl⟩ fun ρ g vs hf ha => by
    rw [args_v (xs := [str s, str p]) rfl ha]
    obtain ⟨m, hm⟩ := (glf hf).maxlen
    refine (Tryz.strings_Cut ⟨s.toArray⟩ ⟨p.toArray⟩ m g.w (by simpa [ByteArray.size] using hs) hm).mono ?_
    rintro e w' ⟨rfl, n, rfl⟩
    exact ⟨_, rfl, below_drewN _ n, fun _ _ => .t [_, _, _] rfl (DenL.cons .str (DenL.cons .str (DenL.cons .v DenL.nil))).2⟩
abbrev nU (n : Int) : SV := .v (.int .u64 n)
theorem mul64_ok {x y : Nat} (hx : x < 18446744073709551616) (hy : y < 18446744073709551616) : Fc Tryz.prog gT 288 [nU x, nU y] (.t [nU ((x * y / 18446744073709551616 : Nat) : Int), nU ((x * y % 18446744073709551616 : Nat) : Int)]) :=
  Fc_lib ⟨_, Tryz.func288, rfl, by kernel_rfl⟩ fun ρ g vs hf ha => by
    rw [args_v (xs := [.int .u64 x, .int .u64 y]) rfl ha]
    refine (Tryz.bits_Mul64 x y hx hy g.w).mono ?_
    rintro e w' ⟨rfl, rfl⟩
    exact ⟨_, rfl, Below.refl _ _, fun _ _ => .t [_, _] rfl (DenL.cons .v (DenL.cons .v DenL.nil)).2⟩
theorem mul64I_ok {p q : Int} {x y : Nat} (hp : p = x) (hq : q = y) (hx : x < 18446744073709551616) (hy : y < 18446744073709551616) : Fc Tryz.prog gT 288 [nU p, nU q] (.t [nU ((x * y / 18446744073709551616 : Nat) : Int), nU ((x * y % 18446744073709551616 : Nat) : Int)]) := by
  subst hp hq
  exact mul64_ok hx hy
theorem lz1000_ok : Fc Tryz.prog gT 319 [nU 1000] (nI 54) :=
  Fc_lib ⟨_, Tryz.func319, rfl, by kernel_rfl⟩ fun ρ g vs hf ha => by
    rw [args_v (xs := [.int .u64 1000]) rfl ha]
    refine (Tryz.bits_LeadingZeros64 1000 g.w (by decide) (by decide)).mono ?_
    rintro e w' ⟨rfl, rfl⟩
    exact ⟨_, rfl, Below.refl _ _, fun _ _ => by rw [show (64 : Int) - Lib.bitLen (1000 : Int).toNat = 54 by decide]; exact .v⟩
theorem rep_ok {s : Bytes} {c : Nat} (hlen : s.length * c ≤ 140737488355328) (hc : c ≤ 9223372036854775807) (h0 : 0 < s.length) : Fc Tryz.prog gT 335 [.str s, nI c] (.str (Lib.repeatL s c)) :=
  Fc_lib ⟨_, Tryz.func335, rfl, by kernel_rfl⟩ fun ρ g vs hf ha => by
    rw [args_v (xs := [str s, .int .i64 c]) rfl ha]
    rcases c with _ | _ | c
    · refine (Tryz.strings_Repeat_zero ⟨s.toArray⟩ g.w).mono ?_
      rintro e w' ⟨rfl, rfl⟩
      exact ⟨_, rfl, Below.refl _ _, fun _ _ => .str⟩
    · refine (Tryz.strings_Repeat_one ⟨s.toArray⟩ g.w).mono ?_
      rintro e w' ⟨rfl, rfl⟩
      exact ⟨_, rfl, Below.refl _ _, fun _ _ => by rw [show Lib.repeatL s (0 + 1) = s by simp [Lib.repeatL]]; exact .str⟩
    · refine (Tryz.strings_Repeat_main ⟨s.toArray⟩ (c + 2) g.w (by omega) hc (by simpa [ByteArray.size] using hlen) (by simpa [ByteArray.size] using h0)).mono ?_
      rintro e w' ⟨rfl, hb⟩
      exact ⟨_, rfl, hb, fun _ _ => .str⟩
/-- A package-level variable's block is never written. -/
theorem glfz {g : GW} (h : All gT g) {b o : Nat} (hc : ∀ w, GlF w → ∃ v, w.cell? ⟨b, o, none⟩ = some v) : g.fz b := by
  obtain ⟨w0, h1, h2, h3⟩ := h (factF GlF) (.head _)
  obtain ⟨v, hv⟩ := hc w0 h1
  exact h3 b (World.block_lt_of_cell? w0 _ hv)
theorem signs_den : ∀ g ρ, All gT g → Den g ρ (.p (signsT.map .str)) (.pointer (some ⟨1, 0, none⟩)) := fun g ρ h => by
  refine .p (signsT.map str) (by simp) (glfz (o := 0) h fun w hw => ⟨_, hw.signs 0 _ rfl⟩) (fun k x hk => ?_) (fun ρ' j sv x h1 h2 => ?_)
  · simp only [List.getElem?_map, Option.map_eq_some_iff] at hk
    obtain ⟨s, hs, rfl⟩ := hk
    have := (glf h).signs k s hs
    simpa using this
  · simp only [List.getElem?_map, Option.map_eq_some_iff] at h1 h2
    obtain ⟨s, hs, rfl⟩ := h1
    obtain ⟨s', hs', rfl⟩ := h2
    rw [hs] at hs'
    cases hs'
    exact .str
theorem levels_den : ∀ g ρ, All gT g → Den g ρ (.p (levelsT.map rB)) (.pointer (some ⟨0, 0, none⟩)) := fun g ρ h => by
  obtain ⟨w0, h1, h2, h3⟩ := h (factF GlF) (.head _)
  have key : ∀ (j : Nat) ls, levelsT[j]? = some ls → ∃ v, g.w.cell? ⟨0, j, none⟩ = some v ∧ ∀ ρ', Den g ρ' (rB ls) v := by
    intro j ls hj
    obtain ⟨b, o, c, e1, e2, e3⟩ := h1.levels j ls hj
    have hlen : ls.length ≤ 6 ∧ ls ≠ [] := by
      have : ∀ ls ∈ levelsT, ls.length ≤ 6 ∧ ls ≠ [] := by decide
      exact this ls (List.mem_of_getElem? hj)
    obtain ⟨s0, hs0⟩ : ∃ s0, ls[0]? = some s0 := by
      cases ls with
      | nil => exact absurd rfl hlen.2
      | cons a _ => exact ⟨a, rfl⟩
    have hfz : g.fz b := h3 b (World.block_lt_of_cell? w0 _ (e3 0 s0 hs0))
    refine ⟨_, KX.cell_below h2 e1, fun ρ' => ?_⟩
    have : Den g ρ' (.s 1 (ls.map fun s => [.str s])) (.slice (some ⟨b, o, none⟩) (ls.map fun s => [SV.str s]).length c) := .s (ls.map str) (by simp [maxLen]; omega) (by simpa using e2) (by simp) (fun r hr => by
        obtain ⟨s, _, rfl⟩ := List.mem_map.1 hr
        rfl) ⟨fun u hu => by
        obtain ⟨s, _, rfl⟩ := List.mem_map.1 hu
        rfl, fun h => absurd h (by decide)⟩ (fun _ => ⟨b, o, rfl, hfz, fun k x hk => ?_⟩) (fun ρ'' i j r sv x hi hj hx => ?_)
    · simpa using this
    · simp only [List.getElem?_map, Option.map_eq_some_iff] at hk
      obtain ⟨s, hs, rfl⟩ := hk
      exact KX.cell_below h2 (e3 k s hs)
    · simp only [List.getElem?_map, Option.map_eq_some_iff] at hi
      obtain ⟨s, hs, rfl⟩ := hi
      cases j with
      | zero =>
        simp only [List.getElem?_cons_zero, Option.some.injEq] at hj
        subst hj
        simp only [Nat.mul_one, Nat.add_zero, List.getElem?_map, hs, Option.map_some, Option.some.injEq] at hx
        subst hx
        exact .str
      | succ j => simp at hj
  have hx : ∃ xs : List Value, xs.length = 5 ∧ ∀ (j : Nat) ls x, levelsT[j]? = some ls → xs[j]? = some x → g.w.cell? ⟨0, j, none⟩ = some x ∧ ∀ ρ', Den g ρ' (rB ls) x := by
    obtain ⟨v0, a0, b0⟩ := key 0 _ rfl
    obtain ⟨v1, a1, b1⟩ := key 1 _ rfl
    obtain ⟨v2, a2, b2⟩ := key 2 _ rfl
    obtain ⟨v3, a3, b3⟩ := key 3 _ rfl
    obtain ⟨v4, a4, b4⟩ := key 4 _ rfl
    refine ⟨[v0, v1, v2, v3, v4], rfl, fun j ls x hj hx => ?_⟩
    match j, hj, hx with
    | 0, hj, hx => cases hj; cases hx; exact ⟨a0, b0⟩
    | 1, hj, hx => cases hj; cases hx; exact ⟨a1, b1⟩
    | 2, hj, hx => cases hj; cases hx; exact ⟨a2, b2⟩
    | 3, hj, hx => cases hj; cases hx; exact ⟨a3, b3⟩
    | 4, hj, hx => cases hj; cases hx; exact ⟨a4, b4⟩
    | n + 5, hj, hx => simp at hx
  obtain ⟨xs, hxl, hxs⟩ := hx
  have at5 : ∀ {j : Nat} {x : Value}, xs[j]? = some x → ∃ ls, levelsT[j]? = some ls := by
    intro j x hj
    have : j < xs.length := by
      rcases Nat.lt_or_ge j xs.length with h | h
      · exact h
      · rw [List.getElem?_eq_none h] at hj; cases hj
    have h5 : j < levelsT.length := by rw [hxl] at this; exact this
    exact ⟨levelsT[j], List.getElem?_eq_getElem h5⟩
  refine .p xs (by rw [hxl]; rfl) (glfz (o := 0) h fun w hw => (hw.levels 0 _ rfl).elim fun b hb => hb.elim fun o ho => ho.elim fun c hc => ⟨_, hc.1⟩) (fun k x hk => ?_) (fun ρ' j sv x h1 h2 => ?_)
  · obtain ⟨ls, hls⟩ := at5 hk
    have := (hxs k ls x hls hk).1
    simpa using this
  · simp only [List.getElem?_map, Option.map_eq_some_iff] at h1
    obtain ⟨ls, hls, rfl⟩ := h1
    exact (hxs j ls x hls h2).2 ρ'
theorem ib_ok {g : Bytes} {n : Int} {c : UInt8} (hn : n = c.toNat) : Fc Tryz.prog gT 170 [.str g, .v (.int .u8 n)] (nI (Lib.indexByte g c)) :=
  Fc_lib ⟨_, Tryz.func170, rfl, by kernel_rfl⟩ fun ρ w vs hf ha => by
    rw [args_v (xs := [str g, .int .u8 n]) rfl ha]
    refine (Tryz.strings_IndexByte ⟨g.toArray⟩ n w.w).mono ?_
    rintro e w' ⟨rfl, rfl⟩
    exact ⟨_, rfl, Below.refl _ _, fun _ _ => by rw [hn, show ((c.toNat : Int)).toNat.toUInt8 = c by simp]; exact .v⟩
theorem hp_ok {s p : Bytes} : Fc Tryz.prog gT 257 [.str s, .str p] (bS (Lib.hasPrefix s p)) :=
  Fc_lib ⟨_, Tryz.func257, rfl, by kernel_rfl⟩ fun ρ w vs hf ha => by
    rw [args_v (xs := [str s, str p]) rfl ha]
    refine (Tryz.strings_HasPrefix ⟨s.toArray⟩ ⟨p.toArray⟩ w.w).mono ?_
    rintro e w' ⟨rfl, rfl⟩
    exact ⟨_, rfl, Below.refl _ _, fun _ _ => .v⟩
theorem uintG_ok {t : Bytes} {n : Nat} (h0 : t ≠ []) (h16 : t.length ≤ 16) (h : Lib.parseUintM M62 0 t = .ok n) : Fc Tryz.prog gT 334 [.str t, nI 10, nI 62] (.t [nU n, .v .nilIface]) :=
  Fc_lib ⟨_, Tryz.func334, rfl, by kernel_rfl⟩ fun ρ w vs hf ha => by
    rw [args_v (xs := [str t, .int .i64 10, .int .i64 62]) rfl ha]
    refine (uint_ok Tryz.laysPu14 ⟨t.toArray⟩ (by simpa [ByteArray.size] using h0) (by simpa [ByteArray.size] using h16) n (by simpa using h) w.w).mono ?_
    rintro e w' ⟨rfl, rfl⟩
    exact ⟨_, rfl, Lib.bytesWorld_below _ _ _, fun _ _ => .t [_, _] rfl (DenL.cons .v (DenL.cons .v DenL.nil)).2⟩
theorem uintG_bad {t : Bytes} (h0 : t ≠ []) (h16 : t.length ≤ 16) (h : Lib.parseUintM M62 0 t = synU) : Fc Tryz.prog gT 334 [.str t, nI 10, nI 62] (.t [nU 0, .ni]) :=
  Fc_lib ⟨_, Tryz.func334, rfl, by kernel_rfl⟩ fun ρ w vs hf ha => by
    rw [args_v (xs := [str t, .int .i64 10, .int .i64 62]) rfl ha]
    obtain ⟨ev, hv, hev⟩ := (glf hf).esyn
    refine (uint_bad Tryz.laysPu14 ⟨t.toArray⟩ (by simpa [ByteArray.size] using h0) (by simpa [ByteArray.size] using h16) (by simpa using h) ev w.w hv hev).mono ?_
    rintro e w' ⟨v, rfl, hb⟩
    exact ⟨_, rfl, hb, fun _ _ => .t [_, _] rfl (DenL.cons .v (DenL.cons .ni DenL.nil)).2⟩
end Go.Proofs.YtomkgfdigldhcaaGreatDoor
namespace Go.KX
/-- Slots that do not speak of the local thing i; what is covered is dropped. -/
def cln (i : Nat) : List Nat → SL → SL
  | _, [] => []
  | seen, (t, sv) :: r => match seen.elem t with
    | true => cln i seen r
    | false => match occ i sv with
      | true => cln i (t :: seen) r
      | false => (t, sv) :: cln i (t :: seen) r
theorem cln_lk {i : Nat} : ∀ {L : SL} {seen : List Nat} {t : Nat} {sv : SV}, lkS (cln i seen L) t = some sv → seen.elem t = false ∧ lkS L t = some sv ∧ occ i sv = false
  | [], seen, t, sv, h => by simp [cln, lkS] at h
  | (u, x) :: r, seen, t, sv, h => by
    unfold cln at h
    cases hs : seen.elem u with
    | true =>
      rw [hs] at h
      obtain ⟨h1, h2, h3⟩ := cln_lk (L := r) h
      have htu : t ≠ u := by rintro rfl; rw [hs] at h1; cases h1
      exact ⟨h1, by rw [lkS_ne _ _ htu]; exact h2, h3⟩
    | false =>
      rw [hs] at h
      cases ho : occ i x with
      | true =>
        rw [ho] at h
        obtain ⟨h1, h2, h3⟩ := cln_lk (L := r) h
        have htu : t ≠ u := by rintro rfl; simp at h1
        have h4 : seen.elem t = false := by simp at h1 ⊢; exact h1.2
        exact ⟨h4, by rw [lkS_ne _ _ htu]; exact h2, h3⟩
      | false =>
        rw [ho] at h
        by_cases htu : t = u
        · subst htu
          simp only [lkS_same] at h
          cases h
          exact ⟨hs, lkS_same _ _ _, ho⟩
        · simp only at h
          rw [lkS_ne _ _ htu] at h
          obtain ⟨h1, h2, h3⟩ := cln_lk (L := r) h
          have h4 : seen.elem t = false := by simp at h1 ⊢; exact h1.2
          exact ⟨h4, by rw [lkS_ne _ _ htu]; exact h2, h3⟩
/-- The block i is there once, and nowhere else spoken of. -/
def onceM (i : Nat) : SM → Bool
  | [] => false
  | (j, m) :: r => match Nat.beq i j with
    | true => !(occM i r)
    | false => !(occM i [(j, m)]) && onceM i r
theorem DenM.setU {g : GW} {ρ : Nat → Lc} : ∀ {M : SM} {ms : List Res} {i : Nat} {mb : MB}, onceM i M = true → DenM g ρ M ms → lkM M i = some mb → ∃ r m1 m2, ms = m1 ++ r :: m2 ∧ DenB g ρ i mb r ∧
    ∀ {β : Type} {mb' : MB} {K : SM → Option β} {res : β}, updK M i mb' K = some res → ∃ M', K M' = some res ∧ ∀ g' y r', DenM g' ρ M (m1 ++ r :: m2) → DenB g' (fun j => if j = i then y else ρ j) i mb' r' → DenM g' (fun j => if j = i then y else ρ j) M' (m1 ++ r' :: m2)
  | [], _, _, _, ho, _, _ => by cases ho
  | (j, m) :: M, _, i, mb, ho, @DenM.cons _ _ _ _ _ r0 ms0 hb t, h => by
    unfold lkM at h
    unfold onceM at ho
    cases hij : Nat.beq i j with
    | true =>
      rw [hij] at h ho
      simp only [Option.some.injEq] at h
      subst h
      have hj := Nat.eq_of_beq_eq_true hij
      subst hj
      refine ⟨r0, [], ms0, rfl, hb, fun {β mb' K res} hu => ?_⟩
      simp only [updK, hij] at hu
      exact ⟨_, hu, fun g' y r' hM hB => by
        cases hM with
        | cons _ t' => exact .cons hB (occ_upd t' (by simpa using ho))⟩
    | false =>
      rw [hij] at h ho
      simp only [Bool.and_eq_true, Bool.not_eq_true'] at ho
      obtain ⟨r, m1, m2, rfl, hB, hu⟩ := DenM.setU (M := M) ho.2 t h
      refine ⟨r, r0 :: m1, m2, rfl, hB, fun {β mb' K res} hu' => ?_⟩
      simp only [updK, hij] at hu'
      obtain ⟨M', h1, h2⟩ := hu hu'
      exact ⟨_, h1, fun g' y r' hM hB => by
        cases hM with
        | cons hb' t' =>
          have := occ_upd (y := y) (.cons hb' .nil : DenM g' ρ [(j, m)] [r0]) ho.1
          cases this with
          | cons hb2 _ => exact .cons hb2 (h2 g' y r' t' hB)⟩
theorem chunks {sz : Nat} (hz : 0 < sz) : ∀ (n : Nat) (xs : List Value), xs.length = n * sz → (∀ u ∈ xs, u.oneCell' = true) → ∃ ys : List (Row sz), ys.length = n ∧ flat (elRow sz hz) ys = xs
  | 0, xs, hl, _ => ⟨[], rfl, by
      have : xs = [] := List.eq_nil_of_length_eq_zero (by simpa using hl)
      rw [this]; rfl⟩
  | n + 1, xs, hl, h1 => by
    have hs : (n + 1) * sz = n * sz + sz := Nat.succ_mul n sz
    obtain ⟨ys, h2, h3⟩ := chunks hz n (xs.drop sz) (by rw [List.length_drop]; omega) (fun u hu => h1 u (List.mem_of_mem_drop hu))
    refine ⟨⟨xs.take sz, by rw [List.length_take]; omega, fun u hu => h1 u (List.mem_of_mem_take hu)⟩ :: ys, by simp [h2], ?_⟩
    simp only [flat, List.flatMap_cons] at h3 ⊢
    rw [h3]
    exact List.take_append_drop _ _
section
variable {X : Kx} {k : List It} {L : SL} {M : SM} {fs : List MF} {own : List Res} {arr : Array Oper} {l : List Oper} {o : Oper}
/-- A nil slice, as rows that are owned. -/
theorem sonl (t i T sz : Nat) (h : ES X arr l k ((t, .o i 0) :: L) ((i, .r T sz []) :: M) fs own) (hi : lkS L t = some (.s 0 []) := by rfl) (hoc : (occSL i L || occM i M) = false := by rfl) (hlt : Nat.blt i 1000 = true := by rfl) (hz : 0 < sz := by decide) : ES X arr l k L M fs own := by
  intro g a s
  obtain ⟨ρ, ms, h1, h2, h3⟩ := s
  simp only [Bool.or_eq_false_iff] at hoc
  have hlt : i < 1000 := by simpa [Nat.blt_eq] using hlt
  let y : Lc := ⟨0, none, 0⟩
  have hB : DenB g (fun j => if j = i then y else ρ j) i (.r T sz []) (Res.arr (elRow sz hz) T ((fun j => if j = i then y else ρ j) i).ad ((fun j => if j = i then y else ρ j) i).c []) := .r hz [] rfl (fun ρ' k x r h => by simp at h)
  simp only [if_pos] at hB
  refine h g a ⟨fun j => if j = i then y else ρ j, Res.arr (elRow sz hz) T none 0 [] :: ms, ⟨h1.kn, h1.all, h1.own.arr_nil (elRow sz hz) T, h1.ext, h1.new⟩, .cons hB (occ_upd h2 hoc.2), fun j hj => ?_, fun u sv hu => ?_⟩
  · have : j ≠ i := by omega
    simp only [if_neg this]; exact h3.pin j hj
  · by_cases hut : u = t
    · subst hut
      rw [lkS_same] at hu
      cases hu
      obtain ⟨x, hx, dx⟩ := h3.val u _ hi
      refine ⟨x, hx, ?_⟩
      cases dx with
      | s xs _ _ _ _ ho _ _ =>
        obtain ⟨rfl, rfl⟩ := ho.2 rfl
        have : Den g (fun j => if j = i then y else ρ j) (.o i 0) (.slice ((fun j => if j = i then y else ρ j) i).ad 0 ((fun j => if j = i then y else ρ j) i).c) := .o
        simpa [y] using this
    · rw [lkS_ne _ _ hut] at hu
      obtain ⟨x, hx, dx⟩ := h3.val u sv hu
      exact ⟨x, hx, dx.upd (occSL_get hoc.1 u sv hu)⟩
theorem eonl (t i T sz : Nat) (h : E X k ((t, .o i 0) :: L) ((i, .r T sz []) :: M) fs own) (hi : lkS L t = some (.s 0 []) := by rfl) (hoc : (occSL i L || occM i M) = false := by rfl) (hlt : Nat.blt i 1000 = true := by rfl) (hz : 0 < sz := by decide) : E X k L M fs own :=
  sonl (arr := #[]) (l := []) t i T sz (ES_nil h) hi hoc hlt hz |> fun h => h
/-- What the rows are. -/
def rowsD {sz : Nat} (ys : List (Row sz)) (rows : List (List SV)) : MF := ⟨fun g => ∀ (ρ' : Nat → Lc) (k : Nat) x r, ys[k]? = some x → rows[k]? = some r → DenL g ρ' r x.1, fun e h ρ' k x r h1 h2 => (h ρ' k x r h1 h2).mono e⟩
/-- Owned rows are laid open: they are never written again. -/
theorem sezo (t : Nat) {i n T sz : Nat} {rows : List (List SV)} (hn : n = rows.length) (h : ES X arr l k ((t, .s sz rows) :: L) (frM i (.r T sz rows) M) fs own) (hi : lkS L t = some (.o i n) := by rfl) (hm : lkM M i = some (.r T sz rows) := by rfl) (hr : ∀ r ∈ rows, r.length = sz) : ES X arr l k L M fs own := by
  intro g a s
  obtain ⟨ρ, ms, st⟩ := s.open
  have hM : DenM g ρ M ms := st.all _ (.head _)
  obtain ⟨r, m1, m2, rfl, hB, hu⟩ := hM.take hm
  have hp : (m1 ++ r :: m2 ++ own).Perm (r :: (m1 ++ m2 ++ own)) := by
    simp only [List.append_assoc, List.cons_append]
    exact List.perm_middle
  cases hB with
  | r hz ys hl hd =>
    have stp0 := st.perm hp
    have stp : St X.toCx [] (rowsD ys rows :: F1 ρ M _ :: F2 X ρ L a :: fs) _ g a := ⟨stp0.kn, All.cons hd stp0.all, stp0.own, stp0.ext, stp0.new⟩
    obtain ⟨g', hw, s'⟩ := stp.publish .head
    have hd' : (rowsD ys rows).p g' := s'.all _ (.tail _ (.head _))
    have hsm : (SlM (elRow sz hz) (ρ i).ad (ρ i).c ys).p g' := s'.all _ (.head _)
    have hSl : Sl X ρ L a g' := s'.all (F2 X ρ L a) (.tail _ (.tail _ (.tail _ (.head _))))
    · have hM2 : DenM g' ρ M (m1 ++ _ :: m2) := s'.all (F1 ρ M _) (.tail _ (.tail _ (.head _)))
      refine hw ▸ h g' a ⟨ρ, m1 ++ m2, ⟨s'.kn, fun f hf => s'.all f (.tail _ (.tail _ (.tail _ (.tail _ hf)))), s'.own, s'.ext, s'.new⟩, hu g' hM2, hSl.pin, fun u sv hu' => ?_⟩
      by_cases hut : u = t
      · subst hut
        rw [lkS_same] at hu'
        cases hu'
        obtain ⟨x, hx, dx⟩ := hSl.val u _ hi
        refine ⟨x, hx, ?_⟩
        cases dx with
        | o =>
          obtain ⟨q1, q2, q3⟩ := hsm
          rw [hn]
          refine .s (flat (elRow sz hz) ys) (by rw [← hl]; exact q1) (by rw [← hl]; exact q2) (by rw [flat_len, hl]; rfl) hr ⟨flat_one _ _, fun h => absurd h (by omega)⟩ (fun hne => ?_) (fun ρ' i' j r' sv' x' h1 h2 h3 => ?_)
          · obtain ⟨b, oo, e1, e2, e3⟩ := q3 (by intro e; apply hne; rw [← List.length_eq_zero_iff, ← hl, e]; rfl)
            exact ⟨b, oo, e1, e2, e3⟩
          · have hlt : i' < ys.length := by
              rw [hl]
              rcases Nat.lt_or_ge i' rows.length with h | h
              · exact h
              · rw [List.getElem?_eq_none h] at h1; cases h1
            have hy := List.getElem?_eq_getElem hlt
            have hdl := hd' ρ' i' _ r' hy h1
            obtain ⟨y, hyj, dy⟩ := hdl.get h2
            have hfl := flat_get (elRow sz hz) ys i' j _ y hy hyj
            rw [show (elRow sz hz).sz = sz from rfl] at hfl
            have : y = x' := Option.some.inj (hfl.symm.trans h3)
            subst this
            exact dy
      · rw [lkS_ne _ _ hut] at hu'
        exact hSl.val u sv hu'
theorem eezo (t : Nat) {i n T sz : Nat} {rows : List (List SV)} (hn : n = rows.length) (h : E X k ((t, .s sz rows) :: L) (frM i (.r T sz rows) M) fs own) (hi : lkS L t = some (.o i n) := by rfl) (hm : lkM M i = some (.r T sz rows) := by rfl) (hr : ∀ r ∈ rows, r.length = sz) : E X k L M fs own :=
  sezo (arr := #[]) (l := []) t hn (ES_nil h) hi hm hr |> fun h => h
/-- append(xs, ys...): xs owned, ys frozen. -/
theorem sap {tb : TT} (hT : tb.Ok X.P) (m : Nat) (H : List (List SV)) {d T Te i n sz z : Nat} {x y : Operand} {rows rows2 : List (List SV)} {dT de : TD} {M2 l' L' M' φ} (hn : n = rows.length) (hz2 : rows2 ≠ [] → z = sz) (hbig : (rows.length + rows2.length) * de.by_ ≤ 140737488355328) (hk : ES X arr l' k L' M' fs own) (ho : o.op = .call ⟨.builtin .append, #[x, y], #[T, T]⟩ := by rfl) (hg : o.guard = none := by rfl) (hd : o.dst = some d := by rfl) (hdn : Nat.blt d X.n = true := by rfl)
    (hx : evS (lkS L) x = some (.o i n) := by rfl) (hy : evS (lkS L) y = some (.s z rows2) := by rfl) (hm : lkM M i = some (.r Te sz rows) := by rfl) (hT1 : tb.get T = some dT := by rfl) (hk1 : dT.kd = .sl Te := by rfl) (hT2 : tb.get Te = some de := by rfl) (hsz : de.sz = sz := by rfl) (hzl : Nat.beq (cellsV (inj de.z)).length de.sz = true := by rfl) (hby : 1 ≤ de.by_ := by decide) (ho1 : onceM i M = true := by rfl) (hi1 : Nat.blt i 1000 = true := by rfl)
    (hu : updK M i (.r Te sz (rows ++ rows2)) some = some M2 := by rfl) (hr : xrun tb X.n arr m H l ((d, .o i (rows ++ rows2).length) :: cln i [] L) M2 [] = some (l', L', M', φ) := by rfl) (hφ : conj φ := by first | trivial | omega | (simp +contextual [conj]; done)) : ES X arr (o :: l) k L M fs own := by
  subst hsz hn
  intro g a hE
  obtain ⟨ρ, ms, st⟩ := hE.open
  have hSl : Sl X ρ L a g := st.all _ (.tail _ (.head _))
  have hw : Region.wanted o (yielded arr a.tmps) = true := live_wanted (L := []) st.kn (live_none hg)
  have hi1 : i < 1000 := by simpa [Nat.blt_eq] using hi1
  have hM : DenM g ρ M ms := st.all _ (.head _)
  obtain ⟨r, m1, m2, rfl, hB, hup⟩ := hM.setU ho1 hm
  obtain ⟨M3, hK, hM3⟩ := hup hu
  cases hK
  have dx := eval_den hSl.val hx
  have dy := eval_den hSl.val hy
  generalize hvx : a.eval x = vx at dx
  generalize hvy : a.eval y = vy at dy
  have u := (TT.get_ok hT hT1).kd
  rw [hk1] at u
  have hti := (TT.get_ok hT hT2).ti
  have hzs : de.z.cells.size = de.sz := cellsV_len (Nat.eq_of_beq_eq_true hzl)
  cases hB with
  | r hz ys hl hdd =>
    cases dx with
    | o =>
      cases dy with
      | s xs h1 h2 hxl hxr hxo hne hxd =>
        rename_i ad2 c2
        have hxl2 : xs.length = rows2.length * de.sz := by
          by_cases he : rows2 = []
          · rw [he] at hxl ⊢; simpa using hxl
          · rw [← hz2 he]; exact hxl
        obtain ⟨ys2, hyl2, hyf⟩ := chunks hz rows2.length xs hxl2 hxo.1
        have hp : (m1 ++ Res.arr (elRow de.sz hz) Te (ρ i).ad (ρ i).c ys :: m2 ++ own).Perm (Res.arr (elRow de.sz hz) Te (ρ i).ad (ρ i).c ys :: (m1 ++ m2 ++ own)) := by
          simp only [List.append_assoc, List.cons_append]
          exact List.perm_middle
        have stp0 := st.perm hp
        have stp : St X.toCx [] (rowsD ys rows :: rowsD ys2 rows2 :: F1 ρ M _ :: F2 X ρ L a :: fs) _ g a := ⟨stp0.kn, All.cons hdd (All.cons (fun ρ' k x r hk hr => by
          have hrl : r.length = de.sz := by
            have hne2 : rows2 ≠ [] := by intro e; subst e; simp at hr
            rw [← hz2 hne2]; exact hxr r (List.mem_of_getElem? hr)
          refine ⟨by rw [x.2.1, hrl], fun j sv v hj hv => ?_⟩
          have hf := flat_get (elRow de.sz hz) ys2 k j x v hk hv
          rw [hyf] at hf
          have hne2 : rows2 ≠ [] := by intro e; subst e; simp at hr
          exact hxd ρ' k j r sv v hr hj (by rw [hz2 hne2]; exact hf)) stp0.all), stp0.own, stp0.ext, stp0.new⟩
        have hown : g.w.ownsRow 0 Te de.sz (.slice (ρ i).ad ys.length (ρ i).c) ys.length (flat (elRow de.sz hz) ys) := stp.own.p _ (.head _)
        have hbig' : (ys.length + rows2.length) * de.by_ ≤ 140737488355328 := by rw [hl]; exact hbig
        have h63 : ys.length + rows2.length ≤ maxLen := by
          have : ys.length + rows2.length ≤ (ys.length + rows2.length) * de.by_ := Nat.le_mul_of_pos_right _ hby
          simp only [maxLen]; omega
        have hrun : ∃ v' w', (Builtin.append_ #[T, T] o.type #[.slice (ρ i).ad ys.length (ρ i).c, .slice ad2 rows2.length c2]).run X.P g.w = .ok v' w' ∧ AppOK g.w w' Te de.sz (.slice (ρ i).ad ys.length (ρ i).c) v' (ys ++ ys2).length (flat (elRow de.sz hz) (ys ++ ys2)) := by
          rw [List.length_append, flat_append, hyl2, hyf]
          cases ad2 with
          | none =>
            have hr2 : rows2 = [] := by
              rcases rows2 with _ | ⟨q, qs⟩
              · rfl
              · obtain ⟨_, _, he, _⟩ := hne (by simp); cases he
            subst hr2
            have hx0 : xs = [] := List.eq_nil_of_length_eq_zero (by simpa using hxl)
            subst hx0
            obtain ⟨i0, hi0, hs0, hb0, hz0⟩ := hti
            refine ⟨.slice (ρ i).ad ys.length (ρ i).c, g.w, ?_, by simpa using hown, ⟨rfl, rfl, rfl, Nat.le_refl _, fun _ _ _ => rfl⟩, fun b hb => .inl hb⟩
            rcases hown.2 with ⟨hv, _⟩ | ⟨gg, cap, cur, hv, _, _, hnc, _⟩
            · injection hv with e1 e2 e3
              simp [Builtin.append_, run_underlying u, sizeOf, typeInfo, hi0, Builtin.lenOf, Builtin.firstCells, e1, e2, e3]
            · injection hv with e1 e2 e3
              subst e3
              simp [Builtin.append_, run_underlying u, sizeOf, typeInfo, hi0, Builtin.lenOf, Builtin.firstCells, e1, hnc, storeCells]
          | some ad2 =>
            exact run_app u hti hzs hz hown hxl2 (fun j v hv => by
              have hne2 : rows2 ≠ [] := by intro e; subst e; simp at hxl2; subst hxl2; simp at hv
              obtain ⟨b, oo, he, _, hc⟩ := hne hne2
              cases he
              rw [addr_add]
              exact hc j v hv) hxo.1 h63 hbig'
        obtain ⟨v', w', hr0, h1'⟩ := hrun
        obtain ⟨ad', c', g', rfl, rfl, s'⟩ := stp.appd .head h1'
        have hre : (execOp a.eval o).run X.P g.w = .ok (.value (.slice ad' (ys ++ ys2).length c')) g'.w := by
          simp only [execOp, ho, resolve]
          simp only [List.map_toArray, List.map_cons, List.map_nil, hvx, hvy, ← hl]
          simp [invoke, builtin, hr0]
        simp only [wl, hw, if_true, wn, hre, hd]
        let y : Lc := ⟨(ρ i).b, ad', c'⟩
        have hd1 : (rowsD ys rows).p g' := s'.all _ (.head _)
        have hd2 : (rowsD ys2 rows2).p g' := s'.all _ (.tail _ (.head _))
        have hSl' : Sl X ρ L a g' := s'.all (F2 X ρ L a) (.tail _ (.tail _ (.tail _ (.head _))))
        have hM' : DenM g' ρ M (m1 ++ _ :: m2) := s'.all (F1 ρ M _) (.tail _ (.tail _ (.head _)))
        have hBn : DenB g' (fun j => if j = i then y else ρ j) i (.r Te de.sz (rows ++ rows2)) (Res.arr (elRow de.sz hz) Te ((fun j => if j = i then y else ρ j) i).ad ((fun j => if j = i then y else ρ j) i).c (ys ++ ys2)) := .r hz (ys ++ ys2) (by simp [hl, hyl2]) (fun ρ' k x r hk hr => by
          rw [List.getElem?_append] at hk hr
          rw [hl] at hk
          split at hr
          · rename_i hlt; rw [if_pos hlt] at hk; exact hd1 ρ' k x r hk hr
          · rename_i hlt; rw [if_neg hlt] at hk; exact hd2 ρ' _ x r hk hr)
        simp only [if_pos] at hBn
        have hMn := hM3 g' y _ hM' (by simpa using hBn)
        have hp2 : (Res.arr (elRow de.sz hz) Te ad' c' (ys ++ ys2) :: (m1 ++ m2 ++ own)).Perm (m1 ++ Res.arr (elRow de.sz hz) Te ad' c' (ys ++ ys2) :: m2 ++ own) := by
          simp only [List.append_assoc, List.cons_append]
          exact List.perm_middle.symm
        have s2 := s'.perm hp2
        have s3 : St X.toCx [] (F1 (fun j => if j = i then y else ρ j) M2 (m1 ++ Res.arr (elRow de.sz hz) Te ad' c' (ys ++ ys2) :: m2) :: F2 X (fun j => if j = i then y else ρ j) (cln i [] L) a :: fs) (m1 ++ Res.arr (elRow de.sz hz) Te ad' c' (ys ++ ys2) :: m2 ++ own) g' a := ⟨s2.kn, All.cons hMn (All.cons ⟨fun j hj => by
            have : j ≠ i := by omega
            simp only [if_neg this]; exact hSl'.pin j hj, fun t sv ht => by
            obtain ⟨_, h3, h4⟩ := cln_lk ht
            obtain ⟨x, hx, dx⟩ := hSl'.val t sv h3
            exact ⟨x, hx, dx.upd h4⟩⟩ (fun f hf => s2.all f (.tail _ (.tail _ (.tail _ (.tail _ hf)))))), s2.own, s2.ext, s2.new⟩
        refine go hT m H hk hr hφ g' _ (ESt.put s3 hdn ?_)
        have hlen : (ys ++ ys2).length = (rows ++ rows2).length := by simp [hl, hyl2]
        rw [hlen]
        have : Den g' (fun j => if j = i then y else ρ j) (.o i (rows ++ rows2).length) (.slice ((fun j => if j = i then y else ρ j) i).ad (rows ++ rows2).length ((fun j => if j = i then y else ρ j) i).c) := .o
        simpa [y] using this
end
end Go.KX
