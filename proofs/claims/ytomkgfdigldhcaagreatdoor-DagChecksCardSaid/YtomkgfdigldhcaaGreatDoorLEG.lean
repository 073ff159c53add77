/- XY XZ YI YJ YK YL YM YN YO YP. -/
import Derived.Test.YtomkgfdigldhcaaGreatDoorLEF
namespace Go.KX
/-- A block, and its name, replaced. -/
def repK {β : Type} : SM → Nat → Nat → MB → (SM → Option β) → Option β
  | [], _, _, _, _ => none
  | (j, m) :: r, i, d, mb, K => match Nat.beq i j with
    | true => K ((d, mb) :: r)
    | false => repK r i d mb (fun r' => K ((j, m) :: r'))
theorem DenM.rep {g : GW} {ρ : Nat → Lc} : ∀ {M : SM} {ms : List Res} {i : Nat} {mb : MB}, DenM g ρ M ms → lkM M i = some mb → ∃ r m1 m2, ms = m1 ++ r :: m2 ∧ DenB g ρ i mb r ∧
    ∀ {β : Type} {d : Nat} {mb' : MB} {K : SM → Option β} {res : β}, repK M i d mb' K = some res → ∃ M', K M' = some res ∧ ∀ g' y r', (occM d M = false) → DenM g' ρ M (m1 ++ r :: m2) → DenB g' (fun j => if j = d then y else ρ j) d mb' r' → DenM g' (fun j => if j = d then y else ρ j) M' (m1 ++ r' :: m2)
  | [], _, _, _, .nil, h => by cases h
  | (j, m) :: M, _, i, mb, @DenM.cons _ _ _ _ _ r0 ms0 hb t, h => by
    have hoc : ∀ {d : Nat}, occM d ((j, m) :: M) = false → occM d [(j, m)] = false ∧ occM d M = false := by
      intro d hd
      cases m <;> simp_all [occM]
    unfold lkM at h
    cases hij : Nat.beq i j with
    | true =>
      rw [hij] at h
      simp only [Option.some.injEq] at h
      subst h
      have hj := Nat.eq_of_beq_eq_true hij
      subst hj
      refine ⟨r0, [], ms0, rfl, hb, fun {β d mb' K res} hu => ?_⟩
      simp only [repK, hij] at hu
      exact ⟨_, hu, fun g' y r' ho hM hB => by
        cases hM with
        | cons _ t' => exact .cons hB (occ_upd t' (hoc ho).2)⟩
    | false =>
      rw [hij] at h
      obtain ⟨r, m1, m2, rfl, hB, hu⟩ := DenM.rep (M := M) t h
      refine ⟨r, r0 :: m1, m2, rfl, hB, fun {β d mb' K res} hu' => ?_⟩
      simp only [repK, hij] at hu'
      obtain ⟨M', h1, h2⟩ := hu hu'
      exact ⟨_, h1, fun g' y r' ho hM hB => by
        cases hM with
        | cons hb' t' =>
          have := occ_upd (y := y) (.cons hb' .nil : DenM g' ρ [(j, m)] [r0]) (hoc ho).1
          cases this with
          | cons hb2 _ => exact .cons hb2 (h2 g' y r' (hoc ho).2 t' hB)⟩
def mF (es : List (Bytes × SV)) (raw : List (Bytes × Value)) : MF := ⟨fun g => ∀ (ρ' : Nat → Lc) (j : Nat) k sv x, es[j]? = some (k, sv) → raw[j]? = some (k, x) → Den g ρ' sv x, fun e h ρ' j k sv x h1 h2 => (h ρ' j k sv x h1 h2).mono e⟩
theorem mget_den {g : GW} {ρ : Nat → Lc} : ∀ {es : List (Bytes × SV)} {raw : List (Bytes × Value)}, raw.map (·.1) = es.map (·.1) → (∀ (j : Nat) k sv x, es[j]? = some (k, sv) → raw[j]? = some (k, x) → Den g ρ sv x) → ∀ q, (mget raw q = none ∧ mget es q = none) ∨ ∃ x sv, mget raw q = some x ∧ mget es q = some sv ∧ Den g ρ sv x
  | [], raw, hk, _, q => by
    cases raw with
    | nil => exact .inl ⟨rfl, rfl⟩
    | cons _ _ => simp at hk
  | e :: es, raw, hk, hd, q => by
    cases raw with
    | nil => simp at hk
    | cons p r =>
      simp only [List.map_cons, List.cons.injEq] at hk
      unfold mget
      rw [hk.1]
      by_cases hq : q = e.1
      · rw [if_pos hq, if_pos hq]
        exact .inr ⟨p.2, e.2, rfl, rfl, hd 0 e.1 e.2 p.2 rfl (by simp [← hk.1])⟩
      · rw [if_neg hq, if_neg hq]
        exact mget_den hk.2 (fun j k sv x h1 h2 => hd (j + 1) k sv x (by simpa using h1) (by simpa using h2)) q
theorem mdel_keys : ∀ {es : List (Bytes × SV)} {raw : List (Bytes × Value)}, raw.map (·.1) = es.map (·.1) → ∀ q, (mdel raw q).map (·.1) = (mdel es q).map (·.1)
  | [], raw, hk, q => by
    cases raw with
    | nil => rfl
    | cons _ _ => simp at hk
  | e :: es, raw, hk, q => by
    cases raw with
    | nil => simp at hk
    | cons p r =>
      simp only [List.map_cons, List.cons.injEq] at hk
      unfold mdel
      rw [hk.1]
      split
      · exact hk.2
      · simp [hk.1, mdel_keys hk.2 q]
theorem mdel_den {P : SV → Value → Prop} : ∀ {es : List (Bytes × SV)} {raw : List (Bytes × Value)}, raw.map (·.1) = es.map (·.1) → (∀ (j : Nat) k sv x, es[j]? = some (k, sv) → raw[j]? = some (k, x) → P sv x) → ∀ (q : Bytes) (j : Nat) k sv x, (mdel es q)[j]? = some (k, sv) → (mdel raw q)[j]? = some (k, x) → P sv x
  | [], raw, hk, h, q, j, k, sv, x, h1, h2 => by simp [mdel] at h1
  | e :: es, raw, hk, h, q, j, k, sv, x, h1, h2 => by
    cases raw with
    | nil => simp at hk
    | cons p r =>
      simp only [List.map_cons, List.cons.injEq] at hk
      unfold mdel at h1 h2
      rw [hk.1] at h2
      by_cases hq : q = e.1
      · rw [if_pos hq] at h1 h2
        exact h (j + 1) k sv x (by simpa using h1) (by simpa using h2)
      · rw [if_neg hq] at h1 h2
        cases j with
        | zero => exact h 0 k sv x (by simpa using h1) (by simpa using h2)
        | succ j => exact mdel_den hk.2 (fun j k sv x h3 h4 => h (j + 1) k sv x (by simpa using h3) (by simpa using h4)) q j k sv x (by simpa using h1) (by simpa using h2)
section
variable {X : Kx} {k : List It} {L : SL} {M : SM} {fs : List MF} {own : List Res} {arr : Array Oper} {l : List Oper} {o : Oper}
theorem den_mp {g ρ i x} (h : Den g ρ (.mp i) x) : x = .map (some (ρ i).b) := by cases h; rfl
/-- v, ok := m[q] ¦ v := m[q], of a map that is owned. -/
theorem smlk {tb : TT} (hT : tb.Ok X.P) (m : Nat) (ck : Bool) {T kT eT d i : Nat} {dT dk de : TD} {x y : Operand} {q : Bytes} {es : List (Bytes × SV)} (r : Option SV) {l' L' M' φ} (hr : mget es q = r) (hk : ES X arr l' k L' M' fs own) (ho : o.op = .lookup T x y ck := by rfl) (hg : o.guard = none := by rfl) (hd : o.dst = some d := by rfl)
    (hx : evS (lkS L) x = some (.mp i) := by rfl) (hy : evS (lkS L) y = some (.str q) := by rfl) (hm : lkM M i = some (.m es) := by rfl) (hT1 : tb.get T = some dT := by rfl) (hk1 : dT.kd = .mp kT eT := by rfl) (hT2 : tb.get kT = some dk := by rfl) (hk2 : dk.kd = .str := by rfl) (hT3 : tb.get eT = some de := by rfl) (hn : Nat.blt d X.n = true := by rfl)
    (hrn : xrun tb X.n arr m [] l ((d, (match ck with | true => .t [r.getD (inj de.z), .v (.bool r.isSome)] | false => r.getD (inj de.z))) :: L) M [] = some (l', L', M', φ) := by rfl) (hφ : conj φ := by first | trivial | omega | (simp +contextual [conj]; done)) : ES X arr (o :: l) k L M fs own := by
  intro g a hE
  obtain ⟨ρ, ms, st⟩ := hE.open
  have hSl : Sl X ρ L a g := st.all _ (.tail _ (.head _))
  have hw : Region.wanted o (yielded arr a.tmps) = true := live_wanted (L := []) st.kn (live_none hg)
  have dx := den_mp (eval_den hSl.val hx)
  have dy := den_str (eval_den hSl.val hy)
  have hM : DenM g ρ M ms := st.all _ (.head _)
  obtain ⟨r0, m1, m2, rfl, hB, _⟩ := hM.split hm
  have u := (TT.get_ok hT hT1).kd
  rw [hk1] at u
  have uk := (TT.get_ok hT hT2).kd
  rw [hk2] at uk
  cases hB with
  | m raw hkk hdd =>
    have hp : (Res.mp str (fun v : Value => v) (ρ i).b raw).p g.w := st.own.p _ (by simp)
    have hrun := run_lookup (K := str) (V := fun v : Value => v) u (keyStr uk) (TT.get_ok hT hT3).ti hp q ck
    subst hr
    have hv : ∃ v, Den g ρ ((mget es q).getD (inj de.z)) (((mget raw q).map fun v => v).getD de.z) ∧ (mget raw q).isSome = (mget es q).isSome ∧ v = () := by
      rcases mget_den hkk (hdd ρ) q with ⟨h1, h2⟩ | ⟨xv, sv, h1, h2, h3⟩
      · rw [h1, h2]; exact ⟨(), den_inj g ρ de.z, rfl, rfl⟩
      · rw [h1, h2]; exact ⟨(), h3, rfl, rfl⟩
    obtain ⟨_, hv1, hv2, _⟩ := hv
    simp only [wl, hw, if_true]
    have hre : (execOp a.eval o).run X.P g.w = .ok (.value (if ck then .tuple #[((mget raw q).map fun v => v).getD de.z, .bool (mget raw q).isSome] else ((mget raw q).map fun v => v).getD de.z)) g.w := by
      simp only [execOp, ho, dx, dy]
      simp [hrun]
    simp only [wn, hre, hd]
    refine go hT m [] hk hrn hφ g _ (ESt.put st hn ?_)
    cases ck with
    | true =>
      rw [hv2]
      exact .t [_, _] rfl (DenL.cons hv1 (DenL.cons .v DenL.nil)).2
    | false => exact hv1
/-- How many entries. -/
theorem smln {tb : TT} (hT : tb.Ok X.P) (m : Nat) {T kT eT d i : Nat} {dT : TD} {x : Operand} {es : List (Bytes × SV)} {l' L' M' φ} (hk : ES X arr l' k L' M' fs own) (ho : o.op = .call ⟨.builtin .len, #[x], #[T]⟩ := by rfl) (hg : o.guard = none := by rfl) (hd : o.dst = some d := by rfl)
    (hx : evS (lkS L) x = some (.mp i) := by rfl) (hm : lkM M i = some (.m es) := by rfl) (hT1 : tb.get T = some dT := by rfl) (hk1 : dT.kd = .mp kT eT := by rfl) (hn : Nat.blt d X.n = true := by rfl)
    (hrn : xrun tb X.n arr m [] l ((d, .v (.int .i64 es.length)) :: L) M [] = some (l', L', M', φ) := by rfl) (hφ : conj φ := by first | trivial | omega | (simp +contextual [conj]; done)) : ES X arr (o :: l) k L M fs own := by
  have hG : gS arr (lkS L) o = some none := by unfold gS; rw [hg]
  refine ES_step (Stp_read (sv := .v (.int .i64 es.length)) hG hd hn (fun L' hL hon g a ρ ms st => ?_)) ?_
  · have hSl : Sl X ρ L' a g := st.all _ (.tail _ (.head _))
    have hev : evs (lkS L') [x] = some [.mp i] := by
      have := evs_agree' hL
      rw [show o.op.operands.toList = [x] by rw [ho]; rfl] at this
      rw [this]
      simp only [evs, hx]
    obtain ⟨_, _, e1, dx, _⟩ := (evals_den hSl.val hev).uncons
    simp only [List.map_cons, List.cons.injEq] at e1
    obtain ⟨rfl, _⟩ := e1
    have hM : DenM g ρ M ms := st.all _ (.head _)
    obtain ⟨r0, m1, m2, rfl, hB, _⟩ := hM.split hm
    have u := (TT.get_ok hT hT1).kd
    rw [hk1] at u
    cases hB with
    | m raw hkk hdd =>
      have hp : (m1 ++ Res.mp str (fun v : Value => v) (ρ i).b raw :: m2 ++ own).Perm (Res.mp str (fun v : Value => v) (ρ i).b raw :: (m1 ++ m2 ++ own)) := by
        simp only [List.append_assoc, List.cons_append]
        exact List.perm_middle
      have st2 := st.perm hp
      obtain ⟨Lr, st', hevl, _⟩ := st2.slots (os := [x]) (e := lkS L') (svs := [.mp i]) (fun t sv ht => by obtain ⟨y, hy, _⟩ := hSl.val t sv ht; exact ⟨y, hy⟩) hev
      obtain ⟨_, _, e2, hx', _⟩ := evl_cons hevl
      simp only [List.map_cons, List.cons.injEq] at e2
      obtain ⟨rfl, _⟩ := e2
      rw [den_mp dx] at hx'
      have hl : raw.length = es.length := by have := congrArg List.length hkk; simpa using this
      exact ⟨_, (Y_mlen ho hx' u .head) g a st', by rw [hl]; exact .v⟩
  · rw [hd]
    exact go hT m [] hk hrn hφ
/-- delete(m, q). -/
theorem smdl {tb : TT} (hT : tb.Ok X.P) {T kT eT i : Nat} {dT dk : TD} {x y : Operand} {q : Bytes} {es : List (Bytes × SV)} {M' : SM} (h : ES X arr l k L M' fs own) (ho : o.op = .call ⟨.builtin .delete, #[x, y], #[T, kT]⟩ := by rfl) (hg : o.guard = none := by rfl) (hd : o.dst = none := by rfl)
    (hx : evS (lkS L) x = some (.mp i) := by rfl) (hy : evS (lkS L) y = some (.str q) := by rfl) (hT1 : tb.get T = some dT := by rfl) (hk1 : dT.kd = .mp kT eT := by rfl) (hT2 : tb.get kT = some dk := by rfl) (hk2 : dk.kd = .str := by rfl)
    (hm : lkM M i = some (.m es) := by rfl) (hu : updK M i (.m (mdel es q)) some = some M' := by rfl) : ES X arr (o :: l) k L M fs own := by
  intro g a hE
  obtain ⟨ρ, ms, st⟩ := hE.open
  have hSl : Sl X ρ L a g := st.all _ (.tail _ (.head _))
  have dx := eval_den hSl.val hx
  have dy := eval_den hSl.val hy
  have hM : DenM g ρ M ms := st.all _ (.head _)
  obtain ⟨r, m1, m2, rfl, hB, hup⟩ := hM.split hm
  obtain ⟨M2, hK, hM2⟩ := hup hu
  cases hK
  have u := (TT.get_ok hT hT1).kd
  rw [hk1] at u
  have uk := (TT.get_ok hT hT2).kd
  rw [hk2] at uk
  have hev : evs (lkS L) [x, y] = some [.mp i, .str q] := by simp only [evs, hx, hy]
  cases hB with
  | m raw hk hdd =>
    have hp : (m1 ++ Res.mp str (fun v : Value => v) (ρ i).b raw :: m2 ++ own).Perm (Res.mp str (fun v : Value => v) (ρ i).b raw :: (m1 ++ m2 ++ own)) := by
      simp only [List.append_assoc, List.cons_append]
      exact List.perm_middle
    have st2 := st.perm hp
    have st3 : St X.toCx [] (mF es raw :: F1 ρ M _ :: F2 X ρ L a :: fs) _ g a := ⟨st2.kn, All.cons hdd st2.all, st2.own, st2.ext, st2.new⟩
    obtain ⟨Lr, st', hevl, hfr⟩ := st3.slots (fun t sv ht => by obtain ⟨x, hx, _⟩ := hSl.val t sv ht; exact ⟨x, hx⟩) hev
    obtain ⟨_, _, e1, hx', hr1⟩ := evl_cons hevl
    obtain ⟨_, _, e2, hy', _⟩ := evl_cons hr1
    simp only [List.map_cons, List.cons.injEq] at e1
    obtain ⟨rfl, rfl⟩ := e1
    simp only [List.cons.injEq] at e2
    obtain ⟨rfl, _⟩ := e2
    rw [den_mp dx] at hx'
    rw [den_str dy] at hy'
    have key := S_mdel (k := [.lp fun a' w' => ∃ g', g'.w = w' ∧ ESt X L M' fs own g' a']) (arr := arr) (l := []) (K := str) (V := fun v : Value => v) ho (live_none hg) hd hx' hy' u (keyStr uk) .head (S_J (fun g' a' s' => by
      refine ⟨g', rfl, ρ, m1 ++ Res.mp str (fun v : Value => v) (ρ i).b (mdel raw q) :: m2, ?_, ?_, ?_⟩
      · have hp2 : (Res.mp str (fun v : Value => v) (ρ i).b (mdel raw q) :: (m1 ++ m2 ++ own)).Perm (m1 ++ Res.mp str (fun v : Value => v) (ρ i).b (mdel raw q) :: m2 ++ own) := by
          simp only [List.append_assoc, List.cons_append]
          exact List.perm_middle.symm
        have s2 := s'.perm hp2
        exact ⟨⟨s2.kn.size, s2.kn.defers, fun i v hv => by simp [lk] at hv⟩, fun f hf => s2.all f (.tail _ (.tail _ (.tail _ hf))), s2.own, s2.ext, s2.new⟩
      · have hv : (mF es raw).p g' := s'.all _ (.head _)
        exact hM2 g' _ (s'.all _ (.tail _ (.head _))) (.m _ (mdel_keys hk q) (fun ρ' => mdel_den hk (hv ρ') q))
      · have hs : Sl X ρ L a g := s'.all (F2 X ρ L a) (.tail _ (.tail _ (.head _))) |> fun _ => hSl
        have hs : Sl X ρ L a g' := s'.all (F2 X ρ L a) (.tail _ (.tail _ (.head _)))
        exact ⟨hs.pin, fun t sv ht => by
          obtain ⟨x, hx, dx⟩ := hs.val t sv ht
          exact ⟨x, s'.kn.val t x (hfr t x hx), dx⟩⟩)) g a st'
    have hw : Region.wanted o (yielded arr a.tmps) = true := live_wanted (L := []) st.kn (live_none hg)
    simp only [wl, hw, if_true] at key ⊢
    exact wn_mono (fun a' w' hh => by
      obtain ⟨g', rfl, hs⟩ := hh
      exact h g' a' hs) key
/-- for k, v := range m: begun. -/
theorem smrg {tb : TT} (hT : tb.Ok X.P) {T kT eT d i : Nat} {dT : TD} {x : Operand} {es : List (Bytes × SV)} {M' : SM} (h : ES X arr l k ((d, .l d 0) :: L) M' fs own) (ho : o.op = .range T x := by rfl) (hg : o.guard = none := by rfl) (hd : o.dst = some d := by rfl) (hn : Nat.blt d X.n = true := by rfl)
    (hx : evS (lkS L) x = some (.mp i) := by rfl) (hT1 : tb.get T = some dT := by rfl) (hk1 : dT.kd = .mp kT eT := by rfl) (hm : lkM M i = some (.m es) := by rfl) (hoc : (occSL d L || occM d M) = false := by rfl) (hlt : Nat.blt d 1000 = true := by rfl) (hne : Nat.beq i d = false := by rfl) (hu : repK M i d (.it i es []) some = some M' := by rfl) : ES X arr (o :: l) k L M fs own := by
  intro g a hE
  obtain ⟨ρ, ms, st⟩ := hE.open
  simp only [Bool.or_eq_false_iff] at hoc
  have hlt : d < 1000 := by simpa [Nat.blt_eq] using hlt
  have hid : i ≠ d := by intro e; subst e; rw [Nat.beq_refl] at hne; cases hne
  have hSl : Sl X ρ L a g := st.all _ (.tail _ (.head _))
  have dx := eval_den hSl.val hx
  have hM : DenM g ρ M ms := st.all _ (.head _)
  obtain ⟨r, m1, m2, rfl, hB, hup⟩ := hM.rep hm
  obtain ⟨M2, hK, hM2⟩ := hup hu
  cases hK
  have u := (TT.get_ok hT hT1).kd
  rw [hk1] at u
  have hev : evs (lkS L) [x] = some [.mp i] := by simp only [evs, hx]
  cases hB with
  | m raw hk hdd =>
    have hp : (m1 ++ Res.mp str (fun v : Value => v) (ρ i).b raw :: m2 ++ own).Perm (Res.mp str (fun v : Value => v) (ρ i).b raw :: (m1 ++ m2 ++ own)) := by
      simp only [List.append_assoc, List.cons_append]
      exact List.perm_middle
    have st2 := st.perm hp
    have st3 : St X.toCx [] (mF es raw :: F1 ρ M _ :: F2 X ρ L a :: fs) _ g a := ⟨st2.kn, All.cons hdd st2.all, st2.own, st2.ext, st2.new⟩
    obtain ⟨Lr, st', hevl, hfr⟩ := st3.slots (fun t sv ht => by obtain ⟨x, hx, _⟩ := hSl.val t sv ht; exact ⟨x, hx⟩) hev
    obtain ⟨_, _, e1, hx', _⟩ := evl_cons hevl
    simp only [List.map_cons, List.cons.injEq] at e1
    obtain ⟨rfl, _⟩ := e1
    rw [den_mp dx] at hx'
    have key := S_range (k := [.lp fun a' w' => ∃ g', g'.w = w' ∧ ESt X ((d, .l d 0) :: L) M' fs own g' a']) (arr := arr) (l := []) (K := str) (V := fun v : Value => v) ho (live_none hg) hd hn hx' u .head (fun rr => S_J (fun g' a' s' => by
      let y : Lc := ⟨rr, none, 0⟩
      have ei : (fun j => if j = d then y else ρ j) i = ρ i := by simp [hid]
      have ed : (fun j => if j = d then y else ρ j) d = y := by simp
      have hv : (mF es raw).p g' := s'.all _ (.head _)
      have hs : Sl X ρ L a g' := s'.all (F2 X ρ L a) (.tail _ (.tail _ (.head _)))
      have hBn : DenB g' (fun j => if j = d then y else ρ j) d (.it i es []) (Res.it str (fun v : Value => v) ((fun j => if j = d then y else ρ j) i).b ((fun j => if j = d then y else ρ j) d).b raw []) := .it raw hk hv
      rw [ei, ed] at hBn
      refine ⟨g', rfl, fun j => if j = d then y else ρ j, m1 ++ Res.it str (fun v : Value => v) (ρ i).b rr raw [] :: m2, ?_, hM2 g' y _ hoc.2 (s'.all _ (.tail _ (.head _))) hBn, fun j hj => ?_, fun t sv ht => ?_⟩
      · have hp2 : (Res.it str (fun v : Value => v) (ρ i).b rr raw [] :: (m1 ++ m2 ++ own)).Perm (m1 ++ Res.it str (fun v : Value => v) (ρ i).b rr raw [] :: m2 ++ own) := by
          simp only [List.append_assoc, List.cons_append]
          exact List.perm_middle.symm
        have s2 := s'.perm hp2
        exact ⟨⟨s2.kn.size, s2.kn.defers, fun i v hv => by simp [lk] at hv⟩, fun f hf => s2.all f (.tail _ (.tail _ (.tail _ hf))), s2.own, s2.ext, s2.new⟩
      · have : j ≠ d := by omega
        simp only [if_neg this]; exact hs.pin j hj
      · by_cases htd : t = d
        · subst htd
          rw [lkS_same] at ht
          cases ht
          refine ⟨_, s'.kn.val t _ (lk_cons_same _ _ _), ?_⟩
          have : Den g' (fun j => if j = t then y else ρ j) (.l t 0) (.pointer (some ⟨((fun j => if j = t then y else ρ j) t).b, 0, none⟩)) := .l
          simpa [y] using this
        · rw [lkS_ne _ _ htd] at ht
          obtain ⟨x, hx, dx⟩ := hs.val t sv ht
          exact ⟨x, s'.kn.val t x (by rw [lk_cons_ne _ _ htd]; exact hfr t x hx), dx.upd (occSL_get hoc.1 t sv ht)⟩)) g a st'
    have hw : Region.wanted o (yielded arr a.tmps) = true := live_wanted (L := []) st.kn (live_none hg)
    simp only [wl, hw, if_true] at key ⊢
    exact wn_mono (fun a' w' hh => by
      obtain ⟨g', rfl, hs⟩ := hh
      exact h g' a' hs) key
/-- The next entry, whichever; or there is none left. -/
theorem smnx {tb : TT} (_hT : tb.Ok X.P) {d j i : Nat} {x : Operand} {es : List (Bytes × SV)} {js : List Nat} (hm : lkM M j = some (.it i es js)) (hend : js.Perm (List.range es.length) → ES X arr l k ((d, .t [.v (.bool false)]) :: L) M fs own)
    (hstep : ∀ (n : Nat) q sv M', n ∉ js → es[n]? = some (q, sv) → updK M j (.it i es (js ++ [n])) some = some M' → ES X arr l k ((d, .t [.v (.bool true), .str q, sv]) :: L) M' fs own) (ho : o.op = .next x false := by rfl) (hg : o.guard = none := by rfl) (hd : o.dst = some d := by rfl) (hn : Nat.blt d X.n = true := by rfl) (hx : evS (lkS L) x = some (.l j 0) := by rfl) : ES X arr (o :: l) k L M fs own := by
  intro g a hE
  obtain ⟨ρ, ms, st⟩ := hE.open
  have hSl : Sl X ρ L a g := st.all _ (.tail _ (.head _))
  have dx := eval_den hSl.val hx
  have hM : DenM g ρ M ms := st.all _ (.head _)
  obtain ⟨r, m1, m2, rfl, hB, hup⟩ := hM.split hm
  have hev : evs (lkS L) [x] = some [.l j 0] := by simp only [evs, hx]
  have upd : ∀ {M : SM} {mb' mb0 : MB}, lkM M j = some mb0 → ∃ M', updK M j mb' some = some M' := by
    intro M mb' mb0
    have gen : ∀ {M : SM} {K : SM → Option SM}, lkM M j = some mb0 → (∀ M, ∃ M', K M = some M') → ∃ M', updK M j mb' K = some M' := by
      intro M
      induction M with
      | nil => intro K h; cases h
      | cons p M ih =>
        intro K h hK
        obtain ⟨u, m⟩ := p
        unfold lkM at h
        unfold updK
        cases hb : Nat.beq j u with
        | true => exact hK _
        | false =>
          rw [hb] at h
          exact ih h (fun M => hK _)
    exact fun h => gen h (fun M => ⟨M, rfl⟩)
  cases hB with
  | it raw hkk hdd =>
    have hp : (m1 ++ Res.it str (fun v : Value => v) (ρ i).b (ρ j).b raw js :: m2 ++ own).Perm (Res.it str (fun v : Value => v) (ρ i).b (ρ j).b raw js :: (m1 ++ m2 ++ own)) := by
      simp only [List.append_assoc, List.cons_append]
      exact List.perm_middle
    have hlen : raw.length = es.length := by have := congrArg List.length hkk; simpa using this
    have st2 := st.perm hp
    have st3 : St X.toCx [] (mF es raw :: F1 ρ M _ :: F2 X ρ L a :: fs) _ g a := ⟨st2.kn, All.cons hdd st2.all, st2.own, st2.ext, st2.new⟩
    obtain ⟨Lr, st', hevl, hfr⟩ := st3.slots (fun t sv ht => by obtain ⟨x, hx, _⟩ := hSl.val t sv ht; exact ⟨x, hx⟩) hev
    obtain ⟨_, _, e1, hx', _⟩ := evl_cons hevl
    simp only [List.map_cons, List.cons.injEq] at e1
    obtain ⟨rfl, _⟩ := e1
    rw [den_l dx] at hx'
    have fin : ∀ (g' : GW) (a' : Act) (js' : List Nat) (M' : SM) (v : Value) (sv : SV), St X.toCx ((d, v) :: Lr) (mF es raw :: F1 ρ M (m1 ++ Res.it str (fun v : Value => v) (ρ i).b (ρ j).b raw js :: m2) :: F2 X ρ L a :: fs) (Res.it str (fun v : Value => v) (ρ i).b (ρ j).b raw js' :: (m1 ++ m2 ++ own)) g' a' → updK M j (.it i es js') some = some M' → Den g' ρ sv v → ESt X ((d, sv) :: L) M' fs own g' a' := by
      intro g' a' js' M' v sv s' hu hdv
      obtain ⟨M2, hK, hM2⟩ := hup hu
      cases hK
      have hv : (mF es raw).p g' := s'.all _ (.head _)
      have hs : Sl X ρ L a g' := s'.all (F2 X ρ L a) (.tail _ (.tail _ (.head _)))
      refine ⟨ρ, m1 ++ Res.it str (fun v : Value => v) (ρ i).b (ρ j).b raw js' :: m2, ?_, hM2 g' _ (s'.all _ (.tail _ (.head _))) (.it raw hkk hv), hs.pin, fun t sv' ht => ?_⟩
      · have hp2 : (Res.it str (fun v : Value => v) (ρ i).b (ρ j).b raw js' :: (m1 ++ m2 ++ own)).Perm (m1 ++ Res.it str (fun v : Value => v) (ρ i).b (ρ j).b raw js' :: m2 ++ own) := by
          simp only [List.append_assoc, List.cons_append]
          exact List.perm_middle.symm
        have s2 := s'.perm hp2
        exact ⟨⟨s2.kn.size, s2.kn.defers, fun i v hv => by simp [lk] at hv⟩, fun f hf => s2.all f (.tail _ (.tail _ (.tail _ hf))), s2.own, s2.ext, s2.new⟩
      · by_cases htd : t = d
        · subst htd
          rw [lkS_same] at ht
          cases ht
          exact ⟨v, s'.kn.val t _ (lk_cons_same _ _ _), hdv⟩
        · rw [lkS_ne _ _ htd] at ht
          obtain ⟨x, hx, dx⟩ := hs.val t sv' ht
          exact ⟨x, s'.kn.val t x (by rw [lk_cons_ne _ _ htd]; exact hfr t x hx), dx⟩
    have key := S_next (k := [.lp fun a' w' => ∃ g', g'.w = w' ∧ ((js.Perm (List.range es.length) ∧ ESt X ((d, .t [.v (.bool false)]) :: L) M fs own g' a') ∨ ∃ (n : Nat) (q : Bytes) (sv : SV) (M' : SM), n ∉ js ∧ es[n]? = some (q, sv) ∧ updK M j (.it i es (js ++ [n])) some = some M' ∧ ESt X ((d, .t [.v (.bool true), .str q, sv]) :: L) M' fs own g' a')]) (arr := arr) (l := []) (K := str) (V := fun v : Value => v) ho (live_none hg) hd hn hx' .head
      (fun hperm => S_J (fun g' a' s' => ⟨g', rfl, .inl ⟨by rw [← hlen]; exact hperm, fin g' a' js M _ _ s' (by rw [updK_same hm]) (.t [_] rfl (DenL.cons .v DenL.nil).2)⟩⟩))
      (fun n y hnj hy => S_J (fun g' a' s' => by
        have hnl : n < es.length := by
          rw [← hlen]
          rcases Nat.lt_or_ge n raw.length with h | h
          · exact h
          · rw [List.getElem?_eq_none h] at hy; cases hy
        obtain ⟨⟨q, sv⟩, hes⟩ : ∃ p, es[n]? = some p := ⟨_, List.getElem?_eq_getElem hnl⟩
        have hq : y.1 = q := by
          have := congrArg (fun l => l[n]?) hkk
          simp only [List.getElem?_map, hy, hes, Option.map_some, Option.some.injEq] at this
          exact this
        obtain ⟨y1, y2⟩ := y
        simp only at hq
        subst hq
        obtain ⟨M', hM'⟩ := upd (mb' := .it i es (js ++ [n])) hm
        have hv : (mF es raw).p g' := s'.all _ (.head _)
        exact ⟨g', rfl, .inr ⟨n, y1, sv, M', hnj, hes, hM', fin g' a' (js ++ [n]) M' _ _ s' hM' (.t [_, _, _] rfl (DenL.cons .v (DenL.cons .str (DenL.cons (hv ρ n y1 sv y2 hes hy) DenL.nil))).2)⟩⟩)) g a st'
    have hw : Region.wanted o (yielded arr a.tmps) = true := live_wanted (L := []) st.kn (live_none hg)
    simp only [wl, hw, if_true] at key ⊢
    exact wn_mono (fun a' w' hh => by
      obtain ⟨g', rfl, hs | ⟨n, q, sv, M', h1, h2, h3, h4⟩⟩ := hh
      · exact hend hs.1 g' a' hs.2
      · exact hstep n q sv M' h1 h2 h3 g' a' h4) key
/-- The entry that has come out last. -/
theorem smen {tb : TT} (hT : tb.Ok X.P) (m : Nat) {d j i n : Nat} {x : Operand} {es : List (Bytes × SV)} {js : List Nat} {q : Bytes} {sv : SV} {l' L' M' φ} (hm : lkM M j = some (.it i es (js ++ [n]))) (hes : es[n]? = some (q, sv)) (hk : ES X arr l' k L' M' fs own) (ho : o.op = .entry x := by rfl) (hg : o.guard = none := by rfl) (hd : o.dst = some d := by rfl) (hn : Nat.blt d X.n = true := by rfl) (hx : evS (lkS L) x = some (.l j 0) := by rfl)
    (hrn : xrun tb X.n arr m [] l ((d, .t [.str q, sv]) :: L) M [] = some (l', L', M', φ) := by rfl) (hφ : conj φ := by first | trivial | omega | (simp +contextual [conj]; done)) : ES X arr (o :: l) k L M fs own := by
  have hG : gS arr (lkS L) o = some none := by unfold gS; rw [hg]
  refine ES_step (Stp_read (sv := .t [.str q, sv]) hG hd hn (fun L' hL hon g a ρ ms st => ?_)) ?_
  · have hSl : Sl X ρ L' a g := st.all _ (.tail _ (.head _))
    have hev : evs (lkS L') [x] = some [.l j 0] := by
      have := evs_agree' hL
      rw [show o.op.operands.toList = [x] by rw [ho]; rfl] at this
      rw [this]
      simp only [evs, hx]
    obtain ⟨_, _, e1, dx, _⟩ := (evals_den hSl.val hev).uncons
    simp only [List.map_cons, List.cons.injEq] at e1
    obtain ⟨rfl, _⟩ := e1
    have hM : DenM g ρ M ms := st.all _ (.head _)
    obtain ⟨r0, m1, m2, rfl, hB, _⟩ := hM.split hm
    cases hB with
    | it raw hkk hdd =>
      have hp : (m1 ++ Res.it str (fun v : Value => v) (ρ i).b (ρ j).b raw (js ++ [n]) :: m2 ++ own).Perm (Res.it str (fun v : Value => v) (ρ i).b (ρ j).b raw (js ++ [n]) :: (m1 ++ m2 ++ own)) := by
        simp only [List.append_assoc, List.cons_append]
        exact List.perm_middle
      have hlen : raw.length = es.length := by have := congrArg List.length hkk; simpa using this
      have hnl : n < es.length := by
        rcases Nat.lt_or_ge n es.length with h | h
        · exact h
        · rw [List.getElem?_eq_none h] at hes; cases hes
      obtain ⟨⟨y1, y2⟩, hy⟩ : ∃ p, raw[n]? = some p := ⟨_, List.getElem?_eq_getElem (by omega)⟩
      have hq : y1 = q := by
        have := congrArg (fun l => l[n]?) hkk
        simp only [List.getElem?_map, hy, hes, Option.map_some, Option.some.injEq] at this
        exact this
      subst hq
      have st2 := st.perm hp
      obtain ⟨Lr, st', hevl, _⟩ := st2.slots (os := [x]) (e := lkS L') (svs := [.l j 0]) (fun t sv ht => by obtain ⟨y, hy, _⟩ := hSl.val t sv ht; exact ⟨y, hy⟩) hev
      obtain ⟨_, _, e2, hx', _⟩ := evl_cons hevl
      simp only [List.map_cons, List.cons.injEq] at e2
      obtain ⟨rfl, _⟩ := e2
      rw [den_l dx] at hx'
      exact ⟨_, (Y_entry (K := str) (V := fun v : Value => v) ho hx' .head hy) g a st', .t [_, _] rfl (DenL.cons .str (DenL.cons (hdd ρ n y1 sv y2 hes hy) DenL.nil)).2⟩
  · rw [hd]
    exact go hT m [] hk hrn hφ
/-- Behind the loop. -/
theorem smie (j : Nat) {i : Nat} {es : List (Bytes × SV)} {js : List Nat} {M' : SM} (h : ES X arr l k L M' fs own) (hm : lkM M j = some (.it i es js) := by rfl) (hu : repK M j i (.m es) some = some M' := by rfl) : ES X arr l k L M fs own := by
  intro g a hE
  obtain ⟨ρ, ms, st⟩ := hE.open
  have hSl : Sl X ρ L a g := st.all _ (.tail _ (.head _))
  have hM : DenM g ρ M ms := st.all _ (.head _)
  have split2 : ∀ {M : SM} {ms : List Res} {mb : MB}, DenM g ρ M ms → lkM M j = some mb → ∃ r m1 m2, ms = m1 ++ r :: m2 ∧ DenB g ρ j mb r ∧ ∀ {β : Type} {d : Nat} {mb' : MB} {K : SM → Option β} {res : β}, repK M j d mb' K = some res → ∃ M', K M' = some res ∧ ∀ r', DenB g ρ d mb' r' → DenM g ρ M' (m1 ++ r' :: m2) := by
    intro M
    induction M with
    | nil => intro ms mb _ h; cases h
    | cons p M ih =>
      intro ms mb hM h
      obtain ⟨u, m⟩ := p
      cases hM with
      | cons hb t =>
        rename_i r0 ms0
        unfold lkM at h
        cases hij : Nat.beq j u with
        | true =>
          rw [hij] at h
          simp only [Option.some.injEq] at h
          subst h
          have hj := Nat.eq_of_beq_eq_true hij
          subst hj
          refine ⟨r0, [], ms0, rfl, hb, fun {β d mb' K res} hu => ?_⟩
          simp only [repK, hij] at hu
          exact ⟨_, hu, fun r' hB => .cons hB t⟩
        | false =>
          rw [hij] at h
          obtain ⟨r, m1, m2, rfl, hB, hu⟩ := ih t h
          refine ⟨r, r0 :: m1, m2, rfl, hB, fun {β d mb' K res} hu' => ?_⟩
          simp only [repK, hij] at hu'
          obtain ⟨M', h1, h2⟩ := hu hu'
          exact ⟨_, h1, fun r' hB => .cons hb (h2 r' hB)⟩
  obtain ⟨r, m1, m2, rfl, hB, hup⟩ := split2 hM hm
  obtain ⟨M2, hK, hM2⟩ := hup hu
  cases hK
  cases hB with
  | it raw hkk hdd =>
    have hp : (m1 ++ Res.it str (fun v : Value => v) (ρ i).b (ρ j).b raw js :: m2 ++ own).Perm (Res.it str (fun v : Value => v) (ρ i).b (ρ j).b raw js :: (m1 ++ m2 ++ own)) := by
      simp only [List.append_assoc, List.cons_append]
      exact List.perm_middle
    have ho := st.own.perm hp
    obtain ⟨_, _, es', clk, since, ss, c0, hb, he, hbn, hbc, _⟩ := ho.p _ (.head _)
    have hp2 : (Res.mp str (fun v : Value => v) (ρ i).b raw :: (m1 ++ m2 ++ own)).Perm (m1 ++ Res.mp str (fun v : Value => v) (ρ i).b raw :: m2 ++ own) := by
      simp only [List.append_assoc, List.cons_append]
      exact List.perm_middle.symm
    have hsub : ∀ x ∈ blks (Res.mp str (fun v : Value => v) (ρ i).b raw :: (m1 ++ m2 ++ own)), x ∈ blks (Res.it str (fun v : Value => v) (ρ i).b (ρ j).b raw js :: (m1 ++ m2 ++ own)) := by
      intro x hx
      simp only [blks_cons, Res.mp, Res.it, List.cons_append, List.nil_append, List.mem_cons] at hx ⊢
      exact hx.imp id .inr
    have hown : Own (Res.mp str (fun v : Value => v) (ρ i).b raw :: (m1 ++ m2 ++ own)) g := by
      refine ⟨fun r hr => ?_, ?_, fun x hx => ho.lt x (hsub x hx), fun x hx => ho.nfz x (hsub x hx)⟩
      · cases hr with
        | head => exact ⟨es', clk, hb, he, hbn, hbc⟩
        | tail _ hm => exact ho.p r (.tail _ hm)
      · have h2 := ho.nodup
        simp only [blks_cons, Res.mp, Res.it, List.cons_append, List.nil_append, List.nodup_cons, List.mem_cons] at h2 ⊢
        exact ⟨fun hx => h2.1 (.inr hx), h2.2.2⟩
    refine h g a ⟨ρ, m1 ++ Res.mp str (fun v : Value => v) (ρ i).b raw :: m2, ⟨st.kn, fun f hf => st.all f (.tail _ (.tail _ hf)), hown.perm hp2, st.ext, fun x hx => ?_⟩, hM2 _ (.m raw hkk hdd), hSl.pin, hSl.val⟩
    exact st.new x ((blks_perm hp).symm.subset (hsub x ((blks_perm hp2).symm.subset hx)))
end
end Go.KX
namespace Go.KX
mutual
/-- Is i alone met in it? -/
def only (i : Nat) : SV → Bool
  | .l j _ => Nat.beq j i
  | .o j _ => Nat.beq j i
  | .e j _ => Nat.beq j i
  | .mp j => Nat.beq j i
  | .fm _ => true
  | .ni => true
  | .a cs => onlyL i cs
  | .f _ x y => onlyL i x && onlyL i y
  | .t vs => onlyL i vs
  | .g _ x => only i x
  | .v _ => true
  | .str _ => true
  | .s _ _ => true
  | .p _ => true
def onlyL (i : Nat) : List SV → Bool
  | [] => true
  | x :: r => only i x && onlyL i r
end
theorem onlyL_get {i : Nat} : ∀ {l : List SV}, onlyL i l = true → ∀ (j : Nat) sv, l[j]? = some sv → only i sv = true
  | [], _, j, sv, h => by simp at h
  | x :: r, hc, j, sv, h => by
    simp only [onlyL, Bool.and_eq_true] at hc
    cases j with
    | zero => simp at h; exact h ▸ hc.1
    | succ j => exact onlyL_get hc.2 j sv (by simpa using h)
theorem Den.only {g : GW} {ρ sv x} (h : Den g ρ sv x) {i : Nat} : Go.KX.only i sv = true → ∀ ρ', ρ' i = ρ i → Den g ρ' sv x := by
  have key : ∀ {i j : Nat}, Nat.beq j i = true → j = i := fun h => Nat.eq_of_beq_eq_true h
  induction h with
  | v => exact fun _ _ _ => .v
  | str => exact fun _ _ _ => .str
  | s xs h1 h2 hl hr ho hne hd _ => exact fun _ _ _ => .s xs h1 h2 hl hr ho hne hd
  | p xs hl hf hc hd _ => exact fun _ _ _ => .p xs hl hf hc hd
  | l => intro h ρ' e; obtain rfl := key h; rw [← e]; exact .l
  | a xs hl _ ih => exact fun hc ρ' e => .a xs hl (fun j sv x h1 h2 => ih j sv x h1 h2 (onlyL_get hc j sv h1) ρ' e)
  | f xs ys hl _ hl2 _ ih ih2 =>
    intro hc ρ' e
    simp only [Go.KX.only, Bool.and_eq_true] at hc
    exact .f xs ys hl (fun j sv x h1 h2 => ih j sv x h1 h2 (onlyL_get hc.1 j sv h1) ρ' e) hl2 (fun j sv x h1 h2 => ih2 j sv x h1 h2 (onlyL_get hc.2 j sv h1) ρ' e)
  | t xs hl _ ih => exact fun hc ρ' e => .t xs hl (fun j sv x h1 h2 => ih j sv x h1 h2 (onlyL_get hc j sv h1) ρ' e)
  | gt _ ih => exact fun hc ρ' e => .gt (ih hc ρ' e)
  | gf => exact fun _ _ _ => .gf
  | o => intro h ρ' e; obtain rfl := key h; rw [← e]; exact .o
  | e h' => intro h ρ' e; obtain rfl := key h; exact .e (by rw [e]; exact h')
  | fm raw ms clk hf hh he hk hd _ => exact fun _ _ _ => .fm raw ms clk hf hh he hk hd
  | mp => intro h ρ' e; obtain rfl := key h; rw [← e]; exact .mp
  | ni => exact fun _ _ _ => .ni
/-- What comes, and the block i that comes with it. -/
def FnN (P : Program) (fs : List MF) (f : FuncId) (args : List SV) (res : SV) (i : Nat) (mb : MB) : Prop :=
  Callable P f ∧ ∀ ρ g vs, All fs g → DenL g ρ args vs → Calls P f vs.toArray g.w fun e w' => ∃ v g' r ρ', e = .returned v ∧ g'.w = w' ∧ Ext [] g g' ∧ Den g' ρ' res v ∧ DenB g' ρ' i mb r ∧ Own [r] g' ∧ ∀ b ∈ blks [r], g.w.heap.size ≤ b
structure Rn (X : Kx) (fs : List MF) (tb : TT) (rs : List ResultVar) (res : SV) (i : Nat) (mb : MB) : Prop where
  ret : ∀ {k L M svs}, resS tb L M rs = some svs → resVS svs = res → keepM (Nat.beq i) M = [(i, mb)] → E X (.code .ret :: k) L M fs []
theorem fnb {P : Program} {fs : List MF} {tb : TT} (hT : tb.Ok P) {f : FuncId} {fn : Func} {c : Code} {args : List SV} {res : SV} {i : Nat} {mb : MB} (n : Nat) (rs : List ResultVar) (hf : P.funcs[f]? = some fn) (hrs : fn.results = rs.toArray)
    (h : ∀ g0 B0 Q ρ0, Rn ⟨⟨P, n, g0, B0, Q, none, []⟩, ρ0⟩ fs tb rs res i mb → E ⟨⟨P, n, g0, B0, Q, none, []⟩, ρ0⟩ [.code c] (initS args 0) [] fs []) (hb : fn.body = some c := by rfl) (hname : (fn.name == "runtime.NumGoroutine") = false := by kernel_rfl) (hn : fn.ntmps = n := by rfl) (hle : args.length ≤ n := by exact Nat.le_of_ble_eq_true rfl) : FnN P fs f args res i mb := by
  refine ⟨⟨fn, hf, by simp [hb], hname⟩, fun ρ g vs hfs ha => ?_⟩
  refine calls_of_wp hf hb (wpIn_wide (n := 0) |>.1 ?_)
  have hpost : ∀ (a : Act) (g' : GW) L M' svs, resS tb L M' rs = some svs → resVS svs = res → keepM (Nat.beq i) M' = [(i, mb)] → ESt ⟨⟨P, n, g, [], bodyPost P fn (fun e w' => ∃ v g' r ρ', e = .returned v ∧ g'.w = w' ∧ Ext [] g g' ∧ Den g' ρ' res v ∧ DenB g' ρ' i mb r ∧ Own [r] g' ∧ ∀ b ∈ blks [r], g.w.heap.size ≤ b), none, []⟩, ρ⟩ L M' fs [] g' a →
      a.defers = [] ∧ ∃ v, (results fn a.tmps).run P g'.w = .ok v g'.w ∧ ∃ v2 g2 r ρ', Ending.returned v = .returned v2 ∧ g2.w = g'.w ∧ Ext [] g g2 ∧ Den g2 ρ' res v2 ∧ DenB g2 ρ' i mb r ∧ Own [r] g2 ∧ ∀ b ∈ blks [r], g.w.heap.size ≤ b := by
    intro a g' L M' svs h1 h2 h3 hst
    obtain ⟨ρ', ms', s1, s2, s3⟩ := hst
    obtain ⟨v, hv, dv⟩ := results_ok (X := ⟨⟨P, n, g, [], _, none, []⟩, ρ⟩) hT s1 s2 s3 hrs h1
    obtain ⟨m1, m2, h5, h6⟩ := s2.keep (Nat.beq i)
    have s4 := (s1.perm (by simpa using h6)).drop
    rw [h3] at h5
    cases h5 with
    | cons hB ht =>
      cases ht
      exact ⟨s1.kn.defers, v, hv, v, g', _, ρ', rfl, rfl, s1.ext, h2 ▸ dv, hB, s4.own, fun b hb => (s4.new b hb).resolve_left (fun hx => by cases hx)⟩
  refine h g [] (bodyPost P fn (fun e w' => ∃ v g' r ρ', e = .returned v ∧ g'.w = w' ∧ Ext [] g g' ∧ Den g' ρ' res v ∧ DenB g' ρ' i mb r ∧ Own [r] g' ∧ ∀ b ∈ blks [r], g.w.heap.size ≤ b)) ρ ⟨?_⟩ g _ ?_
  · intro k L M' svs h1 h2 h3 g' a hst
    refine wpIn_ret ?_
    rw [cont_ret]
    exact hpost a g' L M' svs h1 h2 h3 hst
  · refine ⟨ρ, [], ⟨⟨by simp [hn, ha.1]; omega, rfl, fun i v hi => by simp [lk] at hi⟩, hfs, ⟨fun r hr => (by cases hr), List.nodup_nil, fun b hb => (by cases hb), fun b hb => (by cases hb)⟩, Ext.refl _ g, fun b hb => (by cases hb)⟩, .nil, fun i _ => rfl, fun t sv ht => ?_⟩
    obtain ⟨j, rfl, hj⟩ := initS_lk args 0 t sv ht
    obtain ⟨x, hx, dx⟩ := ha.get hj
    refine ⟨x, ?_, dx⟩
    have hlt : j < vs.length := by
      rcases Nat.lt_or_ge j vs.length with h | h
      · exact h
      · rw [List.getElem?_eq_none h] at hx; cases hx
    simp only [Nat.zero_add]
    rw [Array.getElem?_append_left (by simpa using hlt)]
    simpa using hx
section
variable {X : Kx} {k : List It} {L : SL} {M : SM} {fs : List MF} {own : List Res} {arr : Array Oper} {l : List Oper} {o : Oper} {tb : TT} {rs : List ResultVar}
theorem ern {res : SV} {svs : List SV} {i : Nat} {mb mb' : MB} {k' : List It} (n : Nat) (R : Rn X fs tb rs res i mb) (he : resVS svs = res ∧ mb' = mb) (hk : normS (lkS L) 64 n k = .code .ret :: k' := by rfl) (hr : resS tb L M rs = some svs := by rfl) (hm : keepM (Nat.beq i) M = [(i, mb')] := by rfl) : E X k L M fs [] :=
  norm_E 64 n (hk ▸ R.ret hr he.1 (by rw [hm, he.2]))
theorem srn {res : SV} {svs : List SV} {i : Nat} {mb mb' : MB} {k' : List It} (n : Nat) (R : Rn X fs tb rs res i mb) (he : resVS svs = res ∧ mb' = mb) (hk : normS (lkS L) 64 n k = .code .ret :: k' := by rfl) (hr : resS tb L M rs = some svs := by rfl) (hm : keepM (Nat.beq i) M = [(i, mb')] := by rfl) : ES X arr [] k L M fs [] := ern n R he hk hr hm
/-- A call with which a new block comes. -/
theorem fnw (hT : tb.Ok X.P) (m : Nat) (H : List (List SV)) {d i : Nat} {f : FuncId} {fo : Operand} {az : Array Operand} {ts : Array TypeId} {svs args : List SV} {res : SV} {mb : MB} {l' L' M' φ} (hs : FnN X.P fs f args res i mb) (hk : ES X arr l' k L' M' fs own) (hg : o.guard = none := by rfl) (hd : o.dst = some d := by rfl) (ho : o.op = .call ⟨.value fo, az, ts⟩ := by rfl) (hfo : evS (lkS L) fo = some (.f f [] []) := by rfl)
    (ha : evs (lkS L) az.toList = some svs := by rfl) (hb : svs.map st1 = args := by rfl) (hc : svs.flatMap cd1 = [] := by rfl) (hn : Nat.blt d X.n = true := by rfl) (hoc : (occSL i L || occM i M) = false := by rfl) (hlt : Nat.blt i 1000 = true := by rfl) (hcb : cloB mb = true := by rfl) (hol : only i res = true := by rfl)
    (hr : xrun tb X.n arr m H l ((d, res) :: L) ((i, mb) :: M) [] = some (l', L', M', φ) := by rfl) (hφ : conj φ := by first | trivial | omega | (simp +contextual [conj]; done) | (simp +contextual [conj, *]; done) | (simp +contextual [conj, *] <;> omega)) : ES X arr (o :: l) k L M fs own := by
  intro g a hE
  obtain ⟨ρ, ms, st⟩ := hE.open
  simp only [Bool.or_eq_false_iff] at hoc
  have hlt : i < 1000 := by simpa [Nat.blt_eq] using hlt
  have h2 : ∀ t sv, lkS L t = some sv → ∃ x, a.tmps[t]? = some x ∧ Den g ρ sv x := (st.all (F2 X ρ L a) (.tail _ (.head _))).val
  have hw : Region.wanted o (yielded arr a.tmps) = true := live_wanted (L := []) st.kn (live_none hg)
  have hall : evs (lkS L) (fo :: az.toList) = some (.f f [] [] :: svs) := by simp only [evs, hfo, ha]
  have hden := sts_ok (evals_den h2 hall) (by simp only [List.flatMap_cons, hc, cd1, List.append_nil]; intro p hp; cases hp)
  obtain ⟨x, rr, e1, dx, dr⟩ := hden.uncons
  simp only [List.map_cons, List.cons.injEq] at e1
  obtain ⟨rfl, rfl⟩ := e1
  obtain ⟨xs, ys, hfe, d1, d2⟩ := den_f dx
  obtain rfl := d1.unnil
  obtain rfl := d2.unnil
  rw [hb] at dr
  obtain ⟨hcl, hcall⟩ := hs
  have hrun := calls_ent hcl (ρe := a.eval) ho hfe g.w
  simp only [List.nil_append, List.append_nil] at hrun
  simp only [wl, hw, if_true, wn, hrun]
  refine (hcall ρ g _ (fun f hf => st.all f (.tail _ (.tail _ hf))) dr).mono ?_
  rintro e w' ⟨v, g', r, ρ', rfl, rfl, hE', dv, hB, hO, hN⟩
  have s' := st.frame (r := ms ++ own) (fsc := []) (ownc := []) (fs' := []) (own' := [r]) .nil hE' (fun f hf => (by cases hf)) hO (fun b hb => .inr (hN b hb)) .nil
  simp only [List.nil_append] at s'
  let ρ2 : Nat → Lc := fun j => if j = i then ρ' i else ρ j
  have e2 : ρ2 i = ρ' i := by simp [ρ2]
  have hM : DenM g' ρ M ms := s'.all _ (.head _)
  have hS : Sl X ρ L a g' := s'.all _ (.tail _ (.head _))
  have s3 : St X.toCx [] (F1 ρ2 ((i, mb) :: M) (r :: ms) :: F2 X ρ2 L a :: fs) ((r :: ms) ++ own) g' a := ⟨s'.kn, All.cons (.cons (hB.move hcb e2) (occ_upd hM hoc.2)) (All.cons ⟨fun j hj => by
      have : j ≠ i := by omega
      simp only [ρ2, if_neg this]; exact hS.pin j hj, fun t sv ht => by
      obtain ⟨x, hx, dx⟩ := hS.val t sv ht
      exact ⟨x, hx, dx.upd (occSL_get hoc.1 t sv ht)⟩⟩ (fun f hf => s'.all f (.tail _ (.tail _ hf)))), s'.own, s'.ext, s'.new⟩
  refine ⟨v, rfl, ?_⟩
  rw [hd]
  exact go hT m H hk hr hφ g' _ (ESt.put s3 hn (dv.only hol ρ2 e2))
end
end Go.KX
namespace Go.KX
abbrev msE (m : List (Bytes × Nd)) : List (Bytes × SV) := m.map fun p => (p.1, ndS p.2)
abbrev ordE (n : Nd) : Bytes × SV := (n.ref, ndS n)
/-- byRef's map. -/
def byR (l : List Nd) : List (Bytes × Nd) := l.foldl (fun m n => mset m n.ref n) []
def okN (l : List Nd) : Bool := decide ((byR l).length = l.length)
section
variable {α β γ : Type} [DecidableEq α]
theorem mset_map (f : β → γ) (m : List (α × β)) (q : α) (v : β) : mset (m.map fun p => (p.1, f p.2)) q (f v) = (mset m q v).map fun p => (p.1, f p.2) := by
  induction m with
  | nil => rfl
  | cons p r ih =>
    simp only [List.map_cons, mset]
    split
    · rfl
    · rw [ih]; rfl
theorem mget_map (f : β → γ) (m : List (α × β)) (q : α) : mget (m.map fun p => (p.1, f p.2)) q = (mget m q).map f := by
  induction m with
  | nil => rfl
  | cons p r ih =>
    simp only [List.map_cons, mget]
    split
    · rfl
    · rw [ih]
theorem mget_mset (m : List (α × β)) (q k : α) (v : β) : mget (mset m q v) k = if k = q then some v else mget m k := by
  induction m with
  | nil => simp [mset, mget]
  | cons p r ih =>
    simp only [mset]
    split
    · rename_i h; subst h; simp only [mget]; split <;> rfl
    · rename_i h
      simp only [mget]
      split
      · rename_i h2; subst h2; rw [if_neg (by rintro rfl; exact h rfl)]
      · exact ih
theorem mset_len (m : List (α × β)) (q : α) (v : β) : (mset m q v).length ≤ m.length + 1 ∧ ((mset m q v).length = m.length + 1 → mset m q v = m ++ [(q, v)] ∧ q ∉ m.map (·.1)) := by
  induction m with
  | nil => simp [mset]
  | cons p r ih =>
    simp only [mset]
    split
    · simp
    · rename_i h
      obtain ⟨h1, h2⟩ := ih
      refine ⟨by simpa using h1, fun h3 => ?_⟩
      obtain ⟨h4, h5⟩ := h2 (by simpa using h3)
      exact ⟨by rw [h4]; rfl, by simp only [List.map_cons, List.mem_cons, not_or]; exact ⟨h, h5⟩⟩
theorem mset_new {m : List (α × β)} {q : α} {v : β} (h : q ∉ m.map (·.1)) : mset m q v = m ++ [(q, v)] := by
  induction m with
  | nil => rfl
  | cons p r ih =>
    simp only [List.map_cons, List.mem_cons, not_or] at h
    simp only [mset, if_neg h.1, ih h.2, List.cons_append]
end
theorem okN_len {l : List Nd} : decide (((msE (byR l)).length : Int) = ((l.map ndL).length : Int)) = okN l := by
  rw [List.length_map, List.length_map]
  exact decide_eq_decide.2 (by omega)
theorem byR_aux : ∀ (l : List Nd) (m : List (Bytes × Nd)), (l.foldl (fun m n => mset m n.ref n) m).length ≤ m.length + l.length ∧ ((l.foldl (fun m n => mset m n.ref n) m).length = m.length + l.length → l.foldl (fun m n => mset m n.ref n) m = m ++ l.map (fun n => (n.ref, n)) ∧ (l.map (·.ref)).Nodup ∧ ∀ n ∈ l, n.ref ∉ m.map (·.1))
  | [], m => ⟨by simp, fun _ => ⟨by simp, by simp, by simp⟩⟩
  | n :: l, m => by
    obtain ⟨h1, h2⟩ := byR_aux l (mset m n.ref n)
    obtain ⟨h3, h4⟩ := mset_len m n.ref n
    simp only [List.foldl_cons, List.length_cons]
    refine ⟨by omega, fun h => ?_⟩
    obtain ⟨h5, h6⟩ := h4 (by omega)
    obtain ⟨h7, h8, h9⟩ := h2 (by omega)
    refine ⟨by rw [h7, h5]; simp, ?_, ?_⟩
    · simp only [List.map_cons, List.nodup_cons]
      refine ⟨fun hm => ?_, h8⟩
      obtain ⟨x, hx, e⟩ := List.mem_map.1 hm
      refine h9 x hx ?_
      rw [h5, e]; simp
    · intro x hx
      cases hx with
      | head => exact h6
      | tail _ hx =>
        have := h9 x hx
        rw [h5] at this
        simp only [List.map_append, List.mem_append, not_or] at this
        exact this.1
theorem byR_ok {l : List Nd} (h : okN l = true) : byR l = l.map (fun n => (n.ref, n)) ∧ (l.map (·.ref)).Nodup := by
  obtain ⟨h1, h2, _⟩ := (byR_aux l []).2 (by have := of_decide_eq_true h; simpa [byR] using this)
  exact ⟨by simpa [byR] using h1, h2⟩
theorem okN_of {l : List Nd} (h : (l.map (·.ref)).Nodup) : okN l = true := by
  have key : ∀ (l : List Nd) (m : List (Bytes × Nd)), (l.map (·.ref)).Nodup → (∀ n ∈ l, n.ref ∉ m.map (·.1)) → (l.foldl (fun m n => mset m n.ref n) m).length = m.length + l.length := by
    intro l
    induction l with
    | nil => intro m _ _; simp
    | cons n l ih =>
      intro m h hm
      simp only [List.map_cons, List.nodup_cons] at h
      have hn := mset_new (v := n) (hm n (.head _))
      simp only [List.foldl_cons]
      rw [ih _ h.2 (fun x hx => ?_), hn]
      · simp; omega
      · rw [hn]
        simp only [List.map_append, List.mem_append, not_or]
        refine ⟨hm x (.tail _ hx), ?_⟩
        simp only [List.map_cons, List.map_nil, List.mem_singleton]
        intro e
        exact h.1 (List.mem_map.2 ⟨x, hx, e⟩)
  have := key l [] h (fun _ _ => by simp)
  exact decide_eq_true (by simpa [byR] using this)
theorem okN_iff {l : List Nd} : okN l = true ↔ (l.map (·.ref)).Nodup := ⟨fun h => (byR_ok h).2, okN_of⟩
theorem byR_next {l : List Nd} {j : Nat} (h : j < l.length) : mset (msE (byR (l.take j))) l[j].ref (ndS l[j]) = msE (byR (l.take (j + 1))) := by
  rw [List.take_succ_eq_append_getElem h]
  simp only [byR, List.foldl_append, List.foldl_cons, List.foldl_nil]
  exact mset_map ndS _ _ _
theorem byR_E {l : List Nd} (h : okN l = true) : msE (byR l) = l.map ordE := by
  rw [(byR_ok h).1, msE, List.map_map]; rfl
theorem rN_get {l : List Nd} {j : Nat} (h : j < l.length) : (l.map ndL)[j]? = some (ndL l[j]) := by simp [h]
theorem ordE_get {l : List Nd} {n : Nat} {q : Bytes} {sv : SV} (h : (l.map ordE)[n]? = some (q, sv)) : ∃ x, l[n]? = some x ∧ q = x.ref ∧ sv = ndS x := by
  simp only [List.getElem?_map, Option.map_eq_some_iff] at h
  obtain ⟨x, hx, e⟩ := h
  simp only [ordE, Prod.mk.injEq] at e
  exact ⟨x, hx, e.1.symm, e.2.symm⟩
def toldE (out : List Bytes) : List (Bytes × SV) := out.foldl (fun m o => mset m o (bS true)) []
theorem told_next (out : List Bytes) (o : Bytes) : mset (toldE out) o (bS true) = toldE (out ++ [o]) := by simp [toldE, List.foldl_append]
theorem told_get (out : List Bytes) (q : Bytes) : mget (toldE out) q = if q ∈ out then some (bS true) else none := by
  have key : ∀ (out : List Bytes) (m : List (Bytes × SV)), mget (out.foldl (fun m o => mset m o (bS true)) m) q = if q ∈ out then some (bS true) else mget m q := by
    intro out
    induction out with
    | nil => intro m; rfl
    | cons o out ih =>
      intro m
      simp only [List.foldl_cons]
      rw [ih, mget_mset]
      by_cases h1 : q ∈ out
      · rw [if_pos h1, if_pos (List.mem_cons_of_mem _ h1)]
      · rw [if_neg h1]
        by_cases h2 : q = o
        · rw [if_pos h2, if_pos (by rw [h2]; exact List.mem_cons_self ..)]
        · rw [if_neg h2, if_neg (by simp [h1, h2])]
  exact key out []
theorem told_in {out : List Bytes} {q : Bytes} (h : q ∈ out) : mget (toldE out) q = some (bS true) := by rw [told_get, if_pos h]
theorem told_out {out : List Bytes} {q : Bytes} (h : q ∉ out) : mget (toldE out) q = none := by rw [told_get, if_neg h]
def readyN (out : List Bytes) (n : Nd) : Bool := (inputsN n).all fun i => decide (i ∈ out)
abbrev gtB (a b : Bytes) : Bool := !(blt a b || decide (a = b))
def stepB (out : List Bytes) (s : Bytes × Bool) (n : Nd) : Bytes × Bool := if (s.2 && gtB n.ref s.1) = true then s else if readyN out n = true then (n.ref, true) else s
def bestL (out : List Bytes) (l : List Nd) : Bytes × Bool := l.foldl (stepB out) ([], false)
def pickL (l : List Nd) (js : List Nat) : List Nd := js.filterMap (l[·]?)
theorem pickL_snoc {l : List Nd} {js : List Nat} {n : Nat} {x : Nd} (h : l[n]? = some x) : pickL l (js ++ [n]) = pickL l js ++ [x] := by simp [pickL, h]
theorem pickL_all (l : List Nd) : pickL l (List.range l.length) = l := by
  have key : ∀ n, n ≤ l.length → pickL l (List.range n) = l.take n := by
    intro n
    induction n with
    | zero => intro _; simp [pickL]
    | succ n ih =>
      intro h
      rw [List.range_succ, pickL_snoc (List.getElem?_eq_getElem (by omega)), ih (by omega), List.take_succ_eq_append_getElem (by omega)]
  rw [key _ (Nat.le_refl _), List.take_length]
theorem best_snoc {out : List Bytes} {l : List Nd} {x : Nd} : bestL out (l ++ [x]) = stepB out (bestL out l) x := by simp [bestL]
theorem blt_irrefl : ∀ a : Bytes, blt a a = false
  | [] => rfl
  | x :: a => by
    have ih := blt_irrefl a
    unfold blt at ih ⊢
    simp [Op.bytesLess, ih]
theorem blt_trans : ∀ {a b c : Bytes}, blt a b = true → blt b c = true → blt a c = true
  | _, _, [], _, h => by unfold blt at h; simp [Op.bytesLess] at h
  | _, [], _ :: _, h, _ => by unfold blt at h; simp [Op.bytesLess] at h
  | [], _ :: _, _ :: _, _, _ => by unfold blt; simp [Op.bytesLess]
  | x :: a, y :: b, z :: c, h1, h2 => by
    have ih := @blt_trans a b c
    unfold blt at *
    simp only [Op.bytesLess, Bool.or_eq_true, decide_eq_true_eq, Bool.and_eq_true, beq_iff_eq] at *
    rcases h1 with h1 | ⟨rfl, h1⟩
    · rcases h2 with h2 | ⟨rfl, h2⟩
      · exact .inl (UInt8.lt_trans h1 h2)
      · exact .inl h1
    · rcases h2 with h2 | ⟨rfl, h2⟩
      · exact .inl h2
      · exact .inr ⟨rfl, ih h1 h2⟩
theorem blt_total : ∀ (a b : Bytes), blt a b = true ∨ a = b ∨ blt b a = true
  | [], [] => .inr (.inl rfl)
  | [], _ :: _ => .inl (by unfold blt; simp [Op.bytesLess])
  | _ :: _, [] => .inr (.inr (by unfold blt; simp [Op.bytesLess]))
  | x :: a, y :: b => by
    have ih := blt_total a b
    unfold blt at *
    simp only [Op.bytesLess, Bool.or_eq_true, decide_eq_true_eq, Bool.and_eq_true, beq_iff_eq] at *
    rcases Nat.lt_trichotomy x.toNat y.toNat with h | h | h
    · exact .inl (.inl (UInt8.lt_iff_toNat_lt.2 h))
    · have hxy : x = y := UInt8.toNat_inj.1 h
      subst hxy
      rcases ih with h | rfl | h
      · exact .inl (.inr ⟨rfl, h⟩)
      · exact .inr (.inl rfl)
      · exact .inr (.inr (.inr ⟨rfl, h⟩))
    · exact .inr (.inr (.inl (UInt8.lt_iff_toNat_lt.2 h)))
theorem blt_asymm {a b : Bytes} (h : blt a b = true) : blt b a = false := by
  cases hq : blt b a with
  | false => rfl
  | true => have := blt_trans h hq; rw [blt_irrefl] at this; cases this
theorem blt_ne {a b : Bytes} (h : blt a b = true) : a ≠ b := fun e => by subst e; rw [blt_irrefl] at h; cases h
theorem gtB_iff {a b : Bytes} : gtB a b = true ↔ blt b a = true := by
  unfold gtB
  rcases blt_total a b with h | h | h
  · simp [h, blt_asymm h]
  · subst h; simp [blt_irrefl]
  · have h2 := blt_asymm h
    have h3 := (blt_ne h).symm
    simp [h, h2, h3]
theorem blt_tri {a b : Bytes} (h : blt a b = false) (h2 : blt b a = false) : a = b := by
  rcases blt_total a b with q | q | q
  · rw [h] at q; cases q
  · exact q
  · rw [h2] at q; cases q
theorem stepB_comm (out : List Bytes) (s : Bytes × Bool) (x y : Nd) : stepB out (stepB out s x) y = stepB out (stepB out s y) x := by
  obtain ⟨b, f⟩ := s
  unfold stepB
  cases hx : readyN out x <;> cases hy : readyN out y <;> cases f <;> simp only [Bool.false_and, Bool.true_and, Bool.false_eq_true, if_false, if_true]
  all_goals (repeat' split) <;> try rfl
  all_goals simp_all only [Bool.not_eq_true, Bool.true_and, Bool.and_true, not_true_eq_false, gtB_iff, Prod.mk.injEq, and_true]
  all_goals grind [blt_asymm, → blt_trans, blt_irrefl, → blt_tri]
theorem best_perm {out : List Bytes} {l l' : List Nd} (h : l.Perm l') : bestL out l = bestL out l' :=
  h.foldl_eq' (fun x _ y _ z => stepB_comm out z x y) _
/-- What is best: it is ready, and none that is ready has a lesser ref. -/
theorem best_some {out : List Bytes} : ∀ {l : List Nd}, (bestL out l).2 = true → ∃ x ∈ l, x.ref = (bestL out l).1 ∧ readyN out x = true := by
  have key : ∀ (l : List Nd) (s : Bytes × Bool), (l.foldl (stepB out) s).2 = true → l.foldl (stepB out) s = s ∨ ∃ x ∈ l, x.ref = (l.foldl (stepB out) s).1 ∧ readyN out x = true := by
    intro l
    induction l with
    | nil => intro s _; exact .inl rfl
    | cons x l ih =>
      intro s h
      simp only [List.foldl_cons] at h ⊢
      rcases ih _ h with e | ⟨y, hy, h2⟩
      · rw [e]
        unfold stepB
        split
        · exact .inl rfl
        · split
          · exact .inr ⟨x, .head _, rfl, by assumption⟩
          · exact .inl rfl
      · exact .inr ⟨y, .tail _ hy, h2⟩
  intro l h
  rcases key l _ h with e | h2
  · rw [bestL, e] at h; cases h
  · exact h2
theorem best_left {out : List Bytes} {l : List Nd} (hn : (l.map (·.ref)).Nodup) (h : (bestL out l).2 = true) : (l.filter fun n => decide (n.ref ≠ (bestL out l).1)).length + 1 = l.length ∧ mdel (l.map ordE) (bestL out l).1 = (l.filter fun n => decide (n.ref ≠ (bestL out l).1)).map ordE := by
  obtain ⟨x, hx, e, _⟩ := best_some h
  rw [← e]
  have key : ∀ (l : List Nd), (l.map (·.ref)).Nodup → x ∈ l → (l.filter fun n => decide (n.ref ≠ x.ref)).length + 1 = l.length ∧ mdel (l.map ordE) x.ref = (l.filter fun n => decide (n.ref ≠ x.ref)).map ordE := by
    intro l
    induction l with
    | nil => intro _ h; cases h
    | cons y l ih =>
      intro hn hx
      simp only [List.map_cons, List.nodup_cons] at hn
      by_cases hy : y.ref = x.ref
      · have hall : l.filter (fun n => decide (n.ref ≠ x.ref)) = l := by
          rw [List.filter_eq_self]
          intro z hz
          simp only [ne_eq, decide_eq_true_eq]
          intro ez
          exact hn.1 (List.mem_map.2 ⟨z, hz, by rw [ez, hy]⟩)
        rw [List.filter_cons_of_neg (by simp [hy]), hall]
        refine ⟨rfl, ?_⟩
        simp only [List.map_cons, ordE, mdel, hy, if_true]
      · have hx2 : x ∈ l := by
          cases hx with
          | head => exact absurd rfl hy
          | tail _ h => exact h
        obtain ⟨h1, h2⟩ := ih hn.2 hx2
        rw [List.filter_cons_of_pos (by simp [hy])]
        refine ⟨by simp only [List.length_cons]; exact congrArg (· + 1) h1, ?_⟩
        simp only [List.map_cons, mdel]
        rw [if_neg (fun e => hy e.symm), h2]
  exact key l hn hx
theorem filter_nodup {l : List Nd} {p : Nd → Bool} (h : (l.map (·.ref)).Nodup) : ((l.filter p).map (·.ref)).Nodup := h.sublist ((List.filter_sublist).map _)
theorem snoc_ok {n m : Nat} {js : List Nat} (h : js.Nodup) (h2 : ∀ i ∈ js, i < m) (hn : n ∉ js) (hm : n < m) : (js ++ [n]).Nodup ∧ ∀ i ∈ js ++ [n], i < m := by
  refine ⟨List.nodup_append.2 ⟨h, by simp, fun a ha b hb => ?_⟩, fun i hi => ?_⟩
  · simp only [List.mem_singleton] at hb; rintro rfl; exact hn (hb ▸ ha)
  · rcases List.mem_append.1 hi with hi | hi
    · exact h2 i hi
    · simp only [List.mem_singleton] at hi; omega
theorem nodup_sub {α : Type} [DecidableEq α] : ∀ {js l : List α}, js.Nodup → (∀ i ∈ js, i ∈ l) → js.length ≤ l.length
  | [], _, _, _ => by simp
  | a :: js, l, h, h2 => by
    rw [List.nodup_cons] at h
    have ha := h2 a (.head _)
    have := nodup_sub (l := l.erase a) h.2 (fun i hi => by
      have hne : i ≠ a := by rintro rfl; exact h.1 hi
      exact (List.mem_erase_of_ne hne).2 (h2 i (.tail _ hi)))
    rw [List.length_erase_of_mem ha] at this
    have := List.length_pos_of_mem ha
    simp only [List.length_cons]
    omega
theorem nodup_le {m : Nat} {js : List Nat} (h : js.Nodup) (h2 : ∀ i ∈ js, i < m) : js.length ≤ m := by
  have := nodup_sub (l := List.range m) h (fun i hi => List.mem_range.2 (h2 i hi))
  simpa using this
theorem snoc_mu {n m : Nat} {js : List Nat} (_h : js.Nodup) (_h2 : ∀ i ∈ js, i < m) (h3 : (js ++ [n]).Nodup ∧ ∀ i ∈ js ++ [n], i < m) : m - (js ++ [n]).length < m - js.length := by
  have := nodup_le h3.1 h3.2
  simp only [List.length_append, List.length_singleton] at this ⊢
  omega
def orderL : Nat → List Bytes → List Nd → List Bytes × Int
  | 0, out, _ => (out, 0)
  | f + 1, out, left => if (bestL out left).2 = false then ([], 121) else orderL f (out ++ [(bestL out left).1]) (left.filter fun n => decide (n.ref ≠ (bestL out left).1))
def orderN (l : List Nd) : List Bytes × Int := if okN l = false then ([], 8) else orderL l.length [] l
/-- What slices.Backward hands over. -/
def bkA (l : List Nd) : List (List SV) := (List.range l.length).map fun (j : Nat) => [nI ((l.length : Int) - 1 - j), ndS (l.getD (l.length - 1 - j) ⟨[], 0, [], [], [], false, zeroV, zeroV, []⟩)]
theorem bkA_len (l : List Nd) : (bkA l).length = l.length := by simp [bkA]
theorem bkA_get {l : List Nd} {j : Nat} (h : j < l.length) : (bkA l)[j]? = some [nI ((l.length : Int) - 1 - j), ndS (l[l.length - 1 - j]'(by omega))] := by
  have h2 : l.length - 1 - j < l.length := by omega
  simp [bkA, h, h2]
end Go.KX
namespace Go.KX
def findN (l : List Nd) (q : Bytes) : Option Nd := l.find? fun n => decide (n.ref = q)
theorem findN_none {l : List Nd} {q : Bytes} : findN l q = none ↔ q ∉ l.map (·.ref) := by
  unfold findN
  rw [List.find?_eq_none]
  simp only [decide_eq_true_eq, List.mem_map, not_exists, not_and]
theorem findN_some {l : List Nd} {q : Bytes} {n : Nd} (h : findN l q = some n) : n ∈ l ∧ n.ref = q :=
  ⟨List.mem_of_find?_eq_some h, by have := List.find?_some h; simpa using this⟩
def bkR (l : List Nd) (j : Nat) : List (Bytes × Nd) := (l.reverse.take j).foldl (fun m n => mset m n.ref n) []
theorem bkR_next {l : List Nd} {j : Nat} (h : j < l.length) : mset (msE (bkR l j)) (l[l.length - 1 - j]'(by omega)).ref (ndS (l[l.length - 1 - j]'(by omega))) = msE (bkR l (j + 1)) := by
  have h2 : j < l.reverse.length := by simpa using h
  have e : l.reverse[j] = l[l.length - 1 - j]'(by omega) := List.getElem_reverse h2
  unfold bkR
  rw [List.take_succ_eq_append_getElem h2, List.foldl_append, e]
  exact mset_map ndS _ _ _
theorem bkR_get (l : List Nd) (q : Bytes) : mget (msE (bkR l l.length)) q = (findN l q).map ndS := by
  have key : ∀ l : List Nd, mget (l.reverse.foldl (fun m n => mset m n.ref n) []) q = findN l q := by
    intro l
    induction l with
    | nil => rfl
    | cons n l ih =>
      rw [List.reverse_cons, List.foldl_append]
      simp only [List.foldl_cons, List.foldl_nil]
      rw [mget_mset, ih]
      unfold findN
      rw [List.find?_cons]
      by_cases h : n.ref = q
      · simp [h]
      · simp [h, Ne.symm h]
  rw [msE, mget_map, bkR, List.take_of_length_le (by simp), key]
theorem byR_get {l : List Nd} (h : okN l = true) (q : Bytes) : mget (byR l) q = findN l q := by
  rw [(byR_ok h).1]
  induction l with
  | nil => rfl
  | cons n l ih =>
    have hn := (byR_ok h).2
    simp only [List.map_cons, List.nodup_cons] at hn
    simp only [List.map_cons, mget, findN, List.find?_cons]
    by_cases hq : n.ref = q
    · simp [hq]
    · rw [if_neg (Ne.symm hq), ih (okN_of hn.2)]
      simp [hq, findN]
def needL (l : List Nd) : Nat → List Bytes → List Bytes → List Bytes
  | 0, _, out => out
  | _ + 1, [], out => out
  | f + 1, q :: t, out => match findN l q with
    | none => needL l f t out
    | some n => if n.ref ∈ out then needL l f t out else needL l f (t ++ inputsN n) (out ++ [n.ref])
def muN (l : List Nd) (todo out : List Bytes) : Nat := (l.length - out.length) * 3000 + todo.length
theorem muN_cons (l : List Nd) (q : Bytes) (t out : List Bytes) : muN l (q :: t) out = muN l t out + 1 := by simp only [muN, List.length_cons]; omega
structure NI (l : List Nd) (out : List Bytes) : Prop where
  nd : out.Nodup
  sub : ∀ r ∈ out, r ∈ l.map (·.ref)
theorem NI.le {l : List Nd} {out : List Bytes} (h : NI l out) : out.length ≤ l.length := by
  have := nodup_sub h.nd h.sub
  simpa using this
theorem NI.step {l : List Nd} {out : List Bytes} (h : NI l out) {q : Bytes} {n : Nd} (hf : findN l q = some n) (hn : n.ref ∉ out) : NI l (out ++ [n.ref]) := by
  refine ⟨List.nodup_append.2 ⟨h.nd, by simp, fun a ha b hb => ?_⟩, fun r hr => ?_⟩
  · simp only [List.mem_singleton] at hb; rintro rfl; exact hn (hb ▸ ha)
  · rcases List.mem_append.1 hr with hr | hr
    · exact h.sub r hr
    · simp only [List.mem_singleton] at hr
      rw [hr]; exact List.mem_map.2 ⟨n, (findN_some hf).1, rfl⟩
theorem NI.mu {l : List Nd} {out t : List Bytes} (h : NI l out) {q : Bytes} {n : Nd} (hf : findN l q = some n) (hn : n.ref ∉ out) : muN l (t ++ inputsN n) (out ++ [n.ref]) < muN l (q :: t) out := by
  have h1 := (h.step hf hn).le
  have h2 := inputs_len n
  simp only [List.length_append, List.length_singleton] at h1
  simp only [muN, List.length_append, List.length_cons]
  omega
theorem needL_fuel {l : List Nd} (m : Nat) : ∀ {todo out : List Bytes} {f f' : Nat}, NI l out → muN l todo out ≤ m → muN l todo out ≤ f → muN l todo out ≤ f' → needL l f todo out = needL l f' todo out := by
  induction m with
  | zero =>
    intro todo out f f' _ h _ _
    cases todo with
    | nil => cases f <;> cases f' <;> rfl
    | cons q t => rw [muN_cons] at h; omega
  | succ m ih =>
    intro todo out f f' hI hm h1 h2
    cases todo with
    | nil => cases f <;> cases f' <;> rfl
    | cons q t =>
      rw [muN_cons] at hm h1 h2
      cases f with
      | zero => omega
      | succ f =>
        cases f' with
        | zero => omega
        | succ f' =>
          simp only [needL]
          cases hf : findN l q with
          | none => exact ih hI (by omega) (by omega) (by omega)
          | some n =>
            simp only
            by_cases hn : n.ref ∈ out
            · rw [if_pos hn, if_pos hn]; exact ih hI (by omega) (by omega) (by omega)
            · rw [if_neg hn, if_neg hn]
              have := hI.mu (t := t) hf hn
              rw [muN_cons] at this
              exact ih (hI.step hf hn) (by omega) (by omega) (by omega)
def needA (l : List Nd) (todo out : List Bytes) : List Bytes := needL l (muN l todo out) todo out
theorem needA_nil (l : List Nd) (out : List Bytes) : needA l [] out = out := by unfold needA; cases muN l [] out <;> rfl
theorem needA_none {l : List Nd} {q : Bytes} {t out : List Bytes} (h : findN l q = none) : needA l (q :: t) out = needA l t out := by
  unfold needA; rw [muN_cons]; simp only [needL, h]
theorem needA_old {l : List Nd} {q : Bytes} {t out : List Bytes} {n : Nd} (h : findN l q = some n) (hn : n.ref ∈ out) : needA l (q :: t) out = needA l t out := by
  unfold needA; rw [muN_cons]; simp only [needL, h, if_pos hn]
theorem needA_new {l : List Nd} {q : Bytes} {t out : List Bytes} {n : Nd} (hI : NI l out) (h : findN l q = some n) (hn : n.ref ∉ out) : needA l (q :: t) out = needA l (t ++ inputsN n) (out ++ [n.ref]) := by
  have h1 := hI.mu (t := t) h hn
  rw [muN_cons] at h1
  have : needA l (q :: t) out = needL l (muN l t out) (t ++ inputsN n) (out ++ [n.ref]) := by
    unfold needA; rw [muN_cons]; simp only [needL, h, if_neg hn]
  rw [this]
  exact needL_fuel _ (hI.step h hn) (Nat.le_refl _) (by omega) (Nat.le_refl _)
theorem NI.nil (l : List Nd) : NI l [] := ⟨List.nodup_nil, fun _ h => by cases h⟩
theorem todo_le {l : List Nd} {q ref : Bytes} {t out : List Bytes} (h : muN l (q :: t) out ≤ muN l [ref] []) (hl : l.length ≤ 1000000) : t.length ≤ 3000000001 := by
  simp only [muN, List.length_cons, List.length_nil] at h; omega
theorem mu_b {l : List Nd} {q : Bytes} {t out : List Bytes} : muN l t out < muN l (q :: t) out := by rw [muN_cons]; omega
theorem mu_a {l : List Nd} {q : Bytes} {t out : List Bytes} {m : Nat} (h : muN l (q :: t) out ≤ m) : muN l t out ≤ m := by rw [muN_cons] at h; omega
attribute [irreducible] muN needA
/-- dag.Needs. -/
def needsN (l : List Nd) (ref : Bytes) : List Bytes := sortL (needA l [ref] [])
theorem flat_le (l : List Nd) : (l.flatMap inputsN).length ≤ l.length * 2049 := by
  induction l with
  | nil => simp
  | cons n l ih =>
    have := inputs_len n
    simp only [List.flatMap_cons, List.length_append, List.length_cons, Nat.add_mul]
    omega
def refsN (cond : Bytes) (l : List Nd) : List Bytes := cond :: l.flatMap inputsN
/-- dag.Check. -/
def checkN (cond : Bytes) (l : List Nd) : Int :=
  if 16 < l.length then 6 else if (l.any fun n => !isN n) = true then 120 else if okN l = false then 8 else if ((refsN cond l).any fun q => (findN l q).isNone) = true then 7 else (orderN l).2
end Go.KX
namespace Go.KX
abbrev nA : Nd := ⟨[65], 1, [115], [], [], false, zeroV, zeroV, []⟩
abbrev nB : Nd := ⟨[66], 2, [], [65], [108, 97, 115, 116], false, zeroV, zeroV, []⟩
abbrev nC : Nd := ⟨[67], 4, [], [66], [103, 116], false, numV 1000, zeroV, []⟩
abbrev nX : Nd := ⟨[65], 3, [], [], [], false, zeroV, zeroV, [36, 66]⟩
abbrev nY : Nd := ⟨[66], 3, [], [], [], false, zeroV, zeroV, [36, 65]⟩
abbrev nZ : Nd := ⟨[], 0, [], [], [], false, zeroV, zeroV, []⟩
theorem live1 : orderN [nC, nB, nA] = ([[65], [66], [67]], 0) := by decide
theorem live2 : checkN [67] [nA, nB, nC] = 0 := by decide
theorem live3 : checkN [65] [nX, nY] = 121 := by decide
theorem live4 : checkN [65] [nZ] = 120 := by decide
theorem live5 : needsN [nA, nB, nC] [66] = [[65], [66]] := by
  have h : needA [nA, nB, nC] [[66]] [] = [[66], [65]] := by
    unfold needA muN
    decide
  unfold needsN
  rw [h]
  simp [sortL, List.mergeSort, List.MergeSort.Internal.splitInTwo, List.merge]
  decide
/-- A node's texts. -/
def wN (n : Nd) : Nat := n.ref.length + n.source.length + n.input.length + n.how.length + n.text.length
def sumN (l : List Nd) : Nat := (l.map wN).sum
theorem sumN_next {l : List Nd} {j : Nat} (h : j < l.length) : sumN (l.take (j + 1)) = sumN (l.take j) + wN l[j] := by
  rw [List.take_succ_eq_append_getElem h]
  simp only [sumN, List.map_append, List.sum_append, List.map_cons, List.map_nil, List.sum_cons, List.sum_nil, Nat.add_zero]
theorem sumN_le {l : List Nd} {b : Nat} (h : ∀ n ∈ l, wN n ≤ b) : sumN l ≤ l.length * b := by
  induction l with
  | nil => simp [sumN]
  | cons n l ih =>
    have h1 := h n (.head _)
    have h2 := ih (fun x hx => h x (.tail _ hx))
    simp only [sumN, List.map_cons, List.sum_cons, List.length_cons, Nat.succ_mul] at h2 ⊢
    omega
theorem sumN_mem {l : List Nd} {n : Nd} (h : n ∈ l) : wN n ≤ sumN l := by
  induction l with
  | nil => cases h
  | cons x l ih =>
    simp only [sumN, List.map_cons, List.sum_cons]
    cases h with
    | head => omega
    | tail _ h => have := ih h; simp only [sumN] at this; omega
def smallN (l : List Nd) : Bool := decide (l.length ≤ 24) && decide (sumN (l.take 25) ≤ 8000)
theorem small_len {l : List Nd} (h : smallN l = true) : l.length ≤ 24 := by
  simp only [smallN, Bool.and_eq_true, decide_eq_true_eq] at h; exact h.1
theorem small_ref {l : List Nd} (h : smallN l = true) : ∀ n ∈ l, n.ref.length ≤ 1000000 := by
  intro n hn
  have hl := small_len h
  simp only [smallN, Bool.and_eq_true, decide_eq_true_eq] at h
  rw [List.take_of_length_le (by omega)] at h
  have := sumN_mem hn
  unfold wN at this
  omega
def placeN (l : List Bytes) (s : Bytes) : Int := idxF (fun x => decide (x = s)) l
theorem eq_next {a b : List Bytes} {j : Nat} (hj : j < a.length) (hb : j < b.length) (h : a.take j = b.take j) (e : a[j] = b[j]) : a.take (j + 1) = b.take (j + 1) := by
  rw [List.take_succ_eq_append_getElem hj, List.take_succ_eq_append_getElem hb, h, e]
end Go.KX
namespace Go.KX
structure Ahead (a : List Bytes) (n : Nd) : Prop where
  ex : ∃ p s, a = p ++ n.ref :: s ∧ n.ref ∉ p ∧ ∀ q ∈ inputsN n, q ∈ p
theorem place_at {p s : List Bytes} {x : Bytes} (h : x ∉ p) : placeN (p ++ x :: s) x = p.length := by
  have hlt : p.length < (p ++ x :: s).length := by simp
  refine idxF_some (p := fun y => decide (y = x)) (l := p ++ x :: s) hlt (fun y hy => ?_) (by simp)
  rw [List.take_left] at hy
  exact decide_eq_false (fun e => h (e ▸ hy))
theorem place_in {p s : List Bytes} {x : Bytes} (h : x ∈ p) : 0 ≤ placeN (p ++ s) x ∧ placeN (p ++ s) x < p.length := by
  obtain ⟨a, b, rfl, hn⟩ := List.eq_append_cons_of_mem h
  rw [List.append_assoc, List.cons_append, place_at hn]
  simp; omega
theorem Ahead.place {a : List Bytes} {n : Nd} (h : Ahead a n) : 0 ≤ placeN a n.ref ∧ ∀ q ∈ inputsN n, 0 ≤ placeN a q ∧ placeN a q < placeN a n.ref := by
  obtain ⟨p, s, rfl, h1, h2⟩ := h
  rw [place_at h1]
  exact ⟨by omega, fun q hq => place_in (h2 q hq)⟩
end Go.KX
namespace Go.KX
theorem sort_mem {l : List Bytes} {x : Bytes} : x ∈ sortL l ↔ x ∈ l := (List.mergeSort_perm l _).mem_iff
section
variable {l : List Nd}
theorem needA_ind {P : List Bytes → List Bytes → Prop} (h0 : ∀ out, NI l out → P [] out) (h1 : ∀ q t out, NI l out → findN l q = none → P t out → P (q :: t) out)
    (h2 : ∀ q t out n, NI l out → findN l q = some n → n.ref ∈ out → P t out → P (q :: t) out)
    (h3 : ∀ q t out n, NI l out → findN l q = some n → n.ref ∉ out → P (t ++ inputsN n) (out ++ [n.ref]) → P (q :: t) out) : ∀ (m : Nat) (todo out : List Bytes), muN l todo out ≤ m → NI l out → P todo out
  | m, [], out, _, hI => h0 out hI
  | 0, q :: t, out, hm, hI => by rw [muN_cons] at hm; omega
  | m + 1, q :: t, out, hm, hI => by
    cases hf : findN l q with
    | none => exact h1 q t out hI hf (needA_ind h0 h1 h2 h3 m t out (by rw [muN_cons] at hm; omega) hI)
    | some n =>
      by_cases hn : n.ref ∈ out
      · exact h2 q t out n hI hf hn (needA_ind h0 h1 h2 h3 m t out (by rw [muN_cons] at hm; omega) hI)
      · exact h3 q t out n hI hf hn (needA_ind h0 h1 h2 h3 m _ _ (by have := hI.mu (t := t) hf hn; omega) (hI.step hf hn))
theorem need_ni (todo out : List Bytes) (hI : NI l out) : NI l (needA l todo out) :=
  needA_ind (P := fun todo out => NI l (needA l todo out)) (fun out h => by rw [needA_nil]; exact h) (fun q t out _ h ih => by rw [needA_none h]; exact ih)
    (fun q t out n _ h hn ih => by rw [needA_old h hn]; exact ih) (fun q t out n hI h hn ih => by rw [needA_new hI h hn]; exact ih) _ todo out (Nat.le_refl _) hI
theorem need_out (todo out : List Bytes) (hI : NI l out) : ∀ x ∈ out, x ∈ needA l todo out :=
  needA_ind (P := fun todo out => ∀ x ∈ out, x ∈ needA l todo out) (fun out h x hx => by rw [needA_nil]; exact hx) (fun q t out _ h ih => by rw [needA_none h]; exact ih)
    (fun q t out n _ h hn ih => by rw [needA_old h hn]; exact ih) (fun q t out n hI h hn ih x hx => by rw [needA_new hI h hn]; exact ih x (List.mem_append_left _ hx)) _ todo out (Nat.le_refl _) hI
theorem need_todo (todo out : List Bytes) (hI : NI l out) : ∀ x ∈ todo, findN l x ≠ none → x ∈ needA l todo out :=
  needA_ind (P := fun todo out => ∀ x ∈ todo, findN l x ≠ none → x ∈ needA l todo out) (fun out h x hx => by cases hx)
    (fun q t out _ h ih x hx hf => by
      rw [needA_none h]
      cases hx with
      | head => exact absurd h hf
      | tail _ hx => exact ih x hx hf)
    (fun q t out n hI h hn ih x hx hf => by
      rw [needA_old h hn]
      cases hx with
      | head => exact need_out t out hI _ ((findN_some h).2 ▸ hn)
      | tail _ hx => exact ih x hx hf)
    (fun q t out n hI h hn ih x hx hf => by
      rw [needA_new hI h hn]
      cases hx with
      | head => exact need_out _ _ (hI.step h hn) _ (by rw [← (findN_some h).2]; simp)
      | tail _ hx => exact ih x (List.mem_append_left _ hx) hf) _ todo out (Nat.le_refl _) hI
theorem need_closed (todo out : List Bytes) (hI : NI l out) : (∀ x ∈ out, ∀ n, findN l x = some n → ∀ i ∈ inputsN n, findN l i ≠ none → i ∈ out ∨ i ∈ todo) →
    ∀ x ∈ needA l todo out, ∀ n, findN l x = some n → ∀ i ∈ inputsN n, findN l i ≠ none → i ∈ needA l todo out :=
  needA_ind (P := fun todo out => (∀ x ∈ out, ∀ n, findN l x = some n → ∀ i ∈ inputsN n, findN l i ≠ none → i ∈ out ∨ i ∈ todo) →
    ∀ x ∈ needA l todo out, ∀ n, findN l x = some n → ∀ i ∈ inputsN n, findN l i ≠ none → i ∈ needA l todo out)
    (fun out h hc => by
      rw [needA_nil]
      intro x hx n hn i hi hf
      rcases hc x hx n hn i hi hf with h | h
      · exact h
      · cases h)
    (fun q t out _ h ih hc => by
      rw [needA_none h]
      refine ih (fun x hx n hn i hi hf => ?_)
      rcases hc x hx n hn i hi hf with h1 | h1
      · exact .inl h1
      · cases h1 with
        | head => exact absurd h hf
        | tail _ h1 => exact .inr h1)
    (fun q t out n _ h hn ih hc => by
      rw [needA_old h hn]
      refine ih (fun x hx n' hn' i hi hf => ?_)
      rcases hc x hx n' hn' i hi hf with h1 | h1
      · exact .inl h1
      · cases h1 with
        | head => exact .inl ((findN_some h).2 ▸ hn)
        | tail _ h1 => exact .inr h1)
    (fun q t out n hI h hn ih hc => by
      rw [needA_new hI h hn]
      refine ih (fun x hx n' hn' i hi hf => ?_)
      have hq := (findN_some h).2
      rcases List.mem_append.1 hx with hx | hx
      · rcases hc x hx n' hn' i hi hf with h1 | h1
        · exact .inl (List.mem_append_left _ h1)
        · cases h1 with
          | head => exact .inl (by rw [← hq]; simp)
          | tail _ h1 => exact .inr (List.mem_append_left _ h1)
      · simp only [List.mem_singleton] at hx
        subst hx
        rw [hq, h] at hn'
        cases hn'
        exact .inr (List.mem_append_right _ hi)) _ todo out (Nat.le_refl _) hI
theorem need_least {S : Bytes → Prop} (hS : ∀ x n, S x → findN l x = some n → ∀ i ∈ inputsN n, S i) (todo out : List Bytes) (hI : NI l out) : (∀ x ∈ todo, S x) → (∀ x ∈ out, S x) → ∀ x ∈ needA l todo out, S x :=
  needA_ind (P := fun todo out => (∀ x ∈ todo, S x) → (∀ x ∈ out, S x) → ∀ x ∈ needA l todo out, S x)
    (fun out h _ ho => by rw [needA_nil]; exact ho) (fun q t out _ h ih ht ho => by rw [needA_none h]; exact ih (fun x hx => ht x (.tail _ hx)) ho)
    (fun q t out n _ h hn ih ht ho => by rw [needA_old h hn]; exact ih (fun x hx => ht x (.tail _ hx)) ho)
    (fun q t out n hI h hn ih ht ho => by
      rw [needA_new hI h hn]
      refine ih (fun x hx => ?_) (fun x hx => ?_)
      · rcases List.mem_append.1 hx with hx | hx
        · exact ht x (.tail _ hx)
        · exact hS q n (ht q (.head _)) h x hx
      · rcases List.mem_append.1 hx with hx | hx
        · exact ho x hx
        · simp only [List.mem_singleton] at hx
          rw [hx, (findN_some h).2]; exact ht q (.head _)) _ todo out (Nat.le_refl _) hI
end
/-- Nodes that may be a rule's. -/
structure Chk (ref : Bytes) (l : List Nd) : Prop where
  len : l.length ≤ 16
  is : ∀ n ∈ l, isN n = true
  nd : (l.map (·.ref)).Nodup
  refs : ∀ q ∈ refsN ref l, q ∈ l.map (·.ref)
  ord : (orderN l).2 = 0
section
variable {ref : Bytes} {l : List Nd} (hc : Chk ref l)
include hc
omit hc in
theorem find_of {q : Bytes} (h : q ∈ l.map (·.ref)) : ∃ n, findN l q = some n ∧ n ∈ l ∧ n.ref = q := by
  cases hf : findN l q with
  | none => exact absurd h (findN_none.1 hf)
  | some n => exact ⟨n, rfl, (findN_some hf).1, (findN_some hf).2⟩
theorem Chk.input {n : Nd} (hn : n ∈ l) {i : Bytes} (hi : i ∈ inputsN n) : i ∈ l.map (·.ref) := hc.refs i (List.mem_cons_of_mem _ (List.mem_flatMap.2 ⟨n, hn, hi⟩))
theorem Chk.self {n : Nd} (hn : n ∈ l) : findN l n.ref = some n := by
  obtain ⟨m, h1, h2, h3⟩ := find_of (List.mem_map.2 ⟨n, hn, rfl⟩)
  have inj : ∀ {l : List Nd}, (l.map (·.ref)).Nodup → ∀ a ∈ l, ∀ b ∈ l, a.ref = b.ref → a = b := by
    intro l
    induction l with
    | nil => intro _ a ha; cases ha
    | cons z l ih =>
      intro hn a ha b hb e
      simp only [List.map_cons, List.nodup_cons] at hn
      cases ha with
      | head => cases hb with
        | head => rfl
        | tail _ hb => exact absurd (List.mem_map.2 ⟨b, hb, e.symm⟩) hn.1
      | tail _ ha => cases hb with
        | head => exact absurd (List.mem_map.2 ⟨a, ha, e⟩) hn.1
        | tail _ hb => exact ih hn.2 a ha b hb e
  rw [h1, inj hc.nd m h2 n hn h3]
theorem Chk.need_closed {n : Nd} (hn : n ∈ l) (h : n.ref ∈ needsN l ref) {i : Bytes} (hi : i ∈ inputsN n) : i ∈ needsN l ref := by
  refine sort_mem.2 (Go.KX.need_closed _ _ (NI.nil l) (fun x hx => by cases hx) n.ref (sort_mem.1 h) n (hc.self hn) i hi ?_)
  rw [Ne, findN_none]
  exact fun h => h (hc.input hn hi)
omit hc in
end
section
variable {ref : Bytes} {l : List Nd} (hc : Chk ref l)
include hc
omit hc in
omit hc in
end
end Go.KX
namespace Go.KX
theorem cmpP_mem : ∀ (l : List Bytes) (a x : Bytes), x ∈ a :: cmpP a l ↔ x ∈ a :: l
  | [], a, x => Iff.rfl
  | b :: r, a, x => by
    have ih := cmpP_mem r b x
    simp only [List.mem_cons] at ih ⊢
    unfold cmpP
    split
    · rename_i h
      subst h
      rw [ih]
      constructor
      · rintro (h | h)
        · exact .inl h
        · exact .inr (.inr h)
      · rintro (h | h | h)
        · exact .inl h
        · exact .inl h
        · exact .inr h
    · simp only [List.mem_cons]; rw [ih]
theorem cmpB_mem {l : List Bytes} {x : Bytes} : x ∈ cmpB l ↔ x ∈ l := by
  cases l with
  | nil => exact Iff.rfl
  | cons a r => exact cmpP_mem r a x
mutual
/-- The refs in a tree, as they come. -/
def rawX : Ex → List Bytes
  | .mk k n _ l => if k = 2 then [n] else rawL l
def rawL : List Ex → List Bytes
  | [] => []
  | x :: r => rawX x ++ rawL r
end
mutual
theorem refs_mem (q : Bytes) : ∀ x : Ex, q ∈ refsX x ↔ q ∈ rawX x
  | .mk k n _ l => by
    have h := refs_mems q l
    unfold refsX rawX
    split
    · exact Iff.rfl
    · rw [cmpB_mem, sort_mem, h]
theorem refs_mems (q : Bytes) : ∀ l : List Ex, q ∈ refsL l ↔ q ∈ rawL l
  | [] => Iff.rfl
  | x :: r => by
    have h1 := refs_mem q x
    have h2 := refs_mems q r
    simp only [refsL, rawL, List.mem_append, h1, h2]
end
def nmC (i : Nat) : Bytes := [UInt8.ofNat (65 + i)]
theorem nmC_inj : ∀ i < 10, ∀ j < 10, nmC i = nmC j → i = j := by decide
structure Chain (n : Nat) (g : Nat → Nd) : Prop where
  n1 : 1 ≤ n
  n10 : n ≤ 10
  ref : ∀ i < n, (g i).ref = nmC i
  is : ∀ i < n, isN (g i) = true
  low : ∀ i < n, ∀ q ∈ inputsN (g i), ∃ j < i, q = nmC j
  up : ∀ i, i + 1 < n → nmC i ∈ inputsN (g (i + 1))
section
variable {n : Nat} {g : Nat → Nd}
theorem refs_eq (hr : ∀ i < n, (g i).ref = nmC i) : ((List.range n).map g).map (·.ref) = (List.range n).map nmC := by
  rw [List.map_map]
  refine List.map_congr_left (fun i hi => hr i (List.mem_range.1 hi))
theorem names_nd (h : n ≤ 10) : ((List.range n).map nmC).Nodup := by
  have key : ∀ n, n ≤ 10 → ((List.range n).map nmC).Nodup := by
    intro n
    induction n with
    | zero => intro _; simp
    | succ n ih =>
      intro h
      rw [List.range_succ, List.map_append]
      refine List.nodup_append.2 ⟨ih (by omega), by simp, fun a ha b hb => ?_⟩
      obtain ⟨i, hi, rfl⟩ := List.mem_map.1 ha
      simp only [List.map_cons, List.map_nil, List.mem_singleton] at hb
      have hi := List.mem_range.1 hi
      rintro rfl
      have := nmC_inj i (by omega) n (by omega) hb
      omega
  exact key n h
theorem name_mem {i : Nat} (h : i < n) : nmC i ∈ (List.range n).map nmC := List.mem_map.2 ⟨i, List.mem_range.2 h, rfl⟩
theorem name_mem' {i : Nat} (hn : n ≤ 10) (hi : i < 10) (h : nmC i ∈ (List.range n).map nmC) : i < n := by
  obtain ⟨j, hj, e⟩ := List.mem_map.1 h
  have hj := List.mem_range.1 hj
  have := nmC_inj j (by omega) i hi e
  omega
variable (hc : Chain n g)
include hc
theorem Chain.ready {k : Nat} (hk : k < n) {i : Nat} (hi : i < n) : readyN ((List.range k).map nmC) (g i) = decide (i ≤ k) := by
  have h10 := hc.n10
  rw [Bool.eq_iff_iff, decide_eq_true_eq]
  unfold readyN
  rw [List.all_eq_true]
  constructor
  · intro h
    rcases Nat.lt_or_ge k i with h1 | h1
    · exfalso
      obtain ⟨m, rfl⟩ : ∃ m, i = m + 1 := ⟨i - 1, by omega⟩
      have h2 := of_decide_eq_true (h _ (hc.up m hi))
      have h3 := name_mem' (by omega) (by omega) h2
      omega
    · exact h1
  · intro h q hq
    obtain ⟨j, hj, rfl⟩ := hc.low i hi q hq
    exact decide_eq_true (name_mem (by omega))
theorem Chain.best {k : Nat} (hk : k < n) : bestL ((List.range k).map nmC) ((List.range' k (n - k)).map g) = (nmC k, true) := by
  obtain ⟨m, hm⟩ : ∃ m, n - k = m + 1 := ⟨n - k - 1, by omega⟩
  rw [hm, List.range'_succ, List.map_cons]
  unfold bestL
  rw [List.foldl_cons]
  have e : stepB ((List.range k).map nmC) ([], false) (g k) = (nmC k, true) := by
    unfold stepB
    rw [if_neg (by simp), if_pos (by rw [hc.ready hk hk]; simp), hc.ref k hk]
  rw [e]
  have key : ∀ l : List Nd, (∀ x ∈ l, readyN ((List.range k).map nmC) x = false) → l.foldl (stepB ((List.range k).map nmC)) (nmC k, true) = (nmC k, true) := by
    intro l
    induction l with
    | nil => intro _; rfl
    | cons x l ih =>
      intro h
      rw [List.foldl_cons]
      have : stepB ((List.range k).map nmC) (nmC k, true) x = (nmC k, true) := by
        unfold stepB
        split
        · rfl
        · rw [if_neg (by rw [h x (.head _)]; decide)]
      rw [this]
      exact ih (fun y hy => h y (.tail _ hy))
  refine key _ (fun x hx => ?_)
  obtain ⟨i, hi, rfl⟩ := List.mem_map.1 hx
  have hi := List.mem_range'_1.1 hi
  rw [hc.ready hk (by omega)]
  exact decide_eq_false (by omega)
theorem Chain.ordAll : ∀ (f k : Nat), k + f = n → orderL f ((List.range k).map nmC) ((List.range' k f).map g) = ((List.range n).map nmC, 0)
  | 0, k, h => by
    obtain rfl : k = n := by omega
    rfl
  | f + 1, k, h => by
    have hk : k < n := by omega
    have hb := hc.best hk
    rw [show n - k = f + 1 by omega] at hb
    simp only [orderL, hb]
    rw [if_neg (by decide)]
    have e1 : (List.range k).map nmC ++ [nmC k] = (List.range (k + 1)).map nmC := by rw [List.range_succ, List.map_append]; rfl
    have e2 : ((List.range' k (f + 1)).map g).filter (fun x => decide (x.ref ≠ nmC k)) = (List.range' (k + 1) f).map g := by
      rw [List.range'_succ, List.map_cons, List.filter_cons_of_neg (by simp [hc.ref k hk]), List.filter_eq_self]
      intro x hx
      obtain ⟨i, hi, rfl⟩ := List.mem_map.1 hx
      have hi := List.mem_range'_1.1 hi
      have h10 := hc.n10
      rw [hc.ref i (by omega)]
      refine decide_eq_true (fun e => ?_)
      have := nmC_inj i (by omega) k (by omega) e
      omega
    rw [e1, e2]
    exact Chain.ordAll f (k + 1) (by omega)
theorem Chain.nd : (((List.range n).map g).map (·.ref)).Nodup := by rw [refs_eq hc.ref]; exact names_nd hc.n10
theorem Chain.order : orderN ((List.range n).map g) = ((List.range n).map nmC, 0) := by
  unfold orderN
  rw [if_neg (by rw [okN_of hc.nd]; decide), List.length_map, List.length_range]
  have := hc.ordAll n 0 (by omega)
  rw [← List.range_eq_range'] at this
  exact this
end
end Go.KX
namespace Go.KX
theorem blt_iff : ∀ (a b : Bytes), blt a b = true ↔ a < b
  | [], [] => by unfold blt; simp [Op.bytesLess]
  | [], _ :: _ => by unfold blt; simp [Op.bytesLess]
  | _ :: _, [] => by unfold blt; simp [Op.bytesLess]
  | x :: a, y :: b => by
    have ih := blt_iff a b
    unfold blt at *
    rw [List.cons_lt_cons_iff, ← ih]
    simp only [Op.bytesLess, Bool.or_eq_true, decide_eq_true_eq, Bool.and_eq_true, beq_iff_eq]
theorem ble_iff (a b : Bytes) : a ≤ b ↔ blt b a = false := by
  rw [← List.not_lt, ← blt_iff, Bool.not_eq_true]
def Rise (l : List Bytes) : Prop := l.Pairwise fun a b => blt a b = true
theorem Rise.nd {l : List Bytes} (h : Rise l) : l.Nodup := h.imp (fun h => blt_ne h)
theorem rise_ext : ∀ {a b : List Bytes}, Rise a → Rise b → (∀ x, x ∈ a ↔ x ∈ b) → a = b
  | [], [], _, _, _ => rfl
  | [], y :: b, _, _, h => by have := (h y).2 (.head _); cases this
  | x :: a, [], _, _, h => by have := (h x).1 (.head _); cases this
  | x :: a, y :: b, ha, hb, h => by
    have ha' := List.pairwise_cons.1 ha
    have hb' := List.pairwise_cons.1 hb
    have e : x = y := by
      have h1 := (h x).1 (.head _)
      have h2 := (h y).2 (.head _)
      cases h1 with
      | head => rfl
      | tail _ h1 =>
        cases h2 with
        | head => rfl
        | tail _ h2 =>
          have := blt_asymm (ha'.1 y h2)
          rw [hb'.1 x h1] at this
          cases this
    subst e
    rw [rise_ext ha'.2 hb'.2 (fun z => ?_)]
    have hx : x ∉ a := fun hm => blt_ne (ha'.1 x hm) rfl
    have hy : x ∉ b := fun hm => blt_ne (hb'.1 x hm) rfl
    constructor
    · intro hz
      have := (h z).1 (.tail _ hz)
      cases this with
      | head => exact absurd hz hx
      | tail _ h => exact h
    · intro hz
      have := (h z).2 (.tail _ hz)
      cases this with
      | head => exact absurd hz hy
      | tail _ h => exact h
theorem sort_up (l : List Bytes) : (sortL l).Pairwise fun a b => blt b a = false := by
  have := List.pairwise_mergeSort (le := fun x y : Bytes => decide (x ≤ y)) (fun a b c h1 h2 => decide_eq_true (List.le_trans (of_decide_eq_true h1) (of_decide_eq_true h2))) (fun a b => by
    rcases List.le_total a b with h | h
    · simp [h]
    · simp [h]) l
  exact this.imp (fun h => (ble_iff _ _).1 (of_decide_eq_true h))
theorem sort_rise {l : List Bytes} (h : l.Nodup) : Rise (sortL l) := by
  have h1 := sort_up l
  have h2 : (sortL l).Nodup := (List.mergeSort_perm l _).nodup_iff.2 h
  refine (h1.and h2).imp (fun {a b} hab => ?_)
  rcases blt_total a b with q | q | q
  · exact q
  · exact absurd q hab.2
  · rw [hab.1] at q; cases q
theorem cmpP_rise : ∀ (r : List Bytes) (a : Bytes), (a :: r).Pairwise (fun a b => blt b a = false) → Rise (a :: cmpP a r)
  | [], a, _ => List.pairwise_singleton _ _
  | b :: r, a, h => by
    have h1 := List.pairwise_cons.1 h
    unfold cmpP
    split
    · rename_i e; subst e; exact cmpP_rise r b h1.2
    · rename_i e
      have ih := cmpP_rise r b h1.2
      have hab : blt a b = true := by
        rcases blt_total a b with q | q | q
        · exact q
        · exact absurd q.symm e
        · rw [h1.1 b (.head _)] at q; cases q
      refine List.pairwise_cons.2 ⟨fun x hx => ?_, ih⟩
      cases hx with
      | head => exact hab
      | tail _ hx => exact blt_trans hab ((List.pairwise_cons.1 ih).1 x hx)
theorem cmp_rise (l : List Bytes) : Rise (cmpB (sortL l)) := by
  have := sort_up l
  cases h : sortL l with
  | nil => exact List.Pairwise.nil
  | cons a r => rw [h] at this; exact cmpP_rise r a this
/-- The document's Add. -/
def addB : List Bytes → Bytes → List Bytes
  | [], s => [s]
  | x :: r, s => if blt x s = true then x :: addB r s else if x = s then x :: r else s :: x :: r
theorem add_mem : ∀ {l : List Bytes} {s x : Bytes}, x ∈ addB l s ↔ x ∈ l ∨ x = s
  | [], s, x => by simp [addB]
  | y :: r, s, x => by
    unfold addB
    split
    · simp only [List.mem_cons, add_mem (l := r), or_assoc]
    · split
      · rename_i e; subst e
        constructor
        · exact .inl
        · rintro (h | rfl)
          · exact h
          · exact .head _
      · simp only [List.mem_cons]; constructor
        · rintro (h | h)
          · exact .inr h
          · exact .inl h
        · rintro (h | h)
          · exact .inr h
          · exact .inl h
theorem add_rise : ∀ {l : List Bytes} {s : Bytes}, Rise l → Rise (addB l s)
  | [], s, _ => List.pairwise_singleton _ _
  | y :: r, s, h => by
    have h1 := List.pairwise_cons.1 h
    unfold addB
    split
    · rename_i hys
      refine List.pairwise_cons.2 ⟨fun x hx => ?_, add_rise h1.2⟩
      rcases add_mem.1 hx with hx | rfl
      · exact h1.1 x hx
      · exact hys
    · split
      · exact h
      · rename_i h2 h3
        have hsy : blt s y = true := by
          rcases blt_total s y with q | q | q
          · exact q
          · exact absurd q.symm h3
          · exact absurd q h2
        refine List.pairwise_cons.2 ⟨fun x hx => ?_, h⟩
        cases hx with
        | head => exact hsy
        | tail _ hx => exact blt_trans hsy (h1.1 x hx)
theorem add_len : ∀ (l : List Bytes) (s : Bytes), (addB l s).length ≤ l.length + 1
  | [], s => by simp [addB]
  | y :: r, s => by
    have := add_len r s
    unfold addB
    split
    · simp only [List.length_cons]; omega
    · split <;> simp
theorem add_at : ∀ {l : List Bytes} {s : Bytes} {k : Nat}, k ≤ l.length → (∀ x ∈ l.take k, blt x s = true) → (∀ h : k < l.length, blt l[k] s = false) → addB l s = if h : k < l.length then (if l[k] = s then l else l.take k ++ s :: l.drop k) else l ++ [s]
  | [], s, k, hk, _, _ => by simp [addB]
  | y :: r, s, 0, _, _, h => by
    have h0 := h (by simp)
    simp only [List.getElem_cons_zero] at h0
    unfold addB
    rw [h0]
    simp
  | y :: r, s, k + 1, hk, h, h2 => by
    have hy := h y (by simp)
    unfold addB
    rw [if_pos hy, add_at (l := r) (k := k) (by simpa using hk) (fun x hx => h x (by simp [hx])) (fun hh => h2 (Nat.succ_lt_succ hh))]
    simp only [List.length_cons, Nat.add_lt_add_iff_right, List.getElem_cons_succ, List.take_succ_cons, List.drop_succ_cons, List.cons_append]
    split
    · split <;> rfl
    · rfl
mutual
/-- The document's Refs. -/
def refsD : Ex → List Bytes
  | .mk k n _ l => refsDL (if k = 2 then addB [] n else []) l
def refsDL : List Bytes → List Ex → List Bytes
  | out, [] => out
  | out, x :: r => refsDL ((refsD x).foldl addB out) r
end
theorem refsD_eq (x : Ex) : refsD x = refsDL (if x.kind = 2 then addB [] x.name else []) x.kids := by cases x; rfl
theorem refsDL_app : ∀ (a : List Ex) (out : List Bytes) (b : List Ex), refsDL out (a ++ b) = refsDL (refsDL out a) b
  | [], out, b => by simp [refsDL]
  | x :: r, out, b => by simp only [List.cons_append, refsDL]; exact refsDL_app r _ b
theorem refsDL_next {l : List Ex} {j : Nat} (hj : j < l.length) (out : List Bytes) : refsDL out (l.take (j + 1)) = (refsD l[j]).foldl addB (refsDL out (l.take j)) := by
  rw [List.take_succ_eq_append_getElem hj, refsDL_app]
  simp only [refsDL]
theorem adds_rise : ∀ {l out : List Bytes}, Rise out → Rise (l.foldl addB out)
  | [], out, h => h
  | x :: l, out, h => adds_rise (l := l) (add_rise h)
theorem adds_mem : ∀ {l out : List Bytes} {q : Bytes}, q ∈ l.foldl addB out ↔ q ∈ out ∨ q ∈ l
  | [], out, q => by simp
  | x :: l, out, q => by
    rw [List.foldl_cons, adds_mem (l := l), add_mem, List.mem_cons, or_assoc]
theorem adds_len : ∀ (l out : List Bytes), (l.foldl addB out).length ≤ out.length + l.length
  | [], out => by simp
  | x :: l, out => by
    have h1 := adds_len l (addB out x)
    have h2 := add_len out x
    simp only [List.foldl_cons, List.length_cons]
    omega
mutual
/-- A ref has no parts. -/
def okX : Ex → Bool
  | .mk k _ _ l => (decide (k ≠ 2) || l.isEmpty) && okXs l
def okXs : List Ex → Bool
  | [] => true
  | x :: r => okX x && okXs r
end
mutual
theorem refsD_rise : ∀ x : Ex, Rise (refsD x)
  | .mk k n v l => by
    unfold refsD
    refine refsDL_rise l _ ?_
    split
    · exact List.pairwise_singleton _ _
    · exact List.Pairwise.nil
theorem refsDL_rise : ∀ (l : List Ex) (out : List Bytes), Rise out → Rise (refsDL out l)
  | [], out, h => by unfold refsDL; exact h
  | x :: r, out, h => by unfold refsDL; exact refsDL_rise r _ (adds_rise h)
end
mutual
theorem refsD_mem (q : Bytes) : ∀ x : Ex, okX x = true → (q ∈ refsD x ↔ q ∈ rawX x)
  | .mk k n v l, h => by
    simp only [okX, Bool.and_eq_true, Bool.or_eq_true, decide_eq_true_eq] at h
    have := refsDL_mem q l (if k = 2 then addB [] n else []) h.2
    unfold refsD rawX
    rw [this]
    by_cases hk : k = 2
    · rw [if_pos hk, if_pos hk]
      have hl : l = [] := by
        rcases h.1 with h | h
        · exact absurd hk h
        · simpa using h
      subst hl
      simp [addB, rawL]
    · rw [if_neg hk, if_neg hk]; simp
theorem refsDL_mem (q : Bytes) : ∀ (l : List Ex) (out : List Bytes), okXs l = true → (q ∈ refsDL out l ↔ q ∈ out ∨ q ∈ rawL l)
  | [], out, _ => by simp [refsDL, rawL]
  | x :: r, out, h => by
    simp only [okXs, Bool.and_eq_true] at h
    have h1 := refsD_mem q x h.1
    have h2 := refsDL_mem q r ((refsD x).foldl addB out) h.2
    simp only [refsDL, rawL, h2, adds_mem, List.mem_append, h1, or_assoc]
end
theorem refsX_rise (x : Ex) : Rise (refsX x) := by
  rw [refsX_eq]
  split
  · exact List.pairwise_singleton _ _
  · exact cmp_rise _
theorem refs_same {x : Ex} (h : okX x = true) : refsD x = refsX x :=
  rise_ext (refsD_rise x) (refsX_rise x) (fun q => by rw [refsD_mem q x h, refs_mem])
mutual
theorem refsD_len : ∀ x : Ex, (refsD x).length ≤ exSize x
  | .mk k n v l => by
    have h := refsDL_len l (if k = 2 then addB [] n else [])
    unfold refsD exSize
    have : (if k = 2 then addB [] n else []).length ≤ 1 := by split <;> simp [addB]
    omega
theorem refsDL_len : ∀ (l : List Ex) (out : List Bytes), (refsDL out l).length ≤ out.length + exSizes l
  | [], out => by simp [refsDL]
  | x :: r, out => by
    have h1 := refsD_len x
    have h2 := refsDL_len r ((refsD x).foldl addB out)
    have h3 := adds_len (refsD x) out
    simp only [refsDL, exSizes]
    omega
end
def Ok2 (f : Ps → Ex × Ps) : Prop := ∀ p, okX (f p).1 = true
theorem ok0 : okX ex0 = true := rfl
theorem okN1 (v : Val) : okX (exN v) = true := rfl
theorem okR (w : Bytes) : okX (exR w) = true := rfl
theorem okC (o : Bytes) (l : List Ex) : okX (exC o l) = okXs l := by simp [okX]
section
variable {s : Bytes} {pv : Bytes → Val × Int}
theorem loop_ok2 {f : Ps → Ex × Ps} (hf : Ok2 f) {ops : List Bytes} {alone : Bool} : ∀ (n : Nat) (x : Ex) (p : Ps), okX x = true → okX (loopG (tkX s) f ops alone n x p).1 = true
  | 0, x, p, h => h
  | n + 1, x, p, h => by
    have h2 : ∀ o q, okX (exC o [x, (f q).1]) = true := fun o q => by rw [okC]; simp [okXs, h, hf q]
    unfold loopG
    simp only
    split
    · exact h
    · split
      · exact h2 _ _
      · exact loop_ok2 hf n _ _ (h2 _ _)
theorem lev_ok2 {f : Ps → Ex × Ps} (hf : Ok2 f) : ∀ n, Ok2 (levX s f n)
  | 0 => hf
  | n + 1 => fun p => loop_ok2 (lev_ok2 hf n) _ _ _ (lev_ok2 hf n p)
theorem expr_ok2 {f : Ps → Ex × Ps} (hf : Ok2 f) (d : Nat) : Ok2 (exprX s f d) := fun p => lev_ok2 hf 5 _
theorem prim_ok2 {f : Ps → Ex × Ps} (hf : Ok2 f) : Ok2 (primX pv s f) := fun p => by
  have hw : ∀ r q, okX (wordX s f r q).1 = true := by
    intro r q
    unfold wordX
    simp only
    have h2 : ∀ o q, okX (exC o [(parX s f q).1]) = true := fun o q => by
      rw [okC]
      show (okX (f q).1 && true) = true
      rw [hf q]; rfl
    repeat' split
    all_goals first | exact okN1 _ | exact h2 _ _
  unfold primX
  simp only
  cases p.dead with
  | true => exact ok0
  | false =>
    cases p.restT s with
    | nil => exact ok0
    | cons c r =>
      simp only
      repeat' split
      all_goals first | exact ok0 | exact hf _ | exact hw _ _ | exact okR _ | exact okN1 _
theorem un_ok2 : ∀ d, Ok2 (unX pv s d)
  | 0 => fun p => by
    unfold unX
    exact prim_ok2 (fun _ => ok0) _
  | d + 1 => fun p => by
    unfold unX
    split
    · rw [okC]
      simp only [okXs, Bool.and_true]
      exact un_ok2 d _
    · exact prim_ok2 (expr_ok2 (un_ok2 d) _) _
theorem parse_ok2 : okX (parseX pv s).1 = true := by
  unfold parseX
  split
  · exact ok0
  · have h := expr_ok2 (s := s) (un_ok2 (pv := pv) (s := s) 33) 0 ⟨0, 0, 0, false⟩
    simp only
    generalize exprX s (unX pv s 33) 0 ⟨0, 0, 0, false⟩ = A at h ⊢
    repeat' split
    all_goals first | exact h | exact ok0
end
theorem parse_refs (s : Bytes) : refsD (parseX parseV s).1 = refsX (parseX parseV s).1 := refs_same parse_ok2
def findD (l : List Nd) (q : Bytes) : Int := idxF (fun n => decide (n.ref = q)) l
theorem findD_neg {l : List Nd} {q : Bytes} : findD l q < 0 ↔ q ∉ l.map (·.ref) := by
  constructor
  · intro h hq
    obtain ⟨n, hn, e⟩ := List.mem_map.1 hq
    obtain ⟨a, b, rfl⟩ := List.append_of_mem hn
    have hany : (a ++ n :: b).any (fun n : Nd => decide (n.ref = q)) = true := List.any_eq_true.2 ⟨n, by simp, decide_eq_true e⟩
    rw [← idxF_any] at hany
    unfold findD at h
    simp at hany
    omega
  · intro h
    have : findD l q = -1 := idxF_none (p := fun n : Nd => decide (n.ref = q)) (fun n hn => decide_eq_false (fun e => h (List.mem_map.2 ⟨n, hn, e⟩)))
    omega
theorem twice_no {l : List Nd} (h : ∀ (i : Nat) (hi : i < l.length), findD l l[i].ref = i) : okN l = true := by
  refine okN_of ?_
  rw [List.Nodup, List.pairwise_iff_getElem]
  intro i j hi hj hij e
  simp only [List.length_map] at hi hj
  simp only [List.getElem_map] at e
  have h1 := h i hi
  have h2 := h j hj
  rw [e] at h1
  omega
theorem twice_yes {l : List Nd} {i : Nat} (hi : i < l.length) (h : findD l l[i].ref ≠ i) : okN l = false := by
  cases hk : okN l with
  | false => rfl
  | true =>
    exfalso
    refine h (idxF_some (p := fun n : Nd => decide (n.ref = l[i].ref)) hi (fun x hx => ?_) (by simp))
    have hnd := okN_iff.1 hk
    rw [List.Nodup, List.pairwise_iff_getElem] at hnd
    obtain ⟨k, hk2, rfl⟩ := List.mem_take_iff_getElem.1 hx
    refine decide_eq_false ?_
    have := hnd k i (by simp; omega) (by simpa using hi) (by omega)
    simpa using this
def stepD (out : List Bytes) (s : Bytes × Bool) (n : Nd) : Bytes × Bool := if (decide (n.ref ∈ out) || s.2 && gtB n.ref s.1) = true then s else if readyN out n = true then (n.ref, true) else s
def bestD (out : List Bytes) (l : List Nd) : Bytes × Bool := l.foldl (stepD out) ([], false)
def leftD (out : List Bytes) (l : List Nd) : List Nd := l.filter fun n => decide (n.ref ∉ out)
theorem bestD_eq (out : List Bytes) (l : List Nd) : bestD out l = bestL out (leftD out l) := by
  have key : ∀ (l : List Nd) (s : Bytes × Bool), l.foldl (stepD out) s = (leftD out l).foldl (stepB out) s := by
    intro l
    induction l with
    | nil => intro s; rfl
    | cons x l ih =>
      intro s
      unfold leftD at ih ⊢
      by_cases hx : x.ref ∈ out
      · rw [List.filter_cons_of_neg (by simpa using hx), List.foldl_cons, ← ih]
        congr 1
        unfold stepD; rw [if_pos (by simp [hx])]
      · rw [List.filter_cons_of_pos (by simpa using hx), List.foldl_cons, List.foldl_cons, ← ih]
        congr 1
        unfold stepD stepB
        simp [hx]
  exact key l _
theorem bestD_next {out : List Bytes} {l : List Nd} {j : Nat} (h : j < l.length) : bestD out (l.take (j + 1)) = stepD out (bestD out (l.take j)) l[j] := by
  unfold bestD
  rw [List.take_succ_eq_append_getElem h, List.foldl_append]
  rfl
theorem left_nil (l : List Nd) : leftD [] l = l := by
  unfold leftD; rw [List.filter_eq_self]; intro n _; simp
theorem left_next (out : List Bytes) (b : Bytes) (l : List Nd) : (leftD out l).filter (fun n => decide (n.ref ≠ b)) = leftD (out ++ [b]) l := by
  unfold leftD
  rw [List.filter_filter]
  congr 1
  funext n
  rw [Bool.eq_iff_iff]
  simp only [ne_eq, Bool.and_eq_true, decide_eq_true_eq, List.mem_append, List.mem_singleton, not_or]
  exact And.comm
theorem rB_getD {l : List Bytes} {j : Nat} (h : (decide ((j : Int) < ((rowsB l).length : Int))) = true) : (rowsB l)[((j : Nat) : Int).toNat]? = some [.str (l.getD j [])] := by
  have hj : j < l.length := by have := of_decide_eq_true h; rw [List.length_map] at this; omega
  rw [Int.toNat_natCast, List.getElem?_map, List.getElem?_eq_getElem hj, List.getD_eq_getElem?_getD, List.getElem?_eq_getElem hj]
  rfl
theorem rB_and {l : List Bytes} {j : Nat} {b : Bool} (h : (decide ((j : Int) < ((rowsB l).length : Int)) && b) = true) : j < l.length ∧ b = true := by
  simp only [Bool.and_eq_true, decide_eq_true_eq, List.length_map] at h
  exact ⟨by omega, h.2⟩
theorem rB_andF {l : List Bytes} {j : Nat} {b : Bool} (h : (decide ((j : Int) < ((rowsB l).length : Int)) && b) = false) (hj : j < l.length) : b = false := by
  cases b with
  | false => rfl
  | true =>
    have h2 : ((j : Int) < ((rowsB l).length : Int)) := by rw [List.length_map]; omega
    rw [decide_eq_true h2] at h
    cases h
theorem add_new {l : List Bytes} {s : Bytes} {j : Nat} (e : addB l s = if h : j < l.length then (if l[j] = s then l else l.take j ++ s :: l.drop j) else l ++ [s]) (hj : j ≤ l.length) (hq : ∀ h : j < l.length, l[j] ≠ s) : addB l s = l.take j ++ s :: l.drop j := by
  rw [e]
  split
  · rename_i h; rw [if_neg (hq h)]
  · rw [List.take_of_length_le (by omega), List.drop_eq_nil_of_le (by omega)]
end Go.KX
namespace Go.KX
section
variable {l : List Nd} {ref : Bytes}
theorem idxF_find {α : Type} (p : α → Bool) : ∀ l : List α, l.find? p = if idxF p l < 0 then none else l[(idxF p l).toNat]?
  | [] => by simp [idxF]
  | x :: r => by
    have ih := idxF_find p r
    have hge := idxF_ge p r
    rw [List.find?_cons]
    unfold idxF
    cases hx : p x with
    | true => simp
    | false =>
      simp only [Bool.false_eq_true, if_false, ih]
      by_cases h0 : idxF p r < 0
      · simp [h0]
      · have e : (idxF p r + 1).toNat = (idxF p r).toNat + 1 := by omega
        rw [if_neg h0, if_neg h0, if_neg (by omega), e, List.getElem?_cons_succ]
theorem findN_at {i : Nat} (hi : i < l.length) (h : findD l l[i].ref = i) : findN l l[i].ref = some l[i] := by
  unfold findN
  unfold findD at h
  rw [idxF_find, h, if_neg (by omega), Int.toNat_natCast, List.getElem?_eq_getElem hi]
theorem find_ix {x : Bytes} {n : Nd} (h : findN l x = some n) : ∃ (i : Nat) (hi : i < l.length), l[i] = n ∧ findD l x = i := by
  unfold findN at h
  rw [idxF_find] at h
  split at h
  · cases h
  · rename_i h0
    obtain ⟨hi, e⟩ := List.getElem?_eq_some_iff.1 h
    exact ⟨_, hi, e, by unfold findD; omega⟩
theorem find_pos {q : Bytes} : 0 ≤ findD l q ↔ findN l q ≠ none := by
  rw [Ne, findN_none, ← findD_neg]
  omega
structure DI (l : List Nd) (ref : Bytes) (out : List Bytes) : Prop where
  rise : Rise out
  sub : ∀ x ∈ out, x ∈ needA l [ref] []
theorem DI.le {out : List Bytes} (h : DI l ref out) : out.length ≤ l.length := by
  have h1 := nodup_sub h.rise.nd h.sub
  have h2 := (need_ni (l := l) [ref] [] (NI.nil l)).le
  omega
theorem DI.nil : DI l ref [] := ⟨List.Pairwise.nil, fun x hx => by cases hx⟩
theorem DI.one (h : 0 ≤ findD l ref) : DI l ref [ref] := ⟨List.pairwise_singleton _ _, fun x hx => by
  simp only [List.mem_singleton] at hx
  rw [hx]; exact need_todo _ _ (NI.nil l) ref (.head _) (find_pos.1 h)⟩
theorem DI.add {out : List Bytes} (h : DI l ref out) {i : Nat} (hi : i < l.length) (hm : l[i].ref ∈ out) (hf : findD l l[i].ref = i) {q : Bytes} (hq : q ∈ inputsN l[i]) (hp : 0 ≤ findD l q) : DI l ref (addB out q) := by
  refine ⟨add_rise h.rise, fun x hx => ?_⟩
  rcases add_mem.1 hx with hx | rfl
  · exact h.sub x hx
  · exact need_closed _ _ (NI.nil l) (fun x hx => by cases hx) l[i].ref (h.sub _ hm) l[i] (findN_at hi hf) x hq (find_pos.1 hp)
theorem DI.done {out : List Bytes} (h : DI l ref out) (hr : 0 ≤ findD l ref → ref ∈ out) (hc : ∀ (i : Nat) (hi : i < l.length), l[i].ref ∈ out → findD l l[i].ref = i → ∀ q ∈ inputsN l[i], 0 ≤ findD l q → q ∈ out) : needsN l ref = out := by
  have hni := need_ni (l := l) [ref] [] (NI.nil l)
  refine rise_ext (sort_rise hni.nd) h.rise (fun x => ?_)
  show x ∈ sortL (needA l [ref] []) ↔ _
  rw [sort_mem]
  constructor
  · intro hx
    have hS := need_least (l := l) (S := fun x => findN l x = none ∨ x ∈ out) (fun x n hx hn i hi => ?_) [ref] [] (NI.nil l) (fun x hx => ?_) (fun x hx => by cases hx) x hx
    · rcases hS with hS | hS
      · exact absurd (hni.sub x hx) (findN_none.1 hS)
      · exact hS
    · rcases hx with hx | hx
      · rw [hx] at hn; cases hn
      · cases hfi : findN l i with
        | none => exact .inl rfl
        | some m =>
          refine .inr ?_
          obtain ⟨k, hk, e1, e2⟩ := find_ix hn
          have e3 := (findN_some hn).2
          rw [← e3, ← e1] at hx e2
          exact hc k hk hx e2 i (by rw [e1]; exact hi) (find_pos.2 (by rw [hfi]; exact fun h => by cases h))
    · simp only [List.mem_singleton] at hx
      subst hx
      cases hf : findN l x with
      | none => exact .inl rfl
      | some n => exact .inr (hr (find_pos.2 (by rw [hf]; exact fun h => by cases h)))
  · exact h.sub x
end
def isZ (v : Val) : Bool := decide (v = zeroV)
def isKD (n : Nd) : Bool :=
  if n.kind = 1 then decide (1 ≤ n.source.length) && decide (n.source.length ≤ 64) && decide (n.input = []) && decide (n.how = []) && !n.strict && isZ n.low && isZ n.high && decide (n.text = []) else
  if n.kind = 2 then decide (n.how ∈ hows) && decide (n.source = []) && isZ n.low && isZ n.high && decide (n.text = []) else
  if n.kind = 3 then decide ((parseX parseV n.text).2.1 = 0) && decide (n.source = []) && decide (n.input = []) && decide (n.how = []) && !n.strict && isZ n.low && isZ n.high else
  if n.kind = 4 then boundV n.low && ((decide (n.how = hGt) || decide (n.how = hLt)) && isZ n.high || (decide (n.how = hIn) || decide (n.how = hOut)) && boundV n.high) && decide (n.source = []) && !n.strict && decide (n.text = []) else false
def isD (n : Nd) : Bool := if refB n.ref = true then isKD n else false
theorem isD_eq (n : Nd) : isD n = isN n := by
  obtain ⟨ref, kind, source, input, how, strict, low, high, text⟩ := n
  unfold isD isN
  cases hr : refB ref with
  | false => simp
  | true =>
    simp only [Bool.not_true, Bool.false_or, if_true]
    by_cases h1 : kind = 1
    · subst h1
      simp only [isKD, isK, plainN, if_true, Nd.mk.injEq, true_and, isZ]
      by_cases a1 : input = [] <;> by_cases a2 : how = [] <;> by_cases a3 : strict = false <;> by_cases a4 : low = zeroV <;> by_cases a5 : high = zeroV <;> by_cases a6 : text = [] <;> by_cases a7 : source = [] <;> simp_all
      intro _
      exact List.length_pos_iff.2 ‹¬source = []›
    by_cases h2 : kind = 2
    · subst h2
      simp only [isKD, isK, plainN, if_true, Nd.mk.injEq, true_and, isZ]
      by_cases a4 : low = zeroV <;> by_cases a5 : high = zeroV <;> by_cases a6 : text = [] <;> by_cases a7 : source = [] <;> simp_all
    by_cases h3 : kind = 3
    · subst h3
      simp only [isKD, isK, plainN, if_true, Nd.mk.injEq, true_and, isZ]
      by_cases a1 : input = [] <;> by_cases a2 : how = [] <;> by_cases a3 : strict = false <;> by_cases a4 : low = zeroV <;> by_cases a5 : high = zeroV <;> by_cases a7 : source = [] <;> simp_all
    by_cases h4 : kind = 4
    · subst h4
      by_cases b1 : how = hIn
      · subst b1
        simp only [isKD, isK, plainN, if_true, isZ]
        by_cases a3 : strict = false <;> by_cases a6 : text = [] <;> by_cases a7 : source = [] <;> simp_all
      by_cases b2 : how = hOut
      · subst b2
        simp only [isKD, isK, plainN, if_true, isZ]
        by_cases a3 : strict = false <;> by_cases a6 : text = [] <;> by_cases a7 : source = [] <;> simp_all
      simp only [isKD, isK, plainN, if_true, isZ]
      by_cases a3 : strict = false <;> by_cases a5 : high = zeroV <;> by_cases a6 : text = [] <;> by_cases a7 : source = [] <;> by_cases b3 : how = hGt <;> by_cases b4 : how = hLt <;> simp_all
    · simp [isKD, isK, h1, h2, h3, h4]
end Go.KX
