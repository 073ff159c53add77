/- XL XM XN XO XP PV PW YA YB PZ PP. -/
import Derived.Test.YtomkgfdigldhcaaGreatDoorLEC
import Derived.Lib.LaidTab
import Derived.Below
import Derived.Sort.Grow
import Derived.Lib.ItoaNum
import Derived.Lib.TrimByte
namespace Go.KX
theorem pos_in {π σ : List Nat} {j : Nat} : ∀ {A : List Nat}, j ∈ A → pos (A ++ σ) j < A.length
  | x :: r, h => by
    unfold pos
    simp only [List.cons_append]
    split
    · simp
    · rename_i hb
      cases h with
      | head => rw [Nat.beq_refl] at hb; cases hb
      | tail _ hm => have := pos_in (π := π) (σ := σ) hm; simp; omega
theorem pos_out {σ : List Nat} {j : Nat} : ∀ {A : List Nat}, j ∉ A → pos (A ++ σ) j = A.length + pos σ j
  | [], _ => by simp
  | x :: r, h => by
    simp only [List.mem_cons, not_or] at h
    have hb : Nat.beq x j = false := by cases hb : Nat.beq x j with | false => rfl | true => exact absurd (Nat.eq_of_beq_eq_true hb).symm h.1
    simp only [List.cons_append, pos, hb, List.length_cons]
    rw [pos_out h.2]; omega
theorem filter_le {α : Type} {p q : α → Bool} : ∀ {l : List α}, (∀ x ∈ l, p x = true → q x = true) → (l.filter p).length ≤ (l.filter q).length
  | [], _ => by simp
  | x :: r, h => by
    have ih := filter_le (p := p) (q := q) (l := r) (fun y hy => h y (.tail _ hy))
    simp only [List.filter_cons]
    split
    · rw [if_pos (h x (.head _) ‹_›)]; simp; omega
    · split <;> simp <;> omega
def cntU (un : Nat) (l : List (Nat × SV)) : Nat := (l.filter fun p => un.testBit p.1).length
theorem cnt_cons (un : Nat) (p : Nat × SV) (l) : cntU un (p :: l) = (if un.testBit p.1 then 1 else 0) + cntU un l := by
  unfold cntU
  simp only [List.filter_cons]
  split <;> simp <;> omega
section
variable {X : Kx} {arr : Array Oper} {k : List It} {fs : List MF} {own : List Res} {un : Nat} {D π : List Nat} {L0 : SL}
/-- What is asked of a step, where all states of what is owned are known: Ph. -/
def StOK (X : Kx) (arr : Array Oper) (fs : List MF) (own : List Res) (un : Nat) (D : List Nat) (Ph : List SM) (i : Nat) (sv : SV) (Lx : SL) (r : Nat) : Prop :=
  ∃ o, arr[i]? = some o ∧ (un.testBit i = false → ∀ q M', Ph[q]? = some M' → loU arr.size un D i ≤ q → q ≤ hiU arr.size un D i → Stp X arr o Lx M' fs own sv M') ∧
    (un.testBit i = true → ∃ M1 M2, Ph[r]? = some M1 ∧ Ph[r + 1]? = some M2 ∧ StpU X arr o Lx M1 fs own sv M2)
theorem ED_data : ∀ (todo : List Nat) (done : List (Nat × SV)) (M : SM) (Ms : List SM), ED X arr k fs own un D todo (LS arr L0 done) M Ms → Ms.length = cntU un done →
    ∃ new ext Mf, (new.map (·.1)).reverse = todo ∧ (M :: Ms).length + ext.length = cntU un (new ++ done) + 1 ∧ ((M :: Ms).reverse ++ ext).getLast? = some Mf ∧ (E X k (LS arr L0 (new ++ done)) Mf fs own ∧ chkL arr D (LS arr L0 (new ++ done)) = true) ∧
      ∀ pre i sv suf, new = pre ++ (i, sv) :: suf → StOK X arr fs own un D ((M :: Ms).reverse ++ ext) i sv (LS arr L0 (suf ++ done)) (cntU un (suf ++ done))
  | [], done, M, Ms, h, hl => ⟨[], [], M, rfl, by simp [hl], by simp, h, fun pre i sv suf h => by simp at h⟩
  | i :: r, done, M, Ms, h, hl => by
    obtain ⟨o, sv, ho, h⟩ := h
    have hdst : dstOf arr i = o.dst := by simp [dstOf, ho]
    have eL : updL o.dst sv (LS arr L0 done) = LS arr L0 ((i, sv) :: done) := by simp only [LS, hdst]
    split at h
    · rename_i hu
      obtain ⟨hc, h⟩ := h
      rw [eL] at h
      obtain ⟨new, ext, Mf, h1, h2, h3, h4, h5⟩ := ED_data r ((i, sv) :: done) M Ms h (by rw [cnt_cons, hu]; simpa using hl)
      refine ⟨new ++ [(i, sv)], ext, Mf, by simp [h1], by simpa using h2, h3, by simpa using h4, fun pre j sv' suf e => ?_⟩
      rcases List.eq_nil_or_concat suf with rfl | ⟨suf', x, rfl⟩
      · have e2 := List.append_inj_right' e rfl
        simp only [List.cons.injEq, Prod.mk.injEq, and_true] at e2
        obtain ⟨rfl, rfl⟩ := e2
        refine ⟨o, ho, fun _ q M' hq hlo hhi => ?_, fun h => (by rw [hu] at h; cases h)⟩
        rcases hc with ⟨c1, c2, c3⟩ | c
        · have hql : q ≤ Ms.length := Nat.le_trans hhi c1
          rw [List.getElem?_append_left (by simp; omega), List.getElem?_reverse (by simp; omega)] at hq
          by_cases hqe : q = Ms.length
          · subst hqe
            simp at hq; subst hq; exact c2
          · have : (M :: Ms).length - 1 - q = (Ms.length - 1 - q) + 1 := by simp; omega
            rw [this] at hq
            have hq' : Ms[Ms.length - 1 - q]? = some M' := by simpa using hq
            exact c3 _ M' hq' (by
              have : Ms.length - 1 - (Ms.length - 1 - q) = q := by omega
              rw [this]; exact hlo)
        · exact c M'
      · have e' : new ++ [(i, sv)] = (pre ++ (j, sv') :: suf') ++ [x] := by simpa using e
        obtain ⟨e1, e2⟩ := List.append_inj' e' rfl
        cases e2
        have := h5 pre j sv' suf' e1
        simpa using this
    · rename_i hu
      obtain ⟨M', hs, h⟩ := h
      rw [eL] at h
      obtain ⟨new, ext, Mf, h1, h2, h3, h4, h5⟩ := ED_data r ((i, sv) :: done) M' (M :: Ms) h (by rw [cnt_cons, hu]; simp [hl]; omega)
      have ePh : (M' :: M :: Ms).reverse ++ ext = (M :: Ms).reverse ++ (M' :: ext) := by simp
      refine ⟨new ++ [(i, sv)], M' :: ext, Mf, by simp [h1], by simp at h2 ⊢; omega, by rw [← ePh]; exact h3, by simpa using h4, fun pre j sv' suf e => ?_⟩
      rcases List.eq_nil_or_concat suf with rfl | ⟨suf', x, rfl⟩
      · have e2 := List.append_inj_right' e rfl
        simp only [List.cons.injEq, Prod.mk.injEq, and_true] at e2
        obtain ⟨rfl, rfl⟩ := e2
        refine ⟨o, ho, fun h => (by rw [hu] at h; cases h), fun _ => ⟨M, M', ?_, ?_, hs⟩⟩
        · simp only [List.nil_append, ← hl]
          rw [List.getElem?_append_left (by simp), List.getElem?_reverse (by simp)]
          simp
        · simp only [List.nil_append, ← hl]
          rw [List.getElem?_append_right (by simp)]
          simp
      · have e' : new ++ [(i, sv)] = (pre ++ (j, sv') :: suf') ++ [x] := by simpa using e
        obtain ⟨e1, e2⟩ := List.append_inj' e' rfl
        cases e2
        have := h5 pre j sv' suf' e1
        rw [← ePh]
        simpa using this
theorem occSL_upd {d : Nat} {x : Option Nat} {sv : SV} {L : SL} : occSL d (updL x sv L) = false ↔ occSL d L = false ∧ ∀ t, x = some t → occ d sv = false := by
  cases x with
  | none => simp [updL]
  | some t =>
    simp only [updL, occSL, Bool.or_eq_false_iff, Option.some.injEq]
    exact ⟨fun h => ⟨h.2, fun _ _ => h.1⟩, fun h => ⟨h.2 t rfl, h.1⟩⟩
theorem LS_occ {arr : Array Oper} {L0 : SL} {d : Nat} : ∀ {l : List (Nat × SV)}, occSL d (LS arr L0 l) = false ↔ occSL d L0 = false ∧ ∀ p ∈ l, ∀ t, dstOf arr p.1 = some t → occ d p.2 = false
  | [] => by simp [LS]
  | (i, sv) :: r => by
    simp only [LS]
    rw [occSL_upd, LS_occ (l := r)]
    constructor
    · rintro ⟨⟨h1, h2⟩, h3⟩
      refine ⟨h1, fun p hp t ht => ?_⟩
      cases hp with
      | head => exact h3 t ht
      | tail _ hp => exact h2 p hp t ht
    · rintro ⟨h1, h2⟩
      exact ⟨⟨h1, fun p hp => h2 p (.tail _ hp)⟩, fun t ht => h2 (i, sv) (.head _) t ht⟩
theorem LS_mem {arr : Array Oper} {L0 : SL} {p : Nat × SV} {t : Nat} (ht : dstOf arr p.1 = some t) : ∀ {l : List (Nat × SV)}, p ∈ l → (t, p.2) ∈ LS arr L0 l
  | q :: r, h => by
    cases h with
    | head =>
      simp only [LS, ht, updL]
      exact .head _
    | tail _ h =>
      have := LS_mem (L0 := L0) ht h
      obtain ⟨i, sv⟩ := q
      simp only [LS]
      cases dstOf arr i with
      | none => exact this
      | some u => exact .tail _ this
def lsd (listed : Array Bool) (p : Nat × SV) : Bool := listed.getD p.1 false
theorem any_run (hO : DrawOK arr un D π) {all : List (Nat × SV)} {Ph : List SM} {Mf : SM} (hall : (all.map (·.1)).reverse = π) (hlen : Ph.length = cntU un all + 1) (hMf : Ph.getLast? = some Mf) (hE : E X k (LS arr L0 all) Mf fs own ∧ chkL arr D (LS arr L0 all) = true)
    (hst : ∀ pre i sv suf, all = pre ++ (i, sv) :: suf → StOK X arr fs own un D Ph i sv (LS arr L0 suf) (cntU un suf)) : ∀ (f : Nat) (listed : Array Bool) (a : Act) (g : GW) (M : SM), Closed arr listed → (all.filter fun p => !lsd listed p).length ≤ f →
      Ph[cntU un (all.filter (lsd listed))]? = some M → ESt X (LS arr L0 (all.filter (lsd listed))) M fs own g a → anyN X.P arr (cont X.P X.rd X.Q k .normal) f listed a g.w := by
  have hndA : (all.map (·.1)).Nodup := by have := hO.nd; rw [← hall] at this; exact (List.reverse_perm _).nodup_iff.1 this
  have huniq : ∀ p ∈ all, ∀ q ∈ all, p.1 = q.1 → p = q := by
    intro p hp q hq e
    have : ∀ (l : List (Nat × SV)), (l.map (·.1)).Nodup → ∀ p ∈ l, ∀ q ∈ l, p.1 = q.1 → p = q := by
      intro l
      induction l with
      | nil => intro _ p hp; cases hp
      | cons x r ih =>
        intro hn p hp q hq e
        simp only [List.map_cons, List.nodup_cons] at hn
        cases hp with
        | head => cases hq with
          | head => rfl
          | tail _ hm => exact absurd (List.mem_map.2 ⟨q, hm, e.symm⟩) hn.1
        | tail _ hm => cases hq with
          | head => exact absurd (List.mem_map.2 ⟨p, hm, e⟩) hn.1
          | tail _ hm' => exact ih hn.2 p hm q hm' e
    exact this all hndA p hp q hq e
  have hmem : ∀ i, i < arr.size → ∃ sv, (i, sv) ∈ all := by
    intro i hi
    have := hO.all i hi
    rw [← hall] at this
    obtain ⟨p, hp, rfl⟩ := List.mem_map.1 (List.mem_reverse.1 this)
    exact ⟨p.2, hp⟩
  have hlt : ∀ p ∈ all, p.1 < arr.size := by
    intro p hp
    refine hO.lt p.1 ?_
    rw [← hall]
    exact List.mem_reverse.2 (List.mem_map.2 ⟨p, hp, rfl⟩)
  have hdist : ∀ (t : Nat), ∀ p ∈ all, ∀ q ∈ all, dstOf arr p.1 = some t → dstOf arr q.1 = some t → p = q := by
    intro t p hp q hq h1 h2
    refine huniq p hp q hq (Decidable.byContradiction fun hne => ?_)
    have hp1 := Array.getElem?_eq_getElem (hlt p hp)
    have hq1 := Array.getElem?_eq_getElem (hlt q hq)
    simp only [dstOf, hp1] at h1
    simp only [dstOf, hq1] at h2
    exact hO.dist p.1 q.1 _ _ t hp1 hq1 hne h1 h2
  have hperm : (all.map (·.1)).Perm (List.range arr.size) := by
    refine (List.perm_ext_iff_of_nodup hndA List.nodup_range).2 (fun i => ?_)
    constructor
    · intro h
      obtain ⟨p, hp, rfl⟩ := List.mem_map.1 h
      exact List.mem_range.2 (hlt p hp)
    · intro h
      obtain ⟨sv, hsv⟩ := hmem i (List.mem_range.1 h)
      exact List.mem_map.2 ⟨_, hsv, rfl⟩
  have hcnt : ∀ (P : Nat → Bool), (all.filter fun p => P p.1).length = ((List.range arr.size).filter P).length := by
    intro P
    have := (hperm.filter P).length_eq
    rw [List.filter_map, List.length_map] at this
    exact this
  -- all is listed
  have done : ∀ (listed : Array Bool) (a : Act) (g : GW) (M : SM), (∀ i, i < arr.size → listed.getD i false = true) → Ph[cntU un (all.filter (lsd listed))]? = some M → ESt X (LS arr L0 (all.filter (lsd listed))) M fs own g a → cont X.P X.rd X.Q k .normal a g.w := by
    intro listed a g M hl hM hs
    have e : all.filter (lsd listed) = all := List.filter_eq_self.2 (fun p hp => hl p.1 (hlt p hp))
    rw [e] at hM hs
    have : M = Mf := by
      rw [List.getLast?_eq_getElem?, hlen] at hMf
      simp only [Nat.add_sub_cancel] at hMf
      rw [hM] at hMf; exact Option.some.inj hMf
    subst this
    exact hE.1 g a hs
  have ready_nil : ∀ (listed : Array Bool), listed.size = arr.size → Region.ready .any arr listed = [] → ∀ i, i < arr.size → listed.getD i false = true := by
    intro listed hsz hr i
    induction i using Nat.strongRecOn with
    | _ i ih =>
      intro hi
      refine Decidable.byContradiction fun hne => ?_
      have hne : listed.getD i false = false := by simpa using hne
      have hoi : arr[i]? = some arr[i] := by simp [hi]
      have : i ∈ Region.ready .any arr listed := mem_ready.2 ⟨by
        have h1 : i < listed.size := by omega
        simp only [Array.getD_eq_getD_getElem?, h1, getElem?_pos, Option.getD_some] at hne ⊢
        exact hne, _, hoi, fun e he hb => ih e.on (hO.back i _ hoi e.on (bEdges_mem.2 ⟨e, he, hb, rfl⟩)) (by have := hO.back i _ hoi e.on (bEdges_mem.2 ⟨e, he, hb, rfl⟩); omega)⟩
      rw [hr] at this
      cases this
  intro f
  induction f with
  | zero =>
    intro listed a g M hc hf hM hs
    have hl : ∀ i, i < arr.size → listed.getD i false = true := by
      intro i hi
      obtain ⟨sv, hsv⟩ := hmem i hi
      refine Decidable.byContradiction fun hne => ?_
      have : (i, sv) ∈ all.filter fun p => !lsd listed p := List.mem_filter.2 ⟨hsv, by simpa [lsd] using hne⟩
      rw [List.eq_nil_of_length_eq_zero (Nat.le_zero.1 hf)] at this
      cases this
    refine ⟨?_, done listed a g M hl hM hs⟩
    refine List.eq_nil_iff_forall_not_mem.2 (fun i hi => ?_)
    obtain ⟨h1, oi, hoi, _⟩ := mem_ready.1 hi
    have h2 := hl i (Array.getElem?_eq_some_iff.1 hoi).1
    have hlt' : i < listed.size := by rw [hc.1]; exact (Array.getElem?_eq_some_iff.1 hoi).1
    simp only [Array.getD_eq_getD_getElem?, hlt', getElem?_pos, Option.getD_some] at h1 h2
    rw [h1] at h2; cases h2
  | succ f ih =>
    intro listed a g M hc hf hM hs
    refine ⟨fun hr => done listed a g M (ready_nil listed hc.1 hr) hM hs, fun i hi => ?_⟩
    obtain ⟨hun, o, ho, hdeps⟩ := mem_ready.1 hi
    have hin : i < arr.size := (Array.getElem?_eq_some_iff.1 ho).1
    have hil : i < listed.size := by rw [hc.1]; exact hin
    have hunf : listed.getD i false = false := by
      simp only [Array.getD_eq_getD_getElem?, hil, getElem?_pos, Option.getD_some] at hun ⊢
      exact hun
    obtain ⟨sv, hsv⟩ := hmem i hin
    obtain ⟨pre, suf, hsplit⟩ := List.append_of_mem hsv
    obtain ⟨o', ho', c1, c2⟩ := hst pre i sv suf hsplit
    obtain rfl : o' = o := Option.some.inj (ho'.symm.trans ho)
    -- places
    have eπ : π = (suf.map (·.1)).reverse ++ i :: (pre.map (·.1)).reverse := by rw [← hall, hsplit]; simp
    have hnd := hO.nd
    rw [eπ] at hnd
    have hiS : i ∉ (suf.map (·.1)).reverse := fun h => (List.nodup_append.1 hnd).2.2 i h i (.head _) rfl
    have posi : pos π i = (suf.map (·.1)).reverse.length := by rw [eπ, pos_out hiS]; simp [pos, Nat.beq_refl]
    have pos_suf : ∀ p ∈ suf, pos π p.1 < pos π i := by
      intro p hp
      rw [posi, eπ]
      exact pos_in (π := π) (List.mem_reverse.2 (List.mem_map.2 ⟨p, hp, rfl⟩))
    have pos_pre : ∀ p ∈ pre, pos π i < pos π p.1 := by
      intro p hp
      have hpm : p.1 ∈ (pre.map (·.1)).reverse := List.mem_reverse.2 (List.mem_map.2 ⟨p, hp, rfl⟩)
      have h1 : p.1 ∉ (suf.map (·.1)).reverse := fun h => (List.nodup_append.1 hnd).2.2 p.1 h p.1 (.tail _ hpm) rfl
      have h2 : p.1 ≠ i := by
        intro e
        have := (List.nodup_append.1 hnd).2.1
        simp only [List.nodup_cons] at this
        exact this.1 (e ▸ hpm)
      rw [posi, eπ, pos_out h1]
      have hb : Nat.beq i p.1 = false := by cases hb : Nat.beq i p.1 with | false => rfl | true => exact absurd (Nat.eq_of_beq_eq_true hb).symm h2
      simp only [pos, hb]; omega
    have in_suf : ∀ p ∈ all, pos π p.1 < pos π i → p ∈ suf := by
      intro p hp hlt
      rw [hsplit] at hp
      simp only [List.mem_append, List.mem_cons] at hp
      rcases hp with hp | rfl | hp
      · have := pos_pre p hp; omega
      · exact absurd hlt (Nat.lt_irrefl _)
      · exact hp
    have dep : ∀ j, j < arr.size → (dOf D i).testBit j = true → listed.getD j false = true := dep_listed hO hc i o' ho hdeps
    have ndep : ∀ j, j < arr.size → listed.getD j false = true → (dOf D j).testBit i = false := by
      intro j hj hl
      cases hb : (dOf D j).testBit i with
      | false => rfl
      | true =>
        have hoj : arr[j]? = some arr[j] := by simp [hj]
        have := dep_listed hO hc j _ hoj (fun e he hb' => hc.2 j _ hoj hl e he hb') i hin hb
        rw [hunf] at this; cases this
    -- what is looked at
    have hag : agree arr o' (LS arr L0 suf) (LS arr L0 (all.filter (lsd listed))) := by
      intro t ht
      refine LS_eq (all := all) (hdist t) (fun p hp => (List.mem_filter.1 hp).1) (fun p hp => by rw [hsplit]; simp [hp]) (fun p hp hd => ?_)
      have hp1 := Array.getElem?_eq_getElem (hlt p hp)
      simp only [dstOf, hp1] at hd
      by_cases hpi : p.1 = i
      · have hpe := huniq p hp (i, sv) hsv hpi
        subst hpe
        constructor
        · intro h
          have := (List.mem_filter.1 h).2
          simp only [lsd] at this
          rw [hunf] at this; cases this
        · intro h
          exact absurd (List.mem_reverse.2 (List.mem_map.2 ⟨_, h, rfl⟩)) hiS
      · rcases hO.slot i p.1 o' _ t ho hp1 (Ne.symm hpi) hd ht with ⟨h1, h2⟩ | ⟨h1, h2⟩
        · exact ⟨fun _ => in_suf p hp h1, fun _ => List.mem_filter.2 ⟨hp, dep p.1 (hlt p hp) h2⟩⟩
        · constructor
          · intro h
            have := ndep p.1 (hlt p hp) (List.mem_filter.1 h).2
            rw [h2] at this; cases this
          · intro h
            have := pos_suf p h
            omega
    -- the states' numbers
    have hcu : cntU un (all.filter (lsd listed)) = ((List.range arr.size).filter fun u => un.testBit u && listed.getD u false).length := by
      unfold cntU
      rw [List.filter_filter]
      exact hcnt (fun u => un.testBit u && listed.getD u false)
    have hset : ∀ p ∈ all, p ∈ all.filter (lsd (listed.setIfInBounds i true)) ↔ p ∈ (i, sv) :: all.filter (lsd listed) := by
      intro p hp
      simp only [List.mem_filter, List.mem_cons, hp, true_and]
      constructor
      · intro h
        by_cases hpi : p.1 = i
        · exact .inl (huniq p hp (i, sv) hsv hpi)
        · right
          simp only [lsd] at h ⊢
          rwa [getD_set_ne false (Ne.symm hpi)] at h
      · rintro (rfl | h)
        · simp [lsd, hil]
        · exact getD_set_true h
    have hcs : cntU un (all.filter (lsd (listed.setIfInBounds i true))) = (if un.testBit i then 1 else 0) + cntU un (all.filter (lsd listed)) := by
      have hnda : all.Nodup := List.Pairwise.of_map (fun x => x.1) (fun a b h e => h (by rw [e])) hndA
      have hni : (i, sv) ∉ all.filter (lsd listed) := fun h => by
        have := (List.mem_filter.1 h).2
        simp only [lsd] at this
        rw [hunf] at this; cases this
      have hpm : (all.filter (lsd (listed.setIfInBounds i true))).Perm ((i, sv) :: all.filter (lsd listed)) := by
        refine (List.perm_ext_iff_of_nodup (hnda.filter _) (List.nodup_cons.2 ⟨hni, hnda.filter _⟩)).2 (fun p => ?_)
        by_cases hp : p ∈ all
        · exact hset p hp
        · constructor
          · intro h; exact absurd ((List.mem_filter.1 h).1) hp
          · intro h
            rcases List.mem_cons.1 h with rfl | h
            · exact absurd hsv hp
            · exact absurd ((List.mem_filter.1 h).1) hp
      have := (hpm.filter (fun p => un.testBit p.1)).length_eq
      rw [← cnt_cons un (i, sv)]
      exact this
    have hfu : (all.filter fun p => !lsd (listed.setIfInBounds i true) p).length ≤ f := by
      have h1 : (all.filter fun p => !lsd (listed.setIfInBounds i true) p).length < (all.filter fun p => !lsd listed p).length := by
        have hnda : all.Nodup := List.Pairwise.of_map (fun x => x.1) (fun a b h e => h (by rw [e])) hndA
        have hpm : (all.filter fun p => !lsd listed p).Perm ((i, sv) :: all.filter fun p => !lsd (listed.setIfInBounds i true) p) := by
          refine (List.perm_ext_iff_of_nodup (hnda.filter _) (List.nodup_cons.2 ⟨fun h => ?_, hnda.filter _⟩)).2 (fun p => ?_)
          · have := (List.mem_filter.1 h).2
            simp [lsd, hil] at this
          · simp only [List.mem_filter, List.mem_cons]
            constructor
            · rintro ⟨hp, h⟩
              by_cases hpi : p.1 = i
              · exact .inl (huniq p hp (i, sv) hsv hpi)
              · right
                refine ⟨hp, ?_⟩
                simp only [lsd] at h ⊢
                rwa [getD_set_ne false (Ne.symm hpi)]
            · rintro (rfl | ⟨hp, h⟩)
              · exact ⟨hsv, by simp [lsd, hunf]⟩
              · refine ⟨hp, ?_⟩
                have hpi : p.1 ≠ i := by
                  intro e
                  have := huniq p hp (i, sv) hsv e
                  subst this
                  simp [lsd, hil] at h
                simp only [lsd] at h ⊢
                rwa [getD_set_ne false (Ne.symm hpi)] at h
        have := hpm.length_eq
        simp only [List.length_cons] at this
        omega
      omega
    have hnext : ∀ {g' : GW} {a' : Act} {M' : SM}, Ph[cntU un (all.filter (lsd (listed.setIfInBounds i true)))]? = some M' → ESt X (updL o'.dst sv (LS arr L0 (all.filter (lsd listed)))) M' fs own g' a' → anyN X.P arr (cont X.P X.rd X.Q k .normal) f (listed.setIfInBounds i true) a' g'.w := by
      intro g' a' M' hM' hs'
      refine ih _ a' g' M' (hc.set hi) hfu hM' (hs'.sub (fun t sv' ht => ?_))
      have e : updL o'.dst sv (LS arr L0 (all.filter (lsd listed))) = LS arr L0 ((i, sv) :: all.filter (lsd listed)) := by simp only [LS, dstOf, ho]
      rw [e, ← ht]
      exact (LS_eq (all := all) (hdist t) (fun p hp => (List.mem_filter.1 hp).1) (fun p hp => by
        rcases List.mem_cons.1 hp with rfl | hp
        · exact hsv
        · exact (List.mem_filter.1 hp).1) (fun p hp _ => hset p hp)).symm
    have hopQ : ∀ {K : Act → World → Prop}, opQ X.P arr o' K a g.w → opN X.P arr i K a g.w := by
      intro K h
      unfold opN
      rw [ho]
      exact h
    refine hopQ ?_
    cases hu : un.testBit i with
    | false =>
      have hp1 : loU arr.size un D i ≤ cntU un (all.filter (lsd listed)) := by
        rw [hcu]
        unfold loU uns
        rw [List.filter_filter]
        refine filter_le (fun u hu => ?_)
        intro h
        simp only [Bool.and_eq_true] at h ⊢
        exact ⟨h.2, dep u (List.mem_range.1 hu) h.1⟩
      have hp2 : cntU un (all.filter (lsd listed)) ≤ hiU arr.size un D i := by
        rw [hcu]
        unfold hiU uns
        rw [List.filter_filter]
        refine filter_le (fun u hu => ?_)
        intro h
        simp only [Bool.and_eq_true] at h ⊢
        exact ⟨by rw [ndep u (List.mem_range.1 hu) h.2]; rfl, h.1⟩
      have hstp := c1 hu _ M hM hp1 hp2
      refine opQ_mono (fun a' w' ⟨g', hw, s'⟩ => hw ▸ hnext (by rw [hcs, hu]; simpa using hM) s') (hstp _ hag g a hs)
    | true =>
      have hr : cntU un (all.filter (lsd listed)) = cntU un suf := by
        unfold cntU
        have e1 : ((all.filter (lsd listed)).filter fun p => un.testBit p.1) = suf.filter fun p => un.testBit p.1 := by
          rw [hsplit]
          simp only [List.filter_append, List.filter_cons, List.filter_filter]
          have h1 : (pre.filter fun p => un.testBit p.1 && lsd listed p) = [] := by
            refine List.filter_eq_nil_iff.2 (fun p hp h => ?_)
            simp only [Bool.and_eq_true] at h
            have hpa : p ∈ all := by rw [hsplit]; simp [hp]
            have := hO.ord i p.1 hin (hlt p hpa) (pos_pre p hp) hu h.1
            rw [ndep p.1 (hlt p hpa) h.2] at this; cases this
          have h2 : lsd listed (i, sv) = false := hunf
          rw [h1, h2]
          simp only [List.nil_append, Bool.false_eq_true, if_false, List.filter_filter]
          refine List.filter_congr (fun p hp => ?_)
          have hpa : p ∈ all := by rw [hsplit]; simp [hp]
          cases hup : un.testBit p.1 with
          | false => rfl
          | true =>
            have := dep p.1 (hlt p hpa) (hO.ord p.1 i (hlt p hpa) hin (pos_suf p hp) hup hu)
            simp [lsd, this]
        rw [e1]
      obtain ⟨M1, M2, h1, h2, hstp⟩ := c2 hu
      rw [hr] at hM
      obtain rfl : M1 = M := Option.some.inj (h1.symm.trans hM)
      refine opQ_mono (fun a' w' ⟨g', hw, s'⟩ => hw ▸ hnext (by rw [hcs, hu, hr]; simp; rw [Nat.add_comm]; exact h2) s') (hstp _ hag (fun d hal hoc0 => ?_) g a hs)
      have h0 := LS_occ.1 hoc0
      refine LS_occ.2 ⟨h0.1, fun p hp t ht => ?_⟩
      have hpa := (List.mem_filter.1 hp).1
      have hpl : listed.getD p.1 false = true := (List.mem_filter.1 hp).2
      have hch := hE.2
      unfold chkL at hch
      have h3 := List.all_eq_true.1 hch i (List.mem_range.2 hin)
      simp only [ho, hal] at h3
      have h4 := List.all_eq_true.1 h3 (t, p.2) (LS_mem ht hpa)
      have h5 : exm arr D i t = false := by
        unfold exm
        rw [List.any_eq_false]
        intro k hk hc
        have hk := List.mem_range.1 hk
        simp only [Bool.and_eq_true, Bool.or_eq_true] at hc
        obtain ⟨hc1, hc2⟩ := hc
        have hdk : dstOf arr k = some t := by
          split at hc2
          · rename_i t' ht'
            rw [ht', Nat.eq_of_beq_eq_true hc2]
          · cases hc2
        obtain ⟨svk, hsk⟩ := hmem k hk
        have hpk := hdist t p hpa (k, svk) hsk ht hdk
        have hpk1 : p.1 = k := by rw [hpk]
        rcases hc1 with hc1 | hc1
        · have := Nat.eq_of_beq_eq_true hc1
          rw [hpk1, this, hunf] at hpl
          cases hpl
        · have := ndep p.1 (hlt p hpa) hpl
          rw [hpk1, hc1] at this
          cases this
      simp only [h5, Bool.false_or, Bool.not_eq_true'] at h4
      exact h4
theorem E_draw {id : Nat} {l : List Oper} {L0 : SL} {M0 : SM} (hm : X.P.follows .mixedOrders = true) (hB : drawB l.toArray un D π = true) (h : ED X l.toArray k fs own un D π L0 M0 []) : E X (.code (.region id l.toArray true) :: k) L0 M0 fs own := by
  have hO := drawB_ok hB
  obtain ⟨new, ext, Mf, h1, h2, h3, h4, h5⟩ := ED_data π [] M0 [] h rfl
  simp only [List.append_nil] at h2 h4 h5
  intro g a s
  refine wpIn_region_any hm ?_
  obtain ⟨ρ, ms, s1, s2, s3⟩ := s
  have e : FExt g ⟨{ g.w with drawn := g.w.drawn + 1 }, g.fz, g.lt⟩ := ⟨rfl, rfl, rfl, Nat.le_refl _, fun _ h => h, fun _ _ => rfl⟩
  have s' : ESt X L0 M0 fs own ⟨{ g.w with drawn := g.w.drawn + 1 }, g.fz, g.lt⟩ a :=
    ⟨ρ, ms, ⟨s1.kn, s1.all.mono e, ⟨fun r hr => r.loc (w := g.w) (fun _ _ => rfl) (s1.own.p r hr), s1.own.nodup, s1.own.lt, s1.own.nfz⟩, ⟨s1.ext.toFExt.trans e, s1.ext.keep, s1.ext.nofz⟩, s1.new⟩, s2.mono e, s3.pin, fun t sv ht => by
      obtain ⟨x, hx, dx⟩ := s3.val t sv ht
      exact ⟨x, hx, dx.mono e⟩⟩
  have hnone : (new.filter (lsd (Array.replicate l.length false))) = [] := List.filter_eq_nil_iff.2 (fun p _ h => by
    simp only [lsd, Array.getD_eq_getD_getElem?, Array.getElem?_replicate] at h
    split at h <;> simp at h)
  have := any_run (X := X) (k := k) hO (all := new) (Ph := [M0] ++ ext) (Mf := Mf) (L0 := L0) h1 (by simp at h2 ⊢; omega) (by simpa using h3) h4 (by simpa using h5) l.length (Array.replicate l.length false) a ⟨{ g.w with drawn := g.w.drawn + 1 }, g.fz, g.lt⟩ M0
    ⟨by simp, fun j oj _ hl => by
      simp only [Array.getD_eq_getD_getElem?, Array.getElem?_replicate] at hl
      split at hl <;> simp at hl⟩
    (by
      refine Nat.le_trans (List.length_filter_le _ _) ?_
      have hπ := hO.nd
      have : π.length ≤ l.toArray.size := by
        have := List.Nodup.length_le_of_subset hπ (l₂ := List.range l.toArray.size) (fun i hi => List.mem_range.2 (hO.lt i hi))
        simpa using this
      have e2 : new.length = π.length := by rw [← h1]; simp
      simp at this; omega)
    (by rw [hnone]; simp [cntU]) (by rw [hnone]; exact s')
  simpa using anyN_any _ _ _ _ this
end
end Go.KX
namespace Go.KX
section
variable {X : Kx} {k : List It} {L : SL} {M : SM} {fs : List MF} {own : List Res} {arr : Array Oper} {l : List Oper} {o : Oper}
theorem bareS_agree {L L' : SL} {x : Operand} (h : ∀ t, tmpOf x = some t → lkS L' t = lkS L t) : bareS (lkS L') x = bareS (lkS L) x := by
  cases x with
  | tmp t => simp only [bareS, evS, h t rfl]
  | const v => cases v <;> rfl
  | _ => rfl
/-- A store, whatever else is known. -/
theorem Stp_store {tb : TT} (hT : tb.Ok X.P) {M' φ L2} (hg : o.guard = none) {T x y} (hop : o.op = .store T x y) (hx : xeff tb L M o.dst o.op = some (L2, M', φ)) (hφ : ∀ p ∈ φ, p) (sv : SV) : Stp X arr o L M fs own sv M' := by
  intro L' hL g a hE
  have hd : o.dst = none := by
    cases hd : o.dst with
    | none => rfl
    | some d => simp only [hop, hd, xeff] at hx; cases hx
  have hsl : ∀ t, (tmpOf x = some t ∨ tmpOf y = some t) → lkS L' t = lkS L t := by
    intro t ht
    refine hL t ?_
    have : t ∈ o.op.operands.toList.filterMap tmpOf := by
      rw [hop]
      simp only [Op.operands]
      show t ∈ List.filterMap tmpOf [x, y]
      rw [List.mem_filterMap]
      rcases ht with ht | ht
      · exact ⟨x, .head _, ht⟩
      · exact ⟨y, .tail _ (.head _), ht⟩
    exact List.mem_append_left _ this
  have hx' : xeff tb L' M o.dst o.op = some (L', M', φ) := by
    simp only [hop, hd, xeff, bareS_agree (fun t h => hsl t (.inl h)), bareS_agree (fun t h => hsl t (.inr h))] at hx ⊢
    split at hx
    · split at hx
      · split at hx
        · obtain ⟨h1, h2⟩ := putK_ok hx
          have upd : ∀ {M : SM} {i : Nat} {mb : MB} {K : SM → Option (SL × SM × List Prop)} {r}, updK M i mb K = some r → ∃ M1, ∀ {K' : SM → Option (SL × SM × List Prop)}, updK M i mb K' = K' M1 := by
            intro M i mb
            induction M with
            | nil => intro K r h; cases h
            | cons p M ih =>
              intro K r h
              obtain ⟨j, m⟩ := p
              simp only [updK] at h ⊢
              cases hb : Nat.beq i j with
              | true => exact ⟨_, fun {K'} => rfl⟩
              | false =>
                rw [hb] at h
                obtain ⟨M1, h1⟩ := ih h
                exact ⟨(j, m) :: M1, fun {K'} => h1⟩
          have put : ∀ {cs : List SV} {off : Nat} {ns : List SV} {K : List SV → Option (SL × SM × List Prop)} {r}, putK cs off ns K = some r → ∀ {K' : List SV → Option (SL × SM × List Prop)}, putK cs off ns K' = K' (cs.take off ++ ns ++ cs.drop (off + ns.length)) := by
            intro cs
            induction cs with
            | nil =>
              intro off ns K r h K'
              cases off with
              | zero => cases ns with
                | nil => rfl
                | cons _ _ => cases h
              | succ _ => cases h
            | cons c cs ih =>
              intro off ns K r h K'
              cases off with
              | zero =>
                cases ns with
                | nil => simp [putK]
                | cons n ns =>
                  have := ih (off := 0) (ns := ns) (K := fun r => K (n :: r)) h (K' := fun r => K' (n :: r))
                  simp only [putK]
                  rw [this]
                  have e : 0 + (n :: ns).length = 0 + ns.length + 1 := by simp
                  rw [e]; simp
              | succ off =>
                have := ih (off := off) (ns := ns) (K := fun r => K (c :: r)) h (K' := fun r => K' (c :: r))
                simp only [putK]
                rw [this]
                have e : off + 1 + ns.length = off + ns.length + 1 := by omega
                rw [e]; simp
          obtain ⟨M1, hM1⟩ := upd h2
          rw [hM1] at h2
          rw [put hx, hM1]
          simp only [Option.some.injEq, Prod.mk.injEq] at h2 ⊢
          exact ⟨trivial, h2.2⟩
        · cases hx
      · cases hx
    · cases hx
  have := ES_eff (l := []) (arr := arr) (k := [.lp fun a' w' => ∃ g', g'.w = w' ∧ ESt X L' M' fs own g' a']) hT hg (fun d h => by rw [hd] at h; cases h) hx' hφ (fun g' a' h => ⟨g', rfl, h⟩) g a hE
  have h2 : opQ X.P arr o (fun a' w' => ∃ g', g'.w = w' ∧ ESt X L' M' fs own g' a') a g.w := this
  rw [hd]
  exact h2
/-- Does it read nothing that a store may change? -/
def freeOp (e : Nat → Option SV) : Op → Bool
  | .load _ x => match evS e x with
    | some (.p _) => true
    | some (.g _ (.p _)) => true
    | _ => false
  | _ => true
theorem xread_free {tb : TT} {e : Nat → Option SV} {M M' : SM} {op : Op} (h : freeOp e op = true) : xread tb e M op = xread tb e M' op := by
  unfold xread
  split
  · rename_i svs hsv
    rw [stK_eq, stK_eq]
    have : xopv tb M op (svs.map st1) = xopv tb M' op (svs.map st1) := by
      cases op with
      | load T x =>
        simp only [freeOp] at h
        have hs : evs e [x] = some svs := hsv
        unfold evs at hs
        split at hs
        · rename_i v hv
          rw [hv] at h
          simp only [evs, Option.some.injEq] at hs
          subst hs
          show xLoad tb M T [st1 v] = xLoad tb M' T [st1 v]
          split at h
          · rename_i cs he; cases he; rfl
          · rename_i b cs he; cases he; rfl
          · cases h
        · cases hs
      | unOp u T x => cases u <;> rfl
      | makeFunc fn a b => cases fn <;> rfl
      | call c =>
        obtain ⟨callee, az, ts⟩ := c
        cases callee with
        | builtin b => cases b <;> rfl
        | _ => rfl
      | _ => rfl
    rw [this]
  · rfl
theorem xrd_free {tb : TT} {e : Nat → Option SV} {M M' : SM} {H : List (List SV)} {op : Op} (h : freeOp e op = true) : xrd tb e M H op = xrd tb e M' H op := by
  unfold xrd
  split <;> first | rfl | exact xread_free h
theorem xst_free {tb : TT} {e : Nat → Option SV} {M M' : SM} {H : List (List SV)} {op : Op} (h : freeOp e op = true) : xst tb e M H op = xst tb e M' H op := by
  unfold xst
  split <;> first | rfl | exact xrd_free h
/-- m operations of the order π; p: how many stores were ahead. -/
def xdrw (tb : TT) (n : Nat) (arr : Array Oper) (un : Nat) (D : List Nat) : Nat → List (List SV) → List Nat → SL → SM → List SM → List Prop → Option (List Nat × SL × SM × List SM × List Prop)
  | 0, _, π, L, M, Ms, acc => some (π, L, M, Ms, acc)
  | _ + 1, _, [], _, _, _, _ => none
  | m + 1, H, i :: r, L, M, Ms, acc => match arr[i]? with
    | none => none
    | some o => match gS arr (lkS L) o with
      | none => none
      | some none => match un.testBit i with
        | false => match freeOp (lkS L) o.op || (Nat.ble (hiU arr.size un D i) Ms.length && Nat.ble Ms.length (loU arr.size un D i)) with
          | true => match xst tb (lkS L) M H o.op with
            | some (sv, φ) => match o.dst with
              | some d => match Nat.blt d n with
                | true => pushK φ acc (fun acc => xdrw tb n arr un D m (match isIx o.op with | true => H.tail | false => H) r ((d, sv) :: L) M Ms acc)
                | false => none
              | none => none
            | none => none
          | false => none
        | true => match o.op with
          | .store _ _ _ => match xeff tb L M o.dst o.op with
            | some (_, M2, φ) => pushK φ acc (fun acc => xdrw tb n arr un D m H r L M2 (M :: Ms) acc)
            | none => none
          | _ => none
      | some (some b) => match un.testBit i with
        | false => match freeOp (lkS L) o.op || (Nat.ble (hiU arr.size un D i) Ms.length && Nat.ble Ms.length (loU arr.size un D i)) with
          | true => match xst tb (lkS L) M H o.op with
            | some (sv, φ) => match o.dst with
              | some d => match Nat.blt d n with
                | true => pushK (φ.map fun p => b = true → p) acc (fun acc => xdrw tb n arr un D m (match isIx o.op with | true => H.tail | false => H) r ((d, .g b sv) :: L) M Ms acc)
                | false => none
              | none => none
            | none => none
          | false => none
        | true => none
theorem stb {un i : Nat} {D : List Nat} {Ms : List SM} {sv : SV} (h : (freeOp (lkS L) o.op || (Nat.ble (hiU arr.size un D i) Ms.length && Nat.ble Ms.length (loU arr.size un D i))) = true)
    (hs : Stp X arr o L M fs own sv M) (hf : freeOp (lkS L) o.op = true → ∀ M', Stp X arr o L M' fs own sv M') :
    ((hiU arr.size un D i ≤ Ms.length ∧ Stp X arr o L M fs own sv M ∧ ∀ q M', Ms[q]? = some M' → loU arr.size un D i ≤ Ms.length - 1 - q → Stp X arr o L M' fs own sv M') ∨ ∀ M', Stp X arr o L M' fs own sv M') := by
  cases hfr : freeOp (lkS L) o.op with
  | true => exact .inr (hf hfr)
  | false =>
    rw [hfr] at h
    simp only [Bool.false_or, Bool.and_eq_true] at h
    have h1 := Nat.le_of_ble_eq_true h.1
    have h2 := Nat.le_of_ble_eq_true h.2
    refine .inl ⟨h1, hs, fun q M' hq hlo => ?_⟩
    have : q < Ms.length := by
      rcases Nat.lt_or_ge q Ms.length with h | h
      · exact h
      · rw [List.getElem?_eq_none h] at hq; cases hq
    omega
theorem xdrw_ok {tb : TT} (hT : tb.Ok X.P) {un : Nat} {D : List Nat} : ∀ (m : Nat) {H : List (List SV)} {π : List Nat} {L : SL} {M : SM} {Ms : List SM} {acc : List Prop} {π' L' M' Ms' φ}, xdrw tb X.n arr un D m H π L M Ms acc = some (π', L', M', Ms', φ) → (∀ p ∈ φ, p) →
    (∀ p ∈ acc, p) ∧ (ED X arr k fs own un D π' L' M' Ms' → ED X arr k fs own un D π L M Ms)
  | 0, H, π, L, M, Ms, acc, π', L', M', Ms', φ, h, hφ => by
    simp only [xdrw, Option.some.injEq, Prod.mk.injEq] at h
    obtain ⟨rfl, rfl, rfl, rfl, rfl⟩ := h
    exact ⟨hφ, id⟩
  | m + 1, H, [], L, M, Ms, acc, π', L', M', Ms', φ, h, _ => by simp [xdrw] at h
  | m + 1, H, i :: r, L, M, Ms, acc, π', L', M', Ms', φ, h, hφ => by
    unfold xdrw at h
    split at h
    · cases h
    · rename_i o ho
      split at h
      · cases h
      · rename_i hG
        split at h
        · rename_i hu
          split at h
          · rename_i hc
            split at h
            · rename_i sv ψ hx
              split at h
              · rename_i d hd
                split at h
                · rename_i hn
                  obtain ⟨acc', hr, hm⟩ := pushK_ok h
                  obtain ⟨ha, hk⟩ := xdrw_ok hT m hr hφ
                  refine ⟨fun p hp => ha p (hm p (.inr hp)), fun he => ⟨o, sv, ho, ?_⟩⟩
                  rw [hu]
                  have hψ : ∀ p ∈ wq none ψ, p := fun p hp => ha p (hm p (.inl hp))
                  refine ⟨stb hc (Stp_st hT hG hd hn hx hψ) (fun hf M' => Stp_st hT hG hd hn ((xst_free hf).trans hx) hψ), ?_⟩
                  rw [hd]
                  exact hk he
                · cases h
              · cases h
            · cases h
          · cases h
        · rename_i hu
          split at h
          · rename_i T x y hop
            split at h
            · rename_i L2 M2 ψ hx
              obtain ⟨acc', hr, hm⟩ := pushK_ok h
              obtain ⟨ha, hk⟩ := xdrw_ok hT m hr hφ
              refine ⟨fun p hp => ha p (hm p (.inr hp)), fun he => ⟨o, .v undef, ho, ?_⟩⟩
              rw [hu]
              have hd : o.dst = none := by
                cases hd : o.dst with
                | none => rfl
                | some d => rw [hop, hd] at hx; simp [xeff] at hx
              refine ⟨M2, (Stp_store hT (gS_none hG) hop hx (fun p hp => ha p (hm p (.inl hp))) _).u, ?_⟩
              rw [hd]
              exact hk he
            · cases h
          · cases h
      · rename_i b hG
        split at h
        · rename_i hu
          split at h
          · rename_i hc
            split at h
            · rename_i sv ψ hx
              split at h
              · rename_i d hd
                split at h
                · rename_i hn
                  obtain ⟨acc', hr, hm⟩ := pushK_ok h
                  obtain ⟨ha, hk⟩ := xdrw_ok hT m hr hφ
                  refine ⟨fun p hp => ha p (hm p (.inr hp)), fun he => ⟨o, .g b sv, ho, ?_⟩⟩
                  rw [hu]
                  have hψ : ∀ p ∈ wq (some b) ψ, p := fun p hp => ha p (hm p (.inl hp))
                  refine ⟨stb hc (Stp_st hT hG hd hn hx hψ) (fun hf M' => Stp_st hT hG hd hn ((xst_free hf).trans hx) hψ), ?_⟩
                  rw [hd]
                  exact hk he
                · cases h
              · cases h
            · cases h
          · cases h
        · cases h
theorem xd {tb : TT} (hT : tb.Ok X.P) (m : Nat) (H : List (List SV)) {un : Nat} {D π π' : List Nat} {Ms Ms' : List SM} {L' M' φ} (hk : ED X arr k fs own un D π' L' M' Ms') (hr : xdrw tb X.n arr un D m H π L M Ms [] = some (π', L', M', Ms', φ) := by rfl)
    (hφ : conj φ := by first | trivial | omega | (simp +contextual [conj]; done) | (simp +contextual [conj, *]; done) | (simp +contextual [conj, *] <;> omega)) : ED X arr k fs own un D π L M Ms := (xdrw_ok hT m hr (conj_all hφ)).2 hk
/-- A region that draws its order. -/
theorem edr (n un : Nat) (D π : List Nat) {id : Nat} {k' : List It} {l : List Oper} (h : ED X l.toArray k' fs own un D π L M []) (hk : normS (lkS L) 64 n k = .code (.region id l.toArray true) :: k' := by rfl) (hB : drawB l.toArray un D π = true := by kernel_rfl) (hm : X.P.follows .mixedOrders = true := by rfl) : E X k L M fs own :=
  norm_E 64 n (hk ▸ E_draw hm hB h)
theorem sdr (n un : Nat) (D π : List Nat) {id : Nat} {k' : List It} {l : List Oper} (h : ED X l.toArray k' fs own un D π L M []) (hk : normS (lkS L) 64 n k = .code (.region id l.toArray true) :: k' := by rfl) (hB : drawB l.toArray un D π = true := by kernel_rfl) (hm : X.P.follows .mixedOrders = true := by rfl) : ES X arr [] k L M fs own :=
  ES_nil (edr n un D π h hk hB hm)
theorem xe {un : Nat} {D : List Nat} {Ms : List SM} (h : ES X arr [] k L M fs own) (hc : chkL arr D L = true := by rfl) : ED X arr k fs own un D [] L M Ms := ⟨h, hc⟩
/-- A call that computes a value, in such a region. -/
theorem dc {tb : TT} (hT : tb.Ok X.P) (m : Nat) (H : List (List SV)) {un i d : Nat} {D r π' : List Nat} {Ms Ms' : List SM} {f : FuncId} {fo : Operand} {az : Array Operand} {ts : Array TypeId} {fi ca svs args : List SV} {res : SV} {L' M' φ} (hs : Fc X.P fs f args res) (hk : ED X arr k fs own un D π' L' M' Ms') (hi : arr[i]? = some o := by rfl) (hu : un.testBit i = false := by rfl) (hg : o.guard = none := by rfl) (hd : o.dst = some d := by rfl)
    (ho : o.op = .call ⟨.value fo, az, ts⟩ := by rfl) (hfo : evS (lkS L) fo = some (.f f fi ca) := by rfl) (ha : evs (lkS L) az.toList = some svs := by rfl) (hb : fi ++ svs.map st1 ++ ca = args := by rfl) (hc : svs.flatMap cd1 = [] := by rfl) (hn : Nat.blt d X.n = true := by rfl) (hr : xdrw tb X.n arr un D m H r ((d, res) :: L) M Ms [] = some (π', L', M', Ms', φ) := by rfl)
    (hφ : conj φ := by first | trivial | omega | (simp +contextual [conj]; done) | (simp +contextual [conj, *]; done) | (simp +contextual [conj, *] <;> omega)) : ED X arr k fs own un D (i :: r) L M Ms := by
  have hG : gS arr (lkS L) o = some none := by unfold gS; rw [hg]
  refine ⟨o, res, hi, ?_⟩
  rw [hu]
  refine ⟨.inr (fun M' => Stp_fn hG hd hn ho hfo rfl ha (by rw [hc]; intro p hp; cases hp) hb (fun _ => hs)), ?_⟩
  rw [hd]
  exact xd hT m H hk hr hφ
theorem dg {tb : TT} (hT : tb.Ok X.P) (m : Nat) (H : List (List SV)) {un i d : Nat} {D r π' : List Nat} {Ms Ms' : List SM} {f : FuncId} {fo : Operand} {az : Array Operand} {ts : Array TypeId} {sf : SV} {fi ca svs args : List SV} {res : SV} {b : Bool} {L' M' φ ψ} (hs : b = true → Fc X.P fs f args res) (hk : ED X arr k fs own un D π' L' M' Ms') (hi : arr[i]? = some o := by rfl) (hu : un.testBit i = false := by rfl) (hG : gS arr (lkS L) o = some (some b) := by rfl) (hd : o.dst = some d := by rfl)
    (ho : o.op = .call ⟨.value fo, az, ts⟩ := by rfl) (hfo : evS (lkS L) fo = some sf := by rfl) (hsf : st1 sf = .f f fi ca := by rfl) (ha : evs (lkS L) az.toList = some svs := by rfl) (hb : fi ++ svs.map st1 ++ ca = args := by rfl) (hc : wq (some b) (cd1 sf ++ svs.flatMap cd1) = ψ := by rfl) (hψ : conj ψ := by first | trivial | exact id | simp_all [conj]) (hn : Nat.blt d X.n = true := by rfl) (hr : xdrw tb X.n arr un D m H r ((d, .g b res) :: L) M Ms [] = some (π', L', M', Ms', φ) := by rfl)
    (hφ : conj φ := by first | trivial | omega | (simp +contextual [conj]; done) | (simp +contextual [conj, *]; done) | (simp +contextual [conj, *] <;> omega)) : ED X arr k fs own un D (i :: r) L M Ms := by
  refine ⟨o, .g b res, hi, ?_⟩
  rw [hu]
  refine ⟨.inr (fun M' => Stp_fn hG hd hn ho hfo hsf ha (by rw [hc]; exact conj_all hψ) hb (fun h => hs h)), ?_⟩
  rw [hd]
  exact xd hT m H hk hr hφ
end
end Go.KX
namespace Go.KX
mutual
def frS (i : Nat) (mb : MB) : SV → SV
  | .l j off => match Nat.beq i j, mb with
    | true, .c _ cs => .p (cs.drop off)
    | _, _ => .l j off
  | .mp j => match Nat.beq i j, mb with
    | true, .m es => .fm es
    | _, _ => .mp j
  | .a cs => .a (frL i mb cs)
  | .f fn x y => .f fn (frL i mb x) (frL i mb y)
  | .t vs => .t (frL i mb vs)
  | .g b x => .g b (frS i mb x)
  | .v x => .v x
  | .str s => .str s
  | .s sz rows => .s sz rows
  | .p cs => .p cs
  | .o j n => .o j n
  | .e j off => .e j off
  | .fm es => .fm es
  | .ni => .ni
def frL (i : Nat) (mb : MB) : List SV → List SV
  | [] => []
  | x :: r => frS i mb x :: frL i mb r
end
theorem frL_get {i : Nat} {mb : MB} : ∀ {l : List SV} {j : Nat} {sv}, (frL i mb l)[j]? = some sv → ∃ s0, l[j]? = some s0 ∧ sv = frS i mb s0
  | [], j, sv, h => by simp [frL] at h
  | x :: r, 0, sv, h => by simp [frL] at h; exact ⟨x, rfl, h.symm⟩
  | x :: r, j + 1, sv, h => by
    simp only [frL, List.getElem?_cons_succ] at h
    obtain ⟨s0, h1, h2⟩ := frL_get h
    exact ⟨s0, by rw [List.getElem?_cons_succ]; exact h1, h2⟩
theorem frL_len {i : Nat} {mb : MB} : ∀ (l : List SV), (frL i mb l).length = l.length
  | [] => rfl
  | x :: r => by simp [frL, frL_len r]
/-- The block i is what mb says, and is never written again. -/
def FrOK (ρ : Nat → Lc) (i : Nat) (mb : MB) (g : GW) : Prop := (∀ T cs, mb = .c T cs → ∀ off, Den g ρ (.p (cs.drop off)) (.pointer (some ⟨(ρ i).b, off, none⟩))) ∧ ∀ es, mb = .m es → Den g ρ (.fm es) (.map (some (ρ i).b))
theorem Den.fr {g : GW} {ρ sv x} (h : Den g ρ sv x) {i : Nat} {mb : MB} : FrOK ρ i mb g → Den g ρ (frS i mb sv) x := by
  induction h with
  | v => exact fun _ => .v
  | str => exact fun _ => .str
  | s xs h1 h2 hl hr ho hne hd _ => exact fun _ => .s xs h1 h2 hl hr ho hne hd
  | p xs hl hf hc hd _ => exact fun _ => .p xs hl hf hc hd
  | @l ρ j off =>
    intro hf
    simp only [frS]
    split
    · rename_i hb
      have := Nat.eq_of_beq_eq_true hb
      subst this
      exact hf.1 _ _ rfl off
    · exact .l
  | a xs hl _ ih => exact fun hf => .a xs (by rw [frL_len]; exact hl) (fun j sv x h1 h2 => by
      obtain ⟨s0, h3, rfl⟩ := frL_get h1
      exact ih j s0 x h3 h2 hf)
  | f xs ys hl _ hl2 _ ih ih2 =>
    intro hf
    refine .f xs ys ?_ ?_ ?_ ?_
    · rw [frL_len]; exact hl
    · intro j sv x h1 h2
      obtain ⟨s0, h3, rfl⟩ := frL_get h1
      exact ih j s0 x h3 h2 hf
    · rw [frL_len]; exact hl2
    · intro j sv x h1 h2
      obtain ⟨s0, h3, rfl⟩ := frL_get h1
      exact ih2 j s0 x h3 h2 hf
  | t xs hl _ ih => exact fun hf => .t xs (by rw [frL_len]; exact hl) (fun j sv x h1 h2 => by
      obtain ⟨s0, h3, rfl⟩ := frL_get h1
      exact ih j s0 x h3 h2 hf)
  | gt _ ih => exact fun hf => .gt (ih hf)
  | gf => exact fun _ => .gf
  | o => exact fun _ => .o
  | e h => exact fun _ => .e h
  | fm raw ms clk hf hh he hk hd _ => exact fun _ => .fm raw ms clk hf hh he hk hd
  | ni => exact fun _ => .ni
  | @mp ρ j =>
    intro hf
    simp only [frS]
    split
    · rename_i hb
      have := Nat.eq_of_beq_eq_true hb
      subst this
      exact hf.2 _ rfl
    · exact .mp
def frSL (i : Nat) (mb : MB) : SL → SL
  | [] => []
  | (t, sv) :: r => (t, frS i mb sv) :: frSL i mb r
def frM (i : Nat) (mb : MB) : SM → SM
  | [] => []
  | (j, m) :: r => match Nat.beq i j with
    | true => r
    | false => (j, m) :: frM i mb r
def occX (i : Nat) : SM → Bool
  | [] => false
  | (j, .c _ cs) :: r => match Nat.beq i j with
    | true => occX i r
    | false => occL i cs || occX i r
  | (_, _) :: r => occX i r
def notR : MB → Bool
  | .r _ _ _ => false
  | .it _ _ _ => false
  | .q _ _ _ => false
  | _ => true
theorem frSL_lk {i : Nat} {mb : MB} : ∀ {L : SL} {t sv}, lkS (frSL i mb L) t = some sv → ∃ s0, lkS L t = some s0 ∧ sv = frS i mb s0
  | [], t, sv, h => by simp [frSL, lkS] at h
  | (j, v) :: r, t, sv, h => by
    by_cases htj : t = j
    · subst htj
      simp only [frSL, lkS_same] at h
      cases h
      exact ⟨v, lkS_same _ _ _, rfl⟩
    · simp only [frSL] at h
      rw [lkS_ne _ _ htj] at h
      obtain ⟨s0, h1, h2⟩ := frSL_lk h
      exact ⟨s0, by rw [lkS_ne _ _ htj]; exact h1, h2⟩
theorem DenM.take {g : GW} {ρ : Nat → Lc} : ∀ {M : SM} {ms : List Res} {i : Nat} {mb : MB}, DenM g ρ M ms → lkM M i = some mb → ∃ r m1 m2, ms = m1 ++ r :: m2 ∧ DenB g ρ i mb r ∧ ∀ g', DenM g' ρ M (m1 ++ r :: m2) → DenM g' ρ (frM i mb M) (m1 ++ m2)
  | [], _, _, _, .nil, h => by cases h
  | (j, m) :: M, _, i, mb, @DenM.cons _ _ _ _ _ r0 ms0 hb t, h => by
    unfold lkM at h
    split at h
    · rename_i hij
      cases h
      have hj := Nat.eq_of_beq_eq_true hij
      subst hj
      refine ⟨r0, [], ms0, rfl, hb, fun g' hM => ?_⟩
      cases hM with
      | cons _ t' => simp only [frM, hij]; exact t'
    · rename_i hij
      obtain ⟨r, m1, m2, rfl, hB, hu⟩ := DenM.take t h
      refine ⟨r, r0 :: m1, m2, rfl, hB, fun g' hM => ?_⟩
      cases hM with
      | cons hb' t' => simp only [frM, hij]; exact .cons hb' (hu g' t')
/-- A map that is owned becomes a fact. -/
theorem St.freezeM {X : Cx} {L : LL} {fs : List MF} {own own' : List Res} {g a} {b : Nat} {raw : List (Bytes × Value)} (hr : Pick own (Res.mp str (fun v : Value => v) b raw) own') (s : St X L fs own g a) :
    ∃ g', g'.w = g.w ∧ FExt g g' ∧ g'.fz b ∧ St X L fs own' g' a := by
  have hp := hr.perm
  have ho := s.own.perm hp
  have hnew := s.new b ((blks_perm hp).symm.subset (by simp [Res.mp]))
  let g' : GW := ⟨g.w, fun x => g.fz x ∨ x = b, fun x hx => hx.elim (g.lt x) (fun h => by subst h; exact ho.lt x (by simp [Res.mp]))⟩
  have hF : FExt g g' := ⟨rfl, rfl, rfl, Nat.le_refl _, fun _ h => .inl h, fun _ _ => rfl⟩
  have hnd : (b :: blks own').Nodup := ho.nodup
  refine ⟨g', rfl, hF, .inr rfl, s.kn, s.all.mono hF, ?_, ?_, fun x hx => s.new x ((blks_perm hp).symm.subset (by simp [hx]))⟩
  · refine ⟨fun r hr' => ho.p r (.tail _ hr'), (List.nodup_cons.1 hnd).2, fun x hx => ho.lt x (by simp [hx]), fun x hx hf => ?_⟩
    rcases hf with hf | rfl
    · exact ho.nfz x (by simp [hx]) hf
    · exact (List.nodup_cons.1 hnd).1 hx
  · refine ⟨s.ext.toFExt.trans hF, s.ext.keep, fun x hx hn hf => ?_⟩
    rcases hf with hf | rfl
    · exact s.ext.nofz x hx hn hf
    · rcases hnew with h | h
      · exact absurd h hn
      · omega
section
variable {X : Kx} {k : List It} {L : SL} {M : SM} {fs : List MF} {own : List Res} {arr : Array Oper} {l : List Oper} {o : Oper}
theorem ESt.fr {i : Nat} {mb : MB} {g a} (hl : lkM M i = some mb) (hc : cloB mb = true) (_hx : occX i M = false) (hb : notR mb = true) (h : ESt X L M fs own g a) : ∃ g', g'.w = g.w ∧ ESt X (frSL i mb L) (frM i mb M) fs own g' a := by
  obtain ⟨ρ, ms, st⟩ := h.open
  have hM : DenM g ρ M ms := st.all _ (.head _)
  obtain ⟨r, m1, m2, rfl, hB, hu⟩ := hM.take hl
  have hp : (m1 ++ r :: m2 ++ own).Perm (r :: (m1 ++ m2 ++ own)) := by
    simp only [List.append_assoc, List.cons_append]
    exact List.perm_middle
  have fin : ∀ g', FrOK ρ i mb g' → St X.toCx [] (F1 ρ M (m1 ++ r :: m2) :: F2 X ρ L a :: fs) (m1 ++ m2 ++ own) g' a → ESt X (frSL i mb L) (frM i mb M) fs own g' a := by
    intro g' hf s'
    have hs : Sl X ρ L a g' := s'.all _ (.tail _ (.head _))
    exact ⟨ρ, m1 ++ m2, ⟨s'.kn, fun f hf => s'.all f (.tail _ (.tail _ hf)), s'.own, s'.ext, s'.new⟩, hu g' (s'.all _ (.head _)), hs.pin, fun t sv ht => by
      obtain ⟨s0, h1, rfl⟩ := frSL_lk ht
      obtain ⟨x, hx, dx⟩ := hs.val t s0 h1
      exact ⟨x, hx, dx.fr hf⟩⟩
  cases hB with
  | c xs hd h1 =>
    rename_i T cs
    have stp0 := st.perm hp
    have stp : St X.toCx [] (denF ρ cs xs :: F1 ρ M _ :: F2 X ρ L a :: fs) _ g a := ⟨stp0.kn, All.cons hd stp0.all, stp0.own, stp0.ext, stp0.new⟩
    obtain ⟨g', hw, s'⟩ := stp.freeze .head
    have hpt : (PtM (ρ i).b 0 xs).p g' := s'.all _ (.head _)
    have hdl : DenL g' ρ cs xs := s'.all (denF ρ cs xs) (.tail _ (.head _))
    refine ⟨g', hw, fin g' ⟨fun T' cs' e off => ?_, (fun es e => by cases e)⟩ ⟨s'.kn, fun f hf => s'.all f (.tail _ (.tail _ hf)), s'.own, s'.ext, s'.new⟩⟩
    cases e
    refine .p (xs.drop off) (by simp [hdl.1]) hpt.1 (fun k y hy => ?_) (fun ρ' j sv y h2 h3 => ?_)
    · rw [List.getElem?_drop] at hy
      have := hpt.2 _ y hy
      simpa using this
    · have h2' : cs[off + j]? = some sv := by simpa using h2
      have h3' : xs[off + j]? = some y := by simpa using h3
      exact (hdl.2 _ sv y h2' h3').swap (cloL_get hc _ sv h2') ρ'
  | r hz xs hl' hd => cases hb
  | it raw hk hd => cases hb
  | q hz xs hl' hd => cases hb
  | m raw hk hd =>
    rename_i es
    have stp := st.perm hp
    obtain ⟨g', hw, hF, hfz, s'⟩ := stp.freezeM .head
    obtain ⟨ms', clk, hh, he, _⟩ := stp.own.p (Res.mp str (fun v : Value => v) (ρ i).b raw) (.head _)
    refine ⟨g', hw, fin g' ⟨(fun T cs e => by cases e), fun es' e => ?_⟩ s'⟩
    cases e
    exact .fm raw ms' clk hfz (by rw [hw]; exact hh) he hk (fun ρ' j k sv x h1 h2 => (hd ρ' j k sv x h1 h2).mono hF)
/-- From now on the local thing i is never written. -/
theorem ez (i : Nat) {mb : MB} (h : E X k (frSL i mb L) (frM i mb M) fs own) (hl : lkM M i = some mb := by rfl) (hc : cloB mb = true := by rfl) (hx : occX i M = false := by rfl) (hb : notR mb = true := by rfl) : E X k L M fs own := by
  intro g a s
  obtain ⟨g', hw, s'⟩ := s.fr hl hc hx hb
  exact hw ▸ h g' a s'
theorem sz (i : Nat) {mb : MB} (h : ES X arr l k (frSL i mb L) (frM i mb M) fs own) (hl : lkM M i = some mb := by rfl) (hc : cloB mb = true := by rfl) (hx : occX i M = false := by rfl) (hb : notR mb = true := by rfl) : ES X arr l k L M fs own := by
  intro g a s
  obtain ⟨g', hw, s'⟩ := s.fr hl hc hx hb
  exact hw ▸ h g' a s'
theorem smk {d T : Nat} (h : ES X arr l k ((d, .mp d) :: L) ((d, .m []) :: M) fs own) (ho : o.op = .makeMap T none := by rfl) (hg : o.guard = none := by rfl) (hd : o.dst = some d := by rfl) (hn : Nat.blt d X.n = true := by rfl) (hoc : (occSL d L || occM d M) = false := by rfl) (hlt : Nat.blt d 1000 = true := by rfl) : ES X arr (o :: l) k L M fs own := by
  intro g a hE
  obtain ⟨ρ, ms, st⟩ := hE.open
  have hw : Region.wanted o (yielded arr a.tmps) = true := live_wanted (L := []) st.kn (live_none hg)
  simp only [wl, hw, if_true]
  simp only [Bool.or_eq_false_iff] at hoc
  have hlt : d < 1000 := by simpa [Nat.blt_eq] using hlt
  have s' := st.alloc (.map #[] 0)
  have hr : (execOp a.eval o).run X.P g.w = .ok (.value (.map (some g.w.heap.size))) (g.w.alloc (.map #[] 0)) := by
    simp only [execOp, ho]
    simp [Instr.makeMap]
  simp only [wn, hr, hd]
  let g1 : GW := ⟨g.w.alloc (.map #[] 0), g.fz, fun b hb => by have := g.lt b hb; rw [size_alloc]; omega⟩
  let ρ' : Nat → Lc := fun j => if j = d then ⟨g.w.heap.size, none, 0⟩ else ρ j
  have e : (ρ' d).b = g.w.heap.size := by simp [ρ']
  have hM : DenM g1 ρ M ms := s'.all _ (.head _)
  have hL : Sl X ρ L a g1 := s'.all _ (.tail _ (.head _))
  have hB : DenB g1 ρ' d (.m []) (Res.mp str (fun v : Value => v) (ρ' d).b []) := .m [] rfl (fun ρ' j k sv x h => by simp at h)
  rw [e] at hB
  refine h g1 _ (ESt.put (ρ := ρ') (ms := Res.mp str (fun v : Value => v) g.w.heap.size [] :: ms) ⟨s'.kn, All.cons (.cons hB (occ_upd hM hoc.2)) (All.cons ⟨fun i hi => by
      have : i ≠ d := by omega
      simp only [ρ', if_neg this]; exact hL.pin i hi, fun t sv ht => by
      obtain ⟨x, hx, dx⟩ := hL.val t sv ht
      exact ⟨x, hx, dx.upd (occSL_get hoc.1 t sv ht)⟩⟩ (fun f hf => s'.all f (.tail _ (.tail _ hf)))), ?_, s'.ext, s'.new⟩ hn ?_)
  · refine ⟨fun r hr' => ?_, s'.own.nodup, s'.own.lt, s'.own.nfz⟩
    cases hr' with
    | head => exact ⟨#[], 0, s'.own.p _ (.head _), rfl, by simp, by simp⟩
    | tail _ hm => exact s'.own.p r (.tail _ hm)
  · have : Den g1 ρ' (.mp d) (.map (some (ρ' d).b)) := .mp
    rw [e] at this
    exact this
theorem mset_keys {es : List (Bytes × SV)} {raw : List (Bytes × Value)} (hk : raw.map (·.1) = es.map (·.1)) (q : Bytes) (x : Value) (sv : SV) : (mset raw q x).map (·.1) = (mset es q sv).map (·.1) := by
  induction raw generalizing es with
  | nil => cases es with
    | nil => rfl
    | cons _ _ => simp at hk
  | cons p r ih =>
    cases es with
    | nil => simp at hk
    | cons e es =>
      simp only [List.map_cons, List.cons.injEq] at hk
      unfold mset
      rw [hk.1]
      split
      · simp [hk.2]
      · simp [hk.1, ih hk.2]
theorem mset_den {P : SV → Value → Prop} : ∀ {es : List (Bytes × SV)} {raw : List (Bytes × Value)}, raw.map (·.1) = es.map (·.1) → (∀ (j : Nat) k sv x, es[j]? = some (k, sv) → raw[j]? = some (k, x) → P sv x) → ∀ {q : Bytes} {x : Value} {sv : SV}, P sv x →
    ∀ (j : Nat) k sv' x', (mset es q sv)[j]? = some (k, sv') → (mset raw q x)[j]? = some (k, x') → P sv' x'
  | [], raw, hk, h, q, x, sv, hp, j, k, sv', x', h1, h2 => by
    cases raw with
    | nil =>
      cases j with
      | zero => simp [mset] at h1 h2; rw [← h1.2, ← h2.2]; exact hp
      | succ j => simp [mset] at h1
    | cons _ _ => simp at hk
  | e :: es, raw, hk, h, q, x, sv, hp, j, k, sv', x', h1, h2 => by
    cases raw with
    | nil => simp at hk
    | cons p r =>
      simp only [List.map_cons, List.cons.injEq] at hk
      unfold mset at h1 h2
      rw [hk.1] at h2
      split at h1
      · rename_i hq
        rw [if_pos hq] at h2
        cases j with
        | zero => simp at h1 h2; rw [← h1.2, ← h2.2]; exact hp
        | succ j => exact h (j + 1) k sv' x' (by simpa using h1) (by simpa using h2)
      · rename_i hq
        rw [if_neg hq] at h2
        cases j with
        | zero => exact h 0 k sv' x' (by simpa using h1) (by simpa using h2)
        | succ j => exact mset_den hk.2 (fun j k sv x h3 h4 => h (j + 1) k sv x (by simpa using h3) (by simpa using h4)) hp j k sv' x' (by simpa using h1) (by simpa using h2)
/-- m[q] = v. -/
theorem sins {tb : TT} (hT : tb.Ok X.P) {T kT eT i : Nat} {dT dk : TD} {x y z : Operand} {q : Bytes} {sv : SV} {es : List (Bytes × SV)} {M' : SM} (h : ES X arr l k L M' fs own) (ho : o.op = .insert T x y z ∨ o.op = .mapUpdate T x y z := by first | exact .inl rfl | exact .inr rfl) (hg : o.guard = none := by rfl) (hd : o.dst = none := by rfl)
    (hx : evS (lkS L) x = some (.mp i) := by rfl) (hy : evS (lkS L) y = some (.str q) := by rfl) (hz : evS (lkS L) z = some sv := by rfl) (hc : clo sv = true := by rfl) (hT1 : tb.get T = some dT := by rfl) (hk1 : dT.kd = .mp kT eT := by rfl) (hT2 : tb.get kT = some dk := by rfl) (hk2 : dk.kd = .str := by rfl)
    (hm : lkM M i = some (.m es) := by rfl) (hu : updK M i (.m (mset es q sv)) some = some M' := by rfl) : ES X arr (o :: l) k L M fs own := by
  intro g a hE
  obtain ⟨ρ, ms, st⟩ := hE.open
  have hSl : Sl X ρ L a g := st.all _ (.tail _ (.head _))
  have hw : Region.wanted o (yielded arr a.tmps) = true := live_wanted (L := []) st.kn (live_none hg)
  have dx := eval_den hSl.val hx
  have dy := eval_den hSl.val hy
  have dz := eval_den hSl.val hz
  have hM : DenM g ρ M ms := st.all _ (.head _)
  obtain ⟨r, m1, m2, rfl, hB, hup⟩ := hM.split hm
  obtain ⟨M2, hK, hM2⟩ := hup hu
  cases hK
  have u := (TT.get_ok hT hT1).kd
  rw [hk1] at u
  have uk := (TT.get_ok hT hT2).kd
  rw [hk2] at uk
  have hev : ∃ svs, evs (lkS L) [x, y, z] = some svs := ⟨[.mp i, .str q, sv], by simp only [evs, hx, hy, hz]⟩
  obtain ⟨svs, hev⟩ := hev
  obtain ⟨Lr, st', hevl, hfr⟩ := st.slots (fun t sv ht => by obtain ⟨x, hx, _⟩ := hSl.val t sv ht; exact ⟨x, hx⟩) hev
  obtain ⟨_, _, e1, hx', hr1⟩ := evl_cons hevl
  obtain ⟨_, _, e2, hy', hr2⟩ := evl_cons hr1
  obtain ⟨_, _, e3, hz', _⟩ := evl_cons hr2
  simp only [List.map_cons, List.cons.injEq] at e1
  obtain ⟨rfl, rfl⟩ := e1
  simp only [List.cons.injEq] at e2
  obtain ⟨rfl, rfl⟩ := e2
  simp only [List.cons.injEq] at e3
  obtain ⟨rfl, _⟩ := e3
  have ex : a.eval x = .map (some (ρ i).b) := by cases hax : a.eval x <;> rw [hax] at dx <;> cases dx <;> rfl
  rw [ex] at hx'
  rw [den_str dy] at hy'
  cases hB with
  | m raw hk hdd =>
    let vF : MF := ⟨fun g => (∀ ρ', Den g ρ' sv (a.eval z)) ∧ ∀ (ρ' : Nat → Lc) (j : Nat) k sv x, es[j]? = some (k, sv) → raw[j]? = some (k, x) → Den g ρ' sv x, fun e h => ⟨fun ρ' => (h.1 ρ').mono e, fun ρ' j k sv x h1 h2 => (h.2 ρ' j k sv x h1 h2).mono e⟩⟩
    have hp : (m1 ++ Res.mp str (fun v : Value => v) (ρ i).b raw :: m2 ++ own).Perm (Res.mp str (fun v : Value => v) (ρ i).b raw :: (m1 ++ m2 ++ own)) := by
      simp only [List.append_assoc, List.cons_append]
      exact List.perm_middle
    have st2 := st'.perm hp
    have st3 : St X.toCx Lr (vF :: F1 ρ M _ :: F2 X ρ L a :: fs) _ g a := ⟨st2.kn, All.cons ⟨fun ρ' => dz.swap hc ρ', hdd⟩ st2.all, st2.own, st2.ext, st2.new⟩
    have key : opQ X.P arr o (fun a' w' => ∃ g', g'.w = w' ∧ ESt X L M' fs own g' a') a g.w := by
      have hS : ∀ o', o'.op = Op.mapUpdate T x y z → o'.guard = none → o'.dst = none → opQ X.P #[] o' (fun a' w' => ∃ g', g'.w = w' ∧ ESt X L M' fs own g' a') a g.w := fun o' ho' hg' hd' =>
        viaS (arr := #[]) (o := o') (K := fun a' w' => ∃ g', g'.w = w' ∧ ESt X L M' fs own g' a') st3
          (S_mset (K := str) (V := fun v : Value => v) ho' (live_none hg') hd' hx' hy' hz' u (keyStr uk) .head (S_J (fun g' a' s' => by
            refine ⟨g', rfl, ρ, m1 ++ Res.mp str (fun v : Value => v) (ρ i).b (mset raw q (a.eval z)) :: m2, ?_, ?_, ?_⟩
            · have hp2 : (Res.mp str (fun v : Value => v) (ρ i).b (mset raw q (a.eval z)) :: (m1 ++ m2 ++ own)).Perm (m1 ++ Res.mp str (fun v : Value => v) (ρ i).b (mset raw q (a.eval z)) :: m2 ++ own) := by
                simp only [List.append_assoc, List.cons_append]
                exact List.perm_middle.symm
              have s2 := s'.perm hp2
              exact ⟨⟨s2.kn.size, s2.kn.defers, fun i v hv => by simp [lk] at hv⟩, fun f hf => s2.all f (.tail _ (.tail _ (.tail _ hf))), s2.own, s2.ext, s2.new⟩
            · have hv : vF.p g' := s'.all _ (.head _)
              exact hM2 g' _ (s'.all _ (.tail _ (.head _))) (.m _ (mset_keys hk q _ sv) (fun ρ' => mset_den hk (hv.2 ρ') (hv.1 ρ')))
            · have hs : Sl X ρ L a g' := s'.all (F2 X ρ L a) (.tail _ (.tail _ (.head _)))
              exact ⟨hs.pin, fun t sv ht => by
                obtain ⟨x, hx, dx⟩ := hs.val t sv ht
                exact ⟨x, s'.kn.val t x (hfr t x hx), dx⟩⟩)))
      have h1 := hS { o with op := .mapUpdate T x y z } rfl hg hd
      unfold opQ at h1 ⊢
      have hw1 : Region.wanted { o with op := .mapUpdate T x y z } (yielded #[] a.tmps) = true := by unfold Region.wanted; rw [hg]
      rw [if_pos hw1] at h1
      rw [if_pos hw]
      have he : execOp a.eval o = execOp a.eval { o with op := .mapUpdate T x y z } := by
        rcases ho with ho | ho <;> simp only [execOp, ho]
      unfold wn at h1 ⊢
      rw [he]
      exact h1
    exact opQ_mono (fun a' w' ⟨g', hw, s'⟩ => hw ▸ h g' a' s') key
/-- v, ok = m[q], m never written. -/
theorem Stp_lk2 {tb : TT} (hT : tb.Ok X.P) {T kT eT d : Nat} {dT dk de : TD} {x y : Operand} {q : Bytes} {es : List (Bytes × SV)} {r : Option SV} (ho : o.op = .lookup T x y true) (hg : o.guard = none) (hd : o.dst = some d) (hn : Nat.blt d X.n = true) (hx : evS (lkS L) x = some (.fm es)) (hy : evS (lkS L) y = some (.str q))
    (hT1 : tb.get T = some dT) (hk1 : dT.kd = .mp kT eT) (hT2 : tb.get kT = some dk) (hk2 : dk.kd = .str) (hT3 : tb.get eT = some de) (hr : mget es q = r) : Stp X arr o L M fs own (.t [r.getD (inj de.z), .v (.bool r.isSome)]) M := by
  have hG : gS arr (lkS L) o = some none := by unfold gS; rw [hg]
  refine Stp_read (sv := .t [r.getD (inj de.z), .v (.bool r.isSome)]) hG hd hn (fun L' hL _ g a ρ ms st => ?_)
  have hSl : Sl X ρ L' a g := st.all _ (.tail _ (.head _))
  have hev : evs (lkS L) o.op.operands.toList = some [.fm es, .str q] := by rw [ho]; show evs (lkS L) [x, y] = _; simp only [evs, hx, hy]
  have hev' := (evs_agree' hL).trans hev
  rw [ho] at hev'
  have hev' : evs (lkS L') [x, y] = some [.fm es, .str q] := hev'
  obtain ⟨_, _, e1, dx, hr1⟩ := (evals_den hSl.val hev').uncons
  obtain ⟨_, _, e2, dy, _⟩ := hr1.uncons
  simp only [List.map_cons, List.cons.injEq] at e1
  obtain ⟨rfl, rfl⟩ := e1
  simp only [List.cons.injEq] at e2
  obtain ⟨rfl, _⟩ := e2
  have u := (TT.get_ok hT hT1).kd
  rw [hk1] at u
  have uk := (TT.get_ok hT hT2).kd
  rw [hk2] at uk
  have dys := den_str dy
  generalize hax : a.eval x = vx at dx
  cases dx with
  | fm raw msr clk hf hh he hk hdd =>
    rename_i b
    obtain ⟨rr, hfr, hfd⟩ := find_get (K := str) (V := fun v : Value => v) (P := X.P) (T := kT) (keyStr uk) q g.w he
    obtain ⟨d0, _, _, hck, _⟩ := (keyStr (P := X.P) uk).ex
    have hz := run_zeroValue (w := g.w) (TT.get_ok hT hT3).ti
    have hget : ∀ {es : List (Bytes × SV)} {raw : List (Bytes × Value)}, raw.map (·.1) = es.map (·.1) → (∀ (j : Nat) k sv x, es[j]? = some (k, sv) → raw[j]? = some (k, x) → Den g ρ sv x) → (mget raw q = none ∧ mget es q = none) ∨ ∃ x sv, mget raw q = some x ∧ mget es q = some sv ∧ Den g ρ sv x := by
      intro es
      induction es with
      | nil => intro raw hk _; cases raw with
        | nil => exact .inl ⟨rfl, rfl⟩
        | cons _ _ => simp at hk
      | cons e es ih =>
        intro raw hk hd'
        cases raw with
        | nil => simp at hk
        | cons p rw' =>
          simp only [List.map_cons, List.cons.injEq] at hk
          unfold mget
          rw [hk.1]
          by_cases hq : q = e.1
          · rw [if_pos hq, if_pos hq]
            exact .inr ⟨p.2, e.2, rfl, rfl, hd' 0 e.1 e.2 p.2 rfl (by simp [← hk.1])⟩
          · rw [if_neg hq, if_neg hq]
            exact ih hk.2 (fun j k sv x h1 h2 => hd' (j + 1) k sv x (by simpa using h1) (by simpa using h2))
    have hrun : ∃ vt, (Instr.lookup T (.map (some b)) (str q) true).run X.P g.w = .ok (.tuple #[vt, .bool r.isSome]) g.w ∧ Den g ρ (r.getD (inj de.z)) vt := by
      simp only [Instr.lookup, Sem.run_bind, run_underlying u, Result.andThen_ok, run_getObj_map hh, hck, hfr, Sem.run_pure]
      rcases hget hk (hdd ρ) with ⟨h1, h2⟩ | ⟨xv, sv, h1, h2, h3⟩
      · rw [h2] at hr
        subst hr
        cases rr with
        | none => exact ⟨de.z, by simp only [hz, Result.andThen_ok, Sem.run_pure, Sem.run_bind]; rfl, den_inj g ρ de.z⟩
        | some p =>
          obtain ⟨⟨x', hx', _⟩, _⟩ := hfd
          rw [h1] at hx'; cases hx'
      · rw [h2] at hr
        subst hr
        cases rr with
        | none =>
          obtain ⟨h4, _⟩ := hfd
          rw [h1] at h4; cases h4
        | some p =>
          obtain ⟨j, v⟩ := p
          obtain ⟨⟨x', hx', hv⟩, _⟩ := hfd
          rw [h1] at hx'
          cases hx'
          exact ⟨v, rfl, by rw [hv]; exact h3⟩
    obtain ⟨vt, h1, h2⟩ := hrun
    refine ⟨.tuple #[vt, .bool r.isSome], ?_, .t [vt, .bool r.isSome] rfl (DenL.cons h2 (DenL.cons .v DenL.nil)).2⟩
    simp only [execOp, ho, hax, dys]
    simp [h1]
theorem slk {tb : TT} (hT : tb.Ok X.P) (m : Nat) {T kT eT d : Nat} {dT dk de : TD} {x y : Operand} {q : Bytes} {es : List (Bytes × SV)} (r : Option SV) {l' L' M' φ} (hr : mget es q = r) (hk : ES X arr l' k L' M' fs own) (ho : o.op = .lookup T x y true := by rfl) (hg : o.guard = none := by rfl) (hd : o.dst = some d := by rfl)
    (hx : evS (lkS L) x = some (.fm es) := by rfl) (hy : evS (lkS L) y = some (.str q) := by rfl) (hT1 : tb.get T = some dT := by rfl) (hk1 : dT.kd = .mp kT eT := by rfl) (hT2 : tb.get kT = some dk := by rfl) (hk2 : dk.kd = .str := by rfl) (hT3 : tb.get eT = some de := by rfl) (hn : Nat.blt d X.n = true := by rfl)
    (hrn : xrun tb X.n arr m [] l ((d, .t [r.getD (inj de.z), .v (.bool r.isSome)]) :: L) M [] = some (l', L', M', φ) := by rfl) (hφ : conj φ := by first | trivial | omega | (simp +contextual [conj]; done)) : ES X arr (o :: l) k L M fs own := by
  refine ES_step (Stp_lk2 hT ho hg hd hn hx hy hT1 hk1 hT2 hk2 hT3 hr) ?_
  rw [hd]
  exact go hT m [] hk hrn hφ
theorem s_len {g ρ sz rows x} (h : Den g ρ (.s sz rows) x) : rows.length ≤ 9223372036854775807 := by
  cases h with | s xs h1 _ _ _ _ _ _ => simpa [maxLen] using h1
/-- A slice is not too long. -/
theorem elen (i : Nat) {sz : Nat} {rows : List (List SV)} (hi : lkS L i = some (.s sz rows)) (h : rows.length ≤ 9223372036854775807 → E X k L M fs own) : E X k L M fs own := by
  intro g a s
  obtain ⟨ρ, ms, s1, s2, s3⟩ := s
  obtain ⟨x, _, dx⟩ := s3.val i _ hi
  exact h (s_len dx) g a ⟨ρ, ms, s1, s2, s3⟩
end
end Go.KX
namespace Go.KX
/-- Plain values, as they stand in cells. -/
def valsL : List SV → Option (List Value)
  | [] => some []
  | .v x :: r => match valsL r with
    | some l => some (x :: l)
    | none => none
  | .str s :: r => match valsL r with
    | some l => some (str s :: l)
    | none => none
  | _ => none
theorem valsL_ok {g ρ} : ∀ {cs : List SV} {xs vs : List Value}, valsL cs = some vs → DenL g ρ cs xs → xs = vs
  | [], xs, vs, h, d => by cases h; exact d.unnil
  | c :: r, xs, vs, h, d => by
    obtain ⟨x, ys, rfl, dx, dr⟩ := d.uncons
    unfold valsL at h
    split at h
    · cases ‹_ :: _ = []›
    · rename_i e
      cases e
      split at h
      · rename_i l hl
        cases h
        rw [den_v dx, valsL_ok hl dr]
      · cases h
    · rename_i e
      cases e
      split at h
      · rename_i l hl
        cases h
        rw [den_str dx, valsL_ok hl dr]
      · cases h
    · cases h
theorem den_a {g ρ cs x} (h : Den g ρ (.a cs) x) : ∃ xs : List Value, x = .agg xs.toArray ∧ DenL g ρ cs xs := by
  cases h with | a xs hl hd => exact ⟨xs, rfl, hl, hd⟩
abbrev neO : Bool → BinOp
  | true => .neq
  | false => .eql
abbrev neB : Bool → Bool → Bool
  | true, b => !b
  | false, b => b
section
variable {X : Kx} {k : List It} {L : SL} {M : SM} {fs : List MF} {own : List Res} {arr : Array Oper} {l : List Oper} {o : Oper}
theorem Stp_eqS {ne b : Bool} {d T yT : Nat} {x y : Operand} {svs cs ds : List SV} {xs ys : List Value} {fl : Array Field} {G : Option Bool} (hG : gS arr (lkS L) o = some G) (hd : o.dst = some d) (hn : Nat.blt d X.n = true) (ho : o.op = .binOp (neO ne) T x y yT)
    (hev : evs (lkS L) [x, y] = some svs) (hst : svs.map st1 = [.a cs, .a ds]) (hφ : ∀ p ∈ wq G (svs.flatMap cd1), p) (v1 : valsL cs = some xs) (v2 : valsL ds = some ys) (hu : X.P.underlying T = some (.struct fl)) (hp : X.P.stoodInHeld T = false)
    (hm : ∀ w, (eqGuard (neO ne) T x y (.agg xs.toArray) (.agg ys.toArray)).run X.P w = .ok () w) (hr : ∀ w, (Op.eqFields 9999 xs.toArray ys.toArray fl.toList).run X.P w = .ok b w) : Stp X arr o L M fs own (wr G (.v (.bool (neB ne b)))) M := by
  refine Stp_read hG hd hn (fun L' hL hon g a ρ ms st => ?_)
  have hSl : Sl X ρ L' a g := st.all _ (.tail _ (.head _))
  have hop : o.op.operands.toList = [x, y] := by rw [ho]; cases ne <;> rfl
  have hev' : evs (lkS L') [x, y] = some svs := by
    have := evs_agree' hL
    rw [hop] at this
    exact this.trans hev
  have hden := sts_ok (evals_den hSl.val hev') (wq_ok hφ hon)
  rw [hst] at hden
  obtain ⟨_, _, e1, dx, hr1⟩ := hden.uncons
  obtain ⟨_, _, e2, dy, _⟩ := hr1.uncons
  simp only [List.map_cons, List.cons.injEq] at e1
  obtain ⟨rfl, rfl⟩ := e1
  simp only [List.cons.injEq] at e2
  obtain ⟨rfl, _⟩ := e2
  obtain ⟨xs', ex, d1⟩ := den_a dx
  obtain ⟨ys', ey, d2⟩ := den_a dy
  obtain rfl := valsL_ok v1 d1
  obtain rfl := valsL_ok v2 d2
  have hf : X.P.fieldsOf T = fl := by simp [Program.fieldsOf, hu]
  have he := run_equalIn_struct g.w 9999 T xs'.toArray ys'.toArray (by rw [hf]; exact hu) hp
  rw [hf, hr] at he
  cases ne with
  | true =>
    refine ⟨.bool (!b), ?_, .v⟩
    have hm := hm g.w
    simp only [neO] at ho hm
    simp only [execOp, ho, ex, ey]
    simp [hm, run_neq_struct, he]
  | false =>
    refine ⟨.bool b, ?_, .v⟩
    have hm := hm g.w
    simp only [neO] at ho hm
    simp only [execOp, ho, ex, ey]
    simp [hm, run_eql_struct, he]
/-- Structs compared, then m operations. -/
theorem sq {tb : TT} (hT : tb.Ok X.P) (m : Nat) (H : List (List SV)) (ne : Bool) {b : Bool} {d T yT : Nat} {x y : Operand} {svs cs ds : List SV} {xs ys : List Value} {fl : Array Field} {G : Option Bool} {l' L' M' φ ψ} (hu : X.P.underlying T = some (.struct fl)) (hp : X.P.stoodInHeld T = false)
    (hr : ∀ w, (Op.eqFields 9999 xs.toArray ys.toArray fl.toList).run X.P w = .ok b w) (hk : ES X arr l' k L' M' fs own) (hG : gS arr (lkS L) o = some G := by rfl) (hd : o.dst = some d := by rfl) (hn : Nat.blt d X.n = true := by rfl) (ho : o.op = .binOp (neO ne) T x y yT := by rfl)
    (hev : evs (lkS L) [x, y] = some svs := by rfl) (hst : svs.map st1 = [.a cs, .a ds] := by rfl) (v1 : valsL cs = some xs := by rfl) (v2 : valsL ds = some ys := by rfl)
    (hm : ∀ w, (eqGuard (neO ne) T x y (.agg xs.toArray) (.agg ys.toArray)).run X.P w = .ok () w := by intro w; kernel_rfl)
    (hc : wq G (svs.flatMap cd1) = ψ := by rfl) (hψ : conj ψ := by first | trivial | exact id | exact ⟨id, id⟩ | (simp +contextual [conj]; done) | simp_all [conj])
    (hrn : xrun tb X.n arr m H l ((d, wr G (.v (.bool (neB ne b)))) :: L) M [] = some (l', L', M', φ) := by rfl) (hφ : conj φ := by first | trivial | omega | (simp +contextual [conj]; done) | (simp +contextual [conj, *]; done) | (simp +contextual [conj, *] <;> omega)) : ES X arr (o :: l) k L M fs own := by
  refine ES_step (Stp_eqS (ne := ne) hG hd hn ho hev hst (by rw [hc]; exact conj_all hψ) v1 v2 hu hp hm hr) ?_
  rw [hd]
  exact go hT m H hk hrn hφ
end
end Go.KX
namespace Go.KX
open Go.RowKit Go.Sort
/-- What held of the first world, of which nothing is written. -/
def factF (F : World → Prop) : MF where
  p g := ∃ w0, F w0 ∧ Below w0.heap.size w0 g.w ∧ ∀ b, b < w0.heap.size → g.fz b
  mono e h := by
    obtain ⟨w0, h1, h2, h3⟩ := h
    exact ⟨w0, h1, ⟨e.os.trans h2.os, e.tape.trans h2.tape, e.output.trans h2.output, Nat.le_trans h2.size e.size, fun k hk => (e.same k (h3 k hk)).trans (h2.block k hk)⟩, fun b hb => e.fz b (h3 b hb)⟩
theorem factF_at {F : World → Prop} (hF : ∀ w w', F w → Below w.heap.size w w' → F w') {g : GW} (h : (factF F).p g) : F g.w := by
  obtain ⟨w0, h1, h2, _⟩ := h
  exact hF w0 g.w h1 h2
theorem tab_below {P : Program} {n : String} {b : Nat} {k : IntKind} {zs : List Int} {w w' : World} (hg : P.globalNamed n = some b) (h : Lib.TabIs P w n k zs) (hb : Below w.heap.size w w') : Lib.TabIs P w' n k zs := by
  unfold Lib.TabIs World.var? at h ⊢
  rw [hg] at h ⊢
  simp only [Option.bind_some] at h ⊢
  have hlt : b < w.heap.size := by
    rcases Nat.lt_or_ge b w.heap.size with h' | h'
    · exact h'
    · rw [Array.getElem?_eq_none h'] at h; cases h
  rw [hb.block b hlt]
  exact h
theorem cell_below {w w' : World} (hb : Below w.heap.size w w') {a : Addr} {v : Value} (hc : w.cell? a = some v) : w'.cell? a = some v := (hb.cell (World.block_lt_of_cell? w a hc)).trans hc
theorem below_drewN (w : World) (n : Nat) : Below w.heap.size w (w.drewN n) := ⟨rfl, rfl, rfl, Nat.le_refl _, fun _ _ => rfl⟩
theorem below_grow (w : World) (os : Array Obj) : Below w.heap.size w (grow w os) := ⟨rfl, rfl, rfl, by simp [grow], fun k hk => by simp [grow, Array.getElem?_append_left hk]⟩
theorem ext_below {g : GW} {w' : World} (h : Below g.w.heap.size g.w w') : ∃ g', g'.w = w' ∧ Ext [] g g' :=
  ⟨⟨w', g.fz, fun b hb => Nat.lt_of_lt_of_le (g.lt b hb) h.size⟩, rfl, ⟨h.os, h.tape, h.output, h.size, fun _ hb => hb, fun b hb => h.block b (g.lt b hb)⟩, fun b hb _ => h.block b hb, fun _ _ _ hb => hb⟩
/-- A contract of the library's, told on symbolic values. -/
theorem Fc_lib {P : Program} {fs : List MF} {f : FuncId} {args : List SV} {res : SV} (hc : Callable P f)
    (h : ∀ ρ g vs, All fs g → DenL g ρ args vs → Calls P f vs.toArray g.w fun e w' => ∃ v, e = .returned v ∧ Below g.w.heap.size g.w w' ∧ ∀ g' ρ', Den g' ρ' res v) : Fc P fs f args res := by
  refine ⟨hc, fun ρ g vs hf ha => (h ρ g vs hf ha).mono ?_⟩
  rintro e w' ⟨v, rfl, hb, hd⟩
  obtain ⟨g', hw, he⟩ := ext_below hb
  exact ⟨v, g', rfl, hw, he, hd g' ρ⟩
theorem args_v {g ρ} : ∀ {args : List SV} {vs xs : List Value}, valsL args = some xs → DenL g ρ args vs → vs = xs := fun h d => valsL_ok h d
end Go.KX
namespace Go.KX
structure Val where
  k : Int
  n : Int
  deriving DecidableEq
abbrev nullV : Val := ⟨2, 0⟩
abbrev nanV : Val := ⟨3, 0⟩
abbrev plusV : Val := ⟨4, 0⟩
abbrev minusV : Val := ⟨5, 0⟩
abbrev zeroV : Val := ⟨0, 0⟩
def numV (n : Int) : Val := if 1000000000000000 < n then plusV else if n < -1000000000000000 then minusV else ⟨1, n⟩
def isV (v : Val) : Bool := if v.k = 1 then decide (-1000000000000000 ≤ v.n ∧ v.n ≤ 1000000000000000) else decide (2 ≤ v.k ∧ v.k ≤ 5 ∧ v.n = 0)
abbrev oAdd : Bytes := [43]
abbrev oSub : Bytes := [45]
abbrev oMul : Bytes := [42]
abbrev oDiv : Bytes := [47]
abbrev oEq : Bytes := [61, 61]
abbrev oNe : Bytes := [33, 61]
abbrev oLt : Bytes := [60]
abbrev oLe : Bytes := [60, 61]
abbrev oGt : Bytes := [62]
abbrev oGe : Bytes := [62, 61]
abbrev oAnd : Bytes := [38, 38]
abbrev oOr : Bytes := [124, 124]
abbrev oNot : Bytes := [33]
abbrev oAbs : Bytes := [97, 98, 115]
abbrev oFloor : Bytes := [102, 108, 111, 111, 114]
abbrev oNull : Bytes := [105, 115, 95, 110, 117, 108, 108]
abbrev oNan : Bytes := [105, 115, 95, 110, 97, 110]
abbrev oInf : Bytes := [105, 115, 95, 105, 110, 102]
abbrev oNum : Bytes := [105, 115, 95, 110, 117, 109, 98, 101, 114]
theorem isV_cases {v : Val} (h : isV v = true) : (v.k = 1 ∧ -1000000000000000 ≤ v.n ∧ v.n ≤ 1000000000000000) ∨ v = nullV ∨ v = nanV ∨ v = plusV ∨ v = minusV := by
  obtain ⟨k, n⟩ := v
  simp only [isV] at h
  split at h
  · exact .inl ⟨by assumption, by simpa using h⟩
  · simp only [decide_eq_true_eq] at h
    obtain ⟨h1, h2, rfl⟩ := h
    have : k = 2 ∨ k = 3 ∨ k = 4 ∨ k = 5 := by omega
    rcases this with rfl | rfl | rfl | rfl <;> simp
theorem isV_num (n : Int) : isV (numV n) = true := by
  unfold numV isV
  split
  · decide
  · split
    · decide
    · simp; omega
end Go.KX
namespace Go.KX
theorem numV_in {n : Int} (h1 : -1000000000000000 ≤ n) (h2 : n ≤ 1000000000000000) : numV n = ⟨1, n⟩ := by
  unfold numV; rw [if_neg (by omega), if_neg (by omega)]
end Go.KX
namespace Go.KX
abbrev nI (n : Int) : SV := .v (.int .i64 n)
abbrev bS (b : Bool) : SV := .v (.bool b)
abbrev vS (v : Val) : SV := .a [.v (.int .i64 v.k), .v (.int .i64 v.n)]
end Go.KX
namespace Go.KX
/-- The index of the first that answers, or -1. -/
def idxF {α : Type} (p : α → Bool) : List α → Int
  | [] => -1
  | x :: r => if p x then 0 else if idxF p r < 0 then -1 else idxF p r + 1
theorem idxF_ge {α : Type} (p : α → Bool) : ∀ l : List α, -1 ≤ idxF p l
  | [] => by simp [idxF]
  | x :: r => by have := idxF_ge p r; unfold idxF; split <;> (try split) <;> omega
theorem idxF_none {α : Type} {p : α → Bool} : ∀ {l : List α}, (∀ x ∈ l, p x = false) → idxF p l = -1
  | [], _ => rfl
  | x :: r, h => by
    unfold idxF
    rw [idxF_none (fun y hy => h y (.tail _ hy)), if_neg (by simp [h x (.head _)])]
    rfl
theorem idxF_some {α : Type} {p : α → Bool} : ∀ {l : List α} {j : Nat} (hj : j < l.length), (∀ x ∈ l.take j, p x = false) → p l[j] = true → idxF p l = j
  | [], j, hj, _, _ => by simp at hj
  | x :: r, 0, hj, _, h => by unfold idxF; simp at h; simp [h]
  | x :: r, j + 1, hj, h0, h => by
    have hj' : j < r.length := by simpa using hj
    have e := idxF_some (l := r) hj' (fun y hy => h0 y (by simp [hy])) (by simpa using h)
    unfold idxF
    rw [if_neg (by simp [h0 x (by simp)]), e]
    rw [if_neg (by omega)]; simp
theorem idxF_any {α : Type} (p : α → Bool) : ∀ l : List α, decide (0 ≤ idxF p l) = l.any p
  | [] => rfl
  | x :: r => by
    have h := idxF_any p r
    have h2 := idxF_ge p r
    unfold idxF
    rw [List.any_cons, ← h]
    by_cases hp : p x = true
    · rw [if_pos hp, hp]; rfl
    · rw [if_neg hp, Bool.eq_false_iff.2 hp]
      by_cases h0 : idxF p r < 0
      · rw [if_pos h0]; simp; omega
      · rw [if_neg h0]; simp; omega
theorem take_next {α : Type} {P : α → Prop} {l : List α} {j : Nat} (hj : j < l.length) (h : ∀ x ∈ l.take j, P x) (h2 : P l[j]) : ∀ x ∈ l.take (j + 1), P x := by
  intro x hx
  rw [List.take_succ_eq_append_getElem hj] at hx
  rcases List.mem_append.1 hx with h1 | h1
  · exact h x h1
  · simp at h1; exact h1 ▸ h2
/-- The row of an element. -/
theorem row_at {α : Type} (f : α → List SV) {l : List α} {j : Nat} (hj : j < l.length) : (l.map f)[((j : Nat) : Int).toNat]? = some (f l[j]) := by
  simp [hj]
abbrev rV (l : List Val) : SV := .s 2 (l.map fun v => [nI v.k, nI v.n])
theorem isV_n {v : Val} (h : isV v = true) : -1000000000000000 ≤ v.n ∧ v.n ≤ 1000000000000000 := by
  rcases isV_cases h with ⟨_, h1, h2⟩ | rfl | rfl | rfl | rfl
  · exact ⟨h1, h2⟩
  all_goals decide
end Go.KX
namespace Go.KX
/-- The three digits behind the point, without noughts at the end. -/
def fracV (r : Nat) : Bytes := if r = 0 then [] else 46 :: Lib.trimRightB ((Lib.decDigits (1000 + r)).drop 1) 48
def magV (n : Nat) : Bytes := Lib.decDigits (n / 1000) ++ fracV (n % 1000)
def printV (v : Val) : Bytes :=
  if isV v = false then [] else if v.k = 2 then [110, 117, 108, 108] else if v.k = 3 then [78, 97, 78] else if v.k = 4 then [43, 73, 110, 102] else if v.k = 5 then [45, 73, 110, 102] else
  if v.n < 0 then 45 :: magV v.n.natAbs else magV v.n.natAbs
theorem dec_one {n : Nat} (h : n < 10) : Lib.decDigits n = (([48, 49, 50, 51, 52, 53, 54, 55, 56, 57] : Bytes).drop n).take 1 := by
  rw [Lib.decDigits_one h]
  have : n = 0 ∨ n = 1 ∨ n = 2 ∨ n = 3 ∨ n = 4 ∨ n = 5 ∨ n = 6 ∨ n = 7 ∨ n = 8 ∨ n = 9 := by omega
  rcases this with rfl | rfl | rfl | rfl | rfl | rfl | rfl | rfl | rfl | rfl <;> rfl
theorem dec_more {n : Nat} (h : ¬ n < 10) : Lib.decDigits n = Lib.decDigits (n / 10) ++ (([48, 49, 50, 51, 52, 53, 54, 55, 56, 57] : Bytes).drop (n % 10)).take 1 := by
  rw [← dec_one (show n % 10 < 10 by omega), Lib.decDigits_one (show n % 10 < 10 by omega)]
  conv => lhs; rw [Lib.decDigits]
  rw [dif_neg h]
theorem dec_len {n : Nat} (h : n < 10000000000000000) : (Lib.decDigits n).length ≤ 20 := by
  have key : ∀ (k n : Nat), n < 10 ^ (k + 1) → (Lib.decDigits n).length ≤ k + 1 := by
    intro k
    induction k with
    | zero => intro n hn; rw [Lib.decDigits_one (by simpa using hn)]; simp
    | succ k ih =>
      intro n hn
      by_cases h10 : n < 10
      · rw [Lib.decDigits_one h10]; simp
      · rw [dec_more h10, List.length_append]
        have := ih (n / 10) (by rw [Nat.pow_succ] at hn; omega)
        have h2 : ((([48, 49, 50, 51, 52, 53, 54, 55, 56, 57] : Bytes).drop (n % 10)).take 1).length ≤ 1 := by rw [List.length_take]; omega
        omega
  exact Nat.le_trans (key 15 n (by omega)) (by omega)
theorem dec4 {r : Nat} (h : r < 1000) : (Lib.decDigits (1000 + r)).drop 1 = [UInt8.ofNat (48 + r / 100), UInt8.ofNat (48 + r / 10 % 10), UInt8.ofNat (48 + r % 10)] := by
  rw [Lib.decDigits, dif_neg (by omega), Lib.decDigits, dif_neg (by omega), Lib.decDigits_two (by omega) (by omega)]
  simp only [List.cons_append, List.nil_append, List.drop_succ_cons, List.drop_zero]
  rw [show (1000 + r) / 10 / 10 % 10 = r / 100 by omega, show (1000 + r) / 10 % 10 = r / 10 % 10 by omega, show (1000 + r) % 10 = r % 10 by omega]
theorem dropW_nil {p : UInt8 → Bool} : ∀ {l : Bytes}, l.dropWhile p = [] → ∀ x ∈ l, p x = true
  | [], _, x, hx => by cases hx
  | y :: r, h, x, hx => by
    unfold List.dropWhile at h
    split at h
    · cases hx with
      | head => assumption
      | tail _ hm => exact dropW_nil h x hm
    · cases h
theorem dig_nz {d : Nat} (h : d < 10) (h2 : UInt8.ofNat (48 + d) = 48) : d = 0 := by
  have := congrArg UInt8.toNat h2
  simp at this
  omega
theorem frac_ne {r : Nat} (h0 : r ≠ 0) (h : r < 1000) : Lib.trimRightB ((Lib.decDigits (1000 + r)).drop 1) 48 ≠ [] := by
  rw [dec4 h, Lib.trimRightB]
  intro hn
  have hn := List.reverse_eq_nil_iff.1 hn
  have hn := dropW_nil hn
  have a1 := dig_nz (d := r / 100) (by omega) (by simpa using hn (UInt8.ofNat (48 + r / 100)) (by simp))
  have a2 := dig_nz (d := r / 10 % 10) (by omega) (by simpa using hn (UInt8.ofNat (48 + r / 10 % 10)) (by simp))
  have a3 := dig_nz (d := r % 10) (by omega) (by simpa using hn (UInt8.ofNat (48 + r % 10)) (by simp))
  omega
theorem split_last {l : Bytes} (h : 0 < l.length) : l = l.take (l.length - 1) ++ [l.getD (l.length - 1) 0] := by
  have e := List.take_append_drop (l.length - 1) l
  rw [List.drop_eq_getElem_cons (by omega), List.drop_of_length_le (by omega)] at e
  rw [List.getD_eq_getElem?_getD, List.getElem?_eq_getElem (by omega)]
  exact e.symm
theorem trim_drop {l : Bytes} (h : 0 < l.length) (h2 : l.getD (l.length - 1) 0 = 48) : Lib.trimRightB l 48 = Lib.trimRightB (l.take (l.length - 1)) 48 := by
  conv => lhs; rw [split_last h, h2]
  unfold Lib.trimRightB
  rw [List.reverse_append, List.reverse_singleton, List.singleton_append, List.dropWhile_cons_of_pos (by rfl)]
theorem trim_stay {l : Bytes} (h : 0 < l.length) (h2 : l.getD (l.length - 1) 0 ≠ 48) : Lib.trimRightB l 48 = l := by
  conv => lhs; rw [split_last h]
  unfold Lib.trimRightB
  rw [List.reverse_append, List.reverse_singleton, List.singleton_append, List.dropWhile_cons_of_neg (by simpa using h2)]
  conv => rhs; rw [split_last h]
  simp
theorem trim_pos {l : Bytes} (h : Lib.trimRightB l 48 ≠ []) : 0 < l.length := by
  cases l with
  | nil => exact absurd rfl h
  | cons _ _ => simp
theorem print_pos {n : Int} (h0 : 0 ≤ n) (h1 : n ≤ 1000000000000000) : printV ⟨1, n⟩ = magV n.natAbs := by
  unfold printV
  rw [if_neg (by unfold isV; simp; omega), if_neg (by simp), if_neg (by simp), if_neg (by simp), if_neg (by simp), if_neg (by simp; omega)]
theorem trim_len (l : Bytes) : (Lib.trimRightB l 48).length ≤ l.length := by
  unfold Lib.trimRightB
  rw [List.length_reverse]
  have := (List.dropWhile_sublist (fun x : UInt8 => x == 48) (l := l.reverse)).length_le
  simpa using this
theorem mag_len {n : Nat} (h : n ≤ 1000000000000000) : (magV n).length ≤ 24 := by
  have h1 := dec_len (n := n / 1000) (by omega)
  unfold magV fracV
  rw [List.length_append]
  split
  · simp; omega
  · have h2 := trim_len ((Lib.decDigits (1000 + n % 1000)).drop 1)
    have h3 : ((Lib.decDigits (1000 + n % 1000)).drop 1).length = 3 := by rw [dec4 (by omega)]; rfl
    simp only [List.length_cons]
    omega
theorem print_len (v : Val) : (printV v).length ≤ 30 := by
  unfold printV
  split
  · simp
  · rename_i hv
    have hv : isV v = true := by simpa using hv
    have hn : v.n.natAbs ≤ 1000000000000000 := by
      rcases isV_cases hv with ⟨_, h1, h2⟩ | rfl | rfl | rfl | rfl <;> first | omega | decide
    have := mag_len hn
    repeat' split
    all_goals simp <;> omega
end Go.KX
namespace Go.KX
/-- A tree: its kind, name, value, kids. -/
inductive Ex where
  | mk (k : Int) (name : Bytes) (v : Val) (kids : List Ex)
namespace Ex
def kind : Ex → Int | .mk k _ _ _ => k
def name : Ex → Bytes | .mk _ n _ _ => n
def val : Ex → Val | .mk _ _ v _ => v
def kids : Ex → List Ex | .mk _ _ _ l => l
end Ex
abbrev ex0 : Ex := .mk 0 [] zeroV []
abbrev exN (v : Val) : Ex := .mk 1 [] v []
abbrev exR (n : Bytes) : Ex := .mk 2 n zeroV []
abbrev exC (n : Bytes) (l : List Ex) : Ex := .mk 3 n zeroV l
abbrev gDig : Bytes := [48, 49, 50, 51, 52, 53, 54, 55, 56, 57]
abbrev gGreat : Bytes := [65, 66, 67, 68, 69, 70, 71, 72, 73, 74, 75, 76, 77, 78, 79, 80, 81, 82, 83, 84, 85, 86, 87, 88, 89, 90]
abbrev gLet : Bytes := [97, 98, 99, 100, 101, 102, 103, 104, 105, 106, 107, 108, 109, 110, 111, 112, 113, 114, 115, 116, 117, 118, 119, 120, 121, 122, 95, 65, 66, 67, 68, 69, 70, 71, 72, 73, 74, 75, 76, 77, 78, 79, 80, 81, 82, 83, 84, 85, 86, 87, 88, 89, 90]
abbrev gLD : Bytes := [97, 98, 99, 100, 101, 102, 103, 104, 105, 106, 107, 108, 109, 110, 111, 112, 113, 114, 115, 116, 117, 118, 119, 120, 121, 122, 95, 65, 66, 67, 68, 69, 70, 71, 72, 73, 74, 75, 76, 77, 78, 79, 80, 81, 82, 83, 84, 85, 86, 87, 88, 89, 90, 48, 49, 50, 51, 52, 53, 54, 55, 56, 57]
/-- How many bytes, from the front, are among some. -/
def runB (g : Bytes) : Bytes → Nat
  | [] => 0
  | c :: r => if c ∈ g then runB g r + 1 else 0
abbrev oPL : Bytes := [40]
abbrev oPR : Bytes := [41]
def signsT : List Bytes := [oOr, oAnd, oEq, oNe, oLe, oGe, oLt, oGt, oAdd, oSub, oMul, oDiv, oNot, oPL, oPR]
def levelsT : List (List Bytes) := [[oOr], [oAnd], [oEq, oNe, oLe, oGe, oLt, oGt], [oAdd, oSub], [oMul, oDiv]]
/-- Where a parser stands: a place, the first error, its place, whether there is one. -/
structure Ps where
  i : Nat
  err : Int
  at_ : Int
  dead : Bool
  deriving DecidableEq
namespace Ps
def fails (p : Ps) (e a : Int) : Ps := if p.dead then p else ⟨p.i, e, a, true⟩
def restP (s : Bytes) (p : Ps) : Ps := if p.dead then p else { p with i := p.i + runB [32] (s.drop p.i) }
def restT (s : Bytes) (p : Ps) : Bytes := if p.dead then [] else s.drop (p.restP s).i
end Ps
def firstSign (r : Bytes) : Option Bytes := signsT.find? fun x => Lib.hasPrefix r x
def takeT (s : Bytes) (l : List Bytes) (p : Ps) : Option Bytes := match firstSign (p.restT s) with
  | some x => if x ∈ l then some x else none
  | none => none
def takeP (s : Bytes) (l : List Bytes) (p : Ps) : Ps := match takeT s l p with
  | some x => { p.restP s with i := (p.restP s).i + x.length }
  | none => p.restP s
def mustP (s : Bytes) (x : Bytes) (p : Ps) : Ps := match takeT s [x] p with
  | some _ => takeP s [x] p
  | none => (takeP s [x] p).fails 110 (takeP s [x] p).i
def enterP (s : Bytes) (deep : Nat) (p : Ps) : Ps := if 32 < deep then (p.restP s).fails 111 (p.restP s).i else p.restP s
/-- Operands with operators between; tk: takes one of some signs. -/
def loopG {σ : Type} (tk : List Bytes → σ → Option Bytes × σ) (sub : σ → Ex × σ) (ops : List Bytes) (alone : Bool) : Nat → Ex → σ → Ex × σ
  | 0, x, p => (x, p)
  | n + 1, x, p => match (tk ops p).1 with
    | none => (x, (tk ops p).2)
    | some o => match alone with
      | true => (exC o [x, (sub (tk ops p).2).1], (sub (tk ops p).2).2)
      | false => loopG tk sub ops alone n (exC o [x, (sub (tk ops p).2).1]) (sub (tk ops p).2).2
/-- Level l and the tighter ones: five, four, .. of them. -/
def levG {σ : Type} (tk : List Bytes → σ → Option Bytes × σ) (fuel : Nat) (u : σ → Ex × σ) : Nat → σ → Ex × σ
  | 0, p => u p
  | n + 1, p => loopG tk (levG tk fuel u n) (levelsT.getD (4 - n) []) (n == 2) fuel (levG tk fuel u n p).1 (levG tk fuel u n p).2
abbrev tkX (s : Bytes) (l : List Bytes) (p : Ps) : Option Bytes × Ps := (takeT s l p, takeP s l p)
abbrev levX (s : Bytes) (u : Ps → Ex × Ps) : Nat → Ps → Ex × Ps := levG (tkX s) (s.length + 1) u
def exprX (s : Bytes) (u : Ps → Ex × Ps) (deep : Nat) (p : Ps) : Ex × Ps := levX s u 5 (enterP s deep p)
def functionB (w : Bytes) : Bool := decide (w ∈ [oAbs, oFloor, oNull, oNan, oInf, oNum])
def refB (w : Bytes) : Bool := match w with
  | [] => false
  | c :: _ => decide (w.length ≤ 16) && decide (c ∈ gGreat) && decide (runB gLD w = w.length)
/-- How long a number is. -/
def numLen (r : Bytes) : Nat := if runB gDig r + 1 < r.length ∧ r.getD (runB gDig r) 0 = 46 ∧ 0 < runB gDig (r.drop (runB gDig r + 1)) then runB gDig r + 1 + runB gDig (r.drop (runB gDig r + 1)) else runB gDig r
section
variable (pv : Bytes → Val × Int) (s : Bytes)
def numberX (r : Bytes) (p : Ps) : Ex × Ps :=
  (exN (pv (r.take (numLen r))).1, { (if (pv (r.take (numLen r))).2 = 0 then p else p.fails 110 p.i) with i := p.i + numLen r })
abbrev wNull : Bytes := [110, 117, 108, 108]
abbrev wNan : Bytes := [110, 97, 110]
abbrev wInf : Bytes := [105, 110, 102]
def parX (ex : Ps → Ex × Ps) (p : Ps) : Ex × Ps := ((ex p).1, mustP s oPR (ex p).2)
def wordX (ex : Ps → Ex × Ps) (r : Bytes) (p : Ps) : Ex × Ps :=
  let w := r.take (runB gLD r)
  let p1 : Ps := { p with i := p.i + w.length }
  if w = wNull then (exN nullV, p1) else if w = wNan then (exN nanV, p1) else if w = wInf then (exN plusV, p1) else
  (exC w [(parX s ex (mustP s oPL (if functionB w then p1 else p1.fails 110 p.i))).1], (parX s ex (mustP s oPL (if functionB w then p1 else p1.fails 110 p.i))).2)
def refX (r : Bytes) (p : Ps) : Ex × Ps :=
  let w := (r.drop 1).take (runB gLD (r.drop 1))
  (exR w, { (if refB w then p else p.fails 110 p.i) with i := p.i + (1 + w.length) })
/-- What no operator parts; ex: an expression, one deeper. -/
def primX (ex : Ps → Ex × Ps) (p0 : Ps) : Ex × Ps :=
  let p := p0.restP s
  match p0.dead, p0.restT s with
  | true, _ => (ex0, p)
  | false, [] => (ex0, p.fails 110 p.i)
  | false, c :: r => if c = 40 then parX s ex { p with i := p.i + 1 } else if c = 36 then refX (c :: r) p else if c ∈ gDig then numberX pv (c :: r) p else if c ∈ gLet then wordX s ex (c :: r) p else (ex0, p.fails 110 p.i)
/-- An operand with signs ahead of it; d: how much deeper it may go. -/
def unX : Nat → Ps → Ex × Ps
  | 0, p => primX pv s (fun q => (ex0, q)) (takeP s [oSub, oNot] (enterP s 33 p))
  | d + 1, p => match takeT s [oSub, oNot] (enterP s (32 - d) p) with
    | some o => (exC o [(unX d (takeP s [oSub, oNot] (enterP s (32 - d) p))).1], (unX d (takeP s [oSub, oNot] (enterP s (32 - d) p))).2)
    | none => primX pv s (exprX s (unX d) (33 - d)) (takeP s [oSub, oNot] (enterP s (32 - d) p))
/-- The tree of a text; an error, its place. -/
def parseX : Ex × Int × Int :=
  if 1024 < s.length then (ex0, 1, 0) else
  let r := exprX s (unX pv s 33) 0 ⟨0, 0, 0, false⟩
  let q := r.2.restP s
  let q2 := if r.2.restT s = [] then q else q.fails 110 q.i
  if q2.dead then (ex0, q2.err, q2.at_) else (r.1, 0, 0)
end
end Go.KX
