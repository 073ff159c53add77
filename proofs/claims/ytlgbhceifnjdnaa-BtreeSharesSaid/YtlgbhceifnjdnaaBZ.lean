/- BaseQ BaseR BaseS. -/
import Derived.Test.YtlgbhceifnjdnaaBY
import Derived.ProofKit
import Derived.OpenShut
import Derived.Test.YtlgbhceifnjdnaaPX
/- Out of a contract: the row of a law. What was there reads as it did. No program in sight. -/
namespace Go.KX
open Go.RowKit
/-- What was there is as it was. -/
structure OldSame (W W' : World) : Prop where
  os : W'.os = W.os
  output : W'.output = W.output
  size : W.heap.size ≤ W'.heap.size
  same : ∀ b, b < W.heap.size → W'.heap[b]? = W.heap[b]?
/-- All that is there is never written again. -/
def gAll (W : World) : GW := ⟨W, fun b => b < W.heap.size, fun _ h => h⟩
theorem calls_law {P : Program} {f : FuncId} {args : Array Value} {fs : List MF} {W : World} (h : Spx P f args fs [] (fun v fs' own' => v = .bool true ∧ fs' = [] ∧ own' = [])) (hf : All fs (gAll W)) :
    Calls P f args W fun e W' => e = .returned (.bool true) ∧ OldSame W W' := by
  refine (h.2 (gAll W) hf ⟨(fun r hr => by cases hr), List.nodup_nil, (fun b hb => by cases hb), (fun b hb => by cases hb)⟩).mono ?_
  rintro e w' ⟨v, fs', own', g', rfl, ⟨rfl, rfl, rfl⟩, rfl, hE, _, _, _⟩
  exact ⟨rfl, hE.os, hE.output, hE.size, fun b hb => hE.same b hb⟩
theorem OldSame.kept {W W' : World} (h : OldSame W W') (may : MemPlace → Prop) : W.keptBut W' may := by
  refine ⟨h.os, h.output, fun i hi => ?_⟩
  rw [h.same i hi]
  cases hq : W.heap[i]? with
  | none => rfl
  | some o => cases o <;> first | exact ⟨rfl, rfl, rfl, fun _ _ => rfl⟩ | exact .inr ⟨rfl, rfl⟩ | rfl
section
variable {H : Type} {enc : TypeId × Value → H} {P : Program} {W W' : World}
theorem mapM_keep {α β : Type} {f f' : α → Option β} : ∀ (l : List α) (ys : List β), l.mapM f = some ys → (∀ i ∈ l, ∀ y ∈ ys, f i = some y → f' i = some y) → l.mapM f' = some ys
  | [], ys, h, _ => by simpa using h
  | a :: l, ys, h, hk => by
    simp only [List.mapM_cons] at h ⊢
    cases hfa : f a with
    | none => rw [hfa] at h; cases h
    | some y =>
      rw [hfa] at h
      cases hl : l.mapM f with
      | none => rw [hl] at h; cases h
      | some zs =>
        rw [hl] at h
        cases h
        have h1 := hk a (.head _) y (.head _) hfa
        have h2 := mapM_keep l zs hl (fun i hi z hz hz2 => hk i (.tail _ hi) z (.tail _ hz) hz2)
        rw [h1, h2]; rfl
theorem mapM_len {α β : Type} {f : α → Option β} : ∀ (l : List α) (ys : List β), l.mapM f = some ys → ys.length = l.length
  | [], ys, h => by simp at h; subst h; rfl
  | a :: l, ys, h => by
    simp only [List.mapM_cons] at h
    cases hfa : f a with
    | none => rw [hfa] at h; cases h
    | some y =>
      rw [hfa] at h
      cases hl : l.mapM f with
      | none => rw [hl] at h; cases h
      | some zs =>
        rw [hl] at h
        cases h
        simp [mapM_len l zs hl]
theorem mapM_at {α β : Type} {f : α → Option β} : ∀ (l : List α) (ys : List β), l.mapM f = some ys → ∀ (i : Nat) a, l[i]? = some a → ∃ y, ys[i]? = some y ∧ f a = some y
  | [], ys, h, i, a, ha => by simp at ha
  | b :: l, ys, h, i, a, ha => by
    simp only [List.mapM_cons] at h
    cases hfa : f b with
    | none => rw [hfa] at h; cases h
    | some y =>
      rw [hfa] at h
      cases hl : l.mapM f with
      | none => rw [hl] at h; cases h
      | some zs =>
        rw [hl] at h
        cases h
        cases i with
        | zero => simp at ha; subst ha; exact ⟨y, rfl, hfa⟩
        | succ i => simp at ha; obtain ⟨y', h1, h2⟩ := mapM_at l zs hl i a ha; exact ⟨y', by simpa using h1, h2⟩
theorem cells_at {w : World} {base : Nat} {a : Addr} {n : Nat} {cs : List Value} (h : w.cells? base a n = some cs) : cs.length = n ∧ ∀ (j : Nat) v, cs[j]? = some v → w.cell? (a.add j) = some v := by
  unfold World.cells? at h
  split at h
  · refine ⟨by have := mapM_len _ _ h; simpa using this, fun j v hj => ?_⟩
    have hlt : j < n := by
      have := mapM_len _ _ h
      have h2 := (List.getElem?_eq_some_iff.1 hj).1
      simp at this; omega
    obtain ⟨y, h1, h2⟩ := mapM_at _ _ h j j (by simp [hlt])
    rw [hj] at h1
    cases h1
    exact h2
  · cases h
theorem add_block (a : Addr) (i : Nat) : (a.add i).block = a.block := by unfold Addr.add; split <;> rfl
theorem cells_keep {base n : Nat} {a : Addr} {cs : List Value} (hW : OldSame W W') (h : W.cells? base a n = some cs) : W'.cells? base a n = some cs := by
  unfold World.cells? at h ⊢
  split
  · rename_i hb
    rw [if_pos hb] at h
    refine mapM_keep _ _ h (fun i _ y _ hy => ?_)
    unfold World.cell? at hy ⊢
    have hlt : (a.add i).block < W.heap.size := by
      rcases Nat.lt_or_ge (a.add i).block W.heap.size with h | h
      · exact h
      · rw [Array.getElem?_eq_none h] at hy; cases hy
    rw [hW.same _ hlt]; exact hy
  · rename_i hb; rw [if_neg hb] at h; cases h
/-- Types that lead to no interface, map, function, pointer. -/
def plainT (P : Program) : Nat → TypeId → Bool
  | 0, _ => false
  | f + 1, t => match P.underlying t with
    | some .bool => true
    | some (.int _) => true
    | some .string => true
    | some (.slice e) => decide (0 < P.cellsOf e) && plainT P f e
    | some (.struct fs) => fs.toList.all fun fd => plainT P f fd.type
    | _ => false
theorem row_mem {a : Addr} {n j : Nat} (h : j < n) : MemPlace.cell a.block (a.off + j) ∈ MemPlace.row a n := List.mem_map.2 ⟨j, by simp [h], rfl⟩
theorem trod_keep (hW : OldSame W W') {base : Nat} {held : Bool} {sp : Nat → Bool} : ∀ (k fuel : Nat) (t : TypeId) (cs : List Value) (x : DataW H × List MemPlace), plainT P k t = true → (∀ p ∈ x.2, sp p.block = true) →
    DataW.trod enc P W base (fun _ => true) held fuel t cs = some x → DataW.trod enc P W' base sp held fuel t cs = some x
  | 0, _, _, _, _, hp, _, _ => by cases hp
  | _ + 1, 0, _, _, _, _, _, h => by cases h
  | k + 1, fuel + 1, t, cs, x, hp, hs, h => by
    rw [plainT] at hp
    unfold DataW.trod at h ⊢
    split at hp
    · rename_i u; rw [u] at h ⊢; revert h; split <;> intro h <;> first | exact h | (rename_i hq; cases hq; done) | (rename_i hq _; cases hq; done) | (cases h; done)
    · rename_i u; rw [u] at h ⊢; revert h; split <;> intro h <;> first | exact h | (rename_i hq; cases hq; done) | (rename_i hq _; cases hq; done) | (cases h; done)
    · rename_i u; rw [u] at h ⊢; revert h; split <;> intro h <;> first | exact h | (rename_i hq; cases hq; done) | (rename_i hq _; cases hq; done) | (cases h; done)
    · rename_i e u
      simp only [Bool.and_eq_true, decide_eq_true_eq] at hp
      obtain ⟨hz, hpe⟩ := hp
      rw [u] at h ⊢
      revert h
      split <;> intro h <;> first | exact h | (rename_i hq; cases hq; done) | (rename_i hq _; cases hq; done) | (cases h; done) | skip
      rename_i e2 a len cap heq
      injection heq with heq
      injection heq with heq
      subst heq
      dsimp only at h ⊢
      split at h
      · rename_i hc
        rw [if_pos hc]
        simp only [if_true, Option.bind_eq_some_iff, Option.map_eq_some_iff] at h ⊢
        obtain ⟨elems, h1, rest, h2, h3⟩ := h
        subst h3
        have hel : ∀ (i : Nat) y, y ∈ elems ++ rest → ((W.cells? base (a.add (i * P.cellsOf e)) (P.cellsOf e)).bind (DataW.trod enc P W base (fun _ => true) held fuel e)) = some y → ((W'.cells? base (a.add (i * P.cellsOf e)) (P.cellsOf e)).bind (DataW.trod enc P W' base sp held fuel e)) = some y := by
          intro i y hy hyx
          simp only [Option.bind_eq_some_iff] at hyx ⊢
          obtain ⟨c, hc1, hc2⟩ := hyx
          refine ⟨c, cells_keep hW hc1, trod_keep hW k fuel e c y hpe (fun p hp => hs p ?_) hc2⟩
          exact List.mem_append_right _ (List.mem_flatMap.2 ⟨y, hy, hp⟩)
        refine ⟨elems, mapM_keep _ _ h1 (fun i _ y hy => hel i y (List.mem_append_left _ hy)), rest, ?_, rfl⟩
        have hl1 := mapM_len _ _ h1
        have hl2 := mapM_len _ _ h2
        simp only [List.length_range] at hl1 hl2
        by_cases hsb : sp a.block = true
        · rw [if_pos hsb]
          exact mapM_keep _ _ h2 (fun i _ y hy => hel (len + i) y (List.mem_append_right _ hy))
        · have h0 : (elems.length + rest.length) * P.cellsOf e = 0 := by
            rcases Nat.eq_zero_or_pos ((elems.length + rest.length) * P.cellsOf e) with h | h
            · exact h
            · exact absurd (hs _ (List.mem_append_left _ (row_mem h))) hsb
          have h00 : elems.length + rest.length = 0 := by
            rcases Nat.mul_eq_zero.1 h0 with h | h
            · exact h
            · omega
          have : rest = [] := List.eq_nil_of_length_eq_zero (by omega)
          subst this
          rw [if_neg hsb]
      · cases h
    · rename_i fs u
      simp only [List.all_eq_true] at hp
      rw [u] at h ⊢
      dsimp only at h ⊢
      split at h
      · rename_i hc
        rw [if_pos hc]
        simp only [Option.map_eq_some_iff] at h ⊢
        obtain ⟨xs, h1, h2⟩ := h
        subst h2
        refine ⟨xs, mapM_keep _ _ h1 (fun fd hfd y hy hyx => trod_keep hW k fuel _ _ y (hp fd hfd) (fun p hp => hs p (List.mem_flatMap.2 ⟨y, hy, hp⟩)) hyx), rfl⟩
      · cases h
    · cases hp
theorem trodAll_keep (hW : OldSame W W') {base : Nat} {held : Bool} {sp : Nat → Bool} (k : Nat) : ∀ (ts : List TypeId) (vs : List Value) (ds : List (DataW H)) (ps : List MemPlace), (ts.all fun t => plainT P k t) = true → (∀ p ∈ ps, sp p.block = true) →
    DataW.TrodAll enc P W base (fun _ => true) held ts vs ds ps → DataW.TrodAll enc P W' base sp held ts vs ds ps
  | [], [], [], ps, _, _, h => h
  | t :: ts, v :: vs, d :: ds, ps, hp, hs, h => by
    obtain ⟨p, q, ⟨fuel, h1⟩, h2, h3⟩ := h
    subst h3
    simp only [List.all_cons, Bool.and_eq_true] at hp
    exact ⟨p, q, ⟨fuel, trod_keep hW k fuel t _ _ hp.1 (fun p' hp' => hs p' (List.mem_append_left _ hp')) h1⟩, trodAll_keep hW k ts vs ds q hp.2 (fun p' hp' => hs p' (List.mem_append_right _ hp')) h2, rfl⟩
/-- The row of a law whose arguments are plain data, out of its walk. -/
theorem law_post {f : Func} {s : ChangeSpec} {apart fresh : Bool} {args : Array Value} {ds gs : List (DataW H)} {before : List MemPlace} {ds' : List (DataW H)} (k : Nat) (hv : s.vars = [])
    (hW : DataW.Whole enc P f.params.toList s.vars apart W args.toList ds gs before) (hs : OldSame W W') (hpl : (f.params.toList.all fun t => plainT P k t) = true)
    (hr : ∃ t, f.resultTypes = #[t] ∧ P.underlying t = some .bool) (hds : ds = ds') (hfn : s.fn H (ds' ++ []) = { results := [.lit (.bool true)], args := ds' }) :
    s.post enc P f apart fresh false false W args (.bool true) W' := by
  have hW' := hW
  obtain ⟨p, q, hA, hV, rfl, hfz, hnd⟩ := hW
  subst hds
  rw [hv] at hV
  have hg : gs = [] ∧ q = [] := by
    cases gs with
    | nil => exact ⟨rfl, hV⟩
    | cons _ _ => exact hV.elim
  obtain ⟨rfl, rfl⟩ := hg
  obtain ⟨tb, hr1, hr2⟩ := hr
  refine ⟨ds, [], p ++ [], [], p, [], hW', ?_, ?_, ?_, hs.kept _, fun h => (by cases h)⟩
  · rw [hfn, hr1]
    exact ⟨[], [], ⟨1, by unfold DataW.trod; rw [hr2]; rfl⟩, rfl, rfl⟩
  · rw [hfn]
    refine trodAll_keep hs k _ _ _ _ hpl (fun pl hpl => ?_) hA
    have := hW'.lt pl (List.mem_append_left _ hpl)
    simpa using this
  · rw [hfn, hv]; rfl
end
end Go.KX

/- A slice out of a slice of slices, where the order is drawn. No program in sight. -/
namespace Go.KX
section
variable {X : Cx} {k : List It} {L : LL} {fs : List MF} {own : List Res} {arr : Array Oper} {l : List Oper} {o : Oper}
theorem C_sl {α : Type} {E : El α} {xs : List (SlE α)} {i : Nat} {y : SlE α} (hf : Has fs (AllSl E xs)) (hy : xs[i]? = some y) (h : C X k L (SlM E y.1 y.2.1 y.2.2 :: fs) own) : C X k L fs own :=
  C_fact (fun _ hA => hA _ hf.mem y (List.mem_of_getElem? hy)) h
end
theorem sum_take {α : Type} (f : α → Nat) {xs : List α} {i : Nat} {y : α} (h : xs[i]? = some y) : ((xs.take (i + 1)).map f).sum = ((xs.take i).map f).sum + f y := by
  rw [List.take_add_one, h]; simp
theorem mem_sum {α : Type} (f : α → Nat) : ∀ {xs : List α} {y : α}, y ∈ xs → f y ≤ (xs.map f).sum
  | x :: xs, y, h => by
    rcases List.mem_cons.1 h with rfl | h
    · simp
    · have := mem_sum f h; simp; omega
end Go.KX

/- What is handed in, read: numbers, texts, slices; all that is there counts as never written again. No program in sight. -/
namespace Go.KX
open Go.RowKit
section
variable {H : Type} {enc : TypeId × Value → H} {P : Program} {W : World}
/-- No part of it takes more room than there is. -/
def Light (P : Program) (t : TypeId) (d : DataW H) : Prop := (d.weights P t).all (· ≤ reachBytes) = true
/-- How cells of a type read: as some α that is as Q says. -/
def Rd (enc : TypeId × Value → H) (P : Program) (W : World) (t : TypeId) {α : Type} (e : α → List Value) (Q : α → Prop) : Prop :=
  ∀ (fuel : Nat) (cs : List Value) (x : DataW H × List MemPlace), DataW.trod enc P W 0 (fun _ => true) true fuel t cs = some x → Light P t x.1 → ∃ y, cs = e y ∧ Q y
theorem rd_int {t : TypeId} {k : IntKind} (u : P.underlying t = some (.int k)) : Rd enc P W t (fun z : Int => [.int k z]) (fun z => (Lit.int k z).wf = true) := by
  intro fuel cs x h _
  cases fuel with
  | zero => cases h
  | succ fuel =>
    unfold DataW.trod at h
    rw [u] at h
    revert h
    split <;> intro h <;> first | (rename_i hq; cases hq; done) | (rename_i hq _; cases hq; done) | (cases h; done) | skip
    rename_i e2
    split at h
    · rename_i hw
      obtain ⟨hk, hw⟩ := hw
      injection e2 with e2
      injection e2 with e2
      subst hk
      subst e2
      exact ⟨_, rfl, hw⟩
    · cases h
theorem rd_byte {t : TypeId} (u : P.underlying t = some (.int .u8)) : Rd enc P W t elB.enc (fun _ => True) := by
  intro fuel cs x h hl
  obtain ⟨z, rfl, hz⟩ := rd_int u fuel cs x h hl
  have hb := bounds_u8 hz
  refine ⟨UInt8.ofNat z.toNat, ?_, trivial⟩
  show _ = [Value.int .u8 ((UInt8.ofNat z.toNat).toNat : Int)]
  rw [ofNat_toNat_lt (by omega)]
  congr 2
  omega
theorem rd_str {t : TypeId} (u : P.underlying t = some .string) : Rd enc P W t (fun s : Bytes => [str s]) (fun s => s.length ≤ 140737488351232) := by
  intro fuel cs x h hl
  cases fuel with
  | zero => cases h
  | succ fuel =>
    unfold DataW.trod at h
    rw [u] at h
    revert h
    split <;> intro h <;> first | (rename_i hq; cases hq; done) | (rename_i hq _; cases hq; done) | (cases h; done) | skip
    rename_i s _
    split at h
    · cases h
      obtain ⟨b, hb⟩ := exists_str s
      refine ⟨b, by rw [hb], ?_⟩
      have hs : s = ⟨b.toArray⟩ := by unfold str at hb; injection hb
      simp only [Light, DataW.weights, List.all_cons, List.all_nil, Bool.and_true, decide_eq_true_eq] at hl
      rw [hs] at hl
      simp only [reachBytes] at hl
      simpa using hl
    · cases h
theorem exists_list {α : Type} (R : Nat → α → Prop) : ∀ (n : Nat), (∀ i, i < n → ∃ y, R i y) → ∃ ys : List α, ys.length = n ∧ ∀ (i : Nat) y, ys[i]? = some y → R i y
  | 0, _ => ⟨[], rfl, fun i y h => by simp at h⟩
  | n + 1, h => by
    obtain ⟨ys, h1, h2⟩ := exists_list R n (fun i hi => h i (by omega))
    obtain ⟨y, hy⟩ := h n (Nat.lt_succ_self n)
    refine ⟨ys ++ [y], by simp [h1], fun i z hz => ?_⟩
    rw [List.getElem?_append] at hz
    split at hz
    · exact h2 i z hz
    · rename_i hge
      have hi : i = n := by
        have := (List.getElem?_eq_some_iff.1 hz).1
        simp at this; omega
      subst hi
      rw [h1] at hz
      simp at hz; subst hz; exact hy
theorem weightsAll_mem {e : TypeId} : ∀ {l : List (DataW H)}, (DataW.weightsAll P e l).all (· ≤ reachBytes) = true → ∀ d ∈ l, Light P e d
  | a :: l, h, d, hd => by
    simp only [DataW.weightsAll, List.all_append, Bool.and_eq_true] at h
    rcases List.mem_cons.1 hd with rfl | hd
    · exact h.1
    · exact weightsAll_mem h.2 d hd
/-- A slice that is handed in. -/
def SlQ {α : Type} (E : El α) (W : World) (by_ : Nat) (Q : α → Prop) (y : SlE α) : Prop := (SlM E y.1 y.2.1 y.2.2).p (gAll W) ∧ (∀ z ∈ y.2.2, Q z) ∧ y.2.2.length * by_ ≤ 140737488351232
theorem rd_slice {α : Type} {E : El α} {Q : α → Prop} {t e : TypeId} (u : P.underlying t = some (.slice e)) (hsz : P.cellsOf e = E.sz) (hE : Rd enc P W e E.enc Q) : Rd enc P W t (elSl α).enc (SlQ E W (P.bytesOf e) Q) := by
  intro fuel cs x h hl
  cases fuel with
  | zero => cases h
  | succ fuel =>
    unfold DataW.trod at h
    rw [u] at h
    revert h
    split <;> intro h <;> first | (rename_i hq; cases hq; done) | (rename_i hq _; cases hq; done) | (cases h; done) | skip
    · exact ⟨(none, 0, []), rfl, SlM.nil _ _ _ _, (fun z hz => by cases hz), by simp⟩
    · rename_i e2 a len cap heq
      injection heq with heq
      injection heq with heq
      subst heq
      dsimp only at h
      split at h
      · rename_i hc
        simp only [if_true, Option.bind_eq_some_iff, Option.map_eq_some_iff] at h
        obtain ⟨elems, h1, rest, h2, h3⟩ := h
        subst h3
        simp only [Light, DataW.weights, u, List.all_cons, List.all_append, Bool.and_eq_true, decide_eq_true_eq, List.length_map] at hl
        obtain ⟨hl1, hl2, _⟩ := hl
        have hlen := mapM_len _ _ h1
        simp only [List.length_range] at hlen
        obtain ⟨ys, hy1, hy2⟩ := exists_list (fun (i : Nat) (y : α) => W.cells? 0 (a.add (i * P.cellsOf e)) (P.cellsOf e) = some (E.enc y) ∧ Q y) len (fun i hi => by
          obtain ⟨d, hd1, hd2⟩ := mapM_at _ _ h1 i i (by simp [hi])
          simp only [Option.bind_eq_some_iff] at hd2
          obtain ⟨cl, hc1, hc2⟩ := hd2
          obtain ⟨y, rfl, hq⟩ := hE fuel cl d hc2 (weightsAll_mem hl2 d.1 (List.mem_map.2 ⟨d, List.mem_of_getElem? hd1, rfl⟩))
          exact ⟨y, hc1, hq⟩)
        refine ⟨(some a, cap, ys), by show _ = [Value.slice (some a) ys.length cap]; rw [hy1], ⟨by rw [hy1]; omega, by rw [hy1]; exact hc.2.1, fun hne => ?_⟩, fun z hz => ?_, ?_⟩
        · have hpos : 0 < ys.length := List.length_pos_iff.2 hne
          have hcell : ∀ (i : Nat) y, ys[i]? = some y → ∀ (j : Nat) v, (E.enc y)[j]? = some v → W.cell? ((a.add (i * E.sz)).add j) = some v := by
            intro i y hy j v hv
            have := (cells_at (hy2 i y hy).1).2 j v hv
            rwa [hsz] at this
          obtain ⟨b, o, sp⟩ := a
          have hspot : sp = none ∧ b < W.heap.size := by
            obtain ⟨y0, hy0⟩ : ∃ y, ys[0]? = some y := ⟨_, List.getElem?_eq_getElem hpos⟩
            obtain ⟨v0, hv0⟩ : ∃ v, (E.enc y0)[0]? = some v := ⟨_, List.getElem?_eq_getElem (by rw [E.len]; exact E.pos)⟩
            have := hcell 0 y0 hy0 0 v0 hv0
            unfold World.cell? at this
            rw [add_block, add_block] at this
            have hlt : b < W.heap.size := by
              rcases Nat.lt_or_ge b W.heap.size with h | h
              · exact h
              · rw [show (⟨b, o, sp⟩ : Addr).block = b from rfl, Array.getElem?_eq_none h] at this; cases this
            refine ⟨?_, hlt⟩
            cases sp with
            | none => rfl
            | some q =>
              exfalso
              revert this
              cases W.heap[(⟨b, o, some q⟩ : Addr).block]? with
              | none => intro h; cases h
              | some ob =>
                cases ob <;> intro h <;> first | (cases h; done) | skip
                have hs : (((⟨b, o, some q⟩ : Addr).add (0 * E.sz)).add 0).spot.isSome = true := by
                  rw [Nat.zero_mul]; rfl
                dsimp only at h
                rw [if_pos hs] at h
                cases h
          obtain ⟨rfl, hlt⟩ := hspot
          refine ⟨b, o, rfl, hlt, fun j v hj => ?_⟩
          have hjl := (List.getElem?_eq_some_iff.1 hj).1
          rw [flat_len] at hjl
          have hi : j / E.sz < ys.length := Nat.div_lt_of_lt_mul (by rw [Nat.mul_comm]; exact hjl)
          obtain ⟨y, hy⟩ : ∃ y, ys[j / E.sz]? = some y := ⟨_, List.getElem?_eq_getElem hi⟩
          have hm : j % E.sz < (E.enc y).length := by rw [E.len]; exact Nat.mod_lt _ E.pos
          obtain ⟨v', hv'⟩ : ∃ v, (E.enc y)[j % E.sz]? = some v := ⟨_, List.getElem?_eq_getElem hm⟩
          have hg := flat_get E ys _ _ y v' hy hv'
          rw [Nat.mul_comm, Nat.div_add_mod] at hg
          rw [hj] at hg
          cases hg
          have := hcell _ y hy _ _ hv'
          rw [addr_add, addr_add, Nat.add_assoc, Nat.mul_comm (j / E.sz), Nat.div_add_mod] at this
          exact this
        · obtain ⟨i, hi⟩ := List.mem_iff_getElem?.1 hz
          exact (hy2 i z hi).2
        · show ys.length * _ ≤ _
          rw [hy1]
          simp only [reachBytes] at hl1
          have : len * P.bytesOf e ≤ (elems.length + rest.length) * P.bytesOf e := Nat.mul_le_mul_right _ (by omega)
          omega
      · cases h
/-- One argument, read. -/
theorem rd_arg {t : TypeId} {α : Type} {e : α → List Value} {Q : α → Prop} (hr : Rd enc P W t e Q) {v : Value} {d : DataW H} {ps : List MemPlace} (h : DataW.Trod enc P W 0 (fun _ => true) true t v d ps) (hl : Light P t d) : ∃ y, v.cells.toList = e y ∧ Q y := by
  obtain ⟨fuel, h⟩ := h
  exact hr fuel _ _ h hl
/-- A value of one cell. -/
theorem one_cell {v u : Value} (h : v.cells.toList = [u]) (hv : ∀ cs, v ≠ .agg cs) : v = u := by
  cases v <;> first | (simp [Value.cells] at h; exact h) | exact absurd rfl (hv _)
end
end Go.KX
