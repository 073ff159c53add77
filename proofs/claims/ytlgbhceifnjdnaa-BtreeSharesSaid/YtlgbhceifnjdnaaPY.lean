/- PR PS. -/
import Derived.Test.YtlgbhceifnjdnaaPX
/- Plain: two keys, which are deleted, reckoned. No program in sight. -/
namespace Go.KX
def lvM : Mem := ⟨[], 100, 480⟩
def lvA : Pt := putN lvM tree0 [98] [50]
def lvB : Pt := putN lvA.m lvA.t [97] [49]
def lvL : List KV × Nat := scanN lvB.m lvB.t [] []
def lvG : Bytes × Bool × Nat := getN lvB.m lvB.t [97]
def lvC : Pt := delN lvB.m lvB.t [97]
def lvD : Pt := delN lvC.m lvC.t [98]
def lvH : Pt := putN lvD.m lvB.t [] []
structure LvOK : Prop where
  a : lvA.e = 0
  b : lvB.e = 0
  k : lvB.t.keys = 2
  l : lvL = ([⟨[97], [49]⟩, ⟨[98], [50]⟩], 0)
  g : lvG = ([49], true, 0)
  d : lvD.t = tree0
  f : 0 < lvD.gone.length
  h : lvH.e = 50
  p : lvB.m.pages.length ≤ 3900000
set_option maxRecDepth 100000 in
theorem lv_ok0 : lvA.e = 0 ∧ lvB.e = 0 ∧ lvB.t.keys = 2 ∧ lvL = ([⟨[97], [49]⟩, ⟨[98], [50]⟩], 0) ∧ lvG = ([49], true, 0) ∧ lvD.t = tree0 ∧ 0 < lvD.gone.length ∧ lvH.e = 50 ∧ lvB.m.pages.length ≤ 3900000 := by decide +kernel
theorem lv_ok : LvOK := ⟨lv_ok0.1, lv_ok0.2.1, lv_ok0.2.2.1, lv_ok0.2.2.2.1, lv_ok0.2.2.2.2.1, lv_ok0.2.2.2.2.2.1, lv_ok0.2.2.2.2.2.2.1, lv_ok0.2.2.2.2.2.2.2.1, lv_ok0.2.2.2.2.2.2.2.2⟩
theorem lvM_ok : MOL lvM := ⟨⟨by decide, fun p hp => by cases hp⟩, by decide, by decide⟩
theorem lvA_ok : MOL lvA.m := (putN_ok lvM_ok tree0 [98] [50]).1
theorem lvB_ok : MOL lvB.m := (putN_ok lvA_ok lvA.t [97] [49]).1
theorem lvC_ok : MOL lvC.m := (delN_ok lvB_ok lvB.t [97]).1
theorem lvD_ok : MOL lvD.m := (delN_ok lvC_ok lvC.t [98]).1
end Go.KX

/- Plain: the order of keys; what a leaf's cells are; what a scan tells. No program in sight. -/
namespace Go.KX
/-! ### The order of keys -/
theorem blt_irrefl : ∀ a : Bytes, blt a a = false
  | [] => rfl
  | x :: a => by
    have ih := blt_irrefl a
    unfold blt at ih ⊢
    simp [Op.bytesLess, ih]
theorem blt_trans : ∀ {a b c : Bytes}, blt a b = true → blt b c = true → blt a c = true
  | _, _, [], _, h => by unfold blt at h; simp [Op.bytesLess] at h
  | _, [], _ :: _, h, _ => by unfold blt at h; simp [Op.bytesLess] at h
  | [], _ :: _, _ :: _, _, _ => by unfold blt; simp [Op.bytesLess]
  | x :: a, y :: b, z :: c, h1, h2 => by
    have ih := @blt_trans a b c
    unfold blt at *
    simp only [Op.bytesLess, Bool.or_eq_true, decide_eq_true_eq, Bool.and_eq_true, beq_iff_eq] at *
    rcases h1 with h1 | ⟨rfl, h1⟩
    · rcases h2 with h2 | ⟨rfl, h2⟩
      · exact .inl (UInt8.lt_trans h1 h2)
      · exact .inl h1
    · rcases h2 with h2 | ⟨rfl, h2⟩
      · exact .inl h2
      · exact .inr ⟨rfl, ih h1 h2⟩
theorem blt_total : ∀ (a b : Bytes), blt a b = true ∨ a = b ∨ blt b a = true
  | [], [] => .inr (.inl rfl)
  | [], _ :: _ => .inl (by unfold blt; simp [Op.bytesLess])
  | _ :: _, [] => .inr (.inr (by unfold blt; simp [Op.bytesLess]))
  | x :: a, y :: b => by
    have ih := blt_total a b
    unfold blt at *
    simp only [Op.bytesLess, Bool.or_eq_true, decide_eq_true_eq, Bool.and_eq_true, beq_iff_eq] at *
    rcases Nat.lt_trichotomy x.toNat y.toNat with h | h | h
    · exact .inl (.inl (UInt8.lt_iff_toNat_lt.2 h))
    · have hxy : x = y := UInt8.toNat_inj.1 h
      subst hxy
      rcases ih with h | rfl | h
      · exact .inl (.inr ⟨rfl, h⟩)
      · exact .inr (.inl rfl)
      · exact .inr (.inr (.inr ⟨rfl, h⟩))
    · exact .inr (.inr (.inl (UInt8.lt_iff_toNat_lt.2 h)))
theorem blt_asymm {a b : Bytes} (h : blt a b = true) : blt b a = false := by
  cases hq : blt b a with
  | false => rfl
  | true => have := blt_trans h hq; rw [blt_irrefl] at this; cases this
theorem blt_ne {a b : Bytes} (h : blt a b = true) : a ≠ b := fun e => by subst e; rw [blt_irrefl] at h; cases h
/-! ### A leaf's cells -/
structure LeafOK (c : Cell) : Prop where
  k0 : c.key ≠ []
  k1 : c.key.length ≤ 64
  v : c.value.length ≤ 16384
  s : c.size ≤ 16384
theorem stepT_leaf {acc : List Cell} {s : Strip} (h : (stepC true acc s).2.1 = true) : LeafOK (stepC true acc s).2.2 := by
  have h1 := readT_text s 64
  unfold stepC stepT at h ⊢
  simp only [if_true] at h ⊢
  have htl : ∀ (acc : List Cell) (key : Bytes) (bad : Nat), tailOK true acc key bad = true → key ≠ [] := by
    intro acc key bad h
    simp only [tailOK, decide_eq_true_eq] at h
    rcases h.2.1 with h | h
    · exact h
    · exact absurd h.1 (by decide)
  split
  · rename_i h0
    rw [if_pos h0] at h
    dsimp only at h ⊢
    simp only [Bool.and_eq_true] at h
    have h2 := readT_text (readS (readT s 64).1 (numR true 0 (readT s 64).1.left)).1 16384
    exact ⟨htl _ _ _ h.2, h1, h2, Nat.zero_le _⟩
  · rename_i h0
    rw [if_neg h0] at h
    dsimp only at h ⊢
    simp only [Bool.and_eq_true] at h
    exact ⟨htl _ _ _ h.2, h1, Nat.zero_le _, by dsimp only; omega⟩
theorem loadL_leaf : ∀ (fu : Nat) (s : Strip) (ok : Bool) (acc : List Cell), (loadL true fu s ok acc).1 = true → (∀ c ∈ acc, LeafOK c) → ∀ c ∈ (loadL true fu s ok acc).2, LeafOK c
  | 0, _, _, _, _, h => h
  | fu + 1, s, ok, acc, ht, h => by
    unfold loadL at ht ⊢
    split
    · rename_i hc
      rw [if_pos hc] at ht
      have hok : (stepC true acc s).2.1 = true := by
        cases hq : (stepC true acc s).2.1 with
        | true => rfl
        | false => rw [hq, loadL_end (by simp)] at ht; cases ht
      refine loadL_leaf fu _ _ _ ht (fun c hc' => ?_)
      rcases List.mem_append.1 hc' with hc' | hc'
      · exact h c hc'
      · rcases List.mem_singleton.1 hc' with rfl; exact stepT_leaf hok
    · exact h
theorem loadN_leaf {m : Mem} {n : Int} : ∀ c ∈ (loadN m n true).2, LeafOK c := by
  unfold loadN
  split
  · intro c hc; cases hc
  · dsimp only
    split
    · intro c hc; cases hc
    · rename_i hn
      refine loadL_leaf _ _ _ _ ?_ (fun c hc => by cases hc)
      cases hq : (loadL true ((pageM m n (kindOf true)).2.length + 1) ⟨(pageM m n (kindOf true)).2, (pageM m n (kindOf true)).2.length, 0, 0⟩ true []).1 with
      | true => rfl
      | false => exact absurd (.inl hq) hn
theorem tellL_len {mt : Met} {m : Mem} {size : Nat} : ∀ (fu : Nat) (g : Gone) (n : Nat) (b : Bytes), (tellL mt m size fu g n b).2.1 = 0 → (tellL mt m size fu g n b).2.2.length = size
  | 0, _, _, _, h => by cases h
  | fu + 1, g, n, b, h => by
    unfold tellL at h ⊢
    by_cases h0 : n = 0
    · rw [if_pos h0] at h ⊢
      by_cases h1 : b.length ≠ size
      · rw [if_pos h1] at h; cases h
      · rw [if_neg h1]; dsimp only; omega
    · rw [if_neg h0] at h ⊢
      by_cases h1 : (tellS mt m size g n b).2.1 ≠ 0
      · rw [if_pos h1] at h; exact absurd h h1
      · rw [if_neg h1] at h ⊢
        exact tellL_len fu _ _ _ h
theorem tellN_len {mt : Met} {m : Mem} {g : Gone} {c : Cell} (hc : LeafOK c) (h : (tellN mt m g c).2.1 = 0) : (tellN mt m g c).2.2.length ≤ 16384 := by
  unfold tellN at h ⊢
  split
  · exact hc.v
  · rename_i h0
    rw [if_neg h0] at h
    rw [tellL_len _ _ _ _ h]; exact hc.s
/-! ### What a scan tells -/
/-- Rising right keys. -/
structure Rise (out : List KV) : Prop where
  up : ∀ (i : Nat) p q, out[i]? = some p → out[i + 1]? = some q → blt p.key q.key = true
  ok : ∀ p ∈ out, rightKV p.key p.value = true
theorem rise_snoc {out : List KV} (h : Rise out) {p : KV} (h1 : 0 < out.length → blt (lastK out) p.key = true) (h2 : rightKV p.key p.value = true) : Rise (out ++ [p]) := by
  refine ⟨fun i a b ha hb => ?_, fun q hq => ?_⟩
  · have hlt := (List.getElem?_eq_some_iff.1 hb).1
    simp only [List.length_append, List.length_cons, List.length_nil] at hlt
    rw [List.getElem?_append_left (by omega)] at ha
    by_cases hl : i + 1 < out.length
    · rw [List.getElem?_append_left hl] at hb
      exact h.up i a b ha hb
    · have hi : out.length = i + 1 := by omega
      rw [List.getElem?_append_right (by omega), show i + 1 - out.length = 0 by omega] at hb
      simp only [List.getElem?_cons_zero, Option.some.injEq] at hb
      subst hb
      have := h1 (by omega)
      unfold lastK at this
      rw [show out.length - 1 = i by omega, ha] at this
      exact this
  · rcases List.mem_append.1 hq with hq | hq
    · exact h.ok q hq
    · rcases List.mem_singleton.1 hq with rfl; exact h2
theorem eachL_rise {m : Mem} {rec_ : Gone → List KV → Int → Ea (List KV)} {leaf : Bool} {from_ to_ : Bytes} (hr : ∀ g t a, Rise t → (rec_ g t a).e = 0 → Rise (rec_ g t a).t) : ∀ (l : List Cell) (i : Nat) (g : Gone) (t : List KV), (leaf = true → ∀ c ∈ l, LeafOK c) → Rise t →
    (eachL (scanF m) rec_ leaf from_ to_ i l g t).e = 0 → Rise (eachL (scanF m) rec_ leaf from_ to_ i l g t).t
  | [], i, g, t, _, h, _ => by unfold eachL; exact h
  | c :: r, i, g, t, hl, h, he => by
    have hl' : leaf = true → ∀ c ∈ r, LeafOK c := fun q c hc => hl q c (.tail _ hc)
    unfold eachL at he ⊢
    split
    · exact h
    · rename_i h1
      rw [if_neg h1] at he
      cases leaf with
      | true =>
        simp only [if_true] at he ⊢
        split
        · rename_i h2
          rw [if_pos h2] at he
          exact eachL_rise hr r (i + 1) g t hl' h he
        · rename_i h2
          rw [if_neg h2] at he
          split
          · rename_i h3; rw [if_pos h3] at he; exact absurd he h3
          · rename_i h3
            rw [if_neg h3] at he
            refine eachL_rise hr r (i + 1) _ _ hl' ?_ he
            have hc := hl rfl c (.head _)
            have hz : (scanF m g t c).e = 0 := by omega
            unfold scanF at hz ⊢
            dsimp only at hz ⊢
            have h4 : ¬ ((tellN metF m g c).2.1 = 0 ∧ 0 < t.length ∧ blt (lastK t) c.key = false) := fun q => by rw [if_pos q] at hz; cases hz
            rw [if_neg h4] at hz
            refine rise_snoc h (fun hp => ?_) ?_
            · cases hq : blt (lastK t) c.key with
              | true => rfl
              | false => exact absurd ⟨hz, hp, hq⟩ h4
            · have := tellN_len hc hz
              have := hc.k1
              have : 1 ≤ c.key.length := by
                cases hk : c.key with
                | nil => exact absurd hk hc.k0
                | cons _ _ => simp
              unfold rightKV
              exact decide_eq_true ⟨this, by assumption, by assumption⟩
      | false =>
        simp only [Bool.false_eq_true, if_false] at he ⊢
        split
        · rename_i h2
          rw [if_pos h2] at he
          exact eachL_rise hr r (i + 1) g t hl' h he
        · rename_i h2
          rw [if_neg h2] at he
          split
          · rename_i h3; rw [if_pos h3] at he; exact absurd he h3
          · rename_i h3
            rw [if_neg h3] at he
            exact eachL_rise hr r (i + 1) _ _ hl' (hr g t _ h (by omega)) he
theorem eachN_rise {m : Mem} {from_ to_ : Bytes} : ∀ (d : Nat) (g : Gone) (t : List KV) (at_ : Int), Rise t → (eachN (scanF m) m from_ to_ d g t at_).e = 0 → Rise (eachN (scanF m) m from_ to_ d g t at_).t
  | 0, g, t, at_, h, he => by
    unfold eachN at he ⊢
    split
    · exact h
    · rename_i h1
      rw [if_neg h1] at he
      split
      · exact h
      · rename_i h2
        rw [if_neg h2] at he
        exact eachL_rise (fun g t a h _ => h) _ 0 _ _ (fun _ => loadN_leaf) h he
  | d + 1, g, t, at_, h, he => by
    unfold eachN at he ⊢
    split
    · exact h
    · rename_i h1
      rw [if_neg h1] at he
      split
      · exact h
      · rename_i h2
        rw [if_neg h2] at he
        exact eachL_rise (fun g t a h he => eachN_rise d g t a h he) _ 0 _ _ (fun q => by cases q) h he
theorem rise_nil : Rise [] := ⟨fun i p q h => by simp at h, fun p hp => by cases hp⟩
theorem scanN_rise (m : Mem) (t : Tree) (from_ to_ : Bytes) : ((scanN m t from_ to_).2 ≠ 0 → (scanN m t from_ to_).1 = []) ∧ Rise (scanN m t from_ to_).1 := by
  unfold scanN
  split
  · exact ⟨fun _ => rfl, rise_nil⟩
  · split
    · exact ⟨fun _ => rfl, rise_nil⟩
    · split
      · exact ⟨fun _ => rfl, rise_nil⟩
      · dsimp only
        split
        · exact ⟨fun _ => rfl, rise_nil⟩
        · rename_i h
          exact ⟨fun q => absurd rfl q, eachN_rise _ _ _ _ rise_nil (by omega)⟩
/-! ### No more pages than there may be -/
def LE (m : Mem) : Prop := (m.pages.length : Int) ≤ m.most
theorem layM_LE {m : Mem} (h : LE m) (p : Bytes) : LE (layM m p).1 := by
  unfold LE at *
  unfold layM
  split
  · exact h
  · split
    · exact h
    · simp; omega
theorem longL_LE {room : Int} {value : Bytes} : ∀ (fu : Nat) (m : Mem) (first : Nat) (at_ : Int), LE m → LE (longL room value fu m first at_).1
  | 0, _, _, _, h => h
  | fu + 1, m, first, at_, h => by
    unfold longL
    split
    · exact h
    · dsimp only
      split
      · exact layM_LE h _
      · exact longL_LE fu _ _ _ (layM_LE h _)
theorem rootL_LE : ∀ (fu : Nat) (m : Mem) (l : List Cell) (depth : Nat) (leaf : Bool), LE m → LE (rootL fu m l depth leaf).1
  | 0, _, _, _, _, h => h
  | fu + 1, m, l, depth, leaf, h => by
    unfold rootL
    split
    · exact h
    · dsimp only
      split
      · exact layN_most h
      · exact rootL_LE fu _ _ _ _ (layN_most h)
theorem changeN_LE {E : Edit} {key : Bytes} : ∀ (d : Nat) (m : Mem) (g : Gone) (at_ : Int), LE m → LE (changeN E key d m g at_).m
  | 0, m, g, at_, h => by
    unfold changeN
    split
    · exact h
    · split <;> exact h
  | d + 1, m, g, at_, h => by
    unfold changeN
    split
    · exact h
    · split
      · exact h
      · have ih := changeN_LE (E := E) (key := key) d m (mset g at_ ()) (pageAt (loadN m at_ false).2 (childI (loadN m at_ false).2 key)) h
        revert ih
        generalize changeN E key d m (mset g at_ ()) _ = r
        intro ih
        unfold upN
        split
        · exact ih
        · dsimp only
          split
          · exact ih
          · split
            · exact layN_most ih
            · exact layN_most ih
theorem turnN_LE {E : Edit} {m : Mem} {t : Tree} {key : Bytes} (h : LE m) : LE (turnN E m t key).m := by
  unfold turnN
  split
  · exact h
  · split
    · exact h
    · split
      · exact h
      · have hc : LE (chgT E m t key).m := by
          unfold chgT
          split
          · exact h
          · exact changeN_LE _ _ _ _ h
        revert hc
        generalize chgT E m t key = r
        intro hc
        unfold rootT
        split
        · exact hc
        · split
          · exact hc
          · have hq : LE (rootN r.m r.l (depthT t)).1 := by
              unfold rootN
              split
              · exact hc
              · exact rootL_LE _ _ _ _ _ hc
            dsimp only
            split
            · exact hq
            · split <;> exact hq
theorem putN_LE {m : Mem} {t : Tree} {key value : Bytes} (h : LE m) : LE (putN m t key value).m := by
  unfold putN
  split
  · exact h
  · split
    · exact h
    · split
      · exact h
      · have hc : LE (cellN m key value).1 := by
          unfold cellN
          split
          · exact longL_LE _ _ _ _ h
          · exact h
        dsimp only
        split
        · exact hc
        · exact turnN_LE hc
theorem delN_LE {m : Mem} {t : Tree} {key : Bytes} (h : LE m) : LE (delN m t key).m := by
  have := turnN_LE (E := delE key) (t := t) (key := key) h
  unfold delN
  dsimp only
  split
  · exact this
  · split <;> exact this
end Go.KX
