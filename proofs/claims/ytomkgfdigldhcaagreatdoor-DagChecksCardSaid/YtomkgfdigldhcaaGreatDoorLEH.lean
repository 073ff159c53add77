/- YR YS YT YV YU XT VA VB VC VD. -/
import Derived.Test.YtomkgfdigldhcaaGreatDoorLEG
import Derived.Test.YtomkgfdigldhcaaGreatDoorProg
import Derived.KernelRfl
import Derived.RangeFuncRecord
namespace Go.KX
abbrev psD (s : Bytes) (p : Pd) : MB := .c 101 [.str s, nI p.i, nI p.e, nI p.at_]
theorem u8_all {P : UInt8 → Prop} (h : ∀ n < 256, P (UInt8.ofNat n)) (c : UInt8) : P c := by
  have := h c.toNat (UInt8.toNat_lt c)
  rwa [UInt8.ofNat_toNat] at this
theorem letter_eq (c : UInt8) : (decide ((97 : Int) ≤ (c.toNat : Int)) && decide ((c.toNat : Int) ≤ 122) || decide ((65 : Int) ≤ (c.toNat : Int)) && decide ((c.toNat : Int) ≤ 90) || decide ((c.toNat : Int) = 95)) = decide (c ∈ gLet) :=
  u8_all (P := fun c => (decide ((97 : Int) ≤ (c.toNat : Int)) && decide ((c.toNat : Int) ≤ 122) || decide ((65 : Int) ≤ (c.toNat : Int)) && decide ((c.toNat : Int) ≤ 90) || decide ((c.toNat : Int) = 95)) = decide (c ∈ gLet)) (by decide +kernel) c
theorem digit_eq (c : UInt8) : (decide ((48 : Int) ≤ (c.toNat : Int)) && decide ((c.toNat : Int) ≤ 57)) = decide (c ∈ gDig) :=
  u8_all (P := fun c => (decide ((48 : Int) ≤ (c.toNat : Int)) && decide ((c.toNat : Int) ≤ 57)) = decide (c ∈ gDig)) (by decide +kernel) c
theorem gLD_eq (c : UInt8) : (decide (c ∈ gLet) || decide (c ∈ gDig)) = decide (c ∈ gLD) :=
  u8_all (P := fun c => (decide (c ∈ gLet) || decide (c ∈ gDig)) = decide (c ∈ gLD)) (by decide +kernel) c
theorem great_eq (c : UInt8) : (decide ((c.toNat : Int) < 65) || decide ((90 : Int) < (c.toNat : Int))) = !decide (c ∈ gGreat) :=
  u8_all (P := fun c => (decide ((c.toNat : Int) < 65) || decide ((90 : Int) < (c.toNat : Int))) = !decide (c ∈ gGreat)) (by decide +kernel) c
theorem runB_at {g s : Bytes} {k : Nat} (hk : k ≤ s.length) (h : ∀ x ∈ s.take k, x ∈ g) (hx : ∀ hh : k < s.length, s[k] ∉ g) : runB g s = k := by
  rw [runB_add hk h]
  rcases Nat.lt_or_ge k s.length with hh | hh
  · rw [List.drop_eq_getElem_cons hh]
    have : runB g (s[k] :: s.drop (k + 1)) = 0 := by unfold runB; rw [if_neg (hx hh)]
    omega
  · rw [List.drop_eq_nil_of_le hh]; rfl
theorem drop_getD {s : Bytes} {i k : Nat} (h : i + k < s.length) : (s.drop i)[k]'(by simp; omega) = s.getD (i + k) 0 := by
  rw [List.getElem_drop, List.getD_eq_getElem?_getD, List.getElem?_eq_getElem h]; rfl
variable {s : Bytes}
theorem dfail_i (p : Pd) (e a : Int) : (p.fail e a).i = p.i := by unfold Pd.fail; split <;> rfl
theorem blank_fit {p : Pd} (h : p.i ≤ s.length) : p.i ≤ (p.blanks s).i ∧ (p.blanks s).i ≤ s.length := by
  have := runB_le [32] (s.drop p.i)
  unfold Pd.blanks
  simp at this ⊢
  omega
theorem signD_ok {p : Pd} {x : Bytes} (h : signD s p = some x) : 1 ≤ x.length ∧ x.length ≤ 2 ∧ (p.blanks s).i + x.length ≤ s.length ∧ p.e = 0 := by
  unfold signD at h
  split at h
  · rename_i he
    have h1 := List.mem_of_find?_eq_some h
    have h2 := List.find?_some h
    have h3 : ∀ x ∈ signsT, 1 ≤ x.length ∧ x.length ≤ 2 := by decide
    have h4 := prefix_len h2
    rw [List.length_drop] at h4
    have := h3 x h1
    exact ⟨this.1, this.2, by omega, he⟩
  · cases h
theorem takeTD_ok {l : List Bytes} {p : Pd} {x : Bytes} (h : takeTD s l p = some x) : signD s p = some x ∧ x ∈ l := by
  unfold takeTD at h
  split at h
  · rename_i y hy
    split at h
    · rename_i hm; cases h; exact ⟨hy, hm⟩
    · cases h
  · cases h
theorem takeD_fit {l : List Bytes} {p : Pd} (h : p.i ≤ s.length) : p.i ≤ (takePD s l p).i ∧ (takePD s l p).i ≤ s.length := by
  have h1 := blank_fit h
  unfold takePD
  cases ht : takeTD s l p with
  | none => exact h1
  | some x =>
    have h4 := signD_ok (takeTD_ok ht).1
    exact ⟨by simp; omega, by simp; omega⟩
theorem takeD_more {l : List Bytes} {p : Pd} {x : Bytes} (hi : p.i ≤ s.length) (ht : takeTD s l p = some x) : p.i + 1 ≤ (takePD s l p).i := by
  have h1 := blank_fit hi
  have h4 := signD_ok (takeTD_ok ht).1
  unfold takePD
  rw [ht]
  simp only
  omega
theorem mustD_fit {x : Bytes} {p : Pd} (h : p.i ≤ s.length) : p.i ≤ (mustD s x p).i ∧ (mustD s x p).i ≤ s.length := by
  have := takeD_fit (l := [x]) h
  unfold mustD
  split
  · exact this
  · rw [dfail_i]; exact this
theorem enterD_fit {d : Nat} {p : Pd} (h : p.i ≤ s.length) : p.i ≤ (enterD s d p).i ∧ (enterD s d p).i ≤ s.length := by
  have h1 := blank_fit h
  unfold enterD
  split
  · rw [dfail_i]; exact h1
  · exact h1
def FitD (s : Bytes) (f : Pd → Ex × Pd) : Prop := ∀ p, p.i ≤ s.length → p.i ≤ (f p).2.i ∧ (f p).2.i ≤ s.length
theorem loopD_fit {f : Pd → Ex × Pd} (hf : FitD s f) {ops : List Bytes} {alone : Bool} : ∀ (n : Nat) (x : Ex) (p : Pd), p.i ≤ s.length → p.i ≤ (loopG (tkD s) f ops alone n x p).2.i ∧ (loopG (tkD s) f ops alone n x p).2.i ≤ s.length
  | 0, x, p, h => ⟨Nat.le_refl _, h⟩
  | n + 1, x, p, h => by
    have h1 := takeD_fit (l := ops) h
    unfold loopG
    simp only
    split
    · exact h1
    · have h2 := hf _ h1.2
      split
      · exact ⟨Nat.le_trans h1.1 h2.1, h2.2⟩
      · exact ⟨Nat.le_trans h1.1 (Nat.le_trans h2.1 (loopD_fit hf n _ _ h2.2).1), (loopD_fit hf n _ _ h2.2).2⟩
theorem levD_fit {f : Pd → Ex × Pd} (hf : FitD s f) : ∀ n, FitD s (levD s f n)
  | 0 => hf
  | n + 1 => fun p h => by
    have h1 := levD_fit hf n p h
    have h2 := loopD_fit (levD_fit hf n) (ops := levelsT.getD (4 - n) []) (alone := n == 2) (s.length + 1) (levD s f n p).1 _ h1.2
    exact ⟨Nat.le_trans h1.1 h2.1, h2.2⟩
theorem exprD_fit {f : Pd → Ex × Pd} (hf : FitD s f) (d : Nat) : FitD s (exprD s f d) := fun p h => by
  have h1 := enterD_fit (d := d) h
  have h2 := levD_fit hf 5 _ h1.2
  exact ⟨Nat.le_trans h1.1 h2.1, h2.2⟩
section
variable {f : Pd → Ex × Pd} {ops : List Bytes} {alone : Bool} {n : Nat} {x : Ex} {p : Pd}
theorem loopD_none (h : takeTD s ops p = none) : loopG (tkD s) f ops alone (n + 1) x p = (x, takePD s ops p) := by
  conv => lhs; unfold loopG
  simp only [h]
theorem loopD_alone {o : Bytes} (h : takeTD s ops p = some o) : loopG (tkD s) f ops true (n + 1) x p = (exC o [x, (f (takePD s ops p)).1], (f (takePD s ops p)).2) := by
  conv => lhs; unfold loopG
  simp only [h]
theorem loopD_more {o : Bytes} (h : takeTD s ops p = some o) : loopG (tkD s) f ops false (n + 1) x p = loopG (tkD s) f ops false n (exC o [x, (f (takePD s ops p)).1]) (f (takePD s ops p)).2 := by
  conv => lhs; unfold loopG
  simp only [h]
end
/-- A sign stands there: as the document's code asks it. -/
theorem pre_eq {i : Nat} {x : Bytes} (hi : i ≤ s.length) : (decide (((i : Int) + (x.length : Int)) ≤ (s.length : Int)) && decide ((s.drop (i : Int).toNat).take (((i : Int) + (x.length : Int)).toNat - (i : Int).toNat) = x)) = Lib.hasPrefix (s.drop i) x := by
  have e1 : ((i : Int)).toNat = i := Int.toNat_natCast i
  have e2 : ((i : Int) + (x.length : Int)).toNat - i = x.length := by omega
  rw [e1, e2]
  unfold Lib.hasPrefix
  rw [Bool.eq_iff_iff, List.isPrefixOf_iff_prefix]
  simp only [Bool.and_eq_true, decide_eq_true_eq]
  constructor
  · rintro ⟨_, h⟩
    rw [← h]; exact List.take_prefix _ _
  · intro h
    have hl := h.length_le
    rw [List.length_drop] at hl
    have h2 := List.prefix_iff_eq_take.1 h
    by_cases hx : x = []
    · subst hx
      exact ⟨by simp; omega, by simp⟩
    · have : 0 < x.length := List.length_pos_iff.2 hx
      exact ⟨by omega, h2.symm⟩
/-- What take hands back. -/
theorem takeT_str {l : List Bytes} {p : Pd} : ((takeTD s l p).getD [] = []) ↔ takeTD s l p = none := by
  cases h : takeTD s l p with
  | none => simp
  | some x =>
    have := signD_ok (takeTD_ok h).1
    simp only [Option.getD_some]
    constructor
    · rintro rfl; simp at this
    · intro h; cases h
theorem one_le {x : Bytes} : [x].length ≤ 1000000 := by simp
theorem two_le {x y : Bytes} : [x, y].length ≤ 1000000 := by simp
theorem six_le {a b c d e f : Bytes} : [a, b, c, d, e, f].length ≤ 1000000 := by simp
abbrev refC (w : Bytes) : Bool := decide ((w.length : Int) < 1) || decide ((16 : Int) < (w.length : Int)) || decide (((w.getD 0 0).toNat : Int) < 65) || decide ((90 : Int) < ((w.getD 0 0).toNat : Int))
theorem ref_ix {w : Bytes} (h : (!(decide ((w.length : Int) < 1) || decide ((16 : Int) < (w.length : Int)))) = true) : 0 ≤ (0 : Int) ∧ (0 : Int) < (w.length : Int) := by
  simp only [Bool.not_eq_true', Bool.or_eq_false_iff, decide_eq_false_iff_not] at h
  omega
theorem ref_ix2 {w : Bytes} {b : Bool} (h : (!(decide ((w.length : Int) < 1) || decide ((16 : Int) < (w.length : Int)) || b)) = true) : 0 ≤ (0 : Int) ∧ (0 : Int) < (w.length : Int) := by
  simp only [Bool.not_eq_true', Bool.or_eq_false_iff, decide_eq_false_iff_not] at h
  omega
theorem ref_no {w : Bytes} (h : refC w = true) : refB w = false := by
  cases w with
  | nil => rfl
  | cons c r =>
    have hg := great_eq c
    simp only [refC, List.getD_cons_zero, Bool.or_assoc] at h
    rw [hg] at h
    simp only [Bool.or_eq_true, decide_eq_true_eq, Bool.not_eq_true', decide_eq_false_iff_not] at h
    unfold refB
    rcases h with h | h | h
    · simp at h; omega
    · rw [decide_eq_false (by omega)]; rfl
    · simp [h]
theorem ref_yes {w : Bytes} (h : refC w = false) : ∃ c r, w = c :: r ∧ c ∈ gGreat ∧ w.length ≤ 16 := by
  cases w with
  | nil => simp [refC] at h
  | cons c r =>
    have hg := great_eq c
    simp only [refC, List.getD_cons_zero, Bool.or_assoc] at h
    rw [hg] at h
    simp only [Bool.or_eq_false_iff, decide_eq_false_iff_not, Bool.not_eq_false', decide_eq_true_eq] at h
    exact ⟨c, r, rfl, h.2.2, by omega⟩
theorem ref_bad {w : Bytes} {c : UInt8} {r : Bytes} (hw : w = c :: r) {j : Nat} (hj : j < w.length) (h : ∀ x ∈ w.take j, x ∈ gLD) (hx : w[j] ∉ gLD) : refB w = false := by
  have := runB_at (g := gLD) (Nat.le_of_lt hj) h (fun _ => hx)
  subst hw
  unfold refB
  rw [this, decide_eq_false (by omega : ¬ j = (c :: r).length)]
  simp
theorem ref_good {w : Bytes} {c : UInt8} {r : Bytes} (hw : w = c :: r) (hg : c ∈ gGreat) (hl : w.length ≤ 16) (h : ∀ x ∈ w, x ∈ gLD) : refB w = true := by
  have := runB_at (g := gLD) (s := w) (k := w.length) (Nat.le_refl _) (fun x hx => h x (List.mem_of_mem_take hx)) (fun hh => absurd hh (Nat.lt_irrefl _))
  subst hw
  unfold refB
  rw [this]
  simp only [List.length_cons] at hl ⊢
  simp [hg, hl]
end Go.KX
namespace Go.KX
section
variable {pv : Bytes → Val × Int} {s : Bytes} {ex : Pd → Ex × Pd} {p : Pd}
theorem blank_twice : (p.blanks s).blanks s = p.blanks s := by
  unfold Pd.blanks
  have := runB_drop [32] (s.drop p.i)
  rw [List.drop_drop] at this
  simp only
  rw [this, Nat.add_zero]
theorem take_blank {l : List Bytes} (h : takeTD s l (p.blanks s) = none) : takePD s l (p.blanks s) = p.blanks s := by unfold takePD; rw [h, blank_twice]
theorem primD_dead (h : p.e ≠ 0) : primD pv s ex p = (ex0, p.blanks s) := by unfold primD; simp only; rw [if_neg h]
theorem primD_par {o : Bytes} (h : p.e = 0) (ht : takeTD s [oPL] (p.blanks s) = some o) : primD pv s ex p = parD s ex (takePD s [oPL] (p.blanks s)) := by unfold primD; simp only; rw [if_pos h, ht]
theorem primD_nil (h : p.e = 0) (ht : takeTD s [oPL] (p.blanks s) = none) (hn : s.drop (p.blanks s).i = []) : primD pv s ex p = (ex0, (p.blanks s).fail 110 (p.blanks s).i) := by
  unfold primD; simp only; rw [if_pos h, ht, hn, take_blank ht]
theorem primD_cons {c : UInt8} {r : Bytes} (h : p.e = 0) (ht : takeTD s [oPL] (p.blanks s) = none) (hn : s.drop (p.blanks s).i = c :: r) : primD pv s ex p = if c ∈ gDig then numberD pv (c :: r) (p.blanks s) else if c = 36 then refD (c :: r) (p.blanks s) else if c ∈ gLet then wordD s ex (c :: r) (p.blanks s) else (ex0, (p.blanks s).fail 110 (p.blanks s).i) := by
  unfold primD; simp only; rw [if_pos h, ht, hn]
theorem dropD_cons {i : Nat} (h : i < s.length) : s.drop i = s.getD i 0 :: s.drop (i + 1) := by
  rw [List.drop_eq_getElem_cons h, List.getD_eq_getElem?_getD, List.getElem?_eq_getElem h]; rfl
theorem numLen_long {i a k : Nat} (ha : runB gDig (s.drop i) = a) (h1 : i + a + 1 < s.length) (h2 : s.getD (i + a) 0 = 46) (h3 : s.getD (i + a + 1) 0 ∈ gDig) (hk : runB gDig (s.drop (i + a + 1)) = k) : numLen (s.drop i) = a + 1 + k := by
  unfold numLen
  have e1 : (s.drop i).drop (a + 1) = s.drop (i + a + 1) := by rw [List.drop_drop, Nat.add_assoc]
  have e2 : (s.drop i).getD a 0 = s.getD (i + a) 0 := by simp [List.getD_eq_getElem?_getD, List.getElem?_drop]
  have h0 : 0 < runB gDig (s.drop (i + a + 1)) := by
    rw [dropD_cons h1]
    unfold runB
    rw [if_pos h3]; omega
  rw [ha, e1, e2, if_pos ⟨by rw [List.length_drop]; omega, h2, h0⟩, hk]
theorem numLen_short {i a : Nat} (ha : runB gDig (s.drop i) = a) (h : ¬ (i + a + 1 < s.length ∧ s.getD (i + a) 0 = 46 ∧ s.getD (i + a + 1) 0 ∈ gDig)) : numLen (s.drop i) = a := by
  unfold numLen
  have e1 : (s.drop i).drop (a + 1) = s.drop (i + a + 1) := by rw [List.drop_drop, Nat.add_assoc]
  have e2 : (s.drop i).getD a 0 = s.getD (i + a) 0 := by simp [List.getD_eq_getElem?_getD, List.getElem?_drop]
  rw [ha, e1, e2, if_neg]
  rintro ⟨h1, h2, h3⟩
  rw [List.length_drop] at h1
  have h1' : i + a + 1 < s.length := by omega
  refine h ⟨h1', h2, ?_⟩
  rw [dropD_cons h1'] at h3
  unfold runB at h3
  split at h3
  · assumption
  · omega
end
end Go.KX
namespace Go.KX
section
variable {s : Bytes}
theorem not4_doc (h : ∀ v ∈ c4, ¬ printV v = s) : not4 s := not4_of (fun v hv => decide_eq_false (fun e => h v hv e.symm))
theorem doc_open (h4 : not4 s) : parseV s = (if 20 < s.length then (zeroV, 80) else
  match docL true 0 (-1) s with
  | none => (zeroV, 80)
  | some (n, left) =>
    let p := docT 3 n (if left < 0 then 3 else left)
    let v := numV (if s.head? = some 45 then -p.1 else p.1)
    if 0 < p.2 ∨ v.k ≠ 1 ∨ printV v ≠ s then (zeroV, 80) else (v, 0) : Val × Int) := by
  rw [← docV_eq]
  unfold docV
  rw [if_neg h4.1, if_neg h4.2.1, if_neg h4.2.2.1, if_neg h4.2.2.2]
  rfl
theorem doc_long (h4 : not4 s) (h : 20 < s.length) : parseV s = (zeroV, 80) := by rw [doc_open h4, if_pos h]
theorem doc_bad (h4 : not4 s) (h : ¬ 20 < s.length) (hd : docL true 0 (-1) s = none) : parseV s = (zeroV, 80) := by rw [doc_open h4, if_neg h, hd]
theorem doc_end (h4 : not4 s) (h : ¬ 20 < s.length) {n left m l2 x : Int} (hd : docL true 0 (-1) s = some (n, left)) (ht : docT 3 n (if left < 0 then 3 else left) = (m, l2)) (hx : (if s.head? = some 45 then -m else m) = x) :
    parseV s = if 0 < l2 ∨ (numV x).k ≠ 1 ∨ printV (numV x) ≠ s then (zeroV, 80) else (numV x, 0) := by
  rw [doc_open h4, if_neg h, hd]
  simp only [ht, hx]
variable {k : Nat} {n left : Int}
theorem docL_end (hk : s.length ≤ k) {b : Bool} : docL b n left (s.drop k) = some (n, left) := by
  rw [List.drop_eq_nil_of_le hk]
  unfold docL; rfl
theorem docL_at (hk : k < s.length) : docL (decide (k = 0)) n left (s.drop k) = if s.getD k 0 = 45 ∧ k = 0 then docL (decide (k + 1 = 0)) n left (s.drop (k + 1)) else if s.getD k 0 = 46 ∧ left < 0 then docL (decide (k + 1 = 0)) n 3 (s.drop (k + 1)) else
    if 48 ≤ (s.getD k 0).toNat ∧ (s.getD k 0).toNat ≤ 57 ∧ left ≠ 0 ∧ n ≤ 1000000000000000 then docL (decide (k + 1 = 0)) (10 * n + (((s.getD k 0).toNat : Int) - 48)) (if 0 < left then left - 1 else left) (s.drop (k + 1)) else none := by
  rw [dropD_cons hk, docL_cons]
  simp
theorem head_getD : (s.head? = some 45) ↔ (s ≠ [] ∧ s.getD 0 0 = 45) := by
  cases s with
  | nil => simp
  | cons c r => simp
theorem docT_go {m : Nat} {n left : Int} (h : 0 < left) (hn : n ≤ 1000000000000000) : docT (m + 1) n left = docT m (10 * n) (left - 1) := by
  conv => lhs; unfold docT
  rw [if_pos ⟨h, hn⟩]
theorem docT_no {m : Nat} {n left : Int} (h : ¬ (0 < left ∧ n ≤ 1000000000000000)) : docT m n left = (n, left) := by
  cases m with
  | zero => rfl
  | succ m => unfold docT; rw [if_neg h]
end
end Go.KX
namespace Go.KX
section
variable {pv : Bytes → Val × Int} {s : Bytes}
theorem parD_fit {f : Pd → Ex × Pd} (hf : FitD s f) : FitD s (parD s f) := fun p h => by
  have h1 := hf p h
  have h2 := mustD_fit (x := oPR) h1.2
  exact ⟨Nat.le_trans h1.1 h2.1, h2.2⟩
theorem wordD_fit {f : Pd → Ex × Pd} (hf : FitD s f) {r : Bytes} {p : Pd} (h : p.i + r.length ≤ s.length) : p.i ≤ (wordD s f r p).2.i ∧ (wordD s f r p).2.i ≤ s.length := by
  have hl : (r.take (runB gLD r)).length ≤ r.length := by simp; omega
  have h1 : ({ p with i := p.i + (r.take (runB gLD r)).length } : Pd).i ≤ s.length := by show p.i + _ ≤ _; omega
  unfold wordD
  simp only
  split
  · exact ⟨by simp, h1⟩
  split
  · exact ⟨by simp, h1⟩
  split
  · exact ⟨by simp, h1⟩
  split
  · have h2 := mustD_fit (x := oPL) h1
    have h3 := parD_fit hf _ h2.2
    exact ⟨Nat.le_trans (by simp) (Nat.le_trans h2.1 h3.1), h3.2⟩
  · simp only; rw [dfail_i]; exact ⟨by simp, h1⟩
theorem primD_fit {f : Pd → Ex × Pd} (hf : FitD s f) : FitD s (primD pv s f) := fun p h => by
  have h1 := blank_fit h
  unfold primD
  simp only
  split
  · split
    · have h2 := takeD_fit (l := [oPL]) h1.2
      have h3 := parD_fit hf _ h2.2
      exact ⟨by omega, h3.2⟩
    · split
      · simp only; rw [dfail_i]
        have h2 := takeD_fit (l := [oPL]) h1.2
        exact ⟨by omega, h2.2⟩
      · rename_i c r hr
        have h3 : (c :: r).length = s.length - (p.blanks s).i := by rw [← hr, List.length_drop]
        have hlt : (p.blanks s).i + (c :: r).length ≤ s.length := by omega
        split
        · unfold numberD
          have hb := numLen_le (c :: r)
          exact ⟨by simp only; omega, by simp only; omega⟩
        split
        · unfold refD
          have hb := runB_le gLD r
          simp only [List.length_cons] at hlt
          simp only [List.drop_succ_cons, List.drop_zero, List.length_take]
          exact ⟨by omega, by omega⟩
        split
        · have := wordD_fit hf (r := c :: r) (p := p.blanks s) hlt
          exact ⟨by omega, this.2⟩
        · simp only; rw [dfail_i]; exact h1
  · exact h1
theorem unD_some {p : Pd} {d : Nat} {o : Bytes} (h : takeTD s [oSub, oNot] (enterD s (32 - d) p) = some o) : unD pv s (d + 1) p = (exC o [(unD pv s d (takePD s [oSub, oNot] (enterD s (32 - d) p))).1], (unD pv s d (takePD s [oSub, oNot] (enterD s (32 - d) p))).2) := by
  conv => lhs; unfold unD
  rw [h]
theorem unD_none {p : Pd} {d : Nat} (h : takeTD s [oSub, oNot] (enterD s (32 - d) p) = none) : unD pv s (d + 1) p = primD pv s (exprD s (unD pv s d) (33 - d)) (takePD s [oSub, oNot] (enterD s (32 - d) p)) := by
  conv => lhs; unfold unD
  rw [h]
theorem unD_fit : ∀ d, FitD s (unD pv s d)
  | 0 => fun p h => by
    have h1 := enterD_fit (s := s) (d := 33) h
    have h2 := takeD_fit (l := [oSub, oNot]) h1.2
    have h3 := primD_fit (pv := pv) (s := s) (f := fun q => (ex0, q)) (fun q hq => ⟨Nat.le_refl _, hq⟩) _ h2.2
    exact ⟨Nat.le_trans h1.1 (Nat.le_trans h2.1 h3.1), h3.2⟩
  | d + 1 => fun p h => by
    have h1 := enterD_fit (s := s) (d := 32 - d) h
    have h2 := takeD_fit (l := [oSub, oNot]) h1.2
    cases ht : takeTD s [oSub, oNot] (enterD s (32 - d) p) with
    | some o =>
      rw [unD_some ht]
      have h3 := unD_fit d _ h2.2
      exact ⟨Nat.le_trans h1.1 (Nat.le_trans h2.1 h3.1), h3.2⟩
    | none =>
      rw [unD_none ht]
      have h3 := primD_fit (pv := pv) (exprD_fit (unD_fit d) (33 - d)) _ h2.2
      exact ⟨Nat.le_trans h1.1 (Nat.le_trans h2.1 h3.1), h3.2⟩
theorem enterD33 {p : Pd} : (enterD s 33 p).e ≠ 0 := by
  unfold enterD Pd.fail
  rw [if_pos (by decide)]
  split
  · show (111 : Int) ≠ 0; decide
  · assumption
theorem takeTD_dead {p : Pd} {l : List Bytes} (h : p.e ≠ 0) : takeTD s l p = none := by
  unfold takeTD signD
  rw [if_neg h]
theorem takePD_e {p : Pd} {l : List Bytes} : (takePD s l p).e = p.e := by
  unfold takePD
  split <;> rfl
/-- What the whole text comes to, told in one. -/
theorem parseD_open (h : ¬ 1024 < s.length) {A : Ex × Pd} (hA : A = exprD s (unD pv s 33) 0 ⟨0, 0, 0⟩) {q2 : Pd} (hq : q2 = (if (A.2.blanks s).i < s.length then (A.2.blanks s).fail 110 (A.2.blanks s).i else A.2.blanks s)) :
    parseD pv s = (if q2.e = 0 then (A.1, 0, 0) else (ex0, q2.e, q2.at_)) := by
  unfold parseD
  rw [if_neg h]
  simp only [← hA, ← hq]
end
section
variable {n : Nd}
theorem isKD1 (h : n.kind = 1) : (decide ((1 : Int) ≤ n.source.length) && decide ((n.source.length : Int) ≤ 64) && decide (n.input = []) && decide (n.how = []) && !n.strict && isZ n.low && isZ n.high && decide (n.text = [])) = isKD n := by
  have q1 : decide ((1 : Int) ≤ n.source.length) = decide (1 ≤ n.source.length) := decide_eq_decide.2 (by omega)
  have q2 : decide ((n.source.length : Int) ≤ 64) = decide (n.source.length ≤ 64) := decide_eq_decide.2 (by omega)
  unfold isKD
  rw [if_pos h, q1, q2]
theorem isKD2 (h : n.kind = 2) : (decide ((red0 n.how).2 = 0) && decide (n.source = []) && isZ n.low && isZ n.high && decide (n.text = [])) = isKD n := by
  have q : decide ((red0 n.how).2 = 0) = decide (n.how ∈ hows) := by unfold red0; split <;> simp_all
  unfold isKD
  rw [if_neg (by omega), if_pos h, q]
theorem isKD3 (h : n.kind = 3) : (decide ((parseX parseV n.text).2.1 = 0) && decide (n.source = []) && decide (n.input = []) && decide (n.how = []) && !n.strict && isZ n.low && isZ n.high) = isKD n := by
  unfold isKD
  rw [if_neg (by omega), if_neg (by omega), if_pos h]
theorem isKD4 (h : n.kind = 4) : (boundV n.low && ((decide (n.how = hGt) || decide (n.how = hLt)) && isZ n.high || (decide (n.how = hIn) || decide (n.how = hOut)) && boundV n.high) && decide (n.source = []) && !n.strict && decide (n.text = [])) = isKD n := by
  unfold isKD
  rw [if_neg (by omega), if_neg (by omega), if_neg (by omega), if_pos h]
theorem isKD0 (h1 : ¬ n.kind = 1) (h2 : ¬ n.kind = 2) (h3 : ¬ n.kind = 3) (h4 : ¬ n.kind = 4) : false = isKD n := by
  unfold isKD
  rw [if_neg h1, if_neg h2, if_neg h3, if_neg h4]
end
end Go.KX
namespace Go.KX
theorem add_grow {l : List Bytes} {s : Bytes} (h : s ∉ l) : ∀ {l : List Bytes}, s ∉ l → l.length < (addB l s).length
  | [], _ => by simp [addB]
  | y :: r, h => by
    simp only [List.mem_cons, not_or] at h
    have ih := add_grow h.2 h.2
    unfold addB
    split
    · simp only [List.length_cons]; omega
    · split
      · rename_i e; exact absurd e.symm h.1
      · simp
/-- The next that is reckoned. -/
theorem orderD_step {out : List Bytes} {l : List Nd} (hn : ((leftD out l).map (·.ref)).Nodup) (hb : (bestD out l).2 = true) :
    ((leftD (out ++ [(bestD out l).1]) l).map (·.ref)).Nodup ∧ orderL (leftD (out ++ [(bestD out l).1]) l).length (out ++ [(bestD out l).1]) (leftD (out ++ [(bestD out l).1]) l) = orderL (leftD out l).length out (leftD out l) ∧ (leftD (out ++ [(bestD out l).1]) l).length + 1 = (leftD out l).length := by
  rw [bestD_eq] at hb ⊢
  obtain ⟨hfl, _⟩ := best_left hn hb
  rw [← left_next]
  refine ⟨filter_nodup hn, ?_, hfl⟩
  rw [← hfl, orderL, if_neg (by rw [hb]; decide)]
theorem orderD_stuck {out : List Bytes} {l : List Nd} (hl : 0 < (leftD out l).length) (hb : (bestD out l).2 = false) : orderL (leftD out l).length out (leftD out l) = ([], 121) := by
  rw [bestD_eq] at hb
  rw [show (leftD out l).length = ((leftD out l).length - 1) + 1 by omega, orderL, if_pos hb]
theorem orderD_end {out : List Bytes} {l : List Nd} (hl : (leftD out l).length = 0) : orderL (leftD out l).length out (leftD out l) = (out, 0) := by
  have h0 : leftD out l = [] := List.eq_nil_of_length_eq_zero hl
  rw [h0]; rfl
theorem stepD_skip {out : List Bytes} {s : Bytes × Bool} {n : Nd} (h : (decide (n.ref ∈ out) || s.2 && gtB n.ref s.1) = true) : stepD out s n = s := by unfold stepD; rw [if_pos h]
theorem stepD_take {out : List Bytes} {s : Bytes × Bool} {n : Nd} (h : (decide (n.ref ∈ out) || s.2 && gtB n.ref s.1) = false) (hr : readyN out n = true) : stepD out s n = (n.ref, true) := by unfold stepD; rw [if_neg (by rw [h]; decide), if_pos hr]
theorem stepD_leave {out : List Bytes} {s : Bytes × Bool} {n : Nd} (hr : readyN out n = false) : stepD out s n = s := by
  unfold stepD
  split
  · rfl
  · rw [if_neg (by rw [hr]; decide)]
/-- The document's Check, part by part. -/
theorem checkD_open {cond : Bytes} {l : List Nd} (h16 : ¬ 16 < l.length) (hi : ∀ n ∈ l, isN n = true) (hk : okN l = true) (hq : ∀ n ∈ l, ∀ q ∈ inputsN n, 0 ≤ findD l q) (hc : 0 ≤ findD l cond) : checkN cond l = (orderN l).2 := by
  unfold checkN
  rw [if_neg h16, if_neg (by rw [Bool.not_eq_true, List.any_eq_false]; intro n hn; simp [hi n hn]), if_neg (by rw [hk]; decide), if_neg]
  rw [Bool.not_eq_true, List.any_eq_false]
  intro q hq2
  have key : 0 ≤ findD l q := by
    simp only [refsN, List.mem_cons, List.mem_flatMap] at hq2
    rcases hq2 with rfl | ⟨n, hn, hq3⟩
    · exact hc
    · exact hq n hn q hq3
  have := find_pos.1 key
  cases hf : findN l q with
  | none => exact absurd hf this
  | some _ => simp
theorem checkD_120 {cond : Bytes} {l : List Nd} (h16 : ¬ 16 < l.length) {n : Nd} (hn : n ∈ l) (h : isN n = false) : checkN cond l = 120 := by
  unfold checkN
  rw [if_neg h16, if_pos (List.any_eq_true.2 ⟨n, hn, by simp [h]⟩)]
theorem checkD_8 {cond : Bytes} {l : List Nd} (h16 : ¬ 16 < l.length) (hi : ∀ n ∈ l, isN n = true) (hk : okN l = false) : checkN cond l = 8 := by
  unfold checkN
  rw [if_neg h16, if_neg (by rw [Bool.not_eq_true, List.any_eq_false]; intro n hn; simp [hi n hn]), if_pos hk]
theorem checkD_7 {cond : Bytes} {l : List Nd} (h16 : ¬ 16 < l.length) (hi : ∀ n ∈ l, isN n = true) (hk : okN l = true) {q : Bytes} (hq : q = cond ∨ ∃ n ∈ l, q ∈ inputsN n) (hf : findD l q < 0) : checkN cond l = 7 := by
  unfold checkN
  rw [if_neg h16, if_neg (by rw [Bool.not_eq_true, List.any_eq_false]; intro n hn; simp [hi n hn]), if_neg (by rw [hk]; decide), if_pos]
  refine List.any_eq_true.2 ⟨q, ?_, ?_⟩
  · simp only [refsN, List.mem_cons, List.mem_flatMap]; exact hq
  · cases hc : findN l q with
    | none => rfl
    | some _ => have := (find_pos (l := l) (q := q)).2 (by rw [hc]; exact fun h => by cases h); omega
/-- How Needs stands within a round: nothing was added, and all till here is closed; or something was. -/
structure NR (l : List Nd) (ref : Bytes) (out o : List Bytes) (ag : Bool) (P : Nat → Bytes → Prop) : Prop where
  di : DI l ref o
  top : 0 ≤ findD l ref → ref ∈ o
  grow : ag = true → out.length < o.length
  mono : ∀ x ∈ out, x ∈ o
  same : ag = false → o = out ∧ ∀ (i : Nat) (hi : i < l.length), l[i].ref ∈ out → findD l l[i].ref = i → ∀ q ∈ inputsN l[i], P i q → 0 ≤ findD l q → q ∈ out
abbrev closD (l : List Nd) (out : List Bytes) : Prop := ∀ (i : Nat) (hi : i < l.length), l[i].ref ∈ out → findD l l[i].ref = i → ∀ q ∈ inputsN l[i], 0 ≤ findD l q → q ∈ out
section
variable {l : List Nd} {ref : Bytes} {out o : List Bytes} {ag : Bool}
theorem NR.start (h : DI l ref out) (ht : 0 ≤ findD l ref → ref ∈ out) : NR l ref out out false (fun i _ => i < 0) := ⟨h, ht, fun h => by (cases h), fun _ h => h, fun _ => ⟨rfl, fun i _ _ _ _ _ h => absurd h (Nat.not_lt_zero i)⟩⟩
/-- A node that has no part. -/
theorem NR.skip {j : Nat} (h : NR l ref out o ag (fun i _ => i < j)) (hj : j < l.length) (hs : (!decide (l[j].ref ∈ o) || decide (¬ findD l l[j].ref = j)) = true) : NR l ref out o ag (fun i _ => i < j + 1) :=
  ⟨h.di, h.top, h.grow, h.mono, fun ha => by
    obtain ⟨e, hc⟩ := h.same ha
    refine ⟨e, fun i hi hm hf q hq hp h0 => ?_⟩
    by_cases hij : i < j
    · exact hc i hi hm hf q hq hij h0
    · obtain rfl : i = j := by omega
      subst e
      rw [decide_eq_true hm, decide_eq_false (fun h => h hf)] at hs
      cases hs⟩
theorem NR.open {j : Nat} (h : NR l ref out o ag (fun i _ => i < j)) (hj : j < l.length) (L : List Bytes) : NR l ref out o ag (fun i q => i < j ∨ i = j ∧ q ∈ L.take 0) :=
  ⟨h.di, h.top, h.grow, h.mono, fun ha => ⟨(h.same ha).1, fun i hi hm hf q hq hp h0 => by
    rcases hp with hp | ⟨_, hp⟩
    · exact (h.same ha).2 i hi hm hf q hq hp h0
    · simp at hp⟩⟩
theorem NR.stay {j k : Nat} (hj : j < l.length) (hk : k < (inputsN l[j]).length) (h : NR l ref out o ag (fun i q => i < j ∨ i = j ∧ q ∈ (inputsN l[j]).take k)) (hs : (decide (0 ≤ findD l (inputsN l[j])[k]) && !decide ((inputsN l[j])[k] ∈ o)) = false) : NR l ref out o ag (fun i q => i < j ∨ i = j ∧ q ∈ (inputsN l[j]).take (k + 1)) :=
  ⟨h.di, h.top, h.grow, h.mono, fun ha => by
    obtain ⟨e, hc⟩ := h.same ha
    refine ⟨e, fun i hi hm hf q hq hp h0 => ?_⟩
    rcases hp with hp | ⟨rfl, hp⟩
    · exact hc i hi hm hf q hq (.inl hp) h0
    · rw [List.take_succ_eq_append_getElem hk] at hp
      rcases List.mem_append.1 hp with hp | hp
      · exact hc i hi hm hf q hq (.inr ⟨rfl, hp⟩) h0
      · simp only [List.mem_singleton] at hp
        subst hp e
        rw [decide_eq_true h0] at hs
        simpa using hs⟩
theorem NR.add {j k : Nat} (hj : j < l.length) (hk : k < (inputsN l[j]).length) (h : NR l ref out o ag (fun i q => i < j ∨ i = j ∧ q ∈ (inputsN l[j]).take k)) (hm : l[j].ref ∈ o) (hf : findD l l[j].ref = j) (h0 : 0 ≤ findD l (inputsN l[j])[k]) (hn : (inputsN l[j])[k] ∉ o) : NR l ref out (addB o (inputsN l[j])[k]) true (fun i q => i < j ∨ i = j ∧ q ∈ (inputsN l[j]).take (k + 1)) :=
  ⟨h.di.add hj hm hf (List.getElem_mem hk) h0, fun ht => add_mem.2 (.inl (h.top ht)), fun _ => by
    have h1 := add_grow hn hn
    cases ag with
    | true => have := h.grow rfl; omega
    | false => rw [← (h.same rfl).1]; exact h1, fun x hx => add_mem.2 (.inl (h.mono x hx)), fun ha => by cases ha⟩
theorem NR.shut {j k : Nat} (hj : j < l.length) (hk : (inputsN l[j]).length ≤ k) (h : NR l ref out o ag (fun i q => i < j ∨ i = j ∧ q ∈ (inputsN l[j]).take k)) : NR l ref out o ag (fun i _ => i < j + 1) :=
  ⟨h.di, h.top, h.grow, h.mono, fun ha => ⟨(h.same ha).1, fun i hi hm hf q hq hp h0 => by
    refine (h.same ha).2 i hi hm hf q hq ?_ h0
    by_cases hij : i < j
    · exact .inl hij
    · obtain rfl : i = j := by omega
      exact .inr ⟨rfl, by rw [List.take_of_length_le hk]; exact hq⟩⟩⟩
theorem NR.close {j : Nat} (h : NR l ref out o ag (fun i _ => i < j)) (hj : l.length ≤ j) : ag = false → o = out ∧ closD l o := fun ha => by
  obtain ⟨e, hc⟩ := h.same ha
  refine ⟨e, fun i hi hm hf q hq h0 => ?_⟩
  subst e
  exact hc i hi hm hf q hq (by omega) h0
end
theorem take_next2 {α : Type} {l : List α} {j : Nat} {P : α → Prop} (hj : j < l.length) (h : ∀ x ∈ l.take j, P x) (hx : P l[j]) : ∀ x ∈ l.take (j + 1), P x := by
  rw [List.take_succ_eq_append_getElem hj]
  intro x hm
  rcases List.mem_append.1 hm with hm | hm
  · exact h x hm
  · simp only [List.mem_singleton] at hm
    rw [hm]; exact hx
end Go.KX
namespace Go.Proofs.YtomkgfdigldhcaaGreatDoor
open Go.KX
theorem tk2 : TDok Tryz.prog 2 ⟨1, 8, .int .i64 0, .int .i64⟩ := ⟨TI_of (by kernel_rfl), Tryz.underlying2⟩
theorem tk3 : TDok Tryz.prog 3 ⟨1, 8, .int .i64 0, .int .i64⟩ := ⟨TI_of (by kernel_rfl), Tryz.underlying3⟩
theorem tk4 : TDok Tryz.prog 4 ⟨1, 1, .bool false, .bool⟩ := ⟨TI_of (by kernel_rfl), Tryz.underlying4⟩
theorem tk5 : TDok Tryz.prog 5 ⟨1, 1, .int .u8 0, .int .u8⟩ := ⟨TI_of (by kernel_rfl), Tryz.underlying5⟩
theorem tk9 : TDok Tryz.prog 9 ⟨1, 16, str [], .str⟩ := ⟨TI_of (by kernel_rfl), Tryz.underlying9⟩
theorem tk21 : TDok Tryz.prog 21 ⟨1, 4, .int .i32 0, .int .i32⟩ := ⟨TI_of (by kernel_rfl), Tryz.underlying21⟩
theorem tk22 : TDok Tryz.prog 22 ⟨1, 24, .slice none 0 0, .sl 52⟩ := ⟨TI_of (by kernel_rfl), Tryz.underlying22⟩
theorem tk26 : TDok Tryz.prog 26 ⟨2, 16, .agg #[.int .i64 0, .int .i64 0], .st [(0, 1, false), (1, 1, false)]⟩ := TDst (TI_of (by kernel_rfl)) Tryz.underlying26 (by kernel_rfl)
theorem tk27 : TDok Tryz.prog 27 ⟨1, 24, .slice none 0 0, .sl 29⟩ := ⟨TI_of (by kernel_rfl), Tryz.underlying27⟩
theorem tk29 : TDok Tryz.prog 29 ⟨5, 64, .agg #[.int .i64 0, str [], .int .i64 0, .int .i64 0, .slice none 0 0], .st [(0, 1, false), (1, 1, false), (2, 2, true), (4, 1, false)]⟩ := TDst (TI_of (by kernel_rfl)) Tryz.underlying29 (by kernel_rfl)
theorem tk32 : TDok Tryz.prog 32 ⟨1, 24, .slice none 0 0, .sl 98⟩ := ⟨TI_of (by kernel_rfl), Tryz.underlying32⟩
theorem tk33 : TDok Tryz.prog 33 ⟨1, 8, .int .i64 0, .int .i64⟩ := ⟨TI_of (by kernel_rfl), Tryz.underlying33⟩
theorem tk46 : TDok Tryz.prog 46 ⟨1, 24, .slice none 0 0, .sl 26⟩ := ⟨TI_of (by kernel_rfl), Tryz.underlying46⟩
theorem tk48 : TDok Tryz.prog 48 ⟨1, 24, .slice none 0 0, .sl 9⟩ := ⟨TI_of (by kernel_rfl), Tryz.underlying48⟩
theorem tk52 : TDok Tryz.prog 52 ⟨2, 40, .agg #[str [], .slice none 0 0], .st [(0, 1, false), (1, 1, false)]⟩ := TDst (TI_of (by kernel_rfl)) Tryz.underlying52 (by kernel_rfl)
theorem tk56 : TDok Tryz.prog 56 ⟨1, 24, .slice none 0 0, .sl 65⟩ := ⟨TI_of (by kernel_rfl), Tryz.underlying56⟩
theorem tk65 : TDok Tryz.prog 65 ⟨11, 128, .agg #[str [], .int .i64 0, str [], str [], str [], .bool false, .int .i64 0, .int .i64 0, .int .i64 0, .int .i64 0, str []], .st [(0, 1, false), (1, 1, false), (2, 1, false), (3, 1, false), (4, 1, false), (5, 1, false), (6, 2, true), (8, 2, true), (10, 1, false)]⟩ := TDst (TI_of (by kernel_rfl)) Tryz.underlying65 (by kernel_rfl)
theorem tk74 : TDok Tryz.prog 74 ⟨1, 24, .slice none 0 0, .sl 77⟩ := ⟨TI_of (by kernel_rfl), Tryz.underlying74⟩
theorem tk75 : TDok Tryz.prog 75 ⟨1, 24, .slice none 0 0, .sl 93⟩ := ⟨TI_of (by kernel_rfl), Tryz.underlying75⟩
theorem tk77 : TDok Tryz.prog 77 ⟨3, 48, .agg #[str [], .bool false, .slice none 0 0], .st [(0, 1, false), (1, 1, false), (2, 1, false)]⟩ := TDst (TI_of (by kernel_rfl)) Tryz.underlying77 (by kernel_rfl)
theorem tk79 : TDok Tryz.prog 79 ⟨1, 24, .slice none 0 0, .sl 95⟩ := ⟨TI_of (by kernel_rfl), Tryz.underlying79⟩
theorem tk87 : TDok Tryz.prog 87 ⟨1, 24, .slice none 0 0, .sl 90⟩ := ⟨TI_of (by kernel_rfl), Tryz.underlying87⟩
theorem tk90 : TDok Tryz.prog 90 ⟨3, 24, .agg #[.int .i64 0, .int .i64 0, .int .i64 0], .st [(0, 1, false), (1, 2, true)]⟩ := TDst (TI_of (by kernel_rfl)) Tryz.underlying90 (by kernel_rfl)
theorem tk91 : TDok Tryz.prog 91 ⟨1, 24, .slice none 0 0, .sl 138⟩ := ⟨TI_of (by kernel_rfl), Tryz.underlying91⟩
theorem tk93 : TDok Tryz.prog 93 ⟨2, 48, .agg #[.slice none 0 0, .slice none 0 0], .st [(0, 1, false), (1, 1, false)]⟩ := TDst (TI_of (by kernel_rfl)) Tryz.underlying93 (by kernel_rfl)
theorem tk95 : TDok Tryz.prog 95 ⟨4, 48, .agg #[.slice none 0 0, .int .i64 0, .int .i64 0, .int .i64 0], .st [(0, 1, false), (1, 1, false), (2, 2, true)]⟩ := TDst (TI_of (by kernel_rfl)) Tryz.underlying95 (by kernel_rfl)
theorem tk98 : TDok Tryz.prog 98 ⟨3, 40, .agg #[.slice none 0 0, .int .i64 0, .int .i64 0], .st [(0, 1, false), (1, 2, true)]⟩ := TDst (TI_of (by kernel_rfl)) Tryz.underlying98 (by kernel_rfl)
theorem tk101 : TDok Tryz.prog 101 ⟨4, 40, .agg #[str [], .int .i64 0, .int .i64 0, .int .i64 0], .st [(0, 1, false), (1, 1, false), (2, 1, false), (3, 1, false)]⟩ := TDst (TI_of (by kernel_rfl)) Tryz.underlying101 (by kernel_rfl)
theorem tk108 : TDok Tryz.prog 108 ⟨1, 24, .slice none 0 0, .sl 32⟩ := ⟨TI_of (by kernel_rfl), Tryz.underlying108⟩
theorem tk117 : TDok Tryz.prog 117 ⟨5, 48, .agg #[str [], .int .i64 0, .int .i64 0, .int .i64 0, .bool false], .st [(0, 1, false), (1, 1, false), (2, 1, false), (3, 1, false), (4, 1, false)]⟩ := TDst (TI_of (by kernel_rfl)) Tryz.underlying117 (by kernel_rfl)
theorem tk124 : TDok Tryz.prog 124 ⟨1, 8, .map none, .mp 9 65⟩ := ⟨TI_of (by kernel_rfl), Tryz.underlying124⟩
theorem tk127 : TDok Tryz.prog 127 ⟨1, 8, .map none, .mp 9 4⟩ := ⟨TI_of (by kernel_rfl), Tryz.underlying127⟩
theorem tk138 : TDok Tryz.prog 138 ⟨2, 32, .agg #[str [], str []], .st [(0, 1, false), (1, 1, false)]⟩ := TDst (TI_of (by kernel_rfl)) Tryz.underlying138 (by kernel_rfl)
theorem tk163 : TDok Tryz.prog 163 ⟨1, 8, .nilFunc, .oth⟩ := ⟨TI_of (by kernel_rfl), ⟨_, Tryz.underlying163, rfl⟩⟩
theorem tk167 : TDok Tryz.prog 167 ⟨6, 96, .agg #[str [], str [], str [], str [], str [], str []], .arr 6 9⟩ := ⟨TI_of (by kernel_rfl), Tryz.underlying167⟩
theorem tk172 : TDok Tryz.prog 172 ⟨1, 8, .int .u64 0, .int .u64⟩ := ⟨TI_of (by kernel_rfl), Tryz.underlying172⟩
theorem tk182 : TDok Tryz.prog 182 ⟨3, 56, .agg #[.map none, .slice none 0 0, .slice none 0 0], .st [(0, 1, false), (1, 1, false), (2, 1, false)]⟩ := TDst (TI_of (by kernel_rfl)) Tryz.underlying182 (by kernel_rfl)
theorem tk183 : TDok Tryz.prog 183 ⟨1, 8, .nilFunc, .oth⟩ := ⟨TI_of (by kernel_rfl), ⟨_, Tryz.underlying183, rfl⟩⟩
theorem tk185 : TDok Tryz.prog 185 ⟨1, 8, .map none, .mp 3 183⟩ := ⟨TI_of (by kernel_rfl), Tryz.underlying185⟩
theorem tk197 : TDok Tryz.prog 197 ⟨1, 8, .nilFunc, .oth⟩ := ⟨TI_of (by kernel_rfl), ⟨_, Tryz.underlying197, rfl⟩⟩
theorem tk199 : TDok Tryz.prog 199 ⟨1, 8, .map none, .mp 9 197⟩ := ⟨TI_of (by kernel_rfl), Tryz.underlying199⟩
theorem tk201 : TDok Tryz.prog 201 ⟨1, 8, .nilFunc, .oth⟩ := ⟨TI_of (by kernel_rfl), ⟨_, Tryz.underlying201, rfl⟩⟩
theorem tk203 : TDok Tryz.prog 203 ⟨1, 8, .map none, .mp 9 201⟩ := ⟨TI_of (by kernel_rfl), Tryz.underlying203⟩
theorem tk212 : TDok Tryz.prog 212 ⟨5, 120, .agg #[.slice none 0 0, .slice none 0 0, .slice none 0 0, .slice none 0 0, .slice none 0 0], .arr 5 48⟩ := ⟨TI_of (by kernel_rfl), Tryz.underlying212⟩
theorem tk217 : TDok Tryz.prog 217 ⟨256, 256, .agg #[.bool false, .bool false, .bool false, .bool false, .bool false, .bool false, .bool false, .bool false, .bool false, .bool false, .bool false, .bool false, .bool false, .bool false, .bool false, .bool false, .bool false, .bool false, .bool false, .bool false, .bool false, .bool false, .bool false, .bool false, .bool false, .bool false, .bool false, .bool false, .bool false, .bool false, .bool false, .bool false, .bool false, .bool false, .bool false, .bool false, .bool false, .bool false, .bool false, .bool false, .bool false, .bool false, .bool false, .bool false, .bool false, .bool false, .bool false, .bool false, .bool false, .bool false, .bool false, .bool false, .bool false, .bool false, .bool false, .bool false, .bool false, .bool false, .bool false, .bool false, .bool false, .bool false, .bool false, .bool false, .bool false, .bool false, .bool false, .bool false, .bool false, .bool false, .bool false, .bool false, .bool false, .bool false, .bool false, .bool false, .bool false, .bool false, .bool false, .bool false, .bool false, .bool false, .bool false, .bool false, .bool false, .bool false, .bool false, .bool false, .bool false, .bool false, .bool false, .bool false, .bool false, .bool false, .bool false, .bool false, .bool false, .bool false, .bool false, .bool false, .bool false, .bool false, .bool false, .bool false, .bool false, .bool false, .bool false, .bool false, .bool false, .bool false, .bool false, .bool false, .bool false, .bool false, .bool false, .bool false, .bool false, .bool false, .bool false, .bool false, .bool false, .bool false, .bool false, .bool false, .bool false, .bool false, .bool false, .bool false, .bool false, .bool false, .bool false, .bool false, .bool false, .bool false, .bool false, .bool false, .bool false, .bool false, .bool false, .bool false, .bool false, .bool false, .bool false, .bool false, .bool false, .bool false, .bool false, .bool false, .bool false, .bool false, .bool false, .bool false, .bool false, .bool false, .bool false, .bool false, .bool false, .bool false, .bool false, .bool false, .bool false, .bool false, .bool false, .bool false, .bool false, .bool false, .bool false, .bool false, .bool false, .bool false, .bool false, .bool false, .bool false, .bool false, .bool false, .bool false, .bool false, .bool false, .bool false, .bool false, .bool false, .bool false, .bool false, .bool false, .bool false, .bool false, .bool false, .bool false, .bool false, .bool false, .bool false, .bool false, .bool false, .bool false, .bool false, .bool false, .bool false, .bool false, .bool false, .bool false, .bool false, .bool false, .bool false, .bool false, .bool false, .bool false, .bool false, .bool false, .bool false, .bool false, .bool false, .bool false, .bool false, .bool false, .bool false, .bool false, .bool false, .bool false, .bool false, .bool false, .bool false, .bool false, .bool false, .bool false, .bool false, .bool false, .bool false, .bool false, .bool false, .bool false, .bool false, .bool false, .bool false, .bool false, .bool false, .bool false, .bool false, .bool false, .bool false, .bool false, .bool false, .bool false, .bool false, .bool false, .bool false, .bool false, .bool false, .bool false, .bool false, .bool false, .bool false, .bool false, .bool false, .bool false, .bool false, .bool false], .arr 256 4⟩ := ⟨TI_of (by kernel_rfl), Tryz.underlying217⟩
theorem tk223 : TDok Tryz.prog 223 ⟨1, 8, .int .i64 0, .int .i64⟩ := ⟨TI_of (by kernel_rfl), Tryz.underlying223⟩
theorem tk232 : TDok Tryz.prog 232 ⟨1, 4, .int .u32 0, .int .u32⟩ := ⟨TI_of (by kernel_rfl), Tryz.underlying232⟩
theorem tk234 : TDok Tryz.prog 234 ⟨1, 8, .int .u64 0, .int .u64⟩ := ⟨TI_of (by kernel_rfl), Tryz.underlying234⟩
theorem tk254 : TDok Tryz.prog 254 ⟨1, 8, .nilFunc, .oth⟩ := ⟨TI_of (by kernel_rfl), ⟨_, Tryz.underlying254, rfl⟩⟩
theorem tk259 : TDok Tryz.prog 259 ⟨1, 8, .nilFunc, .oth⟩ := ⟨TI_of (by kernel_rfl), ⟨_, Tryz.underlying259, rfl⟩⟩
theorem tk262 : TDok Tryz.prog 262 ⟨15, 240, .agg #[str [], str [], str [], str [], str [], str [], str [], str [], str [], str [], str [], str [], str [], str [], str []], .arr 15 9⟩ := ⟨TI_of (by kernel_rfl), Tryz.underlying262⟩
theorem tk264 : TDok Tryz.prog 264 ⟨24, 24, .agg #[.int .u8 0, .int .u8 0, .int .u8 0, .int .u8 0, .int .u8 0, .int .u8 0, .int .u8 0, .int .u8 0, .int .u8 0, .int .u8 0, .int .u8 0, .int .u8 0, .int .u8 0, .int .u8 0, .int .u8 0, .int .u8 0, .int .u8 0, .int .u8 0, .int .u8 0, .int .u8 0, .int .u8 0, .int .u8 0, .int .u8 0, .int .u8 0], .arr 24 5⟩ := ⟨TI_of (by kernel_rfl), Tryz.underlying264⟩
theorem tk266 : TDok Tryz.prog 266 ⟨1, 24, .slice none 0 0, .sl 5⟩ := ⟨TI_of (by kernel_rfl), Tryz.underlying266⟩
theorem tk272 : TDok Tryz.prog 272 ⟨1, 8, .int .u64 0, .int .u64⟩ := ⟨TI_of (by kernel_rfl), Tryz.underlying272⟩
theorem tk296 : TDok Tryz.prog 296 ⟨1, 24, .slice none 0 0, .sl 3⟩ := ⟨TI_of (by kernel_rfl), Tryz.underlying296⟩
theorem tk304 : TDok Tryz.prog 304 ⟨20, 160, .agg #[.int .u64 0, .int .u64 0, .int .u64 0, .int .u64 0, .int .u64 0, .int .u64 0, .int .u64 0, .int .u64 0, .int .u64 0, .int .u64 0, .int .u64 0, .int .u64 0, .int .u64 0, .int .u64 0, .int .u64 0, .int .u64 0, .int .u64 0, .int .u64 0, .int .u64 0, .int .u64 0], .arr 20 234⟩ := ⟨TI_of (by kernel_rfl), Tryz.underlying304⟩
theorem tk305 : TDok Tryz.prog 305 ⟨65, 65, .agg #[.int .u8 0, .int .u8 0, .int .u8 0, .int .u8 0, .int .u8 0, .int .u8 0, .int .u8 0, .int .u8 0, .int .u8 0, .int .u8 0, .int .u8 0, .int .u8 0, .int .u8 0, .int .u8 0, .int .u8 0, .int .u8 0, .int .u8 0, .int .u8 0, .int .u8 0, .int .u8 0, .int .u8 0, .int .u8 0, .int .u8 0, .int .u8 0, .int .u8 0, .int .u8 0, .int .u8 0, .int .u8 0, .int .u8 0, .int .u8 0, .int .u8 0, .int .u8 0, .int .u8 0, .int .u8 0, .int .u8 0, .int .u8 0, .int .u8 0, .int .u8 0, .int .u8 0, .int .u8 0, .int .u8 0, .int .u8 0, .int .u8 0, .int .u8 0, .int .u8 0, .int .u8 0, .int .u8 0, .int .u8 0, .int .u8 0, .int .u8 0, .int .u8 0, .int .u8 0, .int .u8 0, .int .u8 0, .int .u8 0, .int .u8 0, .int .u8 0, .int .u8 0, .int .u8 0, .int .u8 0, .int .u8 0, .int .u8 0, .int .u8 0, .int .u8 0, .int .u8 0], .arr 65 5⟩ := ⟨TI_of (by kernel_rfl), Tryz.underlying305⟩
theorem tk318 : TDok Tryz.prog 318 ⟨1, 16, .nilIface, .oth⟩ := ⟨TI_of (by kernel_rfl), ⟨_, Tryz.underlying318, rfl⟩⟩
theorem tk329 : TDok Tryz.prog 329 ⟨32, 32, .agg #[.int .u8 0, .int .u8 0, .int .u8 0, .int .u8 0, .int .u8 0, .int .u8 0, .int .u8 0, .int .u8 0, .int .u8 0, .int .u8 0, .int .u8 0, .int .u8 0, .int .u8 0, .int .u8 0, .int .u8 0, .int .u8 0, .int .u8 0, .int .u8 0, .int .u8 0, .int .u8 0, .int .u8 0, .int .u8 0, .int .u8 0, .int .u8 0, .int .u8 0, .int .u8 0, .int .u8 0, .int .u8 0, .int .u8 0, .int .u8 0, .int .u8 0, .int .u8 0], .arr 32 5⟩ := ⟨TI_of (by kernel_rfl), Tryz.underlying329⟩
theorem tk330 : TDok Tryz.prog 330 ⟨64, 64, .agg #[.int .u8 0, .int .u8 0, .int .u8 0, .int .u8 0, .int .u8 0, .int .u8 0, .int .u8 0, .int .u8 0, .int .u8 0, .int .u8 0, .int .u8 0, .int .u8 0, .int .u8 0, .int .u8 0, .int .u8 0, .int .u8 0, .int .u8 0, .int .u8 0, .int .u8 0, .int .u8 0, .int .u8 0, .int .u8 0, .int .u8 0, .int .u8 0, .int .u8 0, .int .u8 0, .int .u8 0, .int .u8 0, .int .u8 0, .int .u8 0, .int .u8 0, .int .u8 0, .int .u8 0, .int .u8 0, .int .u8 0, .int .u8 0, .int .u8 0, .int .u8 0, .int .u8 0, .int .u8 0, .int .u8 0, .int .u8 0, .int .u8 0, .int .u8 0, .int .u8 0, .int .u8 0, .int .u8 0, .int .u8 0, .int .u8 0, .int .u8 0, .int .u8 0, .int .u8 0, .int .u8 0, .int .u8 0, .int .u8 0, .int .u8 0, .int .u8 0, .int .u8 0, .int .u8 0, .int .u8 0, .int .u8 0, .int .u8 0, .int .u8 0, .int .u8 0], .arr 64 5⟩ := ⟨TI_of (by kernel_rfl), Tryz.underlying330⟩
theorem tk331 : TDok Tryz.prog 331 ⟨256, 256, .agg #[.int .u8 0, .int .u8 0, .int .u8 0, .int .u8 0, .int .u8 0, .int .u8 0, .int .u8 0, .int .u8 0, .int .u8 0, .int .u8 0, .int .u8 0, .int .u8 0, .int .u8 0, .int .u8 0, .int .u8 0, .int .u8 0, .int .u8 0, .int .u8 0, .int .u8 0, .int .u8 0, .int .u8 0, .int .u8 0, .int .u8 0, .int .u8 0, .int .u8 0, .int .u8 0, .int .u8 0, .int .u8 0, .int .u8 0, .int .u8 0, .int .u8 0, .int .u8 0, .int .u8 0, .int .u8 0, .int .u8 0, .int .u8 0, .int .u8 0, .int .u8 0, .int .u8 0, .int .u8 0, .int .u8 0, .int .u8 0, .int .u8 0, .int .u8 0, .int .u8 0, .int .u8 0, .int .u8 0, .int .u8 0, .int .u8 0, .int .u8 0, .int .u8 0, .int .u8 0, .int .u8 0, .int .u8 0, .int .u8 0, .int .u8 0, .int .u8 0, .int .u8 0, .int .u8 0, .int .u8 0, .int .u8 0, .int .u8 0, .int .u8 0, .int .u8 0, .int .u8 0, .int .u8 0, .int .u8 0, .int .u8 0, .int .u8 0, .int .u8 0, .int .u8 0, .int .u8 0, .int .u8 0, .int .u8 0, .int .u8 0, .int .u8 0, .int .u8 0, .int .u8 0, .int .u8 0, .int .u8 0, .int .u8 0, .int .u8 0, .int .u8 0, .int .u8 0, .int .u8 0, .int .u8 0, .int .u8 0, .int .u8 0, .int .u8 0, .int .u8 0, .int .u8 0, .int .u8 0, .int .u8 0, .int .u8 0, .int .u8 0, .int .u8 0, .int .u8 0, .int .u8 0, .int .u8 0, .int .u8 0, .int .u8 0, .int .u8 0, .int .u8 0, .int .u8 0, .int .u8 0, .int .u8 0, .int .u8 0, .int .u8 0, .int .u8 0, .int .u8 0, .int .u8 0, .int .u8 0, .int .u8 0, .int .u8 0, .int .u8 0, .int .u8 0, .int .u8 0, .int .u8 0, .int .u8 0, .int .u8 0, .int .u8 0, .int .u8 0, .int .u8 0, .int .u8 0, .int .u8 0, .int .u8 0, .int .u8 0, .int .u8 0, .int .u8 0, .int .u8 0, .int .u8 0, .int .u8 0, .int .u8 0, .int .u8 0, .int .u8 0, .int .u8 0, .int .u8 0, .int .u8 0, .int .u8 0, .int .u8 0, .int .u8 0, .int .u8 0, .int .u8 0, .int .u8 0, .int .u8 0, .int .u8 0, .int .u8 0, .int .u8 0, .int .u8 0, .int .u8 0, .int .u8 0, .int .u8 0, .int .u8 0, .int .u8 0, .int .u8 0, .int .u8 0, .int .u8 0, .int .u8 0, .int .u8 0, .int .u8 0, .int .u8 0, .int .u8 0, .int .u8 0, .int .u8 0, .int .u8 0, .int .u8 0, .int .u8 0, .int .u8 0, .int .u8 0, .int .u8 0, .int .u8 0, .int .u8 0, .int .u8 0, .int .u8 0, .int .u8 0, .int .u8 0, .int .u8 0, .int .u8 0, .int .u8 0, .int .u8 0, .int .u8 0, .int .u8 0, .int .u8 0, .int .u8 0, .int .u8 0, .int .u8 0, .int .u8 0, .int .u8 0, .int .u8 0, .int .u8 0, .int .u8 0, .int .u8 0, .int .u8 0, .int .u8 0, .int .u8 0, .int .u8 0, .int .u8 0, .int .u8 0, .int .u8 0, .int .u8 0, .int .u8 0, .int .u8 0, .int .u8 0, .int .u8 0, .int .u8 0, .int .u8 0, .int .u8 0, .int .u8 0, .int .u8 0, .int .u8 0, .int .u8 0, .int .u8 0, .int .u8 0, .int .u8 0, .int .u8 0, .int .u8 0, .int .u8 0, .int .u8 0, .int .u8 0, .int .u8 0, .int .u8 0, .int .u8 0, .int .u8 0, .int .u8 0, .int .u8 0, .int .u8 0, .int .u8 0, .int .u8 0, .int .u8 0, .int .u8 0, .int .u8 0, .int .u8 0, .int .u8 0, .int .u8 0, .int .u8 0, .int .u8 0, .int .u8 0, .int .u8 0, .int .u8 0, .int .u8 0, .int .u8 0, .int .u8 0, .int .u8 0, .int .u8 0, .int .u8 0, .int .u8 0, .int .u8 0, .int .u8 0, .int .u8 0, .int .u8 0, .int .u8 0, .int .u8 0, .int .u8 0, .int .u8 0, .int .u8 0, .int .u8 0], .arr 256 5⟩ := ⟨TI_of (by kernel_rfl), Tryz.underlying331⟩
theorem tk333 : TDok Tryz.prog 333 ⟨2, 2, .agg #[.int .u8 0, .int .u8 0], .st [(0, 1, false), (1, 1, false)]⟩ := TDst (TI_of (by kernel_rfl)) Tryz.underlying333 (by kernel_rfl)
theorem tk334 : TDok Tryz.prog 334 ⟨32, 32, .agg #[.int .u8 0, .int .u8 0, .int .u8 0, .int .u8 0, .int .u8 0, .int .u8 0, .int .u8 0, .int .u8 0, .int .u8 0, .int .u8 0, .int .u8 0, .int .u8 0, .int .u8 0, .int .u8 0, .int .u8 0, .int .u8 0, .int .u8 0, .int .u8 0, .int .u8 0, .int .u8 0, .int .u8 0, .int .u8 0, .int .u8 0, .int .u8 0, .int .u8 0, .int .u8 0, .int .u8 0, .int .u8 0, .int .u8 0, .int .u8 0, .int .u8 0, .int .u8 0], .arr 16 333⟩ := ⟨TI_of (by kernel_rfl), Tryz.underlying334⟩
theorem tk339 : TDok Tryz.prog 339 ⟨1, 8, .pointer none, .ptr 341⟩ := ⟨TI_of (by kernel_rfl), Tryz.underlying339⟩
theorem tk341 : TDok Tryz.prog 341 ⟨2, 32, .agg #[.pointer none, .slice none 0 0], .st [(0, 1, false), (1, 1, false)]⟩ := TDst (TI_of (by kernel_rfl)) Tryz.underlying341 (by kernel_rfl)
theorem tk345 : TDok Tryz.prog 345 ⟨1, 8, .int .i64 0, .int .i64⟩ := ⟨TI_of (by kernel_rfl), Tryz.underlying345⟩
theorem tk347 : TDok Tryz.prog 347 ⟨1, 8, .pointer none, .ptr 353⟩ := ⟨TI_of (by kernel_rfl), Tryz.underlying347⟩
theorem tk350 : TDok Tryz.prog 350 ⟨1, 8, .pointer none, .ptr 5⟩ := ⟨TI_of (by kernel_rfl), Tryz.underlying350⟩
theorem tk353 : TDok Tryz.prog 353 ⟨3, 48, .agg #[str [], str [], .nilIface], .st [(0, 1, false), (1, 1, false), (2, 1, false)]⟩ := TDst (TI_of (by kernel_rfl)) Tryz.underlying353 (by kernel_rfl)
theorem tk359 : TDok Tryz.prog 359 ⟨1, 8, .pointer none, .ptr 361⟩ := ⟨TI_of (by kernel_rfl), Tryz.underlying359⟩
theorem tk361 : TDok Tryz.prog 361 ⟨1, 16, .agg #[str []], .st [(0, 1, false)]⟩ := TDst (TI_of (by kernel_rfl)) Tryz.underlying361 (by kernel_rfl)
def tb : TT := .node (.node (.node (.node (.node (.node (.node (.nil) 2 ⟨1, 8, .int .i64 0, .int .i64⟩ (.nil)) 3 ⟨1, 8, .int .i64 0, .int .i64⟩ (.nil)) 4 ⟨1, 1, .bool false, .bool⟩ (.node (.nil) 5 ⟨1, 1, .int .u8 0, .int .u8⟩ (.nil))) 9 ⟨1, 16, str [], .str⟩ (.node (.node (.nil) 21 ⟨1, 4, .int .i32 0, .int .i32⟩ (.nil)) 22 ⟨1, 24, .slice none 0 0, .sl 52⟩ (.node (.nil) 26 ⟨2, 16, .agg #[.int .i64 0, .int .i64 0], .st [(0, 1, false), (1, 1, false)]⟩ (.nil)))) 27 ⟨1, 24, .slice none 0 0, .sl 29⟩ (.node (.node (.node (.node (.nil) 29 ⟨5, 64, .agg #[.int .i64 0, str [], .int .i64 0, .int .i64 0, .slice none 0 0], .st [(0, 1, false), (1, 1, false), (2, 2, true), (4, 1, false)]⟩ (.nil)) 32 ⟨1, 24, .slice none 0 0, .sl 98⟩ (.nil)) 33 ⟨1, 8, .int .i64 0, .int .i64⟩ (.node (.nil) 46 ⟨1, 24, .slice none 0 0, .sl 26⟩ (.nil))) 48 ⟨1, 24, .slice none 0 0, .sl 9⟩ (.node (.node (.nil) 52 ⟨2, 40, .agg #[str [], .slice none 0 0], .st [(0, 1, false), (1, 1, false)]⟩ (.nil)) 56 ⟨1, 24, .slice none 0 0, .sl 65⟩ (.node (.nil) 65 ⟨11, 128, .agg #[str [], .int .i64 0, str [], str [], str [], .bool false, .int .i64 0, .int .i64 0, .int .i64 0, .int .i64 0, str []], .st [(0, 1, false), (1, 1, false), (2, 1, false), (3, 1, false), (4, 1, false), (5, 1, false), (6, 2, true), (8, 2, true), (10, 1, false)]⟩ (.nil))))) 74 ⟨1, 24, .slice none 0 0, .sl 77⟩ (.node (.node (.node (.node (.node (.nil) 75 ⟨1, 24, .slice none 0 0, .sl 93⟩ (.nil)) 77 ⟨3, 48, .agg #[str [], .bool false, .slice none 0 0], .st [(0, 1, false), (1, 1, false), (2, 1, false)]⟩ (.nil)) 79 ⟨1, 24, .slice none 0 0, .sl 95⟩ (.node (.nil) 87 ⟨1, 24, .slice none 0 0, .sl 90⟩ (.nil))) 90 ⟨3, 24, .agg #[.int .i64 0, .int .i64 0, .int .i64 0], .st [(0, 1, false), (1, 2, true)]⟩ (.node (.node (.nil) 91 ⟨1, 24, .slice none 0 0, .sl 138⟩ (.nil)) 93 ⟨2, 48, .agg #[.slice none 0 0, .slice none 0 0], .st [(0, 1, false), (1, 1, false)]⟩ (.node (.nil) 95 ⟨4, 48, .agg #[.slice none 0 0, .int .i64 0, .int .i64 0, .int .i64 0], .st [(0, 1, false), (1, 1, false), (2, 2, true)]⟩ (.nil)))) 98 ⟨3, 40, .agg #[.slice none 0 0, .int .i64 0, .int .i64 0], .st [(0, 1, false), (1, 2, true)]⟩ (.node (.node (.node (.node (.nil) 101 ⟨4, 40, .agg #[str [], .int .i64 0, .int .i64 0, .int .i64 0], .st [(0, 1, false), (1, 1, false), (2, 1, false), (3, 1, false)]⟩ (.nil)) 108 ⟨1, 24, .slice none 0 0, .sl 32⟩ (.nil)) 117 ⟨5, 48, .agg #[str [], .int .i64 0, .int .i64 0, .int .i64 0, .bool false], .st [(0, 1, false), (1, 1, false), (2, 1, false), (3, 1, false), (4, 1, false)]⟩ (.node (.nil) 124 ⟨1, 8, .map none, .mp 9 65⟩ (.nil))) 127 ⟨1, 8, .map none, .mp 9 4⟩ (.node (.node (.nil) 138 ⟨2, 32, .agg #[str [], str []], .st [(0, 1, false), (1, 1, false)]⟩ (.nil)) 163 ⟨1, 8, .nilFunc, .oth⟩ (.node (.nil) 167 ⟨6, 96, .agg #[str [], str [], str [], str [], str [], str []], .arr 6 9⟩ (.nil)))))) 172 ⟨1, 8, .int .u64 0, .int .u64⟩ (.node (.node (.node (.node (.node (.node (.nil) 182 ⟨3, 56, .agg #[.map none, .slice none 0 0, .slice none 0 0], .st [(0, 1, false), (1, 1, false), (2, 1, false)]⟩ (.nil)) 183 ⟨1, 8, .nilFunc, .oth⟩ (.nil)) 185 ⟨1, 8, .map none, .mp 3 183⟩ (.node (.nil) 197 ⟨1, 8, .nilFunc, .oth⟩ (.nil))) 199 ⟨1, 8, .map none, .mp 9 197⟩ (.node (.node (.nil) 201 ⟨1, 8, .nilFunc, .oth⟩ (.nil)) 203 ⟨1, 8, .map none, .mp 9 201⟩ (.node (.nil) 212 ⟨5, 120, .agg #[.slice none 0 0, .slice none 0 0, .slice none 0 0, .slice none 0 0, .slice none 0 0], .arr 5 48⟩ (.nil)))) 217 ⟨256, 256, .agg #[.bool false, .bool false, .bool false, .bool false, .bool false, .bool false, .bool false, .bool false, .bool false, .bool false, .bool false, .bool false, .bool false, .bool false, .bool false, .bool false, .bool false, .bool false, .bool false, .bool false, .bool false, .bool false, .bool false, .bool false, .bool false, .bool false, .bool false, .bool false, .bool false, .bool false, .bool false, .bool false, .bool false, .bool false, .bool false, .bool false, .bool false, .bool false, .bool false, .bool false, .bool false, .bool false, .bool false, .bool false, .bool false, .bool false, .bool false, .bool false, .bool false, .bool false, .bool false, .bool false, .bool false, .bool false, .bool false, .bool false, .bool false, .bool false, .bool false, .bool false, .bool false, .bool false, .bool false, .bool false, .bool false, .bool false, .bool false, .bool false, .bool false, .bool false, .bool false, .bool false, .bool false, .bool false, .bool false, .bool false, .bool false, .bool false, .bool false, .bool false, .bool false, .bool false, .bool false, .bool false, .bool false, .bool false, .bool false, .bool false, .bool false, .bool false, .bool false, .bool false, .bool false, .bool false, .bool false, .bool false, .bool false, .bool false, .bool false, .bool false, .bool false, .bool false, .bool false, .bool false, .bool false, .bool false, .bool false, .bool false, .bool false, .bool false, .bool false, .bool false, .bool false, .bool false, .bool false, .bool false, .bool false, .bool false, .bool false, .bool false, .bool false, .bool false, .bool false, .bool false, .bool false, .bool false, .bool false, .bool false, .bool false, .bool false, .bool false, .bool false, .bool false, .bool false, .bool false, .bool false, .bool false, .bool false, .bool false, .bool false, .bool false, .bool false, .bool false, .bool false, .bool false, .bool false, .bool false, .bool false, .bool false, .bool false, .bool false, .bool false, .bool false, .bool false, .bool false, .bool false, .bool false, .bool false, .bool false, .bool false, .bool false, .bool false, .bool false, .bool false, .bool false, .bool false, .bool false, .bool false, .bool false, .bool false, .bool false, .bool false, .bool false, .bool false, .bool false, .bool false, .bool false, .bool false, .bool false, .bool false, .bool false, .bool false, .bool false, .bool false, .bool false, .bool false, .bool false, .bool false, .bool false, .bool false, .bool false, .bool false, .bool false, .bool false, .bool false, .bool false, .bool false, .bool false, .bool false, .bool false, .bool false, .bool false, .bool false, .bool false, .bool false, .bool false, .bool false, .bool false, .bool false, .bool false, .bool false, .bool false, .bool false, .bool false, .bool false, .bool false, .bool false, .bool false, .bool false, .bool false, .bool false, .bool false, .bool false, .bool false, .bool false, .bool false, .bool false, .bool false, .bool false, .bool false, .bool false, .bool false, .bool false, .bool false, .bool false, .bool false, .bool false, .bool false, .bool false, .bool false, .bool false, .bool false, .bool false, .bool false, .bool false, .bool false, .bool false, .bool false, .bool false, .bool false, .bool false, .bool false, .bool false, .bool false, .bool false, .bool false], .arr 256 4⟩ (.node (.node (.node (.node (.nil) 223 ⟨1, 8, .int .i64 0, .int .i64⟩ (.nil)) 232 ⟨1, 4, .int .u32 0, .int .u32⟩ (.nil)) 234 ⟨1, 8, .int .u64 0, .int .u64⟩ (.node (.nil) 254 ⟨1, 8, .nilFunc, .oth⟩ (.nil))) 259 ⟨1, 8, .nilFunc, .oth⟩ (.node (.node (.nil) 262 ⟨15, 240, .agg #[str [], str [], str [], str [], str [], str [], str [], str [], str [], str [], str [], str [], str [], str [], str []], .arr 15 9⟩ (.nil)) 264 ⟨24, 24, .agg #[.int .u8 0, .int .u8 0, .int .u8 0, .int .u8 0, .int .u8 0, .int .u8 0, .int .u8 0, .int .u8 0, .int .u8 0, .int .u8 0, .int .u8 0, .int .u8 0, .int .u8 0, .int .u8 0, .int .u8 0, .int .u8 0, .int .u8 0, .int .u8 0, .int .u8 0, .int .u8 0, .int .u8 0, .int .u8 0, .int .u8 0, .int .u8 0], .arr 24 5⟩ (.node (.nil) 266 ⟨1, 24, .slice none 0 0, .sl 5⟩ (.nil))))) 272 ⟨1, 8, .int .u64 0, .int .u64⟩ (.node (.node (.node (.node (.node (.nil) 296 ⟨1, 24, .slice none 0 0, .sl 3⟩ (.nil)) 304 ⟨20, 160, .agg #[.int .u64 0, .int .u64 0, .int .u64 0, .int .u64 0, .int .u64 0, .int .u64 0, .int .u64 0, .int .u64 0, .int .u64 0, .int .u64 0, .int .u64 0, .int .u64 0, .int .u64 0, .int .u64 0, .int .u64 0, .int .u64 0, .int .u64 0, .int .u64 0, .int .u64 0, .int .u64 0], .arr 20 234⟩ (.nil)) 305 ⟨65, 65, .agg #[.int .u8 0, .int .u8 0, .int .u8 0, .int .u8 0, .int .u8 0, .int .u8 0, .int .u8 0, .int .u8 0, .int .u8 0, .int .u8 0, .int .u8 0, .int .u8 0, .int .u8 0, .int .u8 0, .int .u8 0, .int .u8 0, .int .u8 0, .int .u8 0, .int .u8 0, .int .u8 0, .int .u8 0, .int .u8 0, .int .u8 0, .int .u8 0, .int .u8 0, .int .u8 0, .int .u8 0, .int .u8 0, .int .u8 0, .int .u8 0, .int .u8 0, .int .u8 0, .int .u8 0, .int .u8 0, .int .u8 0, .int .u8 0, .int .u8 0, .int .u8 0, .int .u8 0, .int .u8 0, .int .u8 0, .int .u8 0, .int .u8 0, .int .u8 0, .int .u8 0, .int .u8 0, .int .u8 0, .int .u8 0, .int .u8 0, .int .u8 0, .int .u8 0, .int .u8 0, .int .u8 0, .int .u8 0, .int .u8 0, .int .u8 0, .int .u8 0, .int .u8 0, .int .u8 0, .int .u8 0, .int .u8 0, .int .u8 0, .int .u8 0, .int .u8 0, .int .u8 0], .arr 65 5⟩ (.node (.nil) 318 ⟨1, 16, .nilIface, .oth⟩ (.nil))) 329 ⟨32, 32, .agg #[.int .u8 0, .int .u8 0, .int .u8 0, .int .u8 0, .int .u8 0, .int .u8 0, .int .u8 0, .int .u8 0, .int .u8 0, .int .u8 0, .int .u8 0, .int .u8 0, .int .u8 0, .int .u8 0, .int .u8 0, .int .u8 0, .int .u8 0, .int .u8 0, .int .u8 0, .int .u8 0, .int .u8 0, .int .u8 0, .int .u8 0, .int .u8 0, .int .u8 0, .int .u8 0, .int .u8 0, .int .u8 0, .int .u8 0, .int .u8 0, .int .u8 0, .int .u8 0], .arr 32 5⟩ (.node (.node (.nil) 330 ⟨64, 64, .agg #[.int .u8 0, .int .u8 0, .int .u8 0, .int .u8 0, .int .u8 0, .int .u8 0, .int .u8 0, .int .u8 0, .int .u8 0, .int .u8 0, .int .u8 0, .int .u8 0, .int .u8 0, .int .u8 0, .int .u8 0, .int .u8 0, .int .u8 0, .int .u8 0, .int .u8 0, .int .u8 0, .int .u8 0, .int .u8 0, .int .u8 0, .int .u8 0, .int .u8 0, .int .u8 0, .int .u8 0, .int .u8 0, .int .u8 0, .int .u8 0, .int .u8 0, .int .u8 0, .int .u8 0, .int .u8 0, .int .u8 0, .int .u8 0, .int .u8 0, .int .u8 0, .int .u8 0, .int .u8 0, .int .u8 0, .int .u8 0, .int .u8 0, .int .u8 0, .int .u8 0, .int .u8 0, .int .u8 0, .int .u8 0, .int .u8 0, .int .u8 0, .int .u8 0, .int .u8 0, .int .u8 0, .int .u8 0, .int .u8 0, .int .u8 0, .int .u8 0, .int .u8 0, .int .u8 0, .int .u8 0, .int .u8 0, .int .u8 0, .int .u8 0, .int .u8 0], .arr 64 5⟩ (.nil)) 331 ⟨256, 256, .agg #[.int .u8 0, .int .u8 0, .int .u8 0, .int .u8 0, .int .u8 0, .int .u8 0, .int .u8 0, .int .u8 0, .int .u8 0, .int .u8 0, .int .u8 0, .int .u8 0, .int .u8 0, .int .u8 0, .int .u8 0, .int .u8 0, .int .u8 0, .int .u8 0, .int .u8 0, .int .u8 0, .int .u8 0, .int .u8 0, .int .u8 0, .int .u8 0, .int .u8 0, .int .u8 0, .int .u8 0, .int .u8 0, .int .u8 0, .int .u8 0, .int .u8 0, .int .u8 0, .int .u8 0, .int .u8 0, .int .u8 0, .int .u8 0, .int .u8 0, .int .u8 0, .int .u8 0, .int .u8 0, .int .u8 0, .int .u8 0, .int .u8 0, .int .u8 0, .int .u8 0, .int .u8 0, .int .u8 0, .int .u8 0, .int .u8 0, .int .u8 0, .int .u8 0, .int .u8 0, .int .u8 0, .int .u8 0, .int .u8 0, .int .u8 0, .int .u8 0, .int .u8 0, .int .u8 0, .int .u8 0, .int .u8 0, .int .u8 0, .int .u8 0, .int .u8 0, .int .u8 0, .int .u8 0, .int .u8 0, .int .u8 0, .int .u8 0, .int .u8 0, .int .u8 0, .int .u8 0, .int .u8 0, .int .u8 0, .int .u8 0, .int .u8 0, .int .u8 0, .int .u8 0, .int .u8 0, .int .u8 0, .int .u8 0, .int .u8 0, .int .u8 0, .int .u8 0, .int .u8 0, .int .u8 0, .int .u8 0, .int .u8 0, .int .u8 0, .int .u8 0, .int .u8 0, .int .u8 0, .int .u8 0, .int .u8 0, .int .u8 0, .int .u8 0, .int .u8 0, .int .u8 0, .int .u8 0, .int .u8 0, .int .u8 0, .int .u8 0, .int .u8 0, .int .u8 0, .int .u8 0, .int .u8 0, .int .u8 0, .int .u8 0, .int .u8 0, .int .u8 0, .int .u8 0, .int .u8 0, .int .u8 0, .int .u8 0, .int .u8 0, .int .u8 0, .int .u8 0, .int .u8 0, .int .u8 0, .int .u8 0, .int .u8 0, .int .u8 0, .int .u8 0, .int .u8 0, .int .u8 0, .int .u8 0, .int .u8 0, .int .u8 0, .int .u8 0, .int .u8 0, .int .u8 0, .int .u8 0, .int .u8 0, .int .u8 0, .int .u8 0, .int .u8 0, .int .u8 0, .int .u8 0, .int .u8 0, .int .u8 0, .int .u8 0, .int .u8 0, .int .u8 0, .int .u8 0, .int .u8 0, .int .u8 0, .int .u8 0, .int .u8 0, .int .u8 0, .int .u8 0, .int .u8 0, .int .u8 0, .int .u8 0, .int .u8 0, .int .u8 0, .int .u8 0, .int .u8 0, .int .u8 0, .int .u8 0, .int .u8 0, .int .u8 0, .int .u8 0, .int .u8 0, .int .u8 0, .int .u8 0, .int .u8 0, .int .u8 0, .int .u8 0, .int .u8 0, .int .u8 0, .int .u8 0, .int .u8 0, .int .u8 0, .int .u8 0, .int .u8 0, .int .u8 0, .int .u8 0, .int .u8 0, .int .u8 0, .int .u8 0, .int .u8 0, .int .u8 0, .int .u8 0, .int .u8 0, .int .u8 0, .int .u8 0, .int .u8 0, .int .u8 0, .int .u8 0, .int .u8 0, .int .u8 0, .int .u8 0, .int .u8 0, .int .u8 0, .int .u8 0, .int .u8 0, .int .u8 0, .int .u8 0, .int .u8 0, .int .u8 0, .int .u8 0, .int .u8 0, .int .u8 0, .int .u8 0, .int .u8 0, .int .u8 0, .int .u8 0, .int .u8 0, .int .u8 0, .int .u8 0, .int .u8 0, .int .u8 0, .int .u8 0, .int .u8 0, .int .u8 0, .int .u8 0, .int .u8 0, .int .u8 0, .int .u8 0, .int .u8 0, .int .u8 0, .int .u8 0, .int .u8 0, .int .u8 0, .int .u8 0, .int .u8 0, .int .u8 0, .int .u8 0, .int .u8 0, .int .u8 0, .int .u8 0, .int .u8 0, .int .u8 0, .int .u8 0, .int .u8 0, .int .u8 0, .int .u8 0, .int .u8 0, .int .u8 0, .int .u8 0, .int .u8 0, .int .u8 0, .int .u8 0, .int .u8 0, .int .u8 0, .int .u8 0, .int .u8 0, .int .u8 0, .int .u8 0, .int .u8 0, .int .u8 0, .int .u8 0, .int .u8 0, .int .u8 0, .int .u8 0, .int .u8 0], .arr 256 5⟩ (.node (.nil) 333 ⟨2, 2, .agg #[.int .u8 0, .int .u8 0], .st [(0, 1, false), (1, 1, false)]⟩ (.nil)))) 334 ⟨32, 32, .agg #[.int .u8 0, .int .u8 0, .int .u8 0, .int .u8 0, .int .u8 0, .int .u8 0, .int .u8 0, .int .u8 0, .int .u8 0, .int .u8 0, .int .u8 0, .int .u8 0, .int .u8 0, .int .u8 0, .int .u8 0, .int .u8 0, .int .u8 0, .int .u8 0, .int .u8 0, .int .u8 0, .int .u8 0, .int .u8 0, .int .u8 0, .int .u8 0, .int .u8 0, .int .u8 0, .int .u8 0, .int .u8 0, .int .u8 0, .int .u8 0, .int .u8 0, .int .u8 0], .arr 16 333⟩ (.node (.node (.node (.node (.nil) 339 ⟨1, 8, .pointer none, .ptr 341⟩ (.nil)) 341 ⟨2, 32, .agg #[.pointer none, .slice none 0 0], .st [(0, 1, false), (1, 1, false)]⟩ (.nil)) 345 ⟨1, 8, .int .i64 0, .int .i64⟩ (.node (.nil) 347 ⟨1, 8, .pointer none, .ptr 353⟩ (.nil))) 350 ⟨1, 8, .pointer none, .ptr 5⟩ (.node (.node (.nil) 353 ⟨3, 48, .agg #[str [], str [], .nilIface], .st [(0, 1, false), (1, 1, false), (2, 1, false)]⟩ (.nil)) 359 ⟨1, 8, .pointer none, .ptr 361⟩ (.node (.nil) 361 ⟨1, 16, .agg #[str []], .st [(0, 1, false)]⟩ (.nil))))))
theorem tOK : tb.Ok Tryz.prog := ⟨⟨⟨⟨⟨⟨⟨trivial, tk2, trivial⟩, tk3, trivial⟩, tk4, ⟨trivial, tk5, trivial⟩⟩, tk9, ⟨⟨trivial, tk21, trivial⟩, tk22, ⟨trivial, tk26, trivial⟩⟩⟩, tk27, ⟨⟨⟨⟨trivial, tk29, trivial⟩, tk32, trivial⟩, tk33, ⟨trivial, tk46, trivial⟩⟩, tk48, ⟨⟨trivial, tk52, trivial⟩, tk56, ⟨trivial, tk65, trivial⟩⟩⟩⟩, tk74, ⟨⟨⟨⟨⟨trivial, tk75, trivial⟩, tk77, trivial⟩, tk79, ⟨trivial, tk87, trivial⟩⟩, tk90, ⟨⟨trivial, tk91, trivial⟩, tk93, ⟨trivial, tk95, trivial⟩⟩⟩, tk98, ⟨⟨⟨⟨trivial, tk101, trivial⟩, tk108, trivial⟩, tk117, ⟨trivial, tk124, trivial⟩⟩, tk127, ⟨⟨trivial, tk138, trivial⟩, tk163, ⟨trivial, tk167, trivial⟩⟩⟩⟩⟩, tk172, ⟨⟨⟨⟨⟨⟨trivial, tk182, trivial⟩, tk183, trivial⟩, tk185, ⟨trivial, tk197, trivial⟩⟩, tk199, ⟨⟨trivial, tk201, trivial⟩, tk203, ⟨trivial, tk212, trivial⟩⟩⟩, tk217, ⟨⟨⟨⟨trivial, tk223, trivial⟩, tk232, trivial⟩, tk234, ⟨trivial, tk254, trivial⟩⟩, tk259, ⟨⟨trivial, tk262, trivial⟩, tk264, ⟨trivial, tk266, trivial⟩⟩⟩⟩, tk272, ⟨⟨⟨⟨⟨trivial, tk296, trivial⟩, tk304, trivial⟩, tk305, ⟨trivial, tk318, trivial⟩⟩, tk329, ⟨⟨trivial, tk330, trivial⟩, tk331, ⟨trivial, tk333, trivial⟩⟩⟩, tk334, ⟨⟨⟨⟨trivial, tk339, trivial⟩, tk341, trivial⟩, tk345, ⟨trivial, tk347, trivial⟩⟩, tk350, ⟨⟨trivial, tk353, trivial⟩, tk359, ⟨trivial, tk361, trivial⟩⟩⟩⟩⟩⟩
end Go.Proofs.YtomkgfdigldhcaaGreatDoor
namespace Go.KX
mutual
def upV : SV → SV
  | .l j o => .l (j + 1000) o
  | .o j n => .o (j + 1000) n
  | .e j o => .e (j + 1000) o
  | .mp j => .mp (j + 1000)
  | .fm es => .fm es
  | .ni => .ni
  | .a cs => .a (upL cs)
  | .f n x y => .f n (upL x) (upL y)
  | .t vs => .t (upL vs)
  | .g b x => .g b (upV x)
  | .v v => .v v
  | .str s => .str s
  | .s z r => .s z r
  | .p c => .p c
def upL : List SV → List SV
  | [] => []
  | x :: r => upV x :: upL r
end
theorem upL_map : ∀ (l : List SV), upL l = l.map upV
  | [] => rfl
  | x :: r => by rw [upL, upL_map r]; rfl
theorem upL_len (l : List SV) : (upL l).length = l.length := by rw [upL_map, List.length_map]
theorem upL_get {l : List SV} {j : Nat} {sv : SV} (h : l[j]? = some sv) : (upL l)[j]? = some (upV sv) := by rw [upL_map, List.getElem?_map, h]; rfl
theorem upL_inv {l : List SV} {j : Nat} {sv : SV} (h : (upL l)[j]? = some sv) : ∃ sv0, l[j]? = some sv0 ∧ sv = upV sv0 := by
  rw [upL_map, List.getElem?_map] at h
  cases hl : l[j]? with
  | none => rw [hl] at h; cases h
  | some x => rw [hl] at h; cases h; exact ⟨x, rfl, rfl⟩
theorem Den.up {g : GW} {ρ ρ' : Nat → Lc} {sv x} (h : Den g ρ sv x) (e : ∀ i, ρ' (i + 1000) = ρ i) : Den g ρ' (upV sv) x := by
  induction h with
  | v => exact .v
  | str => exact .str
  | s xs h1 h2 hl hr ho hne hd _ => exact .s xs h1 h2 hl hr ho hne hd
  | p xs hl hf hc hd _ => exact .p xs hl hf hc hd
  | @l _ i off => rw [← e i]; exact .l
  | a xs hl _ ih => exact .a xs (by rw [upL_len]; exact hl) (fun j sv x h1 h2 => by obtain ⟨s0, h3, rfl⟩ := upL_inv h1; exact ih j s0 x h3 h2 e)
  | f xs ys hl _ hl2 _ ih ih2 =>
    exact .f xs ys (by rw [upL_len]; exact hl) (fun j sv x h1 h2 => by obtain ⟨s0, h3, rfl⟩ := upL_inv h1; exact ih j s0 x h3 h2 e) (by rw [upL_len]; exact hl2) (fun j sv x h1 h2 => by obtain ⟨s0, h3, rfl⟩ := upL_inv h1; exact ih2 j s0 x h3 h2 e)
  | t xs hl _ ih => exact .t xs (by rw [upL_len]; exact hl) (fun j sv x h1 h2 => by obtain ⟨s0, h3, rfl⟩ := upL_inv h1; exact ih j s0 x h3 h2 e)
  | gt _ ih => exact .gt (ih e)
  | gf => exact .gf
  | @o _ i n => rw [← e i]; exact .o
  | @e _ i off b o0 h' => exact .e (by rw [e i]; exact h')
  | fm raw ms clk hf hh he hk hd _ => exact .fm raw ms clk hf hh he hk hd
  | @mp _ i => rw [← e i]; exact .mp
  | ni => exact .ni
theorem Den.dn {g : GW} {ρ ρ' : Nat → Lc} {sv' x} (h : Den g ρ' sv' x) (e : ∀ i, ρ' (i + 1000) = ρ i) : ∀ sv, sv' = upV sv → Den g ρ sv x := by
  induction h with
  | v => intro sv h; cases sv <;> simp only [upV, reduceCtorEq, SV.v.injEq] at h; subst h; exact .v
  | str => intro sv h; cases sv <;> simp only [upV, reduceCtorEq, SV.str.injEq] at h; subst h; exact .str
  | s xs h1 h2 hl hr ho hne hd _ => intro sv h; cases sv <;> simp only [upV, reduceCtorEq, SV.s.injEq] at h; obtain ⟨rfl, rfl⟩ := h; exact .s xs h1 h2 hl hr ho hne hd
  | p xs hl hf hc hd _ => intro sv h; cases sv <;> simp only [upV, reduceCtorEq, SV.p.injEq] at h; subst h; exact .p xs hl hf hc hd
  | l => intro sv h; cases sv <;> simp only [upV, reduceCtorEq, SV.l.injEq] at h; obtain ⟨rfl, rfl⟩ := h; rw [e]; exact .l
  | a xs hl _ ih => intro sv h; cases sv <;> simp only [upV, reduceCtorEq, SV.a.injEq] at h; subst h; exact .a xs (by rw [← upL_len]; exact hl) (fun j sv x h1 h2 => ih j _ x (upL_get h1) h2 e sv rfl)
  | f xs ys hl _ hl2 _ ih ih2 =>
    intro sv h; cases sv <;> simp only [upV, reduceCtorEq, SV.f.injEq] at h; obtain ⟨rfl, rfl, rfl⟩ := h
    exact .f xs ys (by rw [← upL_len]; exact hl) (fun j sv x h1 h2 => ih j _ x (upL_get h1) h2 e sv rfl) (by rw [← upL_len]; exact hl2) (fun j sv x h1 h2 => ih2 j _ x (upL_get h1) h2 e sv rfl)
  | t xs hl _ ih => intro sv h; cases sv <;> simp only [upV, reduceCtorEq, SV.t.injEq] at h; subst h; exact .t xs (by rw [← upL_len]; exact hl) (fun j sv x h1 h2 => ih j _ x (upL_get h1) h2 e sv rfl)
  | gt _ ih => intro sv h; cases sv <;> simp only [upV, reduceCtorEq, SV.g.injEq] at h; obtain ⟨rfl, rfl⟩ := h; exact .gt (ih e _ rfl)
  | gf => intro sv h; cases sv <;> simp only [upV, reduceCtorEq, SV.g.injEq] at h; obtain ⟨rfl, rfl⟩ := h; exact .gf
  | o => intro sv h; cases sv <;> simp only [upV, reduceCtorEq, SV.o.injEq] at h; obtain ⟨rfl, rfl⟩ := h; rw [e]; exact .o
  | e h' => intro sv h; cases sv <;> simp only [upV, reduceCtorEq, SV.e.injEq] at h; obtain ⟨rfl, rfl⟩ := h; exact .e (by rw [← e]; exact h')
  | fm raw ms clk hf hh he hk hd _ => intro sv h; cases sv <;> simp only [upV, reduceCtorEq, SV.fm.injEq] at h; subst h; exact .fm raw ms clk hf hh he hk hd
  | mp => intro sv h; cases sv <;> simp only [upV, reduceCtorEq, SV.mp.injEq] at h; subst h; rw [e]; exact .mp
  | ni => intro sv h; cases sv <;> simp only [upV, reduceCtorEq] at h; exact .ni
theorem DenL.up {g : GW} {ρ ρ' : Nat → Lc} {svs xs} (h : DenL g ρ svs xs) (e : ∀ i, ρ' (i + 1000) = ρ i) : DenL g ρ' (upL svs) xs :=
  ⟨by rw [upL_len]; exact h.1, fun j sv x h1 h2 => by obtain ⟨s0, h3, rfl⟩ := upL_inv h1; exact (h.2 j s0 x h3 h2).up e⟩
theorem DenL.dn {g : GW} {ρ ρ' : Nat → Lc} {svs xs} (h : DenL g ρ' (upL svs) xs) (e : ∀ i, ρ' (i + 1000) = ρ i) : DenL g ρ svs xs :=
  ⟨by rw [← upL_len]; exact h.1, fun j sv x h1 h2 => (h.2 j _ x (upL_get h1) h2).dn e sv rfl⟩
def upB : MB → MB
  | .c T cs => .c T (upL cs)
  | .r T z rs => .r T z rs
  | .m es => .m es
  | .it i es js => .it (i + 1000) es js
  | .q T z rs => .q T z rs
def upM : SM → SM
  | [] => []
  | (i, m) :: r => (i + 1000, upB m) :: upM r
theorem DenB.up {g : GW} {ρ ρ' : Nat → Lc} {i : Nat} {mb : MB} {r : Res} (h : DenB g ρ i mb r) (e : ∀ i, ρ' (i + 1000) = ρ i) : DenB g ρ' (i + 1000) (upB mb) r := by
  cases h with
  | c xs hd h1 => rw [← e i]; exact .c xs (hd.up e) h1
  | r hz xs hl hd => rw [← e i]; exact .r hz xs hl hd
  | q hz xs hl hd => rw [← e i]; exact .q hz xs hl hd
  | m raw hk hd => rw [← e i]; exact .m raw hk hd
  | it raw hk hd => rename_i i0 es js; rw [← e i, ← e i0]; exact .it raw hk hd
theorem DenB.dn {g : GW} {ρ ρ' : Nat → Lc} {i : Nat} {mb : MB} {r : Res} (h : DenB g ρ' (i + 1000) (upB mb) r) (e : ∀ i, ρ' (i + 1000) = ρ i) : DenB g ρ i mb r := by
  cases mb with
  | c T cs => cases h with | c xs hd h1 => rw [e i]; exact .c xs (hd.dn e) h1
  | r T z rs => cases h with | r hz xs hl hd => rw [e i]; exact .r hz xs hl hd
  | q T z rs => cases h with | q hz xs hl hd => rw [e i]; exact .q hz xs hl hd
  | m es => cases h with | m raw hk hd => rw [e i]; exact .m raw hk hd
  | it i0 es js => cases h with | it raw hk hd => rw [e i, e i0]; exact .it raw hk hd
theorem DenM.up {g : GW} {ρ ρ' : Nat → Lc} (e : ∀ i, ρ' (i + 1000) = ρ i) : ∀ {M : SM} {ms : List Res}, DenM g ρ M ms → DenM g ρ' (upM M) ms
  | [], _, .nil => .nil
  | (_, _) :: _, _, .cons hb t => .cons (hb.up e) (DenM.up e t)
theorem DenM.dn {g : GW} {ρ ρ' : Nat → Lc} (e : ∀ i, ρ' (i + 1000) = ρ i) : ∀ {M : SM} {ms : List Res}, DenM g ρ' (upM M) ms → DenM g ρ M ms
  | [], _, h => by cases h; exact .nil
  | (_, _) :: _, _, h => by cases h with | cons hb t => exact .cons (hb.dn e) (DenM.dn e t)
def upS : SL → SL
  | [] => []
  | (t, v) :: r => (t, upV v) :: upS r
theorem upS_lk : ∀ {L : SL} {t : Nat} {sv : SV}, lkS (upS L) t = some sv → ∃ s0, lkS L t = some s0 ∧ sv = upV s0
  | [], t, sv, h => by cases h
  | (u, v) :: r, t, sv, h => by
    by_cases htu : t = u
    · subst htu
      simp only [upS] at h
      rw [lkS_same] at h ⊢
      cases h
      exact ⟨v, rfl, rfl⟩
    · simp only [upS] at h
      rw [lkS_ne _ _ htu] at h ⊢
      exact upS_lk h
/-- The loop's variables. -/
def putP : List Nat → List SV → SL → SL
  | p :: ps, v :: vs, L => putP ps vs ((p, v) :: L)
  | _, _, L => L
theorem putP_ok {g : GW} {ρ : Nat → Lc} : ∀ (ps : List Nat) {svs : List SV} {xs : List Value} {L : SL} {T : Array Value}, ps.all (fun p => Nat.blt p T.size) = true → DenL g ρ svs xs → (∀ t sv, lkS L t = some sv → ∃ x, T[t]? = some x ∧ Den g ρ sv x) →
    ((ps.zip xs).foldl (fun t p => t.setIfInBounds p.1 p.2) T).size = T.size ∧ ∀ t sv, lkS (putP ps svs L) t = some sv → ∃ x, ((ps.zip xs).foldl (fun t p => t.setIfInBounds p.1 p.2) T)[t]? = some x ∧ Den g ρ sv x
  | [], svs, xs, L, T, _, _, hL => ⟨by simp, by simpa [putP] using hL⟩
  | p :: ps, [], xs, L, T, _, hd, hL => by
    rw [hd.unnil]
    exact ⟨by simp, by simpa [putP] using hL⟩
  | p :: ps, sv :: svs, xs, L, T, hp, hd, hL => by
    obtain ⟨x, ys, rfl, dx, dr⟩ := hd.uncons
    simp only [List.all_cons, Bool.and_eq_true, Nat.blt_eq] at hp
    have hs : (T.setIfInBounds p x).size = T.size := by simp
    obtain ⟨h1, h2⟩ := putP_ok ps (svs := svs) (xs := ys) (L := (p, sv) :: L) (T := T.setIfInBounds p x) (by rw [hs]; exact hp.2) dr (fun t sv' ht => by
      by_cases htp : t = p
      · subst htp
        rw [lkS_same] at ht
        cases ht
        exact ⟨x, by simp [hp.1], dx⟩
      · rw [lkS_ne _ _ htp] at ht
        obtain ⟨y, hy, dy⟩ := hL t sv' ht
        exact ⟨y, by rw [Array.getElem?_setIfInBounds_ne (Ne.symm htp)]; exact hy, dy⟩)
    simp only [List.zip_cons_cons, List.foldl_cons]
    exact ⟨h1.trans hs, h2⟩
end Go.KX
namespace Go.KX
theorem Split.app : ∀ (ms r : List Res), Split (ms ++ r) ms r
  | [], _ => .nil
  | _ :: ms, r => .cons .head (Split.app ms r)
/-- What holds between the rounds; what holds when one has left the loop. -/
structure Rnd where
  J : Nat → GW → List Res → Prop
  Jx : GW → List Res → Prop
  mono : ∀ {j g g' ms}, FExt g g' → J j g ms → J j g' ms
  monox : ∀ {g g' ms}, FExt g g' → Jx g ms → Jx g' ms
def Rnd.f (R : Rnd) (j : Nat) (ms : List Res) : MF := ⟨fun g => R.J j g ms, R.mono⟩
def Rnd.fx (R : Rnd) (ms : List Res) : MF := ⟨fun g => R.Jx g ms, R.monox⟩
structure RP (g : GW) (ms : List Res) (A B : GW → List Res → Prop) (e : Ending) (w' : World) : Prop where
  ex : ∃ v g' ms', e = .returned v ∧ g'.w = w' ∧ Ext (blks ms) g g' ∧ Own ms' g' ∧ (∀ b ∈ blks ms', b ∈ blks ms ∨ g.w.heap.size ≤ b) ∧ ((v = .bool true ∧ A g' ms') ∨ (v = .bool false ∧ B g' ms'))
def RndOK (P : Program) (l : Nat) (R : Rnd) (args : List (List SV)) : Prop := ∀ (j : Nat) a, args[j]? = some a → ∀ g ms ρ vs, R.J j g ms → Own ms g → DenL g ρ a vs →
  ∃ fn tmps assign body, (Instr.yield l vs.toArray).run P g.w = .ok (.round l fn tmps assign body) g.w ∧ RoundIn Fence.wide 0 P l fn tmps assign body g.w (RP g ms (R.J (j + 1)) R.Jx)
/-- It calls yield so many times, one list of arguments behind the other; what else there is in the world is the rounds' own. -/
def Itr (P : Program) (fs : List MF) (f : FuncId) (caps : List SV) (args : List (List SV)) : Prop := Callable P f ∧ ∀ l (R : Rnd) ρ g vs ms, All fs g → DenL g ρ caps vs → RndOK P l R args → R.J 0 g ms → Own ms g →
  Calls P f (#[.func (.yield l) #[] #[]] ++ vs.toArray) g.w fun e w' => ∃ v g' ms', e = .returned v ∧ g'.w = w' ∧ Ext (blks ms) g g' ∧ Own ms' g' ∧ (∀ b ∈ blks ms', b ∈ blks ms ∨ g.w.heap.size ≤ b) ∧ (R.J args.length g' ms' ∨ R.Jx g' ms')
structure RtI (X : Kx) (fs : List MF) (R : Rnd) (n : Nat) : Prop where
  ret : ∀ {k L M ms}, E X (.code .ret :: k) L M (R.f n ms :: fs) ms
  fall : ∀ {L M ms}, E X [] L M (R.f n ms :: fs) ms
  retx : ∀ {k L M ms}, E X (.code .ret :: k) L M (R.fx ms :: fs) ms
theorem itrb {P : Program} {fs : List MF} {tb : TT} (hT : tb.Ok P) {f : FuncId} {fn : Func} {c : Code} {caps : List SV} {args : List (List SV)} (n : Nat) (hf : P.funcs[f]? = some fn) (hrs : fn.results = #[])
    (h : ∀ l R, RndOK P l R args → ∀ g0 B0 Q ρ0 ms0, RtI ⟨⟨P, n, g0, B0, Q, none, []⟩, ρ0⟩ fs R args.length → E ⟨⟨P, n, g0, B0, Q, none, []⟩, ρ0⟩ [.code c] (initS (.v (.func (.yield l) #[] #[]) :: caps) 0) [] (R.f 0 ms0 :: fs) ms0) (hb : fn.body = some c := by rfl) (hname : (fn.name == "runtime.NumGoroutine") = false := by kernel_rfl) (hn : fn.ntmps = n := by rfl) (hle : caps.length + 1 ≤ n := by exact Nat.le_of_ble_eq_true rfl) : Itr P fs f caps args := by
  refine ⟨⟨fn, hf, by simp [hb], hname⟩, fun l R ρ g vs ms hfs ha hR hJ hO => ?_⟩
  refine calls_of_wp hf hb (wpIn_wide (n := 0) |>.1 ?_)
  let Post : Ending → World → Prop := fun e w' => ∃ v g' ms', e = .returned v ∧ g'.w = w' ∧ Ext (blks ms) g g' ∧ Own ms' g' ∧ (∀ b ∈ blks ms', b ∈ blks ms ∨ g.w.heap.size ≤ b) ∧ (R.J args.length g' ms' ∨ R.Jx g' ms')
  have hpost : ∀ (a : Act) (g' : GW) L M' ms' (F : MF), (F.p g' → R.J args.length g' ms' ∨ R.Jx g' ms') → ESt ⟨⟨P, n, g, blks ms, bodyPost P fn Post, none, []⟩, ρ⟩ L M' (F :: fs) ms' g' a →
      a.defers = [] ∧ ∃ v, (results fn a.tmps).run P g'.w = .ok v g'.w ∧ Post (.returned v) g'.w := by
    intro a g' L M' ms' F hF hst
    obtain ⟨ρ', msl, s1, s2, s3⟩ := hst
    obtain ⟨v, hv, _⟩ := results_ok (X := ⟨⟨P, n, g, blks ms, bodyPost P fn Post, none, []⟩, ρ⟩) (rs := []) (svs := []) hT s1 s2 s3 hrs rfl
    have s4 := (s1.perm (List.perm_append_comm (l₁ := msl) (l₂ := ms'))).drop
    exact ⟨s1.kn.defers, v, hv, v, g', ms', rfl, rfl, s1.ext, s4.own, s4.new, hF (s1.all F (.head _))⟩
  refine h l R hR g (blks ms) (bodyPost P fn Post) ρ ms ⟨?_, ?_, ?_⟩ g _ ?_
  · intro k L M' ms' g' a hst
    refine wpIn_ret ?_
    rw [cont_ret]
    exact hpost a g' L M' ms' _ .inl hst
  · intro L M' ms' g' a hst
    exact hpost a g' L M' ms' _ .inl hst
  · intro k L M' ms' g' a hst
    refine wpIn_ret ?_
    rw [cont_ret]
    exact hpost a g' L M' ms' _ .inr hst
  · have hd : DenL g ρ (.v (.func (.yield l) #[] #[]) :: caps) (.func (.yield l) #[] #[] :: vs) := DenL.cons .v ha
    refine ⟨ρ, [], ⟨⟨by simp [hn, ha.1]; omega, rfl, fun i v hi => by simp [lk] at hi⟩, All.cons hJ hfs, by simpa using hO, Ext.refl _ g, fun b hb => .inl (by simpa using hb)⟩, .nil, fun i _ => rfl, fun t sv ht => ?_⟩
    obtain ⟨j, rfl, hj⟩ := initS_lk _ 0 t sv ht
    obtain ⟨x, hx, dx⟩ := hd.get hj
    refine ⟨x, ?_, dx⟩
    have hlt : j < (Value.func (.yield l) #[] #[] :: vs).length := by
      rcases Nat.lt_or_ge j (Value.func (.yield l) #[] #[] :: vs).length with h | h
      · exact h
      · rw [List.getElem?_eq_none h] at hx; cases hx
    simp only [Nat.zero_add]
    rw [Array.getElem?_append_left (by simp at hlt ⊢; omega)]
    have e : (#[Value.func (.yield l) #[] #[]] ++ vs.toArray) = (Value.func (.yield l) #[] #[] :: vs).toArray := by simp
    rw [e]
    simpa using hx
section
variable {X : Kx} {k : List It} {L : SL} {M : SM} {fs : List MF} {own : List Res} {arr : Array Oper} {l : List Oper} {o : Oper}
/-- A loop, where what is owned and what is known turns with the state. -/
theorem E_loopO {σ : Type} (I : σ → Prop) (μ : σ → Nat) (Ls : σ → SL) (Fs : σ → List MF) (Os : σ → List Res) {body : Code} (s0 : σ) (h0 : I s0)
    (round : ∀ (J : Act → World → Prop) s, I s → (∀ s' {L' M'}, I s' → μ s' < μ s → (_ : subS L' (Ls s') := by (repeat (first | exact trivial | refine ⟨rfl, ?_⟩ | refine ⟨ivE (by omega), ?_⟩ | refine ⟨ivE (by simp; done), ?_⟩ | refine ⟨ivE (by simp <;> omega), ?_⟩))) → E X (.lp J :: k) L' M' (Fs s') (Os s')) → E X (.code body :: .lp J :: k) (Ls s) [] (Fs s) (Os s))
    (hL : subS L (Ls s0) := by (repeat (first | exact trivial | refine ⟨rfl, ?_⟩ | refine ⟨ivE (by omega), ?_⟩ | refine ⟨ivE (by simp; done), ?_⟩ | refine ⟨ivE (by simp <;> omega), ?_⟩))) : E X (.code (.loop body) :: k) L M (Fs s0) (Os s0) := by
  intro g a hs
  have none_ : ∀ M : SM, keepM (fun _ => false) M = [] := by
    intro M
    induction M with
    | nil => rfl
    | cons p M ih => obtain ⟨i, m⟩ := p; simp [keepM, ih]
  exact wpIn_loop_s (fun s a w => I s ∧ ∃ g', ESt X (Ls s) [] (Fs s) (Os s) g' a ∧ g'.w = w) μ (fun s a w ⟨hI, g', hst, hw⟩ => by
    subst hw
    exact round (fun a' w' => ∃ s', (I s' ∧ ∃ g', ESt X (Ls s') [] (Fs s') (Os s') g' a' ∧ g'.w = w') ∧ μ s' < μ s) s hI
      (fun s' {L' M'} h1 h2 h3 g2 a' hst' => ⟨s', ⟨h1, g2, hst'.weak h3 _ (none_ _), rfl⟩, h2⟩) g' a hst) s0 a g.w
    ⟨h0, g, hs.weak hL _ (none_ _), rfl⟩
/-- yield is called. -/
theorem yw {R : Rnd} {lp j d : Nat} {ms : List Res} {args : List (List SV)} {av : List SV} {fo : Operand} {az : Array Operand} {ts : Array TypeId} {svs : List SV} (hR : RndOK X.P lp R args) (hj : args[j]? = some av)
    (ht : ∀ ms', ES X arr l k ((d, .v (.bool true)) :: L) M (R.f (j + 1) ms' :: fs) ms') (hf : ∀ ms', ES X arr l k ((d, .v (.bool false)) :: L) M (R.fx ms' :: fs) ms') (hg : o.guard = none := by rfl) (hd : o.dst = some d := by rfl) (ho : o.op = .call ⟨.value fo, az, ts⟩ := by rfl) (hfo : evS (lkS L) fo = some (.v (.func (.yield lp) #[] #[])) := by rfl)
    (ha : evs (lkS L) az.toList = some svs := by rfl) (hb : svs.map st1 = av := by rfl) (hc : svs.flatMap cd1 = [] := by rfl) (hn : Nat.blt d X.n = true := by rfl) : ES X arr (o :: l) k L M (R.f j ms :: fs) ms := by
  intro g a hE
  obtain ⟨ρ, msl, st⟩ := hE.open
  have hSl : Sl X ρ L a g := st.all _ (.tail _ (.head _))
  have hw : Region.wanted o (yielded arr a.tmps) = true := live_wanted (L := []) st.kn (live_none hg)
  have hfe : a.eval fo = .func (.yield lp) #[] #[] := by
    have := eval_den hSl.val hfo
    generalize a.eval fo = x at this
    cases this; rfl
  have hden := sts_ok (evals_den hSl.val ha) (by simp only [hc]; intro p hp; cases hp)
  rw [hb] at hden
  have st2 := st.perm (List.perm_append_comm (l₁ := msl) (l₂ := ms))
  have hJ : R.J j g ms := st2.all (R.f j ms) (.tail _ (.tail _ (.head _)))
  obtain ⟨fn, tmps, assign, body, hy, hr⟩ := hR j av hj g ms ρ _ hJ st2.own.left hden
  have hrun : (execOp a.eval o).run X.P g.w = .ok (.round lp fn tmps assign body) g.w := by
    have e : (az.toList.map a.eval).toArray = az.map a.eval := Array.ext' (by simp)
    rw [e] at hy
    simp only [execOp, ho, resolve, hfe]
    simpa [invoke, go_sem] using hy
  simp only [wl, hw, if_true, wn, hrun]
  refine RoundIn.mono hr ?_
  rintro e w' ⟨v, g', ms', rfl, rfl, hE', hO', hN', hv⟩
  refine ⟨v, rfl, ?_⟩
  rw [hd]
  have s' := st2.frame (fsc := []) (fs' := []) (Split.app ms msl) hE' (fun f hf => (by cases hf)) hO' hN' .nil
  have s3 := s'.perm (List.perm_append_comm (l₁ := ms') (l₂ := msl))
  simp only [List.nil_append] at s3
  rcases hv with ⟨rfl, hA⟩ | ⟨rfl, hB⟩
  · have s4 : St X.toCx [] (F1 ρ M msl :: F2 X ρ L a :: R.f (j + 1) ms' :: fs) (msl ++ ms') g' a := ⟨s3.kn, All.cons (s3.all _ (.head _)) (All.cons (s3.all _ (.tail _ (.head _))) (All.cons hA (fun f hf => s3.all f (.tail _ (.tail _ (.tail _ hf)))))), s3.own, s3.ext, s3.new⟩
    exact ht ms' g' _ (ESt.put s4 hn .v)
  · have s4 : St X.toCx [] (F1 ρ M msl :: F2 X ρ L a :: R.fx ms' :: fs) (msl ++ ms') g' a := ⟨s3.kn, All.cons (s3.all _ (.head _)) (All.cons (s3.all _ (.tail _ (.head _))) (All.cons hB (fun f hf => s3.all f (.tail _ (.tail _ (.tail _ hf)))))), s3.own, s3.ext, s3.new⟩
    exact hf ms' g' _ (ESt.put s4 hn .v)
end
end Go.KX
namespace Go.KX
def colD (D : Nat) : Deferred := { target := .collected D, args := #[] }
theorem ESt.reQ {P : Program} {n : Nat} {g0 : GW} {B0 : List Nat} {Q Q' : Exit → Act → World → Prop} {rd rd' : Option Nat} {df : List Deferred} {ρ0 : Nat → Lc} {L : SL} {M : SM} {fs : List MF} {own : List Res} {g : GW} {a : Act}
    (h : ESt ⟨⟨P, n, g0, B0, Q, rd, df⟩, ρ0⟩ L M fs own g a) : ESt ⟨⟨P, n, g0, B0, Q', rd', df⟩, ρ0⟩ L M fs own g a := by
  obtain ⟨ρ, ms, s1, s2, s3⟩ := h.ex
  exact ⟨ρ, ms, ⟨s1.kn, s1.all, s1.own, s1.ext, s1.new⟩, s2, s3.pin, s3.val⟩
theorem St.putO {X : Cx} {L : LL} {fs : List MF} {own' : List Res} {g : GW} {a : Act} {b : Nat} {o : Obj} (s : St X L fs (Res.blk b o :: own') g a) (o' : Obj) : ∃ g', g'.w = g.w.putObj b o' ∧ St X L fs (Res.blk b o' :: own') g' a := by
  have hlt : b < g.w.heap.size := s.own.lt b (by simp [Res.blk])
  refine s.turn (r' := Res.blk b o') .head (fun c hc hn => World.putObj_heap_other (by simpa [Res.blk] using hn)) rfl rfl rfl (by rw [World.putObj_size]; exact Nat.le_refl _) (World.putObj_heap_same hlt) (by simp [Res.blk]) (fun c hc => ?_) (fun c hc => .inl hc)
  have : c = b := by simpa [Res.blk] using hc
  rw [this, World.putObj_size]; exact hlt
theorem St.alloc2 {X : Cx} {L : LL} {fs : List MF} {own : List Res} {g : GW} {a : Act} (s : St X L fs own g a) (o1 o2 : Obj) : ∃ g' : GW, g'.w = (g.w.alloc o1).alloc o2 ∧ St X L fs (Res.blk (g.w.heap.size + 1) o2 :: Res.blk g.w.heap.size o1 :: own) g' a := by
  have sL := (s.alloc o1).alloc o2
  have e : (g.w.alloc o1).heap.size = g.w.heap.size + 1 := size_alloc g.w o1
  simp only [e] at sL
  exact ⟨_, rfl, sL⟩
theorem zip_fold (ps : Array Nat) (vs : List Value) (T : Array Value) : (ps.zip vs.toArray).foldl (fun tmps (p : Nat × Value) => tmps.setIfInBounds p.1 p.2) T = (ps.toList.zip vs).foldl (fun t p => t.setIfInBounds p.1 p.2) T := by
  rw [← Array.foldl_toList]
  simp
/-- A range over a function. -/
theorem E_range {X : Kx} {k : List It} {L : SL} {M : SM} {fs : List MF} {fo : Operand} {ps : Array Tmp} {assign body : Code} {gf : FuncId} {caps : List SV} {args : List (List SV)} {ι : Type} (Ms : Nat → SM) (Mx : ι → SM) (hit : Itr X.P fs gf caps args)
    (hround : ∀ (j : Nat) a, args[j]? = some a → ∀ (l : Nat) g0 B0 ρ0 Q1 Q2 own1 own2 (J : Act → World → Prop),
      (∀ {L' M'}, E ⟨⟨X.P, X.n, g0, B0, Q2, some l, []⟩, ρ0⟩ [.code body] L' M' fs own2 → E ⟨⟨X.P, X.n, g0, B0, Q1, some l, []⟩, ρ0⟩ [.lp J] L' M' fs own1) →
      (∀ {L' M'}, keepM (Nat.ble 1000) M' = upM (Ms (j + 1)) → E ⟨⟨X.P, X.n, g0, B0, Q2, some l, []⟩, ρ0⟩ [] L' M' fs own2) →
      (∀ {k' L' M'} (i : ι), keepM (Nat.ble 1000) M' = upM (Mx i) → E ⟨⟨X.P, X.n, g0, B0, Q2, some l, []⟩, ρ0⟩ (.code .ret :: k') L' M' fs own2) →
      E ⟨⟨X.P, X.n, g0, B0, Q1, some l, []⟩, ρ0⟩ [.code assign, .lp J] (putP ps.toList a (upS L)) (upM (Ms j)) fs own1)
    (hk : ∀ D, E { X with df := [colD D] } k L (Ms args.length) fs [Res.blk D (.deferred (some []))])
    (hx : ∀ D i, E { X with df := [colD D] } (.code .ret :: k) L (Mx i) fs [Res.blk D (.deferred (some []))])
    (hcl : ∀ a ∈ args, cloL a = true) (hps : ∀ a ∈ args, a.length = ps.size) (hfo : evS (lkS L) fo = some (.f gf [] caps) := by rfl) (hpn : ps.toList.all (fun p => Nat.blt p X.n) = true := by rfl) (hM : keepM (keysB (Ms 0)) M = Ms 0 := by rfl) (hrd : X.rd = none := by rfl) (hdf : X.df = [] := by rfl) : E X (.code (.rangeFunc fo ps assign body) :: k) L M fs [] := by
  intro g a hE
  obtain ⟨ρ, msl, s1, s2, s3⟩ := hE.ex
  obtain ⟨m1, m2, h4, h5⟩ := s2.keep (keysB (Ms 0))
  rw [hM] at h4
  have st0 : St X.toCx [] fs m1 g a := (s1.perm (by simpa using h5)).drop
  have st : St X.toCx [] (F1 ρ (Ms 0) m1 :: F2 X ρ L a :: fs) m1 g a := ⟨st0.kn, All.cons h4 (All.cons s3 st0.all), st0.own, st0.ext, st0.new⟩
  have dfo := eval_den s3.val hfo
  obtain ⟨xs, ys, hfe, d1, d2⟩ := den_f dfo
  obtain rfl := d1.unnil
  show (Code.rangeFunc fo ps assign body).wpIn (fen X.rd) 0 X.P (cont X.P X.rd X.Q k) a g.w
  refine wpIn_rangeFunc (fun fn _ => ?_)
  have hro : (fen X.rd).round = none := hrd
  rw [hro]
  obtain ⟨D, hD⟩ : ∃ D, D = g.w.heap.size := ⟨_, rfl⟩
  obtain ⟨rec, hrec⟩ : ∃ rec : LoopState → Option Code → Loop, rec = fun st pe => { state := st, pending := pe, fn, tmps := a.tmps, params := ps, assign, body, defers := D } := ⟨_, rfl⟩
  obtain ⟨gL, hgL, sL⟩ := st.alloc2 (.deferred (some [])) (.loop (rec .ready none))
  rw [← hD] at sL
  have hent := run_enterLoop_outer (P := X.P) (w := g.w) fn a.tmps ps assign body
  rw [← hD, show ({ state := .ready, pending := none, fn, tmps := a.tmps, params := ps, assign, body, defers := D } : Loop) = rec .ready none by rw [hrec], ← hgL] at hent
  have hfe' : a.eval fo = .func (.func gf) #[] ys.toArray := hfe
  refine ⟨D + 1, [colD D], gL.w, { target := .fn (.func gf) ys.toArray, args := #[.func (.yield (D + 1)) #[] #[]] }, gL.w, gf, #[.func (.yield (D + 1)) #[] #[]] ++ ys.toArray, gL.w, hent, ?_, fun _ _ => trivial, ?_, fun h => by simp [Fence.wide] at h, (callsIn_wide (n := 0)).2 ?_⟩
  · simp only [resolve, hfe']
    simp [go_sem]
  · simp [invoke, go_sem, run_callFunc hit.1]
  have sL2 := sL.perm (own' := (Res.blk (D + 1) (.loop (rec .ready none)) :: m1) ++ [Res.blk D (.deferred (some []))]) (by
    simp only [List.cons_append]
    exact List.Perm.cons _ ((List.perm_append_comm (l₁ := [Res.blk D (.deferred (some []))]) (l₂ := m1))))
  have hF2 : (F2 X ρ L a).p gL := sL2.all _ (.tail _ (.head _))
  have hAL : All fs gL := fun f hf => sL2.all f (.tail _ (.tail _ hf))
  let R : Rnd := {
    J := fun j g ms => ∃ mms, ms = Res.blk (D + 1) (.loop (rec .ready none)) :: mms ∧ DenM g ρ (Ms j) mms ∧ (F2 X ρ L a).p g ∧ All fs g
    Jx := fun g ms => ∃ i mms, ms = Res.blk (D + 1) (.loop (rec .done (some .ret))) :: mms ∧ DenM g ρ (Mx i) mms ∧ (F2 X ρ L a).p g ∧ All fs g
    mono := fun e ⟨mms, h1, h2, h3, h4⟩ => ⟨mms, h1, h2.mono e, (F2 X ρ L a).mono e h3, h4.mono e⟩
    monox := fun e ⟨i, mms, h1, h2, h3, h4⟩ => ⟨i, mms, h1, h2.mono e, (F2 X ρ L a).mono e h3, h4.mono e⟩ }
  have hcaps : DenL gL ρ caps ys := by
    have dfo' := eval_den (Sl.val hF2) hfo
    obtain ⟨_, ys', hfe2, _, d3⟩ := den_f dfo'
    rw [hfe] at hfe2
    have : ys = ys' := by
      have := hfe2
      simp only [Value.func.injEq] at this
      exact List.toArray_inj this.2.2
    rw [this]; exact d3
  have hRnd : RndOK X.P (D + 1) R args := by
    rintro j av hj g1 ms ρa vs ⟨mms, rfl, hM1, hS1, hA1⟩ hO1 hd1
    have hmem : av ∈ args := List.mem_of_getElem? hj
    have hl : g1.w.heap[D + 1]? = some (.loop (rec .ready none)) := hO1.p _ (.head _)
    have hy := run_yield (P := X.P) (args := vs.toArray) hl (by rw [hrec]; simpa using hd1.1.trans (hps av hmem))
    rw [hrec] at hy
    refine ⟨fn, _, assign, body, hy, roundIn_of_wpIn (n := 0) (F := Fence.wide) trivial ?_⟩
    let ms := Res.blk (D + 1) (.loop (rec .ready none)) :: mms
    let ρ0 : Nat → Lc := fun i => ρ (i - 1000)
    have eρ : ∀ i, ρ0 (i + 1000) = ρ i := fun i => by simp [ρ0]
    let RR := RP g1 ms (R.J (j + 1)) R.Jx
    let Q2 := roundPost X.P (D + 1) RR
    let J1 : Act → World → Prop := fun a₁ w₁ => ∃ w₂, (Instr.beginRound (D + 1)).run X.P w₁ = .ok () w₂ ∧ body.wpIn (Fence.wide.inRound (D + 1)) 0 X.P (roundPost X.P (D + 1) RR) a₁ w₂
    have fin : ∀ (stt : LoopState) (pe : Option Code) {L' M' M1 g4 a4}, ESt ⟨⟨X.P, X.n, g1, blks ms, Q2, some (D + 1), []⟩, ρ0⟩ L' M' fs [Res.blk (D + 1) (.loop { rec .ready none with state := .busy })] g4 a4 → keepM (Nat.ble 1000) M' = upM M1 →
        g4.w.heap[D + 1]? = some (.loop { rec .ready none with state := .busy }) ∧ ∃ g' m4, g'.w = g4.w.putObj (D + 1) (.loop (rec stt pe)) ∧ Ext (blks ms) g1 g' ∧ Own (Res.blk (D + 1) (.loop (rec stt pe)) :: m4) g' ∧ (∀ b ∈ blks (Res.blk (D + 1) (.loop (rec stt pe)) :: m4), b ∈ blks ms ∨ g1.w.heap.size ≤ b) ∧ DenM g' ρ M1 m4 ∧ (F2 X ρ L a).p g' ∧ All fs g' := by
      intro stt pe L' M' M1 g4 a4 s4 hk4
      obtain ⟨ρ4, ms4, t1, t2, t3⟩ := s4.ex
      obtain ⟨m4, m5, h6, h7⟩ := t2.keep (Nat.ble 1000)
      rw [hk4] at h6
      have e4 : ∀ i, ρ4 (i + 1000) = ρ i := fun i => (t3.pin _ (by omega)).trans (eρ i)
      have t1p := (t1.perm (own' := (Res.blk (D + 1) (.loop { rec .ready none with state := .busy }) :: m4) ++ m5) ((List.perm_append_comm (l₁ := ms4)).trans (List.Perm.cons _ h7))).drop
      have hl4 := t1p.own.p _ (.head _)
      have t5 : St _ [] (F1 ρ4 (upM M1) m4 :: fs) _ g4 a4 := ⟨t1p.kn, All.cons h6 t1p.all, t1p.own, t1p.ext, t1p.new⟩
      obtain ⟨g', hw, s'⟩ := t5.putO (.loop (rec stt pe))
      exact ⟨hl4, g', m4, hw, s'.ext, s'.own, s'.new, (show DenM g' ρ4 (upM M1) m4 from s'.all _ (.head _)).dn e4, (F2 X ρ L a).mono s'.ext.toFExt hS1, fun f hf => s'.all f (.tail _ hf)⟩
    have key := hround j av hj (D + 1) g1 (blks ms) ρ0 (fun _ _ _ => False) Q2 [Res.blk (D + 1) (.loop (rec .ready none))] [Res.blk (D + 1) (.loop { rec .ready none with state := .busy })] J1 ?_ ?_ ?_
    · refine key g1 { tmps := _, defers := [] } ?_
      have hd1' : DenL g1 ρ0 av vs := hd1.swap (hcl av hmem) ρ0
      have hsz : a.tmps.size = X.n := st0.kn.size
      obtain ⟨h8, h9⟩ := putP_ok ps.toList (g := g1) (ρ := ρ0) (svs := av) (xs := vs) (L := upS L) (T := a.tmps) (by rw [hsz]; exact hpn) hd1' (fun t sv ht => by
        obtain ⟨s0, h10, rfl⟩ := upS_lk ht
        obtain ⟨x, hx, dx⟩ := Sl.val hS1 t s0 h10
        exact ⟨x, hx, dx.up eρ⟩)
      rw [← zip_fold] at h8 h9
      exact ⟨ρ0, mms, ⟨⟨h8.trans hsz, rfl, fun i v hi => by simp [lk] at hi⟩, hA1, hO1.perm (List.perm_append_comm (l₁ := [_])), Ext.refl _ g1, fun b hb => .inl ((blks_perm (List.perm_append_comm (l₁ := mms) (l₂ := [_]))).subset hb)⟩, hM1.up eρ, fun _ _ => rfl, h9⟩
    · intro L' M' hb g2 a2 hs2
      obtain ⟨ρ2, ms2, t2⟩ := hs2.open
      have t3 := t2.perm (List.perm_append_comm (l₂ := [Res.blk (D + 1) (.loop (rec .ready none))]))
      have hl2 : g2.w.heap[D + 1]? = some (.loop (rec .ready none)) := t3.own.p _ (.head _)
      obtain ⟨g3, hw3, t4⟩ := St.putO t3 (.loop { rec .ready none with state := .busy })
      refine ⟨_, run_beginRound hl2 (by rw [hrec]), ?_⟩
      rw [← hw3]
      exact hb g3 a2 (ESt.reQ (ESt.close (t4.perm (List.perm_append_comm (l₁ := [_]) (l₂ := ms2)))))
    · intro L' M' hk4 g4 a4 s4
      obtain ⟨hl4, g', m4, hw, q1, q2, q3, q4, q5, q6⟩ := fin .ready none s4 hk4
      have hr := run_endRound (P := X.P) none hl4
      refine ⟨_, _, hr, .bool true, g', Res.blk (D + 1) (.loop (rec .ready none)) :: m4, rfl, ?_, q1, q2, q3, .inl ⟨rfl, m4, rfl, q4, q5, q6⟩⟩
      rw [hw, hrec]; rfl
    · intro k' L' M' i hk4 g4 a4 s4
      obtain ⟨hl4, g', m4, hw, q1, q2, q3, q4, q5, q6⟩ := fin .done (some .ret) s4 hk4
      refine wpIn_ret ?_
      have hr := run_endRound (P := X.P) (some .ret) hl4
      rw [cont_ret]
      refine ⟨_, _, hr, .bool false, g', Res.blk (D + 1) (.loop (rec .done (some .ret))) :: m4, rfl, ?_, q1, q2, q3, .inr ⟨rfl, i, m4, rfl, q4, q5, q6⟩⟩
      rw [hw, hrec]; rfl
  refine (hit.2 (D + 1) R ρ gL ys _ hAL hcaps hRnd ⟨m1, rfl, sL2.all _ (.head _), hF2, hAL⟩ sL2.own.left).mono ?_
  rintro e w2 ⟨v, g2, ms2, rfl, rfl, hE2, hO2, hN2, hJ2⟩
  have s5 := sL2.frame (fsc := []) (fs' := []) (Split.app _ [Res.blk D (.deferred (some []))]) hE2 (fun f hf => (by cases hf)) hO2 hN2 .nil
  have fin : ∀ (stt : LoopState) (pe : Option Code) mms M1, ms2 = Res.blk (D + 1) (.loop (rec stt pe)) :: mms → DenM g2 ρ M1 mms → (F2 X ρ L a).p g2 → All fs g2 →
      g2.w.heap[D + 1]? = some (.loop (rec stt pe)) ∧ ∃ g3 : GW, g3.w = g2.w.putObj (D + 1) (.loop { rec stt pe with state := .exhausted }) ∧ ESt { X with df := [colD D] } L M1 fs [Res.blk D (.deferred (some []))] g3 { a with defers := [colD D] ++ a.defers } := by
    rintro stt pe mms M1 rfl hM3 hS3 hA3
    have s6 : St X.toCx [] (F1 ρ M1 mms :: F2 X ρ L a :: fs) (Res.blk (D + 1) (.loop (rec stt pe)) :: (mms ++ [Res.blk D (.deferred (some []))])) g2 a := ⟨s5.kn, All.cons hM3 (All.cons hS3 hA3), s5.own, s5.ext, s5.new⟩
    obtain ⟨g3, hw3, s7⟩ := s6.putO (.loop { rec stt pe with state := .exhausted })
    refine ⟨s6.own.p _ (.head _), g3, hw3, ?_⟩
    have s8 := (s7.perm (List.perm_append_comm (l₁ := [_]))).drop
    have hS4 : Sl X ρ L a g3 := s8.all _ (.tail _ (.head _))
    refine ⟨ρ, mms, ⟨⟨s8.kn.size, ?_, fun i v hi => by simp [lk] at hi⟩, fun f hf => s8.all f (.tail _ (.tail _ hf)), s8.own, s8.ext, s8.new⟩, s8.all _ (.head _), hS4.pin, hS4.val⟩
    show [colD D] ++ a.defers = [colD D]
    rw [s8.kn.defers, hdf]; rfl
  rcases hJ2 with ⟨mms, hms, hM3, hS3, hA3⟩ | ⟨i, mms, hms, hM3, hS3, hA3⟩
  · obtain ⟨hl2, g3, hw3, hs⟩ := fin _ _ mms _ hms hM3 hS3 hA3
    have hr := run_endLoop (P := X.P) hl2 (by rw [hrec]; simp)
    have hp : (rec .ready none).pending = none := by rw [hrec]
    exact ⟨(rec .ready none).pending, g3.w, by rw [hw3]; exact hr, by rw [hp]; exact hk D g3 _ hs⟩
  · obtain ⟨hl2, g3, hw3, hs⟩ := fin _ _ mms _ hms hM3 hS3 hA3
    have hr := run_endLoop (P := X.P) hl2 (by rw [hrec]; simp)
    have hp : (rec .done (some .ret)).pending = some .ret := by rw [hrec]
    exact ⟨(rec .done (some .ret)).pending, g3.w, by rw [hw3]; exact hr, by rw [hp]; exact hx D i g3 _ hs⟩
end Go.KX
namespace Go.KX
structure Rm (X : Kx) (fs : List MF) (tb : TT) (rs : List ResultVar) (res : SV) (D : Nat) : Prop where
  ret : ∀ {k L M svs}, resS tb L M rs = some svs → hiS (resVS svs) = true → resVS svs = res → E X (.code .ret :: k) L M fs [Res.blk D (.deferred (some []))]
  fall : ∀ {L M svs}, resS tb L M rs = some svs → hiS (resVS svs) = true → resVS svs = res → E X [] L M fs [Res.blk D (.deferred (some []))]
theorem fbm {P : Program} {fs : List MF} {tb : TT} (hT : tb.Ok P) {f : FuncId} {fn : Func} {c : Code} {args : List SV} {res : SV} (n : Nat) (rs : List ResultVar)
    (hf : P.funcs[f]? = some fn) (hrs : fn.results = rs.toArray) (h : ∀ g0 B0 Q ρ0, Rt ⟨⟨P, n, g0, B0, Q, none, []⟩, ρ0⟩ fs tb rs (fun sv _ => sv = res) → (∀ D, Rm ⟨⟨P, n, g0, B0, Q, none, [colD D]⟩, ρ0⟩ fs tb rs res D) → E ⟨⟨P, n, g0, B0, Q, none, []⟩, ρ0⟩ [.code c] (initS args 0) [] fs []) (hb : fn.body = some c := by rfl)
    (hname : (fn.name == "runtime.NumGoroutine") = false := by kernel_rfl) (hn : fn.ntmps = n := by rfl) (hle : args.length ≤ n := by exact Nat.le_of_ble_eq_true rfl) : Fc P fs f args res := by
  refine ⟨⟨fn, hf, by simp [hb], hname⟩, fun ρ g vs hfs ha => ?_⟩
  refine (callsIn_wide (n := 0)).1 (callsIn_of_wp_marks hf hb trivial ?_)
  let Post : Ending → World → Prop := fun e w' => ∃ v g', e = .returned v ∧ g'.w = w' ∧ Ext [] g g' ∧ Den g' ρ res v
  have hpost0 : ∀ (a : Act) (g' : GW) L M' svs, resS tb L M' rs = some svs → hiS (resVS svs) = true → resVS svs = res → ESt ⟨⟨P, n, g, [], bodyPostM Fence.wide 0 P fn Post, none, []⟩, ρ⟩ L M' fs [] g' a → LeavesInM Fence.wide 0 P fn a.tmps Post a.defers .returning g'.w := by
    intro a g' L M' svs h1 h2 h3 hst
    obtain ⟨ρ', ms', s1, s2, s3⟩ := hst
    obtain ⟨v, hv, dv⟩ := results_ok (X := ⟨⟨P, n, g, [], _, none, []⟩, ρ⟩) hT s1 s2 s3 hrs h1
    rw [s1.kn.defers]
    exact ⟨v, hv, v, g', rfl, rfl, s1.ext, h3 ▸ dv.hi h2 ρ s3.pin⟩
  have hpost : ∀ D (a : Act) (g' : GW) L M' svs, resS tb L M' rs = some svs → hiS (resVS svs) = true → resVS svs = res → ESt ⟨⟨P, n, g, [], bodyPostM Fence.wide 0 P fn Post, none, [colD D]⟩, ρ⟩ L M' fs [Res.blk D (.deferred (some []))] g' a → LeavesInM Fence.wide 0 P fn a.tmps Post a.defers .returning g'.w := by
    intro D a g' L M' svs h1 h2 h3 hst
    obtain ⟨ρ', ms', st⟩ := hst.open
    have s1 := st.perm (List.perm_append_comm (l₂ := [Res.blk D (.deferred (some []))]))
    have hl : g'.w.heap[D]? = some (.deferred (some [])) := s1.own.p _ (.head _)
    obtain ⟨g2, hw, s2⟩ := St.putO s1 (.deferred none)
    have s3 := s2.perm (List.perm_append_comm (l₁ := [_]) (l₂ := ms'))
    have hS : Sl ⟨⟨P, n, g, [], bodyPostM Fence.wide 0 P fn Post, none, [colD D]⟩, ρ⟩ ρ' L a g2 := s3.all _ (.tail _ (.head _))
    obtain ⟨v, hv, dv⟩ := results_ok (X := ⟨⟨P, n, g, [], _, none, [colD D]⟩, ρ⟩) hT s3 (s3.all _ (.head _)) hS hrs h1
    rw [s1.kn.defers]
    refine ⟨by simp, .inl ⟨D, g2.w, rfl, by rw [hw]; exact run_takeDeferred hl, v, hv, v, g2, rfl, rfl, s3.ext, h3 ▸ dv.hi h2 ρ hS.pin⟩⟩
  refine h g [] (bodyPostM Fence.wide 0 P fn Post) ρ ⟨?_, ?_, fun _ _ _ h => h⟩ (fun D => ⟨?_, ?_⟩) g _ ?_
  · intro k L M' svs h1 h2 _ h4 g' a hst
    refine wpIn_ret ?_
    rw [cont_ret]
    exact hpost0 a g' L M' svs h1 h2 h4 hst
  · intro L M' svs h1 h2 _ h4 g' a hst
    exact hpost0 a g' L M' svs h1 h2 h4 hst
  · intro k L M' svs h1 h2 h4 g' a hst
    refine wpIn_ret ?_
    rw [cont_ret]
    exact hpost D a g' L M' svs h1 h2 h4 hst
  · intro L M' svs h1 h2 h4 g' a hst
    exact hpost D a g' L M' svs h1 h2 h4 hst
  · refine ⟨ρ, [], ⟨⟨by simp [hn, ha.1]; omega, rfl, fun i v hi => by simp [lk] at hi⟩, hfs, ⟨fun r hr => (by cases hr), List.nodup_nil, fun b hb => (by cases hb), fun b hb => (by cases hb)⟩, Ext.refl _ g, fun b hb => (by cases hb)⟩, .nil, fun i _ => rfl, fun t sv ht => ?_⟩
    obtain ⟨j, rfl, hj⟩ := initS_lk args 0 t sv ht
    obtain ⟨x, hx, dx⟩ := ha.get hj
    refine ⟨x, ?_, dx⟩
    have hlt : j < vs.length := by
      rcases Nat.lt_or_ge j vs.length with h | h
      · exact h
      · rw [List.getElem?_eq_none h] at hx; cases hx
    simp only [Nat.zero_add]
    rw [Array.getElem?_append_left (by simpa using hlt)]
    simpa using hx
section
variable {X : Kx} {k : List It} {L : SL} {M : SM} {fs : List MF} {arr : Array Oper} {l : List Oper} {o : Oper} {tb : TT} {rs : List ResultVar}
theorem erm {res : SV} {svs : List SV} {k' : List It} {D : Nat} (n : Nat) (R : Rm X fs tb rs res D) (he : resVS svs = res) (hk : normS (lkS L) 64 n k = .code .ret :: k' := by rfl) (hr : resS tb L M rs = some svs := by rfl) (hh : hiS (resVS svs) = true := by rfl) : E X k L M fs [Res.blk D (.deferred (some []))] :=
  norm_E 64 n (hk ▸ R.ret hr hh he)
theorem srm {res : SV} {svs : List SV} {k' : List It} {D : Nat} (n : Nat) (R : Rm X fs tb rs res D) (he : resVS svs = res) (hk : normS (lkS L) 64 n k = .code .ret :: k' := by rfl) (hr : resS tb L M rs = some svs := by rfl) (hh : hiS (resVS svs) = true := by rfl) : ES X arr [] k L M fs [Res.blk D (.deferred (some []))] := ES_nil (erm n R he hk hr hh)
end
end Go.KX
