/- ZS ZT VO VQ EG ZU ZV EH EI. -/
import Derived.Test.YtomkgfdigldhcaaGreatDoorLIH
import Derived.Lib.Bytealg
set_option maxRecDepth 100000
namespace Go.KX
section
variable {α : Type} (lt : α → α → Bool)
def lE (x : α) : List α → List α
 | [] => [x]
 | y :: r => if lt x y = true then y :: lE x r else x :: y :: r
def lF : List α → List α → List α
 | acc, [] => acc
 | acc, x :: l => lF (lE lt x acc) l
def bG (l : List α) : List α := (lF lt [] l).reverse
def gA (p : Nat → Bool) : Nat → Nat → Nat → Nat
 | 0, i, _ => i
 | f + 1, i, j => if i < j then (if p ((i + j) / 2) = true then gA p f ((i + j) / 2 + 1) j else gA p f i ((i + j) / 2)) else i
def uD (R : List α) (h : Nat) (x : α) : Bool := match R[h]? with
 | some y => lt y x
 | none => false
def uE (y : α) (L : List α) (h : Nat) : Bool := match L[h]? with
 | some x => !lt y x
 | none => false
def uF (L R : List α) (mid c : Nat) : Bool := match R[mid - 1 - c]?, L[c]? with
 | some y, some x => !lt y x
 | _, _ => false
def E4 (L R : List α) : Nat :=
 gA (uF lt L R ((L.length + R.length) / 2)) (L.length + R.length) (if (L.length + R.length) / 2 < L.length then (L.length + R.length) / 2 + L.length - (L.length + R.length) else 0) (if (L.length + R.length) / 2 < L.length then (L.length + R.length) / 2 else L.length)
def m6 : Nat → List α → List α → List α
 | 0, L, R => L ++ R
 | _ + 1, [], R => R
 | _ + 1, a :: L, [] => a :: L
 | _ + 1, [x], b :: R => let k := gA (fun h => uD lt (b :: R) h x) (R.length + 2) 0 (R.length + 1); (b :: R).take k ++ x :: (b :: R).drop k
 | _ + 1, a :: a2 :: L, [y] => let k := gA (uE lt y (a :: a2 :: L)) (L.length + 3) 0 (L.length + 2); (a :: a2 :: L).take k ++ y :: (a :: a2 :: L).drop k
 | f + 1, a :: a2 :: L, b :: b2 :: R =>
   let s := E4 lt (a :: a2 :: L) (b :: b2 :: R)
   let e := (L.length + R.length + 4) / 2 - s
   m6 f ((a :: a2 :: L).take s) ((b :: b2 :: R).take e) ++ m6 f ((a :: a2 :: L).drop s) ((b :: b2 :: R).drop e)
def wW : Nat → List α → List α
 | 0, l => l
 | f + 1, l => if 20 ≤ l.length then bG lt (l.take 20) ++ wW f (l.drop 20) else bG lt l
def yO (L R : List α) : List α := m6 lt (L.length + R.length) L R
def jC (z : Nat) : Nat → List α → List α
 | 0, l => l
 | f + 1, l => if 2 * z ≤ l.length then yO lt (l.take z) ((l.drop z).take z) ++ jC z f (l.drop (2 * z)) else if z < l.length then yO lt (l.take z) (l.drop z) else l
def qZ : Nat → Nat → List α → List α
 | 0, _, l => l
 | f + 1, z, l => if z < l.length then qZ f (2 * z) (jC lt z (l.length + 1) l) else l
def dD (l : List α) : List α := qZ lt (l.length + 1) 20 (wW lt (l.length + 1) l)
end
section
variable {α : Type} {lt : α → α → Bool}
theorem f5 {p : Nat → Bool} : ∀ (f i j : Nat), i ≤ j → j - i < f → i ≤ gA p f i j ∧ gA p f i j ≤ j ∧ (i < gA p f i j → p (gA p f i j - 1) = true) ∧ (gA p f i j < j → p (gA p f i j) = false)
 | 0, i, j, _, h => by omega
 | f + 1, i, j, hij, h => by
   unfold gA
   by_cases hlt : i < j
   ·rw [if_pos hlt]
    by_cases hp : p ((i + j) / 2) = true
    ·rw [if_pos hp]
     obtain ⟨h1, h2, h3, h4⟩ := f5 (p := p) f ((i + j) / 2 + 1) j (by omega) (by omega)
     refine ⟨by omega, h2, fun _ => ?_, h4⟩
     by_cases h5 : (i + j) / 2 + 1 < gA p f ((i + j) / 2 + 1) j
     ·exact h3 h5
     ·rw [show gA p f ((i + j) / 2 + 1) j - 1 = (i + j) / 2 by omega]; exact hp
    ·rw [if_neg hp]
     have hp : p ((i + j) / 2) = false := by simpa using hp
     obtain ⟨h1, h2, h3, h4⟩ := f5 (p := p) f i ((i + j) / 2) (by omega) (by omega)
     refine ⟨h1, by omega, h3, fun _ => ?_⟩
     by_cases h5 : gA p f i ((i + j) / 2) < (i + j) / 2
     ·exact h4 h5
     ·rw [show gA p f i ((i + j) / 2) = (i + j) / 2 by omega]; exact hp
   ·rw [if_neg hlt]
    exact ⟨Nat.le_refl _, hij, fun h => absurd h (Nat.lt_irrefl _), fun h => absurd h hlt⟩
structure kQ (lt : α → α → Bool) : Prop where
 asym : ∀ x y, lt x y = true → lt y x = false
 tr : ∀ x y z, lt y x = false → lt z y = false → lt z x = false
theorem kQ.lts (O : kQ lt) {x y z : α} (h : lt y x = false) (k : lt y z = true) : lt x z = true := by
 cases hx : lt x z with
 | true => rfl
 | false => have := O.tr z x y hx h; rw [this] at k; cases k
theorem kQ.ltt (O : kQ lt) {x y z : α} (h : lt x y = true) (k : lt z y = false) : lt x z = true := by
 cases hx : lt x z with
 | true => rfl
 | false => have := O.tr y z x k hx; rw [this] at h; cases h
def Up (lt : α → α → Bool) (l : List α) : Prop := l.Pairwise fun x y => lt y x = false
def Cls (lt : α → α → Bool) (q : α → Bool) : Prop := ∀ x y, q x = true → q y = true → lt x y = false
structure pM (lt : α → α → Bool) (l r : List α) : Prop where
 up : Up lt r
 perm : r.Perm l
 st : ∀ q, Cls lt q → r.filter q = l.filter q
theorem tU {l : List α} {q : α → Bool} (h : ∀ x ∈ l, q x = false) : l.filter q = [] := by
 rw [List.filter_eq_nil_iff]
 intro x hx
 rw [h x hx]
 simp
theorem E5 {A B : List α} (h : ∀ b ∈ B, ∀ a ∈ A, lt b a = true) {q : α → Bool} (hq : Cls lt q) : A.filter q ++ B.filter q = B.filter q ++ A.filter q := by
 by_cases hA : ∃ a ∈ A, q a = true
 ·obtain ⟨a, ha, hqa⟩ := hA
  have : B.filter q = [] := tU fun b hb => by
   cases hqb : q b with
   | false => rfl
   | true => have := hq b a hqb hqa; rw [h b hb a ha] at this; cases this
  rw [this, List.append_nil, List.nil_append]
 ·have : A.filter q = [] := tU fun a ha => by
   cases hqa : q a with
   | false => rfl
   | true => exact absurd ⟨a, ha, hqa⟩ hA
  rw [this, List.append_nil, List.nil_append]
theorem pM.append {L1 R1 L2 R2 r1 r2 : List α} (O : kQ lt) (h1 : pM lt (L1 ++ R1) r1) (h2 : pM lt (L2 ++ R2) r2) (hle : ∀ x ∈ L1 ++ R1, ∀ y ∈ L2 ++ R2, lt y x = false) (hlt : ∀ b ∈ R1, ∀ a ∈ L2, lt b a = true) : pM lt ((L1 ++ L2) ++ (R1 ++ R2)) (r1 ++ r2) := by
 refine ⟨List.pairwise_append.2 ⟨h1.up, h2.up, fun x hx y hy => hle x (h1.perm.mem_iff.1 hx) y (h2.perm.mem_iff.1 hy)⟩, ?_, fun q hq => ?_⟩
 ·refine (h1.perm.append h2.perm).trans ?_
  have e1 : L1 ++ R1 ++ (L2 ++ R2) = L1 ++ ((R1 ++ L2) ++ R2) := by simp
  have e2 : L1 ++ L2 ++ (R1 ++ R2) = L1 ++ ((L2 ++ R1) ++ R2) := by simp
  rw [e1, e2]
  exact (List.perm_append_comm.append_right R2).append_left L1
 ·have := E5 hlt hq
  rw [List.filter_append, h1.st q hq, h2.st q hq]
  simp only [List.filter_append, List.append_assoc]
  rw [← List.append_assoc (R1.filter q), ← this, List.append_assoc]
theorem Up.take {l : List α} (h : Up lt l) (n : Nat) : Up lt (l.take n) := h.sublist (List.take_sublist n l)
theorem Up.drop {l : List α} (h : Up lt l) (n : Nat) : Up lt (l.drop n) := h.sublist (List.drop_sublist n l)
theorem Up.le {l : List α} (h : Up lt l) {i j : Nat} (hij : i < j) (hj : j < l.length) : lt l[j] (l[i]'(by omega)) = false := List.pairwise_iff_getElem.1 h i j (by omega) hj hij
theorem kQ.irr (O : kQ lt) (x : α) : lt x x = false := by
 cases h : lt x x with
 | false => rfl
 | true => have := O.asym x x h; rw [h] at this; cases this
theorem Up.le' (O : kQ lt) {l : List α} (h : Up lt l) {i j : Nat} (hij : i ≤ j) (hj : j < l.length) : lt l[j] (l[i]'(by omega)) = false := by
 by_cases e : i = j
 ·subst e; exact O.irr _
 ·exact h.le (by omega) hj
theorem gR {l : List α} {n : Nat} {x : α} (h : x ∈ l.take n) : ∃ i, ∃ hi : i < l.length, i < n ∧ l[i] = x := by
 obtain ⟨i, hi, e⟩ := List.mem_iff_getElem.1 h
 simp only [List.length_take] at hi
 exact ⟨i, by omega, by omega, by rw [← e, List.getElem_take]⟩
theorem gU {l : List α} {n : Nat} {x : α} (h : x ∈ l.drop n) : ∃ i, ∃ hi : i < l.length, n ≤ i ∧ l[i] = x := by
 obtain ⟨i, hi, e⟩ := List.mem_iff_getElem.1 h
 simp only [List.length_drop] at hi
 exact ⟨n + i, by omega, by omega, by rw [← e, List.getElem_drop]⟩
theorem pM.one {x : α} {R : List α} (O : kQ lt) (hR : Up lt R) {k : Nat} (hk : k ≤ R.length) (h1 : ∀ y ∈ R.take k, lt y x = true) (h2 : ∀ y ∈ R.drop k, lt y x = false) : pM lt (x :: R) (R.take k ++ x :: R.drop k) := by
 have hA : pM lt ([] ++ R.take k) (R.take k) := ⟨hR.take k, .refl _, fun _ _ => rfl⟩
 have hB : pM lt ([x] ++ R.drop k) (x :: R.drop k) := ⟨List.pairwise_cons.2 ⟨fun y hy => h2 y hy, hR.drop k⟩, .refl _, fun _ _ => rfl⟩
 have := hA.append O hB (fun a ha b hb => by
  simp only [List.nil_append] at ha
  rcases List.mem_cons.1 hb with rfl | hb
  ·exact O.asym _ _ (h1 a ha)
  ·obtain ⟨i, hi, hik, rfl⟩ := gR ha
   obtain ⟨j, hj, hjk, rfl⟩ := gU hb
   exact hR.le (by omega) hj) (fun b hb a ha => by
  simp only [List.mem_singleton] at ha
  subst ha
  exact h1 b hb)
 simpa using this
theorem pM.last {y : α} {L : List α} (O : kQ lt) (hL : Up lt L) {k : Nat} (hk : k ≤ L.length) (h1 : ∀ x ∈ L.take k, lt y x = false) (h2 : ∀ x ∈ L.drop k, lt y x = true) : pM lt (L ++ [y]) (L.take k ++ y :: L.drop k) := by
 have hA : pM lt (L.take k ++ [y]) (L.take k ++ [y]) := ⟨List.pairwise_append.2 ⟨hL.take k, List.pairwise_singleton _ _, fun a ha b hb => by
  simp only [List.mem_singleton] at hb; subst hb; exact h1 a ha⟩, .refl _, fun _ _ => rfl⟩
 have hB : pM lt (L.drop k ++ []) (L.drop k) := ⟨hL.drop k, by simp, fun _ _ => by simp⟩
 have := hA.append O hB (fun a ha b hb => by
  simp only [List.append_nil] at hb
  rcases List.mem_append.1 ha with ha | ha
  ·obtain ⟨i, hi, hik, rfl⟩ := gR ha
   obtain ⟨j, hj, hjk, rfl⟩ := gU hb
   exact hL.le (by omega) hj
  ·simp only [List.mem_singleton] at ha
   subst ha
   exact O.asym _ _ (h2 b hb)) (fun b hb a ha => by
  simp only [List.mem_singleton] at hb
  subst hb
  exact h2 a ha)
 rw [List.take_append_drop, List.append_nil] at this
 simpa using this
theorem BO (O : kQ lt) : ∀ (f : Nat) (L R : List α), L.length + R.length ≤ f → Up lt L → Up lt R → pM lt (L ++ R) (m6 lt f L R)
 | 0, L, R, h, _, _ => by
   have h1 : L = [] := List.length_eq_zero_iff.1 (by omega)
   have h2 : R = [] := List.length_eq_zero_iff.1 (by omega)
   subst h1; subst h2
   exact ⟨List.Pairwise.nil, .refl _, fun _ _ => rfl⟩
 | f + 1, [], R, _, _, hR => ⟨hR, .refl _, fun _ _ => rfl⟩
 | f + 1, a :: L, [], _, hL, _ => ⟨by simpa [m6] using hL, by simp [m6], fun _ _ => by simp [m6]⟩
 | f + 1, [x], b :: R, _, _, hR => by
   obtain ⟨h1, h2, h3, h4⟩ := f5 (p := fun h => uD lt (b :: R) h x) (R.length + 2) 0 (R.length + 1) (by omega) (by omega)
   show pM lt (x :: b :: R) ((b :: R).take _ ++ x :: (b :: R).drop _)
   generalize gA (fun h => uD lt (b :: R) h x) (R.length + 2) 0 (R.length + 1) = k at h1 h2 h3 h4
   generalize hbR : b :: R = Q at hR h3 h4 ⊢
   have hQ : Q.length = R.length + 1 := by rw [← hbR]; rfl
   refine pM.one O hR (by omega) (fun y hy => ?_) (fun y hy => ?_)
   ·obtain ⟨i, hi, hik, rfl⟩ := gR hy
    have h5 := h3 (by omega)
    unfold uD at h5
    rw [List.getElem?_eq_getElem (by omega : k - 1 < Q.length)] at h5
    have := hR.le' O (i := i) (j := k - 1) (by omega) (by omega)
    exact O.lts this h5
   ·obtain ⟨j, hj, hjk, rfl⟩ := gU hy
    have h5 := h4 (by omega)
    unfold uD at h5
    rw [List.getElem?_eq_getElem (by omega : k < Q.length)] at h5
    have := hR.le' O (i := k) (j := j) hjk hj
    exact O.tr _ _ _ h5 this
 | f + 1, a :: a2 :: L, [y], _, hL, _ => by
   obtain ⟨h1, h2, h3, h4⟩ := f5 (p := uE lt y (a :: a2 :: L)) (L.length + 3) 0 (L.length + 2) (by omega) (by omega)
   show pM lt (a :: a2 :: L ++ [y]) ((a :: a2 :: L).take _ ++ y :: (a :: a2 :: L).drop _)
   generalize gA (uE lt y (a :: a2 :: L)) (L.length + 3) 0 (L.length + 2) = k at h1 h2 h3 h4
   generalize hbR : a :: a2 :: L = Q at hL h3 h4 ⊢
   have hQ : Q.length = L.length + 2 := by rw [← hbR]; rfl
   refine pM.last O hL (by omega) (fun x hx => ?_) (fun x hx => ?_)
   ·obtain ⟨i, hi, hik, rfl⟩ := gR hx
    have h5 := h3 (by omega)
    unfold uE at h5
    rw [List.getElem?_eq_getElem (by omega : k - 1 < Q.length)] at h5
    have h5 : lt y Q[k - 1] = false := by simpa using h5
    have := hL.le' O (i := i) (j := k - 1) (by omega) (by omega)
    exact O.tr _ _ _ this h5
   ·obtain ⟨j, hj, hjk, rfl⟩ := gU hx
    have h5 := h4 (by omega)
    unfold uE at h5
    rw [List.getElem?_eq_getElem (by omega : k < Q.length)] at h5
    have h5 : lt y Q[k] = true := by simpa using h5
    have := hL.le' O (i := k) (j := j) hjk hj
    exact O.ltt h5 this
 | f + 1, a :: a2 :: L, b :: b2 :: R, hf, hL, hR => by
   show pM lt (a :: a2 :: L ++ b :: b2 :: R) (m6 lt f ((a :: a2 :: L).take (E4 lt (a :: a2 :: L) (b :: b2 :: R))) ((b :: b2 :: R).take ((L.length + R.length + 4) / 2 - E4 lt (a :: a2 :: L) (b :: b2 :: R))) ++ m6 lt f ((a :: a2 :: L).drop (E4 lt (a :: a2 :: L) (b :: b2 :: R))) ((b :: b2 :: R).drop ((L.length + R.length + 4) / 2 - E4 lt (a :: a2 :: L) (b :: b2 :: R))))
   have hlen : L.length + R.length + 4 = (a :: a2 :: L).length + (b :: b2 :: R).length := by simp only [List.length_cons]; omega
   have hf2 : (a :: a2 :: L).length + (b :: b2 :: R).length ≤ f + 1 := hf
   have hA2 : 2 ≤ (a :: a2 :: L).length := by simp only [List.length_cons]; omega
   have hB2 : 2 ≤ (b :: b2 :: R).length := by simp only [List.length_cons]; omega
   rw [hlen]
   generalize a :: a2 :: L = A at *
   generalize b :: b2 :: R = B at *
   obtain ⟨mid, hmid⟩ : ∃ mid, mid = (A.length + B.length) / 2 := ⟨_, rfl⟩
   have hs := f5 (p := uF lt A B mid) (A.length + B.length) (if mid < A.length then mid + A.length - (A.length + B.length) else 0) (if mid < A.length then mid else A.length) (by split <;> omega) (by split <;> omega)
   have es : E4 lt A B = gA (uF lt A B mid) (A.length + B.length) (if mid < A.length then mid + A.length - (A.length + B.length) else 0) (if mid < A.length then mid else A.length) := by rw [hmid]; rfl
   rw [← es] at hs
   rw [← hmid]
   generalize E4 lt A B = s at hs ⊢
   obtain ⟨h1, h2, h3, h4⟩ := hs
   have hsA : s ≤ A.length := by split at h2 <;> omega
   have hsm : s ≤ mid := by split at h2 <;> omega
   have heB : mid - s ≤ B.length := by split at h1 <;> split at h2 <;> omega
   have hltBA : ∀ y ∈ B.take (mid - s), ∀ x ∈ A.drop s, lt y x = true := fun y hy x hx => by
    obtain ⟨i, hi, hik, rfl⟩ := gR hy
    obtain ⟨j, hj, hjk, rfl⟩ := gU hx
    have h5 := h4 (by split <;> omega)
    unfold uF at h5
    rw [List.getElem?_eq_getElem (by omega : mid - 1 - s < B.length), List.getElem?_eq_getElem (by omega : s < A.length)] at h5
    have h5 : lt B[mid - 1 - s] A[s] = true := by simpa using h5
    have g1 := hR.le' O (i := i) (j := mid - 1 - s) (by omega) (by omega)
    have g2 := hL.le' O (i := s) (j := j) hjk hj
    exact O.ltt (O.lts g1 h5) g2
   have hleAB : ∀ x ∈ A.take s, ∀ y ∈ B.drop (mid - s), lt y x = false := fun x hx y hy => by
    obtain ⟨i, hi, hik, rfl⟩ := gR hx
    obtain ⟨j, hj, hjk, rfl⟩ := gU hy
    have h5 := h3 (by split <;> split at h1 <;> omega)
    unfold uF at h5
    rw [List.getElem?_eq_getElem (by omega : mid - 1 - (s - 1) < B.length), List.getElem?_eq_getElem (by omega : s - 1 < A.length)] at h5
    have h5 : lt B[mid - 1 - (s - 1)] A[s - 1] = false := by simpa using h5
    have g1 := hR.le' O (i := mid - 1 - (s - 1)) (j := j) (by omega) hj
    have g2 := hL.le' O (i := i) (j := s - 1) (by omega) (by omega)
    exact O.tr _ _ _ (O.tr _ _ _ g2 h5) g1
   have r1 := BO O f (A.take s) (B.take (mid - s)) (by simp only [List.length_take]; omega) (hL.take s) (hR.take _)
   have r2 := BO O f (A.drop s) (B.drop (mid - s)) (by simp only [List.length_drop]; omega) (hL.drop s) (hR.drop _)
   have := r1.append O r2 (fun x hx y hy => by
    rcases List.mem_append.1 hx with hx | hx <;> rcases List.mem_append.1 hy with hy | hy
    ·obtain ⟨i, hi, hik, rfl⟩ := gR hx
     obtain ⟨j, hj, hjk, rfl⟩ := gU hy
     exact hL.le (by omega) hj
    ·exact hleAB x hx y hy
    ·exact O.asym _ _ (hltBA x hx y hy)
    ·obtain ⟨i, hi, hik, rfl⟩ := gR hx
     obtain ⟨j, hj, hjk, rfl⟩ := gU hy
     exact hR.le (by omega) hj) hltBA
   rw [List.take_append_drop, List.take_append_drop] at this
   exact this
theorem E6 (O : kQ lt) (x : α) : ∀ (l : List α), Up lt l.reverse → pM lt (l.reverse ++ [x]) (lE lt x l).reverse
 | [], _ => ⟨List.pairwise_singleton _ _, .refl _, fun _ _ => rfl⟩
 | y :: r, h => by
   unfold lE
   by_cases hxy : lt x y = true
   ·rw [if_pos hxy]
    have h0 : Up lt (r.reverse ++ [y]) := by simpa using h
    have hr : Up lt r.reverse := (List.pairwise_append.1 h0).1
    have ih := E6 O x r hr
    have hB : pM lt ([y] ++ []) [y] := ⟨List.pairwise_singleton _ _, .refl _, fun _ _ => rfl⟩
    have := ih.append O hB (fun a ha b hb => by
     simp only [List.append_nil, List.mem_singleton] at hb
     subst hb
     rcases List.mem_append.1 ha with ha | ha
     ·exact (List.pairwise_append.1 h0).2.2 a ha b (.head _)
     ·simp only [List.mem_singleton] at ha; subst ha; exact O.asym _ _ hxy) (fun b hb a ha => by
     simp only [List.mem_singleton] at ha hb
     subst ha; subst hb; exact hxy)
    simpa using this
   ·rw [if_neg hxy]
    have hxy : lt x y = false := by simpa using hxy
    have h0 : Up lt (r.reverse ++ [y]) := by simpa using h
    refine ⟨?_, by simp, fun q _ => by simp⟩
    simp only [List.reverse_cons]
    refine List.pairwise_append.2 ⟨h0, List.pairwise_singleton _ _, fun a ha b hb => ?_⟩
    simp only [List.mem_singleton] at hb
    subst hb
    rcases List.mem_append.1 ha with ha | ha
    ·exact O.tr _ _ _ ((List.pairwise_append.1 h0).2.2 a ha y (.head _)) hxy
    ·simp only [List.mem_singleton] at ha; subst ha; exact hxy
theorem pM.trans_app {l r x r2 : List α} (h1 : pM lt l r) (h2 : pM lt (r ++ x) r2) : pM lt (l ++ x) r2 :=
 ⟨h2.up, h2.perm.trans (h1.perm.append_right x), fun q hq => by rw [h2.st q hq, List.filter_append, List.filter_append, h1.st q hq]⟩
theorem wX (O : kQ lt) : ∀ (l acc l0 : List α), pM lt l0 acc.reverse → pM lt (l0 ++ l) (lF lt acc l).reverse
 | [], acc, l0, h => by simpa [lF] using h
 | x :: l, acc, l0, h => by
   have h1 := h.trans_app (E6 O x acc h.up)
   have := wX O l _ _ h1
   simpa [lF] using this
theorem zK (O : kQ lt) (l : List α) : pM lt l (bG lt l) := by
 have := wX O l [] [] ⟨List.Pairwise.nil, .refl _, fun _ _ => rfl⟩
 simpa [bG] using this
theorem E7 (O : kQ lt) {L R : List α} (hL : Up lt L) (hR : Up lt R) : pM lt (L ++ R) (yO lt L R) := BO O _ L R (Nat.le_refl _) hL hR
structure TN (lt : α → α → Bool) (z : Nat) (l r : List α) : Prop where
 up : ∀ i, Up lt ((r.drop (i * z)).take z)
 perm : r.Perm l
 st : ∀ q, Cls lt q → r.filter q = l.filter q
theorem TN.cons {z : Nat} {a a' l r : List α} (hz : a'.length = z) (h1 : pM lt a a') (h2 : TN lt z l r) : TN lt z (a ++ l) (a' ++ r) := by
 refine ⟨fun i => ?_, h1.perm.append h2.perm, fun q hq => by rw [List.filter_append, List.filter_append, h1.st q hq, h2.st q hq]⟩
 cases i with
 | zero => rw [Nat.zero_mul, List.drop_zero, List.take_append_of_le_length (by omega), ← hz, List.take_length]; exact h1.up
 | succ i =>
   rw [show (i + 1) * z = a'.length + i * z by rw [hz, Nat.add_mul, Nat.one_mul, Nat.add_comm], ← List.drop_drop, List.drop_left]
   exact h2.up i
theorem TN.short {z : Nat} {l r : List α} (h : pM lt l r) (hz : r.length ≤ z) : TN lt z l r := by
 refine ⟨fun i => ?_, h.perm, h.st⟩
 exact (h.up.drop _).take _
theorem J3 (O : kQ lt) : ∀ (f : Nat) (l : List α), l.length < f → TN lt 20 l (wW lt f l)
 | 0, l, h => by omega
 | f + 1, l, h => by
   unfold wW
   by_cases hl : 20 ≤ l.length
   ·rw [if_pos hl]
    have h1 := zK O (l.take 20)
    have h2 := J3 O f (l.drop 20) (by simp only [List.length_drop]; omega)
    have := TN.cons (by rw [h1.perm.length_eq, List.length_take]; omega) h1 h2
    rwa [List.take_append_drop] at this
   ·rw [if_neg hl]
    have h1 := zK O l
    exact .short h1 (by rw [h1.perm.length_eq]; omega)
theorem J4 (O : kQ lt) {z : Nat} (hz : 0 < z) : ∀ (f : Nat) (l : List α), l.length < f → (∀ i, Up lt ((l.drop (i * z)).take z)) → TN lt (2 * z) l (jC lt z f l)
 | 0, l, h, _ => by omega
 | f + 1, l, h, hu => by
   unfold jC
   have u0 : Up lt (l.take z) := by have := hu 0; rwa [Nat.zero_mul, List.drop_zero] at this
   have u1 : Up lt ((l.drop z).take z) := by have := hu 1; rwa [Nat.one_mul] at this
   by_cases hl : 2 * z ≤ l.length
   ·rw [if_pos hl]
    have h1 := E7 O u0 u1
    have h2 := J4 O hz f (l.drop (2 * z)) (by simp only [List.length_drop]; omega) (fun i => by
     have := hu (i + 2)
     rw [List.drop_drop, show 2 * z + i * z = (i + 2) * z by rw [Nat.add_mul, Nat.add_comm]]
     exact this)
    have := TN.cons (by rw [h1.perm.length_eq, List.length_append, List.length_take, List.length_take, List.length_drop]; omega) h1 h2
    have e : l.take z ++ (l.drop z).take z ++ l.drop (2 * z) = l := by
     rw [show 2 * z = z + z by omega, ← List.drop_drop, List.append_assoc, List.take_append_drop, List.take_append_drop]
    rwa [e] at this
   ·rw [if_neg hl]
    by_cases hl2 : z < l.length
    ·rw [if_pos hl2]
     have u1' : Up lt (l.drop z) := by rwa [List.take_of_length_le (by simp only [List.length_drop]; omega)] at u1
     have h1 := E7 O u0 u1'
     rw [List.take_append_drop] at h1
     exact .short h1 (by rw [h1.perm.length_eq]; omega)
    ·rw [if_neg hl2]
     refine .short ⟨?_, .refl _, fun _ _ => rfl⟩ (by omega)
     rwa [List.take_of_length_le (by omega)] at u0
theorem E8 (O : kQ lt) : ∀ (f z : Nat) (l l0 : List α), 0 < z → l.length < f + z → TN lt z l0 l → pM lt l0 (qZ lt f z l)
 | 0, z, l, l0, _, h, hb => by
   refine ⟨?_, hb.perm, hb.st⟩
   have := hb.up 0
   rw [Nat.zero_mul, List.drop_zero, List.take_of_length_le (by omega)] at this
   exact this
 | f + 1, z, l, l0, hz, h, hb => by
   unfold qZ
   by_cases hl : z < l.length
   ·rw [if_pos hl]
    have h1 := J4 O hz (l.length + 1) l (by omega) hb.up
    exact E8 O f (2 * z) _ l0 (by omega) (by rw [h1.perm.length_eq]; omega) ⟨h1.up, h1.perm.trans hb.perm, fun q hq => (h1.st q hq).trans (hb.st q hq)⟩
   ·rw [if_neg hl]
    refine ⟨?_, hb.perm, hb.st⟩
    have := hb.up 0
    rw [Nat.zero_mul, List.drop_zero, List.take_of_length_le (by omega)] at this
    exact this
theorem lY (O : kQ lt) (l : List α) : pM lt l (dD lt l) := by
 have h := J3 O (l.length + 1) l (by omega)
 exact E8 O _ _ _ _ (by decide) (by rw [h.perm.length_eq]; omega) h
end
section
variable {α : Type} {lt : α → α → Bool}
theorem wY : ∀ (l acc : List α) (x : α), lF lt acc (l ++ [x]) = lE lt x (lF lt acc l)
 | [], acc, x => rfl
 | y :: l, acc, x => by
   show lF lt (lE lt y acc) (l ++ [x]) = _
   rw [wY l]
   rfl
theorem wZ {S : List α} {k : Nat} (h : k < S.length) : bG lt (S.take (k + 1)) = (lE lt S[k] (bG lt (S.take k)).reverse).reverse := by
 unfold bG
 rw [List.take_succ_eq_append_getElem h, wY, List.reverse_reverse]
theorem E9 (x : α) : ∀ l : List α, (lE lt x l).length = l.length + 1
 | [] => rfl
 | y :: r => by
   unfold lE
   split
   ·simp [E9 x r]
   ·simp
theorem w8 : ∀ (l acc : List α), (lF lt acc l).length = acc.length + l.length
 | [], acc => rfl
 | x :: l, acc => by
   show (lF lt (lE lt x acc) l).length = _
   rw [w8 l, E9, List.length_cons]
   omega
theorem eE (l : List α) : (bG lt l).length = l.length := by
 unfold bG
 rw [List.length_reverse, w8]
 simp
theorem MQ {x y : α} {r : List α} (h : lt x y = false) : lE lt x (y :: r) = x :: y :: r := by
 conv => lhs; unfold lE
 rw [if_neg (by simp [h])]
theorem UV {x y : α} {r : List α} (h : lt x y = true) : lE lt x (y :: r) = y :: lE lt x r := by
 conv => lhs; unfold lE
 rw [if_pos h]
theorem BP : ∀ {A : List α}, A ≠ [] → ∃ A' y, A = A' ++ [y]
 | [], h => absurd rfl h
 | [a], _ => ⟨[], a, rfl⟩
 | a :: b :: r, _ => by
   obtain ⟨A', y, e⟩ := BP (A := b :: r) (by simp)
   exact ⟨a :: A', y, by rw [e]; rfl⟩
def jO (P X M Y Q : List α) (i : Nat) : List α := P ++ ((Y.take i ++ X.drop i) ++ (M ++ ((X.take i ++ Y.drop i) ++ Q)))
theorem J5 (P X M Y Q : List α) : jO P X M Y Q 0 = P ++ (X ++ (M ++ (Y ++ Q))) := by simp [jO]
theorem zL {P X M Y Q : List α} (h : X.length = Y.length) : jO P X M Y Q X.length = P ++ (Y ++ (M ++ (X ++ Q))) := by
 unfold jO
 rw [List.take_of_length_le (by omega : Y.length ≤ X.length), List.drop_of_length_le (Nat.le_refl _), List.take_of_length_le (Nat.le_refl _), List.drop_of_length_le (by omega : Y.length ≤ X.length)]
 simp
theorem zM {P X M Y Q : List α} (h : X.length = Y.length) {i : Nat} (hi : i ≤ X.length) : (jO P X M Y Q i).length = (P ++ (X ++ (M ++ (Y ++ Q)))).length := by
 unfold jO
 simp only [List.length_append, List.length_take, List.length_drop]
 omega
theorem FA {P X M Y Q : List α} (h : X.length = Y.length) {i : Nat} (hi : i < X.length) : ∃ U V : List α, ∃ x y, X[i]? = some x ∧ Y[i]? = some y ∧ jO P X M Y Q i = U ++ x :: V ∧ U.length = P.length + i ∧ ∃ V2 : List α, ∃ W, V = V2 ++ y :: W ∧ (U ++ y :: V2).length = P.length + X.length + M.length + i ∧ jO P X M Y Q (i + 1) = (U ++ y :: V2) ++ x :: W := by
 have hY : i < Y.length := by omega
 refine ⟨P ++ Y.take i, X.drop (i + 1) ++ (M ++ (X.take i ++ (Y[i] :: (Y.drop (i + 1) ++ Q)))), X[i], Y[i], List.getElem?_eq_getElem hi, List.getElem?_eq_getElem hY, ?_, ?_, X.drop (i + 1) ++ (M ++ X.take i), Y.drop (i + 1) ++ Q, ?_, ?_, ?_⟩
 ·unfold jO
  rw [List.drop_eq_getElem_cons hi, List.drop_eq_getElem_cons hY]
  simp only [List.append_assoc, List.cons_append]
 ·rw [List.length_append, List.length_take]; omega
 ·simp only [List.append_assoc]
 ·simp only [List.length_append, List.length_cons, List.length_take, List.length_drop]; omega
 ·unfold jO
  rw [List.take_succ_eq_append_getElem hi, List.take_succ_eq_append_getElem hY]
  simp only [List.append_assoc, List.cons_append, List.nil_append]
theorem FB {β : Type} {f : α → β} {U V2 W : List α} {x y : α} {j : Nat} (hj : (U ++ y :: V2).length = j) : (((U ++ x :: (V2 ++ y :: W)).map f).set U.length (f y)).set j (f x) = ((U ++ y :: V2) ++ x :: W).map f := by
 subst hj
 have e1 : ((U ++ x :: (V2 ++ y :: W)).map f).set U.length (f y) = (U ++ y :: V2).map f ++ f y :: W.map f := by
  rw [List.map_append, List.set_append_right _ _ (by simp)]
  simp
 rw [e1, List.set_append_right _ _ (by simp)]
 simp
theorem fJ {β : Type} {f : α → β} {U V : List α} {x : α} {j : Nat} (hj : U.length = j) : ((U ++ x :: V).map f)[j]? = some (f x) := by
 subst hj
 simp
theorem BQ {β : Type} {f : α → β} {U V2 W : List α} {x y z : α} {j : Nat} (hj : (U ++ z :: V2).length = j) : ((U ++ x :: (V2 ++ y :: W)).map f)[j]? = some (f y) := by
 have e : U ++ x :: (V2 ++ y :: W) = (U ++ x :: V2) ++ y :: W := by simp
 rw [e]
 refine fJ ?_
 rw [← hj]
 simp
theorem J6 {β : Type} {f : α → β} {U V2 W : List α} {x y z : α} {b : β} {j : Nat} (hj : (U ++ z :: V2).length = j) : (((U ++ x :: (V2 ++ y :: W)).map f).set U.length b)[j]? = some (f y) := by
 rw [List.getElem?_set_ne (by rw [← hj]; simp)]
 exact BQ hj
structure GQ (α : Type) where
 A : List α
 L : List α
 R : List α
 B : List α
structure GQ.ok (L R : List α) (s : GQ α) : Prop where
 e : s.A ++ (s.R ++ (s.L ++ s.B)) = R ++ L
 m : s.A.length + s.L.length = L.length
 l : 0 < s.L.length
 r : 0 < s.R.length
theorem GQ.ok.len {L R : List α} {s : GQ α} (h : s.ok L R) : s.A.length + s.R.length + s.L.length + s.B.length = R.length + L.length := by
 have := congrArg List.length h.e
 simp only [List.length_append] at this
 omega
theorem GQ.ge {L R : List α} {s : GQ α} (h : s.ok L R) (hlt : s.R.length < s.L.length) : ∃ X M, s.L = X ++ M ∧ X.length = s.R.length ∧ 0 < M.length ∧ GQ.ok L R ⟨s.A ++ s.R, M, X, s.B⟩ := by
 have hX : (s.L.take s.R.length).length = s.R.length := by rw [List.length_take]; omega
 have hM : (s.L.drop s.R.length).length = s.L.length - s.R.length := List.length_drop
 refine ⟨s.L.take s.R.length, s.L.drop s.R.length, (List.take_append_drop _ _).symm, hX, by omega, ?_, ?_, ?_, ?_⟩
 ·rw [← h.e]
  conv => rhs; rw [← List.take_append_drop s.R.length s.L]
  simp only [List.append_assoc]
 ·have := h.m
  simp only [List.length_append]; omega
 ·show 0 < (s.L.drop s.R.length).length
  omega
 ·show 0 < (s.L.take s.R.length).length
  have := h.r
  omega
theorem GQ.le {L R : List α} {s : GQ α} (h : s.ok L R) (hlt : s.L.length < s.R.length) : ∃ M Y, s.R = M ++ Y ∧ Y.length = s.L.length ∧ 0 < M.length ∧ GQ.ok L R ⟨s.A, Y, M, s.L ++ s.B⟩ := by
 have hX : (s.R.take (s.R.length - s.L.length)).length = s.R.length - s.L.length := by rw [List.length_take]; omega
 have hM : (s.R.drop (s.R.length - s.L.length)).length = s.L.length := by rw [List.length_drop]; omega
 refine ⟨s.R.take (s.R.length - s.L.length), s.R.drop (s.R.length - s.L.length), (List.take_append_drop _ _).symm, hM, by omega, ?_, ?_, ?_, ?_⟩
 ·rw [← h.e]
  conv => rhs; rw [← List.take_append_drop (s.R.length - s.L.length) s.R]
  simp only [List.append_assoc]
 ·have := h.m
  simp only []
  omega
 ·show 0 < (s.R.drop (s.R.length - s.L.length)).length
  have := h.l
  omega
 ·show 0 < (s.R.take (s.R.length - s.L.length)).length
  omega
theorem oW {β : Type} {f : α → β} {U V : List α} {x y : α} {i j : Nat} (hi : U.length = i) (hj : i + 1 = j) : (((U ++ x :: y :: V).map f).set j (f x)).set i (f y) = (U ++ y :: x :: V).map f := by
 subst hi; subst hj
 rw [List.map_append, List.set_append_right _ _ (by simp), List.set_append_right _ _ (by simp)]
 simp
theorem zN {β : Type} {f : α → β} {U V : List α} {x y : α} {i j : Nat} (hi : U.length = i) (hj : i + 1 = j) : (((U ++ x :: y :: V).map f).set i (f y)).set j (f x) = (U ++ y :: x :: V).map f := by
 subst hi; subst hj
 rw [List.map_append, List.set_append_right _ _ (by simp), List.set_append_right _ _ (by simp)]
 simp
theorem iM {β : Type} {f : α → β} {U V : List α} {x y : α} {j : Nat} (hj : U.length + 1 = j) : ((U ++ x :: y :: V).map f)[j]? = some (f y) := by
 subst hj
 rw [List.map_append, List.getElem?_append_right (by simp)]
 simp
theorem J7 {β : Type} {f : α → β} {U V : List α} {x y : α} {b : β} {i j : Nat} (hi : U.length = i) (hj : i + 1 = j) : (((U ++ x :: y :: V).map f).set i b)[j]? = some (f y) := by
 rw [List.getElem?_set_ne (by omega)]
 exact iM (by omega)
theorem uY {β : Type} {f : α → β} {U V : List α} {x y : α} {b : β} {i j : Nat} (hi : U.length = i) (hj : i + 1 = j) : (((U ++ x :: y :: V).map f).set j b)[i]? = some (f x) := by
 rw [List.getElem?_set_ne (by omega)]
 exact fJ hi
end
def cH {α : Type} (c : α → α → Int) : α → α → Bool := fun x y => decide (c x y < 0)
theorem J8 {α : Type} {lt : α → α → Bool} {x : α} {B T : List α} (h : (lE lt x ([] : List α).reverse).reverse ++ B = T) : x :: B = T := by rw [← h]; rfl
theorem FC {α : Type} {lt : α → α → Bool} {x y : α} {A B T : List α} (h : (lE lt x (A ++ [y]).reverse).reverse ++ B = T) (hl : lt x y = false) : A ++ y :: x :: B = T := by
 rw [← h, List.reverse_append, List.reverse_singleton, List.singleton_append, MQ hl]
 simp
theorem QJ {α : Type} {lt : α → α → Bool} {x y : α} {A B T : List α} (h : (lE lt x (A ++ [y]).reverse).reverse ++ B = T) (hl : lt x y = true) : (lE lt x A.reverse).reverse ++ (y :: B) = T := by
 rw [← h, List.reverse_append, List.reverse_singleton, List.singleton_append, UV hl]
 simp
def FD : SL → Bool
 | [] => true
 | (_, sv) :: r => TF sv && FD r
theorem s9 : ∀ {L : SL}, FD L = true → ∀ t sv, aF L t = some sv → TF sv = true
 | [], _, t, sv, h => by cases h
 | (u, x) :: r, hc, t, sv, h => by
  simp only [FD, Bool.and_eq_true] at hc
  by_cases htu : t = u
  ·subst htu
   rw [bF] at h
   cases h
   exact hc.1
  ·rw [bX _ _ htu] at h
   exact s9 hc.2 t sv h
section
variable {k : List It} {L : SL} {M : SM} {fs : List MF} {own : List aH} {arr : Array Oper} {l : List Oper} {o : Oper}
theorem aAK {cx : Cx} {ρ0 : Nat → Lc} (t i j : Nat) {n T sz : Nat} {rows : List (List SV)} {L1 : SL} (hj : 1000 ≤ j) (h : ∀ ρ1, E ⟨cx, ρ1⟩ k ((t, .o j n) :: L1) [(j, .r T sz rows)] fs own) (ht : aF L t = some (.o i n) := by rfl) (hc : FD L1 = true := by rfl) (hs : ∀ u sv, aF L1 u = some sv → aF L u = some sv) : E ⟨cx, ρ0⟩ k L [(i, .r T sz rows)] fs own := by
 intro g a s
 obtain ⟨ρ, ms, s1, s2, s3⟩ := s
 cases s2 with
 | cons hB tl =>
   cases tl
   cases hB with
   | r hz ys hl hd =>
     have hB' : bQ g (fun q => if q = j then ρ i else ρ q) j (.r T sz rows) (aH.arr (aC sz hz) T ((fun q => if q = j then ρ i else ρ q) j).ad ((fun q => if q = j then ρ i else ρ q) j).c ys) := .r hz ys hl hd
     simp only [if_pos] at hB'
     refine h (fun q => if q = j then ρ i else ρ q) g a ⟨fun q => if q = j then ρ i else ρ q, _, ⟨s1.kn, s1.all, s1.own, s1.ext, s1.new⟩, .cons hB' .nil, fun q _ => rfl, fun u sv hu => ?_⟩
     by_cases hut : u = t
     ·subst hut
      rw [bF] at hu
      cases hu
      obtain ⟨x, hx, dx⟩ := s3.val u _ ht
      refine ⟨x, hx, ?_⟩
      cases dx with
      | o =>
        have : bC g (fun q => if q = j then ρ i else ρ q) (.o j n) (.slice ((fun q => if q = j then ρ i else ρ q) j).ad n ((fun q => if q = j then ρ i else ρ q) j).c) := .o
        simpa using this
     ·rw [bX _ _ hut] at hu
      obtain ⟨x, hx, dx⟩ := s3.val u sv (hs u sv hu)
      exact ⟨x, hx, dx.swap (s9 hc u sv hu) _⟩
theorem UW {cx : Cx} {ρ0 ρ1 : Nat → Lc} (t i j : Nat) {n T sz : Nat} {rows : List (List SV)} {L1 : SL} (hi : i < 1000) (h : E ⟨cx, ρ0⟩ k ((t, .o i n) :: L1) [(i, .r T sz rows)] fs own) (ht : aF L t = some (.o j n) := by rfl) (hc : FD L1 = true := by rfl) (hs : ∀ u sv, aF L1 u = some sv → aF L u = some sv) : E ⟨cx, ρ1⟩ k L [(j, .r T sz rows)] fs own := by
 intro g a s
 obtain ⟨ρ, ms, s1, s2, s3⟩ := s
 cases s2 with
 | cons hB tl =>
   cases tl
   cases hB with
   | r hz ys hl hd =>
     have hB' : bQ g (fun q => if q = i then ρ j else ρ0 q) i (.r T sz rows) (aH.arr (aC sz hz) T ((fun q => if q = i then ρ j else ρ0 q) i).ad ((fun q => if q = i then ρ j else ρ0 q) i).c ys) := .r hz ys hl hd
     simp only [if_pos] at hB'
     refine h g a ⟨fun q => if q = i then ρ j else ρ0 q, _, ⟨s1.kn, s1.all, s1.own, s1.ext, s1.new⟩, .cons hB' .nil, fun q hq => ?_, fun u sv hu => ?_⟩
     ·have : q ≠ i := by omega
      simp only [if_neg this]
     by_cases hut : u = t
     ·subst hut
      rw [bF] at hu
      cases hu
      obtain ⟨x, hx, dx⟩ := s3.val u _ ht
      refine ⟨x, hx, ?_⟩
      cases dx with
      | o =>
        have : bC g (fun q => if q = i then ρ j else ρ0 q) (.o i n) (.slice ((fun q => if q = i then ρ j else ρ0 q) i).ad n ((fun q => if q = i then ρ j else ρ0 q) i).c) := .o
        simpa using this
     ·rw [bX _ _ hut] at hu
      obtain ⟨x, hx, dx⟩ := s3.val u sv (hs u sv hu)
      exact ⟨x, hx, dx.swap (s9 hc u sv hu) _⟩
variable {X : Kx}
theorem J9 {tb : TT} (hT : tb.Ok X.P) {T Te d i n sz b : Nat} {kk : IntKind} {z : Int} {x lo : Operand} {rows : List (List SV)} {dT de : TD} (hi : 1000 ≤ i) (hzb : z = (b : Int)) (hb : b < n) (hn : n = rows.length) (ho : o.op = .slice T x (some lo) none none) (hg : o.guard = none) (hd : o.dst = some d) (hdn : Nat.blt d X.n = true) (hx : cO (aF L) x = some (.o i n)) (hy : cO (aF L) lo = some (.v (.int kk z))) (hm : fZ M i = some (.r Te sz rows))
 (hT1 : tb.get T = some dT) (hk1 : dT.kd = .sl Te) (hT2 : tb.get Te = some de) (hsz : de.sz = sz) : Stp X arr o L M fs own (.v (.slice ((X.ρ0 i).ad.map (·.add (b * sz))) (n - b) ((X.ρ0 i).c - b))) M := by
 subst hzb hsz hn
 have hG : gS arr (aF L) o = some none := by unfold gS; rw [hg]
 refine bT (sv := .v (.slice ((X.ρ0 i).ad.map (·.add (b * de.sz))) (rows.length - b) ((X.ρ0 i).c - b))) hG hd hdn (fun L' hL hon g a ρ ms st => ?_)
 have hSl : Sl X ρ L' a g := st.all _ (.tail _ (.head _))
 have hM : aR g ρ M ms := st.all _ (.head _)
 have hev : evs (aF L') [x, lo] = some [.o i rows.length, .v (.int kk (b : Int))] := by
  have := aW hL
  rw [show o.op.operands.toList = [x, lo] by rw [ho]; rfl] at this
  rw [this]
  simp only [evs, hx, hy]
 obtain ⟨_, _, e1, dx, hr1⟩ := (aT hSl.val hev).uncons
 obtain ⟨_, _, e2, dy, _⟩ := hr1.uncons
 simp only [List.map_cons, List.cons.injEq] at e1
 obtain ⟨rfl, rfl⟩ := e1
 simp only [List.cons.injEq] at e2
 obtain ⟨rfl, _⟩ := e2
 have hyv := cF dy
 have u := (TT.get_ok hT hT1).kd
 rw [hk1] at u
 have hti := (TT.get_ok hT hT2).ti
 have hpin : ρ i = X.ρ0 i := hSl.pin i hi
 obtain ⟨r, m1, m2, rfl, hB, _⟩ := hM.split hm
 generalize hvx : a.eval x = vx at dx
 cases hB with
 | r hz ys hl hdd =>
   cases dx with
   | o =>
     obtain ⟨b0, had, _, hown⟩ := jB (st.own.p _ (List.mem_append_left _ (List.mem_append_right _ (.head _)))) (by omega)
     have hcap : ys.length ≤ (ρ i).c ∧ (ρ i).c ≤ maxLen := by
      rcases hown.2 with ⟨h', _⟩ | ⟨gg, cap, cur, h', hb0, hblk, hnc, hcm, hcs, htk⟩
      ·simp at h'
      ·simp only [Value.slice.injEq, true_and] at h'
       rw [h'.2]
       exact ⟨hnc, hcm⟩
     refine ⟨_, ?_, .v⟩
     have hb1 := run_sliceBound (P := X.P) (w := g.w) (kk := kk) (z := (b : Int)) (m := rows.length) (code := .sliceB) (by omega) (by omega)
     have hb2 : (Instr.sliceBounds true rows.length (ρ i).c (some (.int kk (b : Int))) none none).run X.P g.w = .ok (b, rows.length, (ρ i).c) g.w := by
      simp only [Instr.sliceBounds, Sem.run_bind, Sem.run_pure, Result.andThen_ok, Option.isSome_none, Bool.false_eq_true, if_false, hb1, Int.toNat_natCast]
     simp only [execOp, ho, hvx, ← hpin]
     simp only [Option.map_some, Option.map_none, hyv, Instr.sliceAt, Instr.slice, Sem.run_bind, run_underlying u, Result.andThen_ok, hb2, run_sizeOf hti, Sem.run_pure]
     have hne : ¬ (ρ i).c = b := by omega
     first | (simp [hne]; done) | (simp only [if_neg hne])
theorem KA {tb : TT} (hT : tb.Ok X.P) {T Te d i n sz b : Nat} {kk : IntKind} {z : Int} {x hi' : Operand} {rows : List (List SV)} {dT de : TD} (hi : 1000 ≤ i) (hzb : z = (b : Int)) (hb : b ≤ n) (hn : n = rows.length) (hn0 : 0 < n) (ho : o.op = .slice T x none (some hi') none) (hg : o.guard = none) (hd : o.dst = some d) (hdn : Nat.blt d X.n = true) (hx : cO (aF L) x = some (.o i n)) (hy : cO (aF L) hi' = some (.v (.int kk z))) (hm : fZ M i = some (.r Te sz rows))
 (hT1 : tb.get T = some dT) (hk1 : dT.kd = .sl Te) (hT2 : tb.get Te = some de) (hsz : de.sz = sz) : Stp X arr o L M fs own (.v (.slice (X.ρ0 i).ad b (X.ρ0 i).c)) M := by
 subst hzb hsz hn
 have hG : gS arr (aF L) o = some none := by unfold gS; rw [hg]
 refine bT (sv := .v (.slice (X.ρ0 i).ad b (X.ρ0 i).c)) hG hd hdn (fun L' hL hon g a ρ ms st => ?_)
 have hSl : Sl X ρ L' a g := st.all _ (.tail _ (.head _))
 have hM : aR g ρ M ms := st.all _ (.head _)
 have hev : evs (aF L') [x, hi'] = some [.o i rows.length, .v (.int kk (b : Int))] := by
  have := aW hL
  rw [show o.op.operands.toList = [x, hi'] by rw [ho]; rfl] at this
  rw [this]
  simp only [evs, hx, hy]
 obtain ⟨_, _, e1, dx, hr1⟩ := (aT hSl.val hev).uncons
 obtain ⟨_, _, e2, dy, _⟩ := hr1.uncons
 simp only [List.map_cons, List.cons.injEq] at e1
 obtain ⟨rfl, rfl⟩ := e1
 simp only [List.cons.injEq] at e2
 obtain ⟨rfl, _⟩ := e2
 have hyv := cF dy
 have u := (TT.get_ok hT hT1).kd
 rw [hk1] at u
 have hti := (TT.get_ok hT hT2).ti
 have hpin : ρ i = X.ρ0 i := hSl.pin i hi
 obtain ⟨r, m1, m2, rfl, hB, _⟩ := hM.split hm
 generalize hvx : a.eval x = vx at dx
 cases hB with
 | r hz ys hl hdd =>
   cases dx with
   | o =>
     obtain ⟨b0, had, _, hown⟩ := jB (st.own.p _ (List.mem_append_left _ (List.mem_append_right _ (.head _)))) (by omega)
     have hcap : ys.length ≤ (ρ i).c := by
      rcases hown.2 with ⟨h', _⟩ | ⟨gg, cap, cur, h', hb0, hblk, hnc, hcm, hcs, htk⟩
      ·simp at h'
      ·simp only [Value.slice.injEq, true_and] at h'
       rw [h'.2]
       exact hnc
     refine ⟨_, ?_, .v⟩
     have hh := run_sliceBound (P := X.P) (w := g.w) (kk := kk) (z := (b : Int)) (m := (ρ i).c) (code := .sliceAcap) (by omega) (by omega)
     have hb2 : (Instr.sliceBounds true rows.length (ρ i).c none (some (.int kk (b : Int))) none).run X.P g.w = .ok (0, b, (ρ i).c) g.w := by
      simp only [Instr.sliceBounds, Sem.run_bind, Sem.run_pure, Result.andThen_ok, if_true, hh, Int.toNat_natCast]
     simp only [execOp, ho, hvx, ← hpin, had]
     simp only [Option.map_some, Option.map_none, hyv, Instr.sliceAt, Instr.slice, Sem.run_bind, run_underlying u, Result.andThen_ok, hb2, run_sizeOf hti, Sem.run_pure]
     simp [zC]
theorem UX {tb : TT} (hT : tb.Ok X.P) {d T T2 Te i sz : Nat} {x y : Operand} {r0 r1 : List SV} {dT de : TD} {M2 : SM} (hi : 1000 ≤ i) (ho : o.op = .call ⟨.builtin .copy, #[x, y], #[T, T2]⟩) (hg : o.guard = none) (hd : o.dst = some d) (hdn : Nat.blt d X.n = true)
 (hx : cO (aF L) x = some (.v (.slice ((X.ρ0 i).ad.map (·.add (1 * sz))) (2 - 1) ((X.ρ0 i).c - 1)))) (hy : cO (aF L) y = some (.v (.slice (X.ρ0 i).ad 1 (X.ρ0 i).c))) (hm : fZ M i = some (.r Te sz [r0, r1])) (hT1 : tb.get T = some dT) (hk1 : dT.kd = .sl Te) (hT2 : tb.get Te = some de) (hsz : de.sz = sz) (hu : fU M i (.r Te sz [r0, r0]) some = some M2) :
 Stp X arr o L M fs own (.v (.int .i64 1)) M2 := by
 subst hsz
 intro L' hL g a hE
 obtain ⟨ρ, ms, st⟩ := hE.open
 have hSl : Sl X ρ L' a g := st.all _ (.tail _ (.head _))
 have hM : aR g ρ M ms := st.all _ (.head _)
 have hw : Region.wanted o (yielded arr a.tmps) = true := aX (L := []) st.kn (cA hg)
 unfold rY
 rw [if_pos hw]
 have hev : evs (aF L') [x, y] = some [.v (.slice ((X.ρ0 i).ad.map (·.add (1 * de.sz))) (2 - 1) ((X.ρ0 i).c - 1)), .v (.slice (X.ρ0 i).ad 1 (X.ρ0 i).c)] := by
  have := aW hL
  rw [show o.op.operands.toList = [x, y] by rw [ho]; rfl] at this
  rw [this]
  simp only [evs, hx, hy]
 obtain ⟨_, _, e1, dx, hr1⟩ := (aT hSl.val hev).uncons
 obtain ⟨_, _, e2, dy, _⟩ := hr1.uncons
 simp only [List.map_cons, List.cons.injEq] at e1
 obtain ⟨rfl, rfl⟩ := e1
 simp only [List.cons.injEq] at e2
 obtain ⟨rfl, _⟩ := e2
 have hvx := eH dx
 have hvy := eH dy
 have hpin : ρ i = X.ρ0 i := hSl.pin i hi
 obtain ⟨r, m1, m2, rfl, hB, hup⟩ := hM.split hm
 obtain ⟨M3, hK, hM3⟩ := hup hu
 cases hK
 have u := (TT.get_ok hT hT1).kd
 rw [hk1] at u
 have hti := (TT.get_ok hT hT2).ti
 cases hB with
 | r hz ys hl hdd =>
   match ys, hl with
   | [y0, y1], _ =>
     have hp : (m1 ++ aH.arr (aC de.sz hz) Te (ρ i).ad (ρ i).c [y0, y1] :: m2 ++ own).Perm (aH.arr (aC de.sz hz) Te (ρ i).ad (ρ i).c [y0, y1] :: (m1 ++ m2 ++ own)) := by
      simp only [List.append_assoc, List.cons_append]
      exact List.perm_middle
     have stp0 := st.perm hp
     have stp : St X.toCx [] (gP [y0, y1] [r0, r1] :: F1 ρ M _ :: F2 X ρ L' a :: fs) _ g a := ⟨stp0.kn, dF.cons hdd stp0.all, stp0.own, stp0.ext, stp0.new⟩
     obtain ⟨b, had, hbs, hown⟩ := jB (stp.own.p _ (.head _)) (by simp)
     have hy0 := y0.2.1
     have hy1 := y1.2.1
     have hfl : flat (aC de.sz hz) [y0, y0] = (flat (aC de.sz hz) [y0, y1]).take de.sz ++ (y0.1 ++ (flat (aC de.sz hz) [y0, y1]).drop (de.sz + y0.1.length)) := by
      show y0.1 ++ (y0.1 ++ []) = (y0.1 ++ (y1.1 ++ [])).take de.sz ++ (y0.1 ++ (y0.1 ++ (y1.1 ++ [])).drop (de.sz + y0.1.length))
      rw [List.take_append_of_le_length (by omega), List.take_of_length_le (by omega), List.drop_of_length_le (by simp; omega)]
     obtain ⟨g', hst, s'⟩ := stp.write (P := X.P) (ys' := [y0, y0]) (off := de.sz) (vs := y0.1) .head had rfl hfl (by show de.sz + y0.1.length ≤ 2 * de.sz; omega) y0.2.2
     have hM' : aR g' ρ M _ := s'.all (F1 ρ M _) (.tail _ (.head _))
     have hd1 : (gP [y0, y1] [r0, r1]).p g' := s'.all _ (.head _)
     have hBn : bQ g' ρ i (.r Te de.sz [r0, r0]) (aH.arr (aC de.sz hz) Te (ρ i).ad (ρ i).c [y0, y0]) := .r hz _ rfl (fun ρ' k x r hk hr => by
      match k, hk, hr with
      | 0, hk, hr => cases hk; cases hr; exact hd1 ρ' 0 y0 r0 rfl rfl
      | 1, hk, hr => cases hk; cases hr; exact hd1 ρ' 0 y0 r0 rfl rfl)
     have hMn := hM3 g' _ hM' hBn
     have hp2 : (aH.arr (aC de.sz hz) Te (ρ i).ad (ρ i).c [y0, y0] :: (m1 ++ m2 ++ own)).Perm (m1 ++ aH.arr (aC de.sz hz) Te (ρ i).ad (ρ i).c [y0, y0] :: m2 ++ own) := by
      simp only [List.append_assoc, List.cons_append]
      exact List.perm_middle.symm
     have s2 := s'.perm hp2
     have hcp := tR (P := X.P) (w := g.w) (w' := g'.w) (dT := T) (sT := T2) (ty := o.type) (dCap := (ρ i).c - 1) (sCap := (ρ i).c) (sLen := 1) (dLen := 1) (ad := ⟨b, de.sz, none⟩) (ad2 := ⟨b, 0, none⟩) (vs := y0.1) u hti (by rw [hy0]; simp) (fun j v hv => by
      rw [addr_add]
      have := wM hown (j := 0) (f := j) (y := y0) rfl hv
      rwa [Nat.zero_mul] at this) hst
     have hre : (execOp a.eval o).run X.P g.w = .ok (.value (goInt 1)) g'.w := by
      simp only [execOp, ho, resolve]
      simp only [List.map_toArray, List.map_cons, List.map_nil, hvx, hvy, ← hpin, had, Option.map_some, addr_add, Nat.one_mul, Nat.zero_add]
      simp [invoke, builtin, hcp]
     simp only [wn, hre, hd]
     have s3 : St X.toCx [] (F1 ρ M2 (m1 ++ aH.arr (aC de.sz hz) Te (ρ i).ad (ρ i).c [y0, y0] :: m2) :: F2 X ρ L' a :: fs) (m1 ++ aH.arr (aC de.sz hz) Te (ρ i).ad (ρ i).c [y0, y0] :: m2 ++ own) g' a := ⟨s2.kn, dF.cons hMn (dF.cons (s2.all (F2 X ρ L' a) (.tail _ (.tail _ (.head _)))) (fun f hf => s2.all f (.tail _ (.tail _ (.tail _ hf))))), s2.own, s2.ext, s2.new⟩
     exact ⟨g', rfl, cV.put s3 hdn .v⟩
theorem aD4 {tb : TT} (hT : tb.Ok X.P) (b m : Nat) (H : List (List SV)) {un q d i T Te n sz : Nat} {D r π' : List Nat} {Ms Ms' : List SM} {kk : IntKind} {z : Int} {x lo : Operand} {rows : List (List SV)} {dT de : TD} {L' M' φ} (hi0 : 1000 ≤ i) (hzb : z = (b : Int)) (hb : b < n) (hn : n = rows.length) (hk : ED X arr k fs own un D π' L' M' Ms') (hi : arr[q]? = some o := by rfl) (hu : un.testBit q = false := by rfl) (ho : o.op = .slice T x (some lo) none none := by rfl) (hg : o.guard = none := by rfl) (hd : o.dst = some d := by rfl) (hdn : Nat.blt d X.n = true := by rfl) (hx : cO (aF L) x = some (.o i n) := by rfl) (hy : cO (aF L) lo = some (.v (.int kk z)) := by rfl)
 (hm : fZ M i = some (.r Te sz rows) := by rfl) (hall : BK i (.r Te sz rows) Ms := by repeat (first | exact trivial | refine ⟨rfl, ?_⟩)) (hbb : Nat.ble (DY arr.size un D q) Ms.length = true := by rfl) (hT1 : tb.get T = some dT := by rfl) (hk1 : dT.kd = .sl Te := by rfl) (hT2 : tb.get Te = some de := by rfl) (hsz : de.sz = sz := by rfl)
 (hr : f9 tb X.n arr un D m H r ((d, .v (.slice ((X.ρ0 i).ad.map (·.add (b * sz))) (n - b) ((X.ρ0 i).c - b))) :: L) M Ms [] = some (π', L', M', Ms', φ) := by rfl) (hφ : aE φ := by first | trivial | omega | (simp +contextual [aE]; done)) : ED X arr k fs own un D (q :: r) L M Ms := by
 refine ⟨o, .v (.slice ((X.ρ0 i).ad.map (·.add (b * sz))) (n - b) ((X.ρ0 i).c - b)), hi, ?_⟩
 rw [hu]
 refine ⟨.inl ⟨Nat.le_of_ble_eq_true hbb, J9 hT hi0 hzb hb hn ho hg hd hdn hx hy hm hT1 hk1 hT2 hsz, fun q M2 hq _ => J9 hT hi0 hzb hb hn ho hg hd hdn hx hy (jA hall hq) hT1 hk1 hT2 hsz⟩, ?_⟩
 rw [hd]
 exact xd hT m H hk hr hφ
theorem aD5 {tb : TT} (hT : tb.Ok X.P) (b m : Nat) (H : List (List SV)) {un q d i T Te n sz : Nat} {D r π' : List Nat} {Ms Ms' : List SM} {kk : IntKind} {z : Int} {x hi' : Operand} {rows : List (List SV)} {dT de : TD} {L' M' φ} (hi0 : 1000 ≤ i) (hzb : z = (b : Int)) (hb : b ≤ n) (hn : n = rows.length) (hn0 : 0 < n) (hk : ED X arr k fs own un D π' L' M' Ms') (hi : arr[q]? = some o := by rfl) (hu : un.testBit q = false := by rfl) (ho : o.op = .slice T x none (some hi') none := by rfl) (hg : o.guard = none := by rfl) (hd : o.dst = some d := by rfl) (hdn : Nat.blt d X.n = true := by rfl) (hx : cO (aF L) x = some (.o i n) := by rfl) (hy : cO (aF L) hi' = some (.v (.int kk z)) := by rfl)
 (hm : fZ M i = some (.r Te sz rows) := by rfl) (hall : BK i (.r Te sz rows) Ms := by repeat (first | exact trivial | refine ⟨rfl, ?_⟩)) (hbb : Nat.ble (DY arr.size un D q) Ms.length = true := by rfl) (hT1 : tb.get T = some dT := by rfl) (hk1 : dT.kd = .sl Te := by rfl) (hT2 : tb.get Te = some de := by rfl) (hsz : de.sz = sz := by rfl)
 (hr : f9 tb X.n arr un D m H r ((d, .v (.slice (X.ρ0 i).ad b (X.ρ0 i).c)) :: L) M Ms [] = some (π', L', M', Ms', φ) := by rfl) (hφ : aE φ := by first | trivial | omega | (simp +contextual [aE]; done)) : ED X arr k fs own un D (q :: r) L M Ms := by
 refine ⟨o, .v (.slice (X.ρ0 i).ad b (X.ρ0 i).c), hi, ?_⟩
 rw [hu]
 refine ⟨.inl ⟨Nat.le_of_ble_eq_true hbb, KA hT hi0 hzb hb hn hn0 ho hg hd hdn hx hy hm hT1 hk1 hT2 hsz, fun q M2 hq _ => KA hT hi0 hzb hb hn hn0 ho hg hd hdn hx hy (jA hall hq) hT1 hk1 hT2 hsz⟩, ?_⟩
 rw [hd]
 exact xd hT m H hk hr hφ
theorem aD6 {tb : TT} (hT : tb.Ok X.P) (m : Nat) (H : List (List SV)) {un q d i T T2 Te sz : Nat} {D r π' : List Nat} {Ms Ms' : List SM} {x y : Operand} {r0 r1 : List SV} {dT de : TD} {M2 : SM} {L' M' φ} (hi0 : 1000 ≤ i) (hm : fZ M i = some (.r Te sz [r0, r1])) (hk : ED X arr k fs own un D π' L' M' Ms') (hi : arr[q]? = some o := by rfl) (hu : un.testBit q = true := by rfl) (ho : o.op = .call ⟨.builtin .copy, #[x, y], #[T, T2]⟩ := by rfl) (hg : o.guard = none := by rfl) (hd : o.dst = some d := by rfl) (hdn : Nat.blt d X.n = true := by rfl)
 (hx : cO (aF L) x = some (.v (.slice ((X.ρ0 i).ad.map (·.add (1 * sz))) (2 - 1) ((X.ρ0 i).c - 1))) := by rfl) (hy : cO (aF L) y = some (.v (.slice (X.ρ0 i).ad 1 (X.ρ0 i).c)) := by rfl) (hT1 : tb.get T = some dT := by rfl) (hk1 : dT.kd = .sl Te := by rfl) (hT2 : tb.get Te = some de := by rfl) (hsz : de.sz = sz := by rfl) (hup : fU M i (.r Te sz [r0, r0]) some = some M2 := by rfl)
 (hr : f9 tb X.n arr un D m H r ((d, .v (.int .i64 1)) :: L) M2 (M :: Ms) [] = some (π', L', M', Ms', φ) := by rfl) (hφ : aE φ := by first | trivial | omega | (simp +contextual [aE]; done)) : ED X arr k fs own un D (q :: r) L M Ms := by
 refine ⟨o, .v (.int .i64 1), hi, ?_⟩
 rw [hu]
 refine ⟨M2, (UX hT hi0 ho hg hd hdn hx hy hm hT1 hk1 hT2 hsz hup).u, ?_⟩
 rw [hd]
 exact xd hT m H hk hr hφ
end
theorem aAL {L : SL} {t : Nat} {x : SV} (h : aF L t = some x) : ∀ u sv, aF [(t, x)] u = some sv → aF L u = some sv := fun u sv hu => by
 by_cases e : u = t
 ·subst e
  rw [bF] at hu
  cases hu
  exact h
 ·rw [bX _ _ e] at hu
  cases hu
theorem P4.ren {P : Program} {fs : List MF} {f : FuncId} {args : List SV} {i n T sz : Nat} {x : Value} {rows : List (List SV)} (j : Nat) (h : P4 P fs f args (.t [.o i n, .v x]) i (.r T sz rows)) : P4 P fs f args (.t [.o j n, .v x]) j (.r T sz rows) := by
 refine ⟨h.1, fun ρ g vs hf ha => (h.2 ρ g vs hf ha).mono ?_⟩
 rintro e w' ⟨v, g', r, ρ', h1, h2, h3, h4, h5, h6, h7⟩
 cases h5 with
 | r hz ys hl hd =>
   refine ⟨v, g', _, fun q => if q = j then ρ' i else ρ' q, h1, h2, h3, ?_, ?_, h6, h7⟩
   ·cases h4 with
    | t xs hl2 hd2 =>
      match xs, hl2 with
      | [a, b], _ =>
        refine .t [a, b] rfl (fun p sv v hp hv => ?_)
        match p, hp, hv with
        | 0, hp, hv =>
          cases hp
          cases hv
          have := hd2 0 _ a rfl rfl
          cases this with
          | o =>
            have : bC g' (fun q => if q = j then ρ' i else ρ' q) (.o j n) (.slice ((fun q => if q = j then ρ' i else ρ' q) j).ad n ((fun q => if q = j then ρ' i else ρ' q) j).c) := .o
            simpa using this
        | 1, hp, hv =>
          cases hp
          cases hv
          have := hd2 1 _ b rfl rfl
          cases this
          exact .v
   ·have : bQ g' (fun q => if q = j then ρ' i else ρ' q) j (.r T sz rows) (aH.arr (aC sz hz) T ((fun q => if q = j then ρ' i else ρ' q) j).ad ((fun q => if q = j then ρ' i else ρ' q) j).c ys) := .r hz ys hl hd
    simpa using this
section
variable {X : Kx} {k : List It} {L : SL} {M : SM} {fs : List MF} {own : List aH} {arr : Array Oper} {o : Oper}
theorem pX {sv : SV} {M' : SM} (hG : gS arr (aF L) o = some (some true)) (h : Stp X arr { o with guard := none } L M fs own sv M') : Stp X arr o L M fs own sv M' := by
 intro L' hL g a hE
 have hL2 : agree arr { o with guard := none } L L' := fun t ht => hL t (by
  unfold nE at ht ⊢
  simp only at ht
  first | (simp_all; done) | (split <;> simp_all))
 have h1 := h L' hL2 g a hE
 obtain ⟨ρ, ms, st⟩ := hE.open
 have hw := D6 st.kn (st.all (F2 X ρ L' a) (.tail _ (.head _))).val ((nF hL).trans hG)
 have hw2 := aX (arr := arr) (L := []) (o := { o with guard := none }) st.kn (cA rfl)
 unfold rY at h1 ⊢
 simp only [hw2, if_true] at h1
 simp only [hw, sF, if_true]
 exact h1
theorem UY {tb : TT} (hT : tb.Ok X.P) (j m : Nat) (H : List (List SV)) {un q d i T Te n sz : Nat} {D r π' : List Nat} {Ms Ms' : List SM} {kk : IntKind} {z : Int} {x ix : Operand} {rows : List (List SV)} {dT de : TD} {L' M' φ} (hzj : z = (j : Int)) (hj : j < rows.length) (hn : n = rows.length) (hk : ED X arr k fs own un D π' L' M' Ms') (hi : arr[q]? = some o := by rfl) (hu : un.testBit q = false := by rfl) (ho : o.op = .indexAddr T x ix := by rfl) (hG : gS arr (aF L) o = some (some true) := by rfl) (hd : o.dst = some d := by rfl) (hdn : Nat.blt d X.n = true := by rfl) (hx : cO (aF L) x = some (.o i n) := by rfl) (hy : cO (aF L) ix = some (.v (.int kk z)) := by rfl)
 (hm : fZ M i = some (.r Te sz rows) := by rfl) (hall : BK i (.r Te sz rows) Ms := by repeat (first | exact trivial | refine ⟨rfl, ?_⟩)) (hb : Nat.ble (DY arr.size un D q) Ms.length = true := by rfl) (hT1 : tb.get T = some dT := by rfl) (hk1 : dT.kd = .sl Te := by rfl) (hT2 : tb.get Te = some de := by rfl) (hsz : de.sz = sz := by rfl)
 (hr : f9 tb X.n arr un D m H r ((d, .e i (j * sz)) :: L) M Ms [] = some (π', L', M', Ms', φ) := by rfl) (hφ : aE φ := by first | trivial | omega | (simp +contextual [aE]; done)) : ED X arr k fs own un D (q :: r) L M Ms := by
 refine ⟨o, .e i (j * sz), hi, ?_⟩
 rw [hu]
 refine ⟨.inl ⟨Nat.le_of_ble_eq_true hb, pX hG (oU hT hzj hj hn ho rfl hd hdn hx hy hm hT1 hk1 hT2 hsz), fun q M2 hq _ => pX hG (oU hT hzj hj hn ho rfl hd hdn hx hy (jA hall hq) hT1 hk1 hT2 hsz)⟩, ?_⟩
 rw [hd]
 exact xd hT m H hk hr hφ
theorem UZ {tb : TT} (hT : tb.Ok X.P) (j f m : Nat) (H : List (List SV)) {un q d i T Te sz off : Nat} {D r π' : List Nat} {Ms Ms' : List SM} {x : Operand} {cs row : List SV} {rows : List (List SV)} {de : TD} {L' M' φ} (hrow : rows[j]? = some row) (hk : ED X arr k fs own un D π' L' M' Ms') (hi : arr[q]? = some o := by rfl) (hu : un.testBit q = false := by rfl) (ho : o.op = .load T x := by rfl) (hG : gS arr (aF L) o = some (some true) := by rfl) (hd : o.dst = some d := by rfl) (hdn : Nat.blt d X.n = true := by rfl) (hx : cO (aF L) x = some (.e i off) := by rfl)
 (hm : fZ M i = some (.r Te sz rows) := by rfl) (hall : BK i (.r Te sz rows) Ms := by repeat (first | exact trivial | refine ⟨rfl, ?_⟩)) (hb : Nat.ble (DY arr.size un D q) Ms.length = true := by rfl) (hT2 : tb.get T = some de := by rfl) (hag : de.kd.ag = true := by rfl) (hoff : off = j * sz + f := by rfl) (hcs : (row.drop f).take de.sz = cs := by rfl) (hcl : cs.length = de.sz := by rfl)
 (hr : f9 tb X.n arr un D m H r ((d, .a cs) :: L) M Ms [] = some (π', L', M', Ms', φ) := by rfl) (hφ : aE φ := by first | trivial | omega | (simp +contextual [aE]; done)) : ED X arr k fs own un D (q :: r) L M Ms := by
 refine ⟨o, .a cs, hi, ?_⟩
 rw [hu]
 refine ⟨.inl ⟨Nat.le_of_ble_eq_true hb, pX hG (qX hT hoff hrow hcs hcl ho rfl hd hdn hx hm hT2 hag), fun q M2 hq _ => pX hG (qX hT hoff hrow hcs hcl ho rfl hd hdn hx (jA hall hq) hT2 hag)⟩, ?_⟩
 rw [hd]
 exact xd hT m H hk hr hφ
theorem U0 {d : Nat} (sv : SV) (hG : gS arr (aF L) o = some (some false)) (hd : o.dst = some d) (hdn : Nat.blt d X.n = true) : Stp X arr o L M fs own (.g false sv) M := by
 intro L' hL g a hE
 obtain ⟨ρ, ms, st⟩ := hE.open
 have hw := D6 st.kn (st.all (F2 X ρ L' a) (.tail _ (.head _))).val ((nF hL).trans hG)
 unfold rY
 rw [hw, hd]
 simp only [sF, Bool.false_eq_true, if_false]
 exact ⟨g, rfl, cV.put st hdn .gf⟩
theorem aAM {tb : TT} (hT : tb.Ok X.P) (sv : SV) (m : Nat) (H : List (List SV)) {un q d : Nat} {D r π' : List Nat} {Ms Ms' : List SM} {L' M' φ} (hk : ED X arr k fs own un D π' L' M' Ms') (hi : arr[q]? = some o := by rfl) (hu : un.testBit q = false := by rfl) (hG : gS arr (aF L) o = some (some false) := by rfl) (hd : o.dst = some d := by rfl) (hdn : Nat.blt d X.n = true := by rfl)
 (hr : f9 tb X.n arr un D m H r ((d, .g false sv) :: L) M Ms [] = some (π', L', M', Ms', φ) := by rfl) (hφ : aE φ := by first | trivial | omega | (simp +contextual [aE]; done)) : ED X arr k fs own un D (q :: r) L M Ms := by
 refine ⟨o, .g false sv, hi, ?_⟩
 rw [hu]
 refine ⟨.inr fun M2 => U0 sv hG hd hdn, ?_⟩
 rw [hd]
 exact xd hT m H hk hr hφ
theorem FG {tb : TT} (hT : tb.Ok X.P) (j m : Nat) (H : List (List SV)) {un q d i T Te n sz : Nat} {D r π' : List Nat} {Ms Ms' : List SM} {kk : IntKind} {z : Int} {x ix : Operand} {rows : List (List SV)} {dT de : TD} {L' M' φ} (hzj : z = (j : Int)) (hj : j < rows.length) (hn : n = rows.length) (hk : ED X arr k fs own un D π' L' M' Ms') (hi : arr[q]? = some o := by rfl) (hu : un.testBit q = false := by rfl) (ho : o.op = .indexAddr T x ix := by rfl) (hg : o.guard = none := by rfl) (hd : o.dst = some d := by rfl) (hdn : Nat.blt d X.n = true := by rfl) (hx : cO (aF L) x = some (.o i n) := by rfl) (hy : cO (aF L) ix = some (.v (.int kk z)) := by rfl)
 (hm : fZ M i = some (.r Te sz rows) := by rfl) (hlo : Nat.ble Ms.length (TG arr.size un D q) = true := by rfl) (hb : Nat.ble (DY arr.size un D q) Ms.length = true := by rfl) (hT1 : tb.get T = some dT := by rfl) (hk1 : dT.kd = .sl Te := by rfl) (hT2 : tb.get Te = some de := by rfl) (hsz : de.sz = sz := by rfl)
 (hr : f9 tb X.n arr un D m H r ((d, .e i (j * sz)) :: L) M Ms [] = some (π', L', M', Ms', φ) := by rfl) (hφ : aE φ := by first | trivial | omega | (simp +contextual [aE]; done)) : ED X arr k fs own un D (q :: r) L M Ms := by
 refine ⟨o, .e i (j * sz), hi, ?_⟩
 rw [hu]
 refine ⟨.inl ⟨Nat.le_of_ble_eq_true hb, oU hT hzj hj hn ho hg hd hdn hx hy hm hT1 hk1 hT2 hsz, fun q2 M2 hq hlq => by
  have h1 := Nat.le_of_ble_eq_true hlo
  have h2 := (List.getElem?_eq_some_iff.1 hq).1
  omega⟩, ?_⟩
 rw [hd]
 exact xd hT m H hk hr hφ
def MR (tb : TT) (n : Nat) (arr : Array Oper) (un : Nat) (D : List Nat) : Nat → List (List SV) → List Nat → SL → SM → List SM → List Prop → Option (List Nat × SL × SM × List SM × List Prop)
 | 0, _, π, L, M, Ms, acc => some (π, L, M, Ms, acc)
 | _ + 1, _, [], _, _, _, _ => none
 | m + 1, H, i :: r, L, M, Ms, acc => match arr[i]? with
   | none => none
   | some o => match gS arr (aF L) o with
     | some (some true) => match un.testBit i with
       | false => match j8 (aF L) o.op || (Nat.ble (DY arr.size un D i) Ms.length && Nat.ble Ms.length (TG arr.size un D i)) with
         | true => match I3 tb (aF L) M H o.op with
           | some (sv, φ) => match o.dst with
             | some d => match Nat.blt d n with
               | true => pI φ acc (fun acc => MR tb n arr un D m (match LH o.op with | true => H.tail | false => H) r ((d, sv) :: L) M Ms acc)
               | false => none
             | none => none
           | none => none
         | false => none
       | true => none
     | _ => none
theorem KB {tb : TT} (hT : tb.Ok X.P) {un : Nat} {D : List Nat} : ∀ (m : Nat) {H : List (List SV)} {π : List Nat} {L : SL} {M : SM} {Ms : List SM} {acc : List Prop} {π' L' M' Ms' φ}, MR tb X.n arr un D m H π L M Ms acc = some (π', L', M', Ms', φ) → (∀ p ∈ φ, p) →
 (∀ p ∈ acc, p) ∧ (ED X arr k fs own un D π' L' M' Ms' → ED X arr k fs own un D π L M Ms)
 | 0, H, π, L, M, Ms, acc, π', L', M', Ms', φ, h, hφ => by
   simp only [MR, Option.some.injEq, Prod.mk.injEq] at h
   obtain ⟨rfl, rfl, rfl, rfl, rfl⟩ := h
   exact ⟨hφ, id⟩
 | m + 1, H, [], L, M, Ms, acc, π', L', M', Ms', φ, h, _ => by simp [MR] at h
 | m + 1, H, i :: r, L, M, Ms, acc, π', L', M', Ms', φ, h, hφ => by
   unfold MR at h
   split at h
   ·cases h
   ·rename_i o ho
    split at h
    ·rename_i hG
     split at h
     ·rename_i hu
      split at h
      ·rename_i hc
       split at h
       ·rename_i sv ψ hx
        split at h
        ·rename_i d hd
         split at h
         ·rename_i hn
          obtain ⟨acc', hr, hm⟩ := gG h
          obtain ⟨ha, hk⟩ := KB hT m hr hφ
          refine ⟨fun p hp => ha p (hm p (.inr hp)), fun he => ⟨o, sv, ho, ?_⟩⟩
          rw [hu]
          have hψ : ∀ p ∈ wq none ψ, p := fun p hp => ha p (hm p (.inl hp))
          refine ⟨stb hc (pX hG (j6 hT (G := none) rfl hd hn hx hψ)) (fun hf M' => pX hG (j6 hT (G := none) rfl hd hn ((qJ hf).trans hx) hψ)), ?_⟩
          rw [hd]
          exact hk he
         ·cases h
        ·cases h
       ·cases h
      ·cases h
     ·cases h
    ·cases h
theorem Y8 {tb : TT} (hT : tb.Ok X.P) (m : Nat) (H : List (List SV)) {un : Nat} {D π π' : List Nat} {Ms Ms' : List SM} {L' M' φ} (hk : ED X arr k fs own un D π' L' M' Ms') (hr : MR tb X.n arr un D m H π L M Ms [] = some (π', L', M', Ms', φ) := by rfl)
 (hφ : aE φ := by first | trivial | omega | (simp +contextual [aE]; done) | (simp +contextual [aE, *]; done) | (simp +contextual [aE, *] <;> omega)) : ED X arr k fs own un D π L M Ms := (KB hT m hr (gC hφ)).2 hk
theorem dgc {tb : TT} (hT : tb.Ok X.P) {un i d : Nat} {D r : List Nat} {Ms : List SM} {f : FuncId} {fo : Operand} {az : Array Operand} {ts : Array TypeId} {fi ca svs args : List SV} {res : SV} (hs : Fc X.P fs f args res) (hk : ED X arr k fs own un D r ((d, res) :: L) M Ms) (hi : arr[i]? = some o := by rfl) (hu : un.testBit i = false := by rfl) (hG : gS arr (aF L) o = some (some true) := by rfl) (hd : o.dst = some d := by rfl)
 (ho : o.op = .call ⟨.value fo, az, ts⟩ := by rfl) (hfo : cO (aF L) fo = some (.f f fi ca) := by rfl) (ha : evs (aF L) az.toList = some svs := by rfl) (hb : fi ++ svs.map st1 ++ ca = args := by rfl) (hc : svs.flatMap pB = [] := by rfl) (hn : Nat.blt d X.n = true := by rfl) : ED X arr k fs own un D (i :: r) L M Ms := by
 refine ⟨o, res, hi, ?_⟩
 rw [hu]
 refine ⟨.inr (fun M' => pX hG (vL (G := none) rfl hd hn ho hfo rfl ha (by rw [hc]; intro p hp; cases hp) hb (fun _ => hs))), ?_⟩
 rw [hd]
 exact hk
end
structure Lb where
 n : Bytes
 v : Bytes
 deriving DecidableEq
abbrev aY (x : Lb) : List SV := [.str x.n, .str x.v]
structure Se where
 l : List Lb
 v : Val
 deriving DecidableEq
abbrev aP (s : Se) : List SV := [.s 2 (s.l.map aY), nI s.v.k, nI s.v.n]
abbrev rL (l : List Lb) : SV := .s 2 (l.map aY)
abbrev cI (l : List Se) : SV := .s 3 (l.map aP)
structure Pt where
 t : Int
 v : Val
 deriving DecidableEq
section
variable {α : Type} {lt : α → α → Bool}
def uG (p : Nat → Bool) (K i j : Nat) : Prop := i ≤ j ∧ ∃ f, j - i < f ∧ gA p f i j = K
theorem uG.t {p : Nat → Bool} {K i j : Nat} (h : uG p K i j) (hij : i < j) (hp : p ((i + j) / 2) = true) : uG p K ((i + j) / 2 + 1) j := by
 obtain ⟨h1, f, h2, h3⟩ := h
 match f, h2 with
 | f + 1, h2 =>
   unfold gA at h3
   rw [if_pos hij, if_pos hp] at h3
   exact ⟨by omega, f, by omega, h3⟩
theorem uG.f {p : Nat → Bool} {K i j : Nat} (h : uG p K i j) (hij : i < j) (hp : p ((i + j) / 2) = false) : uG p K i ((i + j) / 2) := by
 obtain ⟨h1, f, h2, h3⟩ := h
 match f, h2 with
 | f + 1, h2 =>
   unfold gA at h3
   rw [if_pos hij, if_neg (by simp [hp])] at h3
   exact ⟨by omega, f, by omega, h3⟩
theorem uG.e {p : Nat → Bool} {K i j : Nat} (h : uG p K i j) (hij : ¬ i < j) : i = K := by
 obtain ⟨h1, f, h2, h3⟩ := h
 match f, h2 with
 | f + 1, h2 =>
   unfold gA at h3
   rw [if_neg hij] at h3
   exact h3
theorem uG.b {p : Nat → Bool} {K i j : Nat} (h : uG p K i j) : i ≤ K ∧ K ≤ j := by
 obtain ⟨h1, f, h2, h3⟩ := h
 have := f5 (p := p) f i j h1 h2
 rw [h3] at this
 exact ⟨this.1, this.2.1⟩
theorem uG.mk' (p : Nat → Bool) (f : Nat) {i j : Nat} (h : i ≤ j) (hf : j - i < f) : uG p (gA p f i j) i j := ⟨h, f, hf, rfl⟩
theorem BR {x : α} {R : List α} {f : Nat} (hr : 0 < R.length) {K : Nat} (hK : K = gA (fun h => uD lt R h x) (R.length + 1) 0 R.length) : m6 lt (f + 1) [x] R = R.take K ++ x :: R.drop K := by
 subst hK
 match R, hr with
 | b :: R, _ => rfl
theorem BS {y : α} {L : List α} {f : Nat} (hl : 2 ≤ L.length) {K : Nat} (hK : K = gA (uE lt y L) (L.length + 1) 0 L.length) : m6 lt (f + 1) L [y] = L.take K ++ y :: L.drop K := by
 subst hK
 match L, hl with
 | a :: a2 :: L, _ => rfl
theorem q8 {L R : List α} {f : Nat} (hl : 2 ≤ L.length) (hr : 2 ≤ R.length) {s e : Nat} (hs : s = E4 lt L R) (he : e = (L.length + R.length) / 2 - s) : m6 lt (f + 1) L R = m6 lt f (L.take s) (R.take e) ++ m6 lt f (L.drop s) (R.drop e) := by
 subst hs
 match L, hl, R, hr with
 | a :: a2 :: L, _, b :: b2 :: R, _ =>
   have e2 : (L.length + R.length + 4) / 2 - E4 lt (a :: a2 :: L) (b :: b2 :: R) = e := by
    rw [he]
    simp only [List.length_cons]
    congr 2
    omega
   subst e2
   rfl
theorem zO {R : List α} : ∀ f, m6 lt f [] R = R
 | 0 => rfl
 | f + 1 => rfl
theorem zP {L : List α} : ∀ f, m6 lt f L [] = L
 | 0 => by simp [m6]
 | f + 1 => by
   cases L with
   | nil => rfl
   | cons a L => rfl
theorem gV : ∀ (f : Nat) (L R : List α), (m6 lt f L R).length = L.length + R.length
 | 0, L, R => by simp [m6]
 | f + 1, [], R => by rw [zO]; simp
 | f + 1, a :: L, [] => by rw [zP]; simp
 | f + 1, [x], b :: R => by
   rw [BR (by simp) rfl]
   simp only [List.length_append, List.length_cons, List.length_take, List.length_drop, List.length_nil]
   omega
 | f + 1, a :: a2 :: L, [y] => by
   rw [BS (by simp) rfl]
   simp only [List.length_append, List.length_cons, List.length_take, List.length_drop, List.length_nil]
   omega
 | f + 1, a :: a2 :: L, b :: b2 :: R => by
   rw [q8 (by simp) (by simp) rfl rfl, List.length_append, gV f, gV f]
   simp only [List.length_cons, List.length_take, List.length_drop]
   omega
theorem W7 {L R : List α} (hl : 0 < L.length) (hr : 0 < R.length) : E4 lt L R ≤ (L.length + R.length) / 2 ∧ E4 lt L R ≤ L.length ∧ (L.length + R.length) / 2 - E4 lt L R ≤ R.length := by
 unfold E4
 split
 ·have := f5 (p := uF lt L R ((L.length + R.length) / 2)) (L.length + R.length) ((L.length + R.length) / 2 + L.length - (L.length + R.length)) ((L.length + R.length) / 2) (by omega) (by omega)
  omega
 ·have := f5 (p := uF lt L R ((L.length + R.length) / 2)) (L.length + R.length) 0 L.length (by omega) (by omega)
  omega
theorem W8 {L R : List α} (hl : 0 < L.length) (hr : 0 < R.length) (lo hi : Nat) (h : ((L.length + R.length) / 2 < L.length ∧ lo = (L.length + R.length) / 2 + L.length - (L.length + R.length) ∧ hi = (L.length + R.length) / 2) ∨ (¬ (L.length + R.length) / 2 < L.length ∧ lo = 0 ∧ hi = L.length)) : uG (uF lt L R ((L.length + R.length) / 2)) (E4 lt L R) lo hi := by
 unfold E4
 rcases h with ⟨h1, rfl, rfl⟩ | ⟨h1, rfl, rfl⟩
 ·rw [if_pos h1, if_pos h1]
  exact uG.mk' _ _ (by omega) (by omega)
 ·rw [if_neg h1, if_neg h1]
  exact uG.mk' _ _ (by omega) (by omega)
theorem mK {β : Type} {f : α → β} {P L W : List α} {i j : Nat} {x : α} (h : L[i]? = some x) (hj : P.length + i = j) : ((P ++ (L ++ W)).map f)[j]? = some (f x) := by
 subst hj
 rw [List.map_append, List.getElem?_append_right (by simp), List.map_append, List.getElem?_append_left (by have := (List.getElem?_eq_some_iff.1 h).1; simp; omega)]
 simp [h]
theorem oY {β : Type} {f : α → β} {P L R W : List α} {i j : Nat} {x : α} (h : R[i]? = some x) (hj : P.length + L.length + i = j) : ((P ++ (L ++ (R ++ W))).map f)[j]? = some (f x) := by
 rw [← List.append_assoc P]
 exact mK h (by rw [List.length_append]; exact hj)
theorem kW {R : List α} {h : Nat} {x y : α} (hy : R[h]? = some y) : uD lt R h x = lt y x := by simp [uD, hy]
theorem kX {L : List α} {h : Nat} {x y : α} (hx : L[h]? = some x) : uE lt y L h = !lt y x := by simp [uE, hx]
theorem kY {L R : List α} {mid c : Nat} {x y : α} (hy : R[mid - 1 - c]? = some y) (hx : L[c]? = some x) : uF lt L R mid c = !lt y x := by simp [uF, hx, hy]
theorem jN {L : List α} {i : Nat} (h : i < L.length) : ∃ x, L[i]? = some x := ⟨L[i], List.getElem?_eq_getElem h⟩
theorem take_at {L : List α} {i : Nat} {x : α} (h : L[i]? = some x) : L.take (i + 1) = L.take i ++ [x] := by
 obtain ⟨h1, h2⟩ := List.getElem?_eq_some_iff.1 h
 rw [List.take_succ_eq_append_getElem h1, h2]
theorem drop_at {L : List α} {i : Nat} {x : α} (h : L[i]? = some x) : L.drop i = x :: L.drop (i + 1) := by
 obtain ⟨h1, h2⟩ := List.getElem?_eq_some_iff.1 h
 rw [List.drop_eq_getElem_cons h1, h2]
theorem kZ (p i j : Nat) : (((p + i : Nat) : Int) + ((p + j : Nat) : Int)) / 2 ^ Int.toNat 1 = ((p + (i + j) / 2 : Nat) : Int) := by
 show (((p + i : Nat) : Int) + ((p + j : Nat) : Int)) / 2 ^ 1 = _
 omega
theorem mL {A B W : List α} (h : A = [] ∨ B = []) : A ++ (B ++ W) = B ++ (A ++ W) := by
 rcases h with rfl | rfl <;> simp
theorem eP {L R : List α} {f : Nat} (h : L = [] ∨ R = []) : m6 lt f L R = L ++ R := by
 rcases h with rfl | rfl
 ·rw [zO]; rfl
 ·rw [zP]; simp
end
section
variable {α : Type} {lt : α → α → Bool}
def YB (lt : α → α → Bool) (T A l : List α) : Prop := ∃ f, l.length < f ∧ A ++ wW lt f l = T
theorem YB.go {T A l : List α} (h : YB lt T A l) (hl : 20 ≤ l.length) : YB lt T (A ++ bG lt (l.take 20)) (l.drop 20) := by
 obtain ⟨f, hf, e⟩ := h
 match f, hf with
 | f + 1, hf =>
   unfold wW at e
   rw [if_pos hl] at e
   exact ⟨f, by rw [List.length_drop]; omega, by rw [List.append_assoc]; exact e⟩
theorem YB.stop {T A l : List α} (h : YB lt T A l) (hl : ¬ 20 ≤ l.length) : A ++ bG lt l = T := by
 obtain ⟨f, hf, e⟩ := h
 match f, hf with
 | f + 1, hf =>
   unfold wW at e
   rw [if_neg hl] at e
   exact e
def U1 (lt : α → α → Bool) (z : Nat) (T A l : List α) : Prop := ∃ f, l.length < f ∧ A ++ jC lt z f l = T
theorem U1.go {z : Nat} {T A l : List α} (hz : 0 < z) (h : U1 lt z T A l) (hl : 2 * z ≤ l.length) : U1 lt z T (A ++ yO lt (l.take z) ((l.drop z).take z)) (l.drop (2 * z)) := by
 obtain ⟨f, hf, e⟩ := h
 match f, hf with
 | f + 1, hf =>
   unfold jC at e
   rw [if_pos hl] at e
   exact ⟨f, by rw [List.length_drop]; omega, by rw [List.append_assoc]; exact e⟩
theorem U1.one {z : Nat} {T A l : List α} (h : U1 lt z T A l) (hl : ¬ 2 * z ≤ l.length) (h2 : z < l.length) : A ++ yO lt (l.take z) (l.drop z) = T := by
 obtain ⟨f, hf, e⟩ := h
 match f, hf with
 | f + 1, hf =>
   unfold jC at e
   rw [if_neg hl, if_pos h2] at e
   exact e
theorem U1.stop {z : Nat} {T A l : List α} (h : U1 lt z T A l) (hl : ¬ 2 * z ≤ l.length) (h2 : ¬ z < l.length) : A ++ l = T := by
 obtain ⟨f, hf, e⟩ := h
 match f, hf with
 | f + 1, hf =>
   unfold jC at e
   rw [if_neg hl, if_neg h2] at e
   exact e
def YC (lt : α → α → Bool) (T : List α) (z : Nat) (l : List α) : Prop := ∃ f, l.length < f + z ∧ qZ lt f z l = T
theorem YC.go {z : Nat} {T l : List α} (hz : 0 < z) (h : YC lt T z l) (hl : z < l.length) (hle : (jC lt z (l.length + 1) l).length = l.length) : YC lt T (2 * z) (jC lt z (l.length + 1) l) := by
 obtain ⟨f, hf, e⟩ := h
 match f, hf with
 | 0, hf => omega
 | f + 1, hf =>
   unfold qZ at e
   rw [if_pos hl] at e
   exact ⟨f, by rw [hle]; omega, e⟩
theorem YC.stop {z : Nat} {T l : List α} (h : YC lt T z l) (hl : ¬ z < l.length) : l = T := by
 obtain ⟨f, hf, e⟩ := h
 cases f with
 | zero => exact e
 | succ f =>
   unfold qZ at e
   rw [if_neg hl] at e
   exact e
theorem jD (L R : List α) : (yO lt L R).length = L.length + R.length := gV _ _ _
theorem q9 {z : Nat} (hz : 0 < z) : ∀ (f : Nat) (l : List α), l.length < f → (jC lt z f l).length = l.length
 | 0, l, h => by omega
 | f + 1, l, h => by
   unfold jC
   split
   ·rw [List.length_append, jD, q9 hz f _ (by rw [List.length_drop]; omega)]
    simp only [List.length_take, List.length_drop]
    omega
   ·split
    ·rw [jD]
     simp only [List.length_take, List.length_drop]
     omega
    ·rfl
theorem rC : ∀ (f : Nat) (l : List α), l.length < f → (wW lt f l).length = l.length
 | 0, l, h => by omega
 | f + 1, l, h => by
   unfold wW
   split
   ·rw [List.length_append, eE, rC f _ (by rw [List.length_drop]; omega)]
    simp only [List.length_take, List.length_drop]
    omega
   ·exact eE _
theorem zQ : ∀ (f z : Nat) (l : List α), 0 < z → (qZ lt f z l).length = l.length
 | 0, z, l, hz => rfl
 | f + 1, z, l, hz => by
   unfold qZ
   split
   ·rw [zQ f (2 * z) _ (by omega), q9 hz _ _ (Nat.lt_succ_self _)]
   ·rfl
theorem FH (l : List α) : (dD lt l).length = l.length := by
 unfold dD
 rw [zQ _ _ _ (by omega), rC _ _ (Nat.lt_succ_self _)]
theorem U2 {l : List α} {z : Nat} : l.take z ++ ((l.drop z).take z ++ l.drop (2 * z)) = l := by
 rw [show l.drop (2 * z) = (l.drop z).drop z by rw [List.drop_drop]; congr 1; omega, List.take_append_drop, List.take_append_drop]
end
structure U3 {α : Type} (c : α → α → Int) : Prop where
 eq : ∀ x y, c x y = 0 ↔ x = y
 sw : ∀ x y, c x y < 0 ↔ 0 < c y x
 tr : ∀ x y z, c x y < 0 → c y z < 0 → c x z < 0
def dS {α : Type} (c : α → α → Int) : List α → List α → Int
 | [], [] => 0
 | [], _ :: _ => -1
 | _ :: _, [] => 1
 | x :: a, y :: b => if c x y = 0 then dS c a b else c x y
theorem U3.lex {α : Type} {c : α → α → Int} (h : U3 c) : U3 (dS c) where
 eq := by
  intro a
  induction a with
  | nil => intro b; cases b <;> simp [dS]
  | cons x a ih =>
    intro b
    cases b with
    | nil => simp [dS]
    | cons y b =>
      simp only [dS]
      split
      ·rename_i h0
       rw [ih, List.cons.injEq, and_iff_right ((h.eq x y).1 h0)]
      ·rename_i h0
       exact ⟨fun e => absurd e h0, fun e => by injection e with e1 e2; exact absurd ((h.eq x y).2 e1) h0⟩
 sw := by
  intro a
  induction a with
  | nil => intro b; cases b <;> simp [dS]
  | cons x a ih =>
    intro b
    cases b with
    | nil => simp [dS]
    | cons y b =>
      simp only [dS]
      by_cases h0 : c x y = 0
      ·have h1 : c y x = 0 := (h.eq y x).2 ((h.eq x y).1 h0).symm
       rw [if_pos h0, if_pos h1]
       exact ih b
      ·have h1 : c y x ≠ 0 := fun e => h0 ((h.eq x y).2 ((h.eq y x).1 e).symm)
       rw [if_neg h0, if_neg h1]
       exact h.sw x y
 tr := by
  intro a
  induction a with
  | nil =>
    intro b d h1 h2
    cases b with
    | nil => simp [dS] at h1
    | cons y b =>
      cases d with
      | nil => simp [dS] at h2
      | cons z d => simp [dS]
  | cons x a ih =>
    intro b d h1 h2
    cases b with
    | nil => simp [dS] at h1
    | cons y b =>
      cases d with
      | nil => simp [dS] at h2
      | cons z d =>
        simp only [dS] at h1 h2 ⊢
        by_cases e1 : c x y = 0
        ·have := (h.eq x y).1 e1
         subst this
         rw [if_pos e1] at h1
         by_cases e2 : c x z = 0
         ·rw [if_pos e2] at h2 ⊢; exact ih _ _ h1 h2
         ·rw [if_neg e2] at h2 ⊢; exact h2
        ·rw [if_neg e1] at h1
         by_cases e2 : c y z = 0
         ·have := (h.eq y z).1 e2
          subst this
          rw [if_neg e1]
          exact h1
         ·rw [if_neg e2] at h2
          have := h.tr x y z h1 h2
          rw [if_neg (by omega)]
          exact this
theorem U3.ord {α β : Type} {c : β → β → Int} (h : U3 c) (k : α → β) : kQ (cH fun x y => c (k x) (k y)) where
 asym x y hxy := by
  simp only [cH, decide_eq_true_eq, decide_eq_false_iff_not] at *
  have := (h.sw (k x) (k y)).1 hxy
  omega
 tr x y z h1 h2 := by
  simp only [cH, decide_eq_false_iff_not] at *
  intro h3
  by_cases h4 : c (k x) (k y) = 0
  ·rw [(h.eq _ _).1 h4] at h3
   exact h2 h3
  ·have h5 : c (k x) (k y) < 0 := by
    by_cases h6 : 0 < c (k x) (k y)
    ·exact absurd ((h.sw _ _).2 h6) h1
    ·omega
   exact h2 (h.tr _ _ _ h3 h5)
def fX {α : Type} (c : α → α → Int) : List α → Bool
 | x :: y :: r => decide (c x y = 0) || fX c (y :: r)
 | _ => false
theorem nX {α : Type} {c : α → α → Int} (hs : ∀ x y, c x y < 0 ↔ 0 < c y x) (ht : ∀ x y z, c x y < 0 → c y z < 0 → c x z < 0) : ∀ {l : List α}, Up (cH c) l → fX c l = false → l.Pairwise fun x y => c x y < 0
 | [], _, _ => List.Pairwise.nil
 | [x], _, _ => List.pairwise_singleton _ _
 | x :: y :: r, h, hd => by
   simp only [fX, Bool.or_eq_false_iff, decide_eq_false_iff_not] at hd
   have h1 := List.pairwise_cons.1 h
   have ih := nX hs ht h1.2 hd.2
   have hxy : c x y < 0 := by
    have := h1.1 y (.head _)
    simp only [cH, decide_eq_false_iff_not] at this
    have h2 := hs y x
    have h3 := hs x y
    omega
   refine List.pairwise_cons.2 ⟨fun z hz => ?_, ih⟩
   rcases List.mem_cons.1 hz with rfl | hz
   ·exact hxy
   ·exact ht x y z hxy ((List.pairwise_cons.1 ih).1 z hz)
theorem QK {α : Type} {c : α → α → Int} : ∀ {l : List α}, (l.Pairwise fun x y => c x y < 0) → fX c l = false
 | [], _ => rfl
 | [x], _ => rfl
 | x :: y :: r, h => by
   have h1 := List.pairwise_cons.1 h
   simp only [fX, Bool.or_eq_false_iff, decide_eq_false_iff_not]
   exact ⟨by have := h1.1 y (.head _); omega, QK h1.2⟩
theorem QL {α : Type} {R : α → α → Prop} (hs : ∀ x y, R x y → R y x) (hr : ∀ x, R x x) : ∀ {l : List α}, l.Pairwise R → ∀ {x y : α}, x ∈ l → y ∈ l → R x y
 | [], _, _, _, h, _ => by cases h
 | a :: l, h, x, y, hx, hy => by
   have h1 := List.pairwise_cons.1 h
   rcases List.mem_cons.1 hx with e | hx
   ·rcases List.mem_cons.1 hy with e2 | hy
    ·rw [e, e2]; exact hr _
    ·rw [e]; exact h1.1 y hy
   ·rcases List.mem_cons.1 hy with e2 | hy
    ·rw [e2]; exact hs _ _ (h1.1 x hx)
    ·exact QL hs hr h1.2 hx hy
theorem lZ {α : Type} {c : α → α → Int} (hs : ∀ x y, c x y < 0 ↔ 0 < c y x) : ∀ {a b : List α}, (a.Pairwise fun x y => c x y < 0) → (b.Pairwise fun x y => c x y < 0) → a.Perm b → a = b
 | [], b, _, _, h => (List.nil_perm.1 h).symm
 | x :: a, [], _, _, h => absurd h (by simp)
 | x :: a, y :: b, ha, hb, h => by
   have ha' := List.pairwise_cons.1 ha
   have hb' := List.pairwise_cons.1 hb
   have e : x = y := by
    have h1 : x ∈ y :: b := h.mem_iff.1 (.head _)
    have h2 : y ∈ x :: a := h.mem_iff.2 (.head _)
    rcases List.mem_cons.1 h1 with h1 | h1
    ·exact h1
    ·rcases List.mem_cons.1 h2 with h2 | h2
     ·exact h2.symm
     ·have p := hb'.1 x h1
      have q := ha'.1 y h2
      have := hs x y
      omega
   subst e
   rw [lZ hs ha'.2 hb'.2 (List.perm_cons x |>.1 h)]
abbrev gZ (a b : Bytes) : Int := Lib.compareBytes a b
def H3 (a b : UInt8) : Int := if a < b then -1 else if b < a then 1 else 0
theorem U4 : U3 H3 where
 eq x y := by
  unfold H3
  rcases Nat.lt_trichotomy x.toNat y.toNat with h | h | h
  ·rw [if_pos (UInt8.lt_iff_toNat_lt.2 h)]
   exact ⟨fun e => by omega, fun e => by subst e; omega⟩
  ·have := UInt8.toNat_inj.1 h
   subst this
   simp [UInt8.lt_irrefl]
  ·rw [if_neg (fun h2 => by have := UInt8.lt_iff_toNat_lt.1 h2; omega), if_pos (UInt8.lt_iff_toNat_lt.2 h)]
   exact ⟨fun e => by omega, fun e => by subst e; omega⟩
 sw x y := by
  unfold H3
  simp only [UInt8.lt_iff_toNat_lt]
  split <;> split <;> (try split) <;> omega
 tr x y z := by
  unfold H3
  simp only [UInt8.lt_iff_toNat_lt]
  split <;> split <;> split <;> (try split) <;> (try split) <;> (try split) <;> omega
theorem FI : ∀ a b : Bytes, gZ a b = dS H3 a b
 | [], [] => rfl
 | [], _ :: _ => rfl
 | _ :: _, [] => rfl
 | x :: a, y :: b => by
   have ih := FI a b
   unfold gZ at ih ⊢
   simp only [Lib.compareBytes, dS, H3, ih]
   split
   ·simp
   ·split <;> simp
theorem cR : U3 gZ := by
 have : gZ = dS H3 := funext fun a => funext fun b => FI a b
 rw [this]
 exact U4.lex
theorem rD : ∀ a b : Bytes, gZ a b < 0 ↔ blt a b = true
 | [], [] => by simp [Lib.compareBytes, blt, Op.bytesLess]
 | [], _ :: _ => by simp [Lib.compareBytes, blt, Op.bytesLess]
 | _ :: _, [] => by simp [Lib.compareBytes, blt, Op.bytesLess]
 | x :: a, y :: b => by
   have ih := rD a b
   unfold blt gZ at *
   simp only [Lib.compareBytes, Op.bytesLess, Bool.or_eq_true, decide_eq_true_eq, Bool.and_eq_true, beq_iff_eq]
   rcases Nat.lt_trichotomy x.toNat y.toNat with h | h | h
   ·have h1 := UInt8.lt_iff_toNat_lt.2 h
    rw [if_pos h1]
    exact ⟨fun _ => .inl h1, fun _ => by decide⟩
   ·have h1 : x = y := UInt8.toNat_inj.1 h
    subst h1
    rw [if_neg (UInt8.lt_irrefl x), if_neg (UInt8.lt_irrefl x), ih]
    simp [UInt8.lt_irrefl]
   ·have h1 := UInt8.lt_iff_toNat_lt.2 h
    have h2 : ¬ x < y := fun h2 => by have := UInt8.lt_iff_toNat_lt.1 h2; omega
    rw [if_neg h2, if_pos h1]
    refine ⟨fun h3 => by omega, fun h3 => ?_⟩
    rcases h3 with h3 | ⟨h3, _⟩
    ·exact absurd h3 h2
    ·subst h3; omega
theorem U5 (a b : Bytes) : 0 < gZ a b ↔ blt b a = true := (cR.sw b a).symm.trans (rD b a)
def eQ (x y : Lb) : Int := if gZ x.n y.n = 0 then gZ x.v y.v else gZ x.n y.n
theorem QM : U3 eQ where
 eq x y := by
  unfold eQ
  obtain ⟨a, b⟩ := x
  obtain ⟨c, d⟩ := y
  simp only [Lb.mk.injEq]
  split
  ·rename_i h
   rw [cR.eq, and_iff_right ((cR.eq _ _).1 h)]
  ·rename_i h
   exact ⟨fun e => absurd e h, fun e => absurd ((cR.eq _ _).2 e.1) h⟩
 sw x y := by
  unfold eQ
  by_cases h0 : gZ x.n y.n = 0
  ·rw [if_pos h0, if_pos ((cR.eq _ _).2 ((cR.eq _ _).1 h0).symm)]
   exact cR.sw _ _
  ·rw [if_neg h0, if_neg (fun e => h0 ((cR.eq _ _).2 ((cR.eq _ _).1 e).symm))]
   exact cR.sw _ _
 tr x y z := by
  unfold eQ
  intro h1 h2
  by_cases e1 : gZ x.n y.n = 0
  ·have := (cR.eq _ _).1 e1
   rw [if_pos e1] at h1
   rw [← this] at h2
   by_cases e2 : gZ x.n z.n = 0
   ·rw [if_pos e2] at h2 ⊢; exact cR.tr _ _ _ h1 h2
   ·rw [if_neg e2] at h2 ⊢; exact h2
  ·rw [if_neg e1] at h1
   by_cases e2 : gZ y.n z.n = 0
   ·have := (cR.eq _ _).1 e2
    rw [← this, if_neg e1]
    exact h1
   ·rw [if_neg e2] at h2
    have := cR.tr _ _ _ h1 h2
    rw [if_neg (by omega)]
    exact this
abbrev KC : List Lb → List Lb → Int := dS eQ
theorem w9 : U3 KC := QM.lex
def mX (first : Bool) (c : UInt8) : Bool := decide ((97 ≤ (c.toNat : Int) ∧ (c.toNat : Int) ≤ 122) ∨ (65 ≤ (c.toNat : Int) ∧ (c.toNat : Int) ≤ 90) ∨ (c.toNat : Int) = 95 ∨ (first = false ∧ 48 ≤ (c.toNat : Int) ∧ (c.toNat : Int) ≤ 57))
def l3 : Bool → Bytes → Bool
 | _, [] => true
 | f, c :: s => mX f c && l3 false s
def nameB (s : Bytes) : Bool := l3 true s && decide (¬ s = []) && decide (s.length ≤ 64)
def lG (x : Lb) : Bool := nameB x.n && decide (¬ x.v = []) && decide (x.v.length ≤ 128)
def eZ (x y : Lb) : Int := gZ x.n y.n
abbrev H4 : Lb → Lb → Bool := cH eZ
theorem fS (x y : Lb) : eZ x y < 0 ↔ 0 < eZ y x := cR.sw _ _
theorem uZ (x y z : Lb) (h1 : eZ x y < 0) (h2 : eZ y z < 0) : eZ x z < 0 := cR.tr _ _ _ h1 h2
theorem BU : kQ H4 := cR.ord Lb.n
def gW (l : List Lb) : List Lb × Int :=
 if l.any (fun x => !lG x) = true then ([], 90) else if fX eZ (dD H4 l) = true then ([], 8) else if 16 < l.length then ([], 6) else (dD H4 l, 0)
def eG (l : List Lb) : Bool := decide ((gW l).2 = 0) && decide ((gW l).1 = l)
def xB (l : List Lb) : Prop := l.Pairwise fun x y => eZ x y < 0
structure dQ (l : List Lb) : Prop where
 ok : ∀ x ∈ l, lG x = true
 up : xB l
 few : l.length ≤ 16
theorem zR {l : List Lb} (h : xB l) : dD H4 l = l := by
 have hs := lY BU l
 have hd : fX eZ (dD H4 l) = false → (dD H4 l).Pairwise fun x y => eZ x y < 0 := fun hd => nX fS uZ hs.up hd
 have hu : Up H4 l := h.imp (fun {x y} hxy => by
  have := (fS x y).1 hxy
  simp only [H4, cH, decide_eq_false_iff_not]
  omega)
 refine lZ fS (hd ?_) h hs.perm
 cases hb : fX eZ (dD H4 l) with
 | false => rfl
 | true =>
   exfalso
   have key : ∀ {r : List Lb}, fX eZ r = true → ∃ x y, eZ x y = 0 ∧ [x, y].Sublist r := by
    intro r
    induction r with
    | nil => intro h; cases h
    | cons x r ih =>
      intro h
      cases r with
      | nil => cases h
      | cons y r =>
        simp only [fX, Bool.or_eq_true, decide_eq_true_eq] at h
        rcases h with h | h
        ·exact ⟨x, y, h, by simp⟩
        ·obtain ⟨a, b, h1, h2⟩ := ih h
         exact ⟨a, b, h1, h2.trans (List.sublist_cons_self _ _)⟩
   obtain ⟨x, y, h1, h2⟩ := key hb
   have h3 : (dD H4 l).Pairwise fun x y => eZ x y ≠ 0 := by
    have h4 : l.Pairwise fun x y => eZ x y ≠ 0 := h.imp (fun {x y} hxy => by omega)
    exact (hs.perm.pairwise_iff (fun {x y} hxy e => hxy (by have := fS x y; have := fS y x; omega))).2 h4
   exact (List.pairwise_pair.1 (h3.sublist h2)) h1
theorem l4 {l : List Lb} : eG l = true ↔ dQ l := by
 unfold eG gW
 constructor
 ·intro h
  split at h
  ·simp at h
  ·rename_i h0
   split at h
   ·simp at h
   ·rename_i hd
    split at h
    ·simp at h
    ·rename_i h16
     simp only [decide_true, Bool.true_and, decide_eq_true_eq] at h
     refine ⟨fun x hx => ?_, ?_, by omega⟩
     ·cases ho : lG x with
      | true => rfl
      | false => exact absurd (List.any_eq_true.2 ⟨x, hx, by rw [ho]; rfl⟩) h0
     ·have := nX fS uZ (lY BU l).up (by simpa using hd)
      rw [h] at this
      exact this
 ·intro h
  have h0 : ¬ l.any (fun x => !lG x) = true := by
   rw [Bool.not_eq_true, List.any_eq_false]
   intro x hx
   simp [h.ok x hx]
  have hs := zR h.up
  rw [if_neg h0, hs, if_neg (by rw [QK h.up]; decide), if_neg (by have := h.few; omega)]
  simp
theorem KE {l r : List Lb} (h : dQ r) (hp : r.Perm l) : gW l = (r, 0) := by
 have h0 : ¬ l.any (fun x => !lG x) = true := by
  rw [Bool.not_eq_true, List.any_eq_false]
  intro x hx
  simp [h.ok x (hp.mem_iff.2 hx)]
 have hs := lY BU l
 have hd : fX eZ (dD H4 l) = false := by
  cases hb : fX eZ (dD H4 l) with
  | false => rfl
  | true =>
    exfalso
    have hr := zR h.up
    have h3 : (dD H4 l).Pairwise fun x y => eZ x y ≠ 0 := by
     have h4 : r.Pairwise fun x y => eZ x y ≠ 0 := h.up.imp (fun {x y} hxy => by omega)
     exact ((hs.perm.trans hp.symm).pairwise_iff (fun {x y} hxy e => hxy (by have := fS x y; have := fS y x; omega))).2 h4
    have key : ∀ {r : List Lb}, fX eZ r = true → ¬ r.Pairwise fun x y => eZ x y ≠ 0 := by
     intro r
     induction r with
     | nil => intro h; cases h
     | cons x r ih =>
       intro h hp
       cases r with
       | nil => cases h
       | cons y r =>
         simp only [fX, Bool.or_eq_true, decide_eq_true_eq] at h
         rcases h with h | h
         ·exact (List.pairwise_cons.1 hp).1 y (.head _) h
         ·exact ih h (List.pairwise_cons.1 hp).2
    exact key hb h3
 have e : dD H4 l = r := lZ fS (nX fS uZ hs.up hd) h.up (hs.perm.trans hp.symm)
 unfold gW
 rw [if_neg h0, hd, if_neg (by decide), if_neg (by have := h.few; rw [hp.length_eq] at this; omega), e]
def bN (l : List Lb) (n : Bytes) : Bytes := match l.find? (fun x => decide (x.n = n)) with
 | some x => x.v
 | none => []
def a6 (a b : List Lb) : Bool := a.all fun x => decide (x ∈ b)
def joinL (a b : List Lb) : List Lb × Bool :=
 if b.any (fun x => decide (¬ bN a x.n = []) && decide (¬ bN a x.n = x.v)) = true then ([], false)
 else ((gW (a ++ b.filter fun x => decide (bN a x.n = []))).1, decide ((gW (a ++ b.filter fun x => decide (bN a x.n = []))).2 = 0))
theorem xB.nd {l : List Lb} (h : xB l) : l.Nodup := h.imp (fun {x y} hxy e => by subst e; have := fS x x; omega)
theorem xB.same {l : List Lb} (h : xB l) {x y : Lb} (hx : x ∈ l) (hy : y ∈ l) (e : x.n = y.n) : x = y := by
 have h2 : l.Pairwise fun x y => x.n = y.n → x = y := h.imp (fun {x y} hxy e => by unfold eZ at hxy; rw [e, (cR.eq _ _).2 rfl] at hxy; omega)
 exact QL (R := fun x y : Lb => x.n = y.n → x = y) (fun x y h e => (h e.symm).symm) (fun x _ => rfl) h2 hx hy e
theorem mM {l : List Lb} (h : dQ l) {x : Lb} (hx : x ∈ l) : bN l x.n = x.v := by
 unfold bN
 cases hf : l.find? (fun y => decide (y.n = x.n)) with
 | none => exact absurd hx (by have := List.find?_eq_none.1 hf x; simp at this; exact this)
 | some y =>
   have h1 := List.find?_some hf
   have h2 := List.mem_of_find?_eq_some hf
   rw [h.up.same h2 hx (by simpa using h1)]
theorem xE {l : List Lb} {n : Bytes} (h : ∀ x ∈ l, x.n ≠ n) : bN l n = [] := by
 unfold bN
 rw [List.find?_eq_none.2 (fun x hx => by simpa using h x hx)]
theorem BV {x : Lb} (h : lG x = true) : x.v ≠ [] := by
 unfold lG at h
 simp only [Bool.and_eq_true, decide_eq_true_eq] at h
 exact h.1.2
theorem QN {l : List Lb} (h : dQ l) {n : Bytes} : bN l n = [] ↔ ∀ x ∈ l, x.n ≠ n := by
 refine ⟨fun e x hx hn => ?_, xE⟩
 subst hn
 rw [mM h hx] at e
 exact BV (h.ok x hx) e
theorem U6 {l : List Lb} (h : dQ l) {x : Lb} (hx : lG x = true) : bN l x.n = x.v ↔ x ∈ l := by
 refine ⟨fun e => ?_, mM h⟩
 by_cases hn : ∀ y ∈ l, y.n ≠ x.n
 ·rw [xE hn] at e
  exact absurd e.symm (BV hx)
 ·obtain ⟨y, hy⟩ := Classical.not_forall.1 hn
  obtain ⟨hy, hyn⟩ := Classical.not_imp.1 hy
  have hyn := Classical.not_not.1 hyn
  have h2 := mM h hy
  rw [hyn, e] at h2
  have : x = y := by obtain ⟨a, b⟩ := x; obtain ⟨c, d⟩ := y; simp only at hyn h2; subst hyn; subst h2; rfl
  rw [this]
  exact hy
theorem H5 {a b : List Lb} (ha : dQ a) (h : a6 a b = true) : a.length ≤ b.length := by
 have h1 : ∀ x ∈ a, x ∈ b := fun x hx => by simpa using List.all_eq_true.1 h x hx
 exact sZ ha.up.nd h1
theorem MS {a b : List Lb} (ha : dQ a) (hb : dQ b) (h : a6 a b = true) (hl : b.length ≤ a.length) : a = b := by
 have h1 : ∀ x ∈ a, x ∈ b := fun x hx => by simpa using List.all_eq_true.1 h x hx
 refine lZ fS ha.up hb.up ((List.perm_ext_iff_of_nodup ha.up.nd hb.up.nd).2 fun x => ⟨h1 x, fun hx => ?_⟩)
 by_cases hxa : x ∈ a
 ·exact hxa
 ·have := sZ (js := x :: a) (l := b) (List.nodup_cons.2 ⟨hxa, ha.up.nd⟩) (fun y hy => by
   rcases List.mem_cons.1 hy with rfl | hy
   ·exact hx
   ·exact h1 y hy)
  simp only [List.length_cons] at this
  omega
theorem U7 {a b : List Lb} (ha : dQ a) (hb : dQ b) (h : a6 b a = true) : joinL a b = (a, true) := by
 have h1 : ∀ x ∈ b, x ∈ a := fun x hx => by simpa using List.all_eq_true.1 h x hx
 unfold joinL
 have e1 : b.any (fun x => decide (¬ bN a x.n = []) && decide (¬ bN a x.n = x.v)) = false := by
  rw [List.any_eq_false]
  intro x hx
  simp [mM ha (h1 x hx)]
 have e2 : b.filter (fun x => decide (bN a x.n = [])) = [] := by
  rw [List.filter_eq_nil_iff]
  intro x hx
  have := BV (hb.ok x hx)
  simp [mM ha (h1 x hx), this]
 rw [e1, if_neg (by decide), e2, List.append_nil, KE ha (List.Perm.refl _)]
 rfl
theorem KF {a b : List Lb} (ha : dQ a) (hb : dQ b) (h : a6 a b = true) : joinL a b = (b, true) := by
 have h1 : ∀ x ∈ a, x ∈ b := fun x hx => by simpa using List.all_eq_true.1 h x hx
 unfold joinL
 have e0 : ∀ x ∈ b, bN a x.n = [] ∨ x ∈ a := fun x hx => by
  by_cases hn : bN a x.n = []
  ·exact .inl hn
  ·right
   have := mt (QN ha).2 hn
   obtain ⟨y, hy⟩ := Classical.not_forall.1 this
   obtain ⟨hy, hyn⟩ := Classical.not_imp.1 hy
   have e := hb.up.same (h1 y hy) hx (Classical.not_not.1 hyn)
   rw [← e]
   exact hy
 have e1 : b.any (fun x => decide (¬ bN a x.n = []) && decide (¬ bN a x.n = x.v)) = false := by
  rw [List.any_eq_false]
  intro x hx
  rcases e0 x hx with h | h
  ·simp [h]
  ·simp [mM ha h]
 have hperm : b.Perm (a ++ b.filter fun x => decide (bN a x.n = [])) := by
  have hnd : (a ++ b.filter fun x => decide (bN a x.n = [])).Nodup := by
   refine List.nodup_append.2 ⟨ha.up.nd, hb.up.nd.sublist List.filter_sublist, fun x hx y hy e => ?_⟩
   subst e
   have := (List.mem_filter.1 hy).2
   rw [mM ha hx] at this
   exact BV (ha.ok x hx) (by simpa using this)
  refine (List.perm_ext_iff_of_nodup hb.up.nd hnd).2 (fun x => ?_)
  rw [List.mem_append, List.mem_filter]
  constructor
  ·intro hx
   rcases e0 x hx with h | h
   ·exact .inr ⟨hx, by simpa using h⟩
   ·exact .inl h
  ·rintro (hx | ⟨hx, _⟩)
   ·exact h1 x hx
   ·exact hx
 rw [e1, if_neg (by decide), KE hb hperm]
 rfl
def f6 (x y : Se) : Int := KC x.l y.l
abbrev FK : Se → Se → Bool := cH f6
theorem kG (x y : Se) : f6 x y < 0 ↔ 0 < f6 y x := w9.sw _ _
theorem nY (x y z : Se) (h1 : f6 x y < 0) (h2 : f6 y z < 0) : f6 x z < 0 := w9.tr _ _ _ h1 h2
theorem xF : kQ FK := w9.ord Se.l
def aV (l : List Se) : List Se × Int :=
 if l.any (fun s => !eG s.l) = true then ([], 90) else if l.any (fun s => !cE s.v) = true then ([], 80) else
 if fX f6 (dD FK l) = true then ([], 8) else if 200 < l.length then ([], 6) else (dD FK l, 0)
structure rE (l : List Se) : Prop where
 set : ∀ s ∈ l, dQ s.l
 val : ∀ s ∈ l, cE s.v = true
 up : l.Pairwise fun x y => f6 x y < 0
 few : l.length ≤ 200
theorem MU {l : List Se} (h : (aV l).2 ≠ 0) : (aV l).1 = [] := by
 unfold aV at *
 repeat' split
 all_goals first | rfl | (exfalso; simp_all)
theorem jE {l : List Se} (h : (aV l).2 = 0) : rE (aV l).1 ∧ (aV l).1.Perm l := by
 unfold aV at *
 split at h
 ·cases h
 ·rename_i h1
  split at h
  ·cases h
  ·rename_i h2
   split at h
   ·cases h
   ·rename_i h3
    split at h
    ·cases h
    ·rename_i h4
     rw [if_neg h1, if_neg h2, if_neg h3, if_neg h4]
     have hs := lY xF l
     have a1 : ∀ s ∈ l, dQ s.l := fun s hm => l4.1 (by
      cases ho : eG s.l with
      | true => rfl
      | false => exact absurd (List.any_eq_true.2 ⟨s, hm, by rw [ho]; rfl⟩) h1)
     have a2 : ∀ s ∈ l, cE s.v = true := fun s hm => by
      cases ho : cE s.v with
      | true => rfl
      | false => exact absurd (List.any_eq_true.2 ⟨s, hm, by rw [ho]; rfl⟩) h2
     exact ⟨⟨fun s hm => a1 s (hs.perm.mem_iff.1 hm), fun s hm => a2 s (hs.perm.mem_iff.1 hm), nX kG nY hs.up (by simpa using h3), by rw [hs.perm.length_eq]; omega⟩, hs.perm⟩
theorem tV {α : Type} {c : α → α → Int} (hs : ∀ x y, c x y < 0 ↔ 0 < c y x) : ∀ {r : List α}, fX c r = true → ∀ {l : List α}, r.Perm l → ¬ l.Pairwise fun x y => c x y ≠ 0 := by
 intro r h l hp hl
 have h3 : r.Pairwise fun x y => c x y ≠ 0 := (hp.pairwise_iff (fun {x y} hxy e => hxy (by have := hs x y; have := hs y x; omega))).2 hl
 clear hp hl
 induction r with
 | nil => cases h
 | cons x r ih =>
   cases r with
   | nil => cases h
   | cons y r =>
     simp only [fX, Bool.or_eq_true, decide_eq_true_eq] at h
     rcases h with h | h
     ·exact (List.pairwise_cons.1 h3).1 y (.head _) h
     ·exact ih h (List.pairwise_cons.1 h3).2
theorem KG {l : List Se} (h : rE l) : aV l = (l, 0) := by
 have e1 : ¬ l.any (fun s => !eG s.l) = true := by
  rw [Bool.not_eq_true, List.any_eq_false]; intro s hm; simp [l4.2 (h.set s hm)]
 have e2 : ¬ l.any (fun s => !cE s.v) = true := by
  rw [Bool.not_eq_true, List.any_eq_false]; intro s hm; simp [h.val s hm]
 have hs := lY xF l
 have e3 : fX f6 (dD FK l) = false := by
  cases hb : fX f6 (dD FK l) with
  | false => rfl
  | true => exact absurd (h.up.imp (fun {x y} hxy => by omega)) (tV kG hb hs.perm)
 have e : dD FK l = l := lZ kG (nX kG nY hs.up e3) h.up hs.perm
 unfold aV
 rw [if_neg e1, if_neg e2, e3, if_neg (by decide), if_neg (by have := h.few; omega), e]
def jT (op : Bytes) (l : List Se) : List Se × Int :=
 if ¬ (aV l).2 = 0 then ([], (aV l).2) else if ¬ (mA op [aK 0]).2 = 0 then ([], 2) else ((aV l).1.map fun s => ⟨s.l, (mA op [s.v]).1⟩, 0)
def aQ (op : Bytes) (a b : List Se) : List Se := a.flatMap fun x => (b.filter fun y => a6 x.l y.l || a6 y.l x.l).map fun y => ⟨(joinL x.l y.l).1, (mA op [x.v, y.v]).1⟩
def dO (op : Bytes) (a b : List Se) : List Se × Int :=
 if ¬ (aV a).2 = 0 then ([], (aV a).2) else if ¬ (aV b).2 = 0 then ([], (aV b).2) else if ¬ (mA op [aK 0, aK 0]).2 = 0 then ([], 2) else aV (aQ op (aV a).1 (aV b).1)
theorem oZ {op : Bytes} {b : List Se} : ∀ {a : List Se}, (aQ op a b).length ≤ a.length * b.length
 | [] => by simp [aQ]
 | x :: a => by
   have ih := oZ (op := op) (b := b) (a := a)
   unfold aQ at ih ⊢
   rw [List.flatMap_cons, List.length_append, List.length_map, List.length_cons, Nat.succ_mul]
   have := List.length_filter_le (fun y : Se => a6 x.l y.l || a6 y.l x.l) b
   omega
section
variable (look : Bytes → Option (List Se))
mutual
def cN : Ex → List Se × Int
 | .mk k n v kids => if k = 1 then ([⟨[], v⟩], 0) else if k = 2 then (match look n with | some l => aV l | none => ([], 7)) else
   if ¬ (pE kids).2 = 0 then ([], (pE kids).2) else
   match (pE kids).1 with
   | [a] => jT n a
   | a :: b :: _ => dO n a b
   | [] => ([], 0)
def pE : List Ex → List (List Se) × Int
 | [] => ([], 0)
 | x :: r => if ¬ (cN x).2 = 0 then ([], (cN x).2) else if ¬ (pE r).2 = 0 then ([], (pE r).2) else ((cN x).1 :: (pE r).1, 0)
end
end
def mN : List (Bytes × List Se) → Bytes → Option (List Se)
 | [], _ => none
 | e :: r, n => if e.1 = n then some e.2 else mN r n
def aM (l : List (Bytes × List Se)) (n : Bytes) : Option (List Se) := mN l.reverse n
end Go.KX
