/- Plain: dag.Order: who stands ahead of whom; the order of nodes has no part. No program in sight. -/
import Derived.Test.YtomkgfdigldhcaaGreatDoorMM
namespace Go.KX
theorem orderL_perm : ∀ (f : Nat) {out : List Bytes} {l l' : List Nd}, l.Perm l' → orderL f out l = orderL f out l'
  | 0, _, _, _, _ => rfl
  | f + 1, out, l, l', h => by
    simp only [orderL]
    rw [best_perm (out := out) h]
    split
    · rfl
    · exact orderL_perm f (h.filter _)
theorem orderN_perm {l l' : List Nd} (h : l.Perm l') : orderN l = orderN l' := by
  have e : okN l = okN l' := by
    rw [Bool.eq_iff_iff, okN_iff, okN_iff]
    exact (h.map (·.ref)).nodup_iff
  unfold orderN
  rw [e, h.length_eq]
  split
  · rfl
  · exact orderL_perm _ h
theorem orderL_err : ∀ (f : Nat) {out : List Bytes} {l : List Nd}, (orderL f out l).2 ≠ 0 → (orderL f out l).1 = [] ∧ (orderL f out l).2 = 121
  | 0, _, _, h => absurd rfl h
  | f + 1, out, l, h => by
    simp only [orderL] at h ⊢
    split
    · exact ⟨rfl, rfl⟩
    · rename_i hb; rw [if_neg hb] at h; exact orderL_err f h
theorem orderN_err {l : List Nd} (h : (orderN l).2 ≠ 0) : (orderN l).1 = [] := by
  unfold orderN at h ⊢
  split
  · rfl
  · rename_i hb; rw [if_neg hb] at h; exact (orderL_err _ h).1
theorem filter_ref {x : Nd} : ∀ {l : List Nd}, (l.map (·.ref)).Nodup → x ∈ l → (x.ref :: ((l.filter fun n => decide (n.ref ≠ x.ref)).map (·.ref))).Perm (l.map (·.ref))
  | [], _, h => by cases h
  | y :: l, hn, hx => by
    simp only [List.map_cons, List.nodup_cons] at hn
    by_cases hy : y.ref = x.ref
    · have hall : l.filter (fun n => decide (n.ref ≠ x.ref)) = l := by
        rw [List.filter_eq_self]
        intro z hz
        simp only [ne_eq, decide_eq_true_eq]
        intro ez
        exact hn.1 (List.mem_map.2 ⟨z, hz, by rw [ez, hy]⟩)
      rw [List.filter_cons_of_neg (by simp [hy]), hall, List.map_cons, hy]
    · have hx2 : x ∈ l := by
        cases hx with
        | head => exact absurd rfl hy
        | tail _ h => exact h
      rw [List.filter_cons_of_pos (by simp [hy])]
      simp only [List.map_cons]
      exact (List.Perm.swap _ _ _).trans ((filter_ref hn.2 hx2).cons _)
structure Ahead (a : List Bytes) (n : Nd) : Prop where
  ex : ∃ p s, a = p ++ n.ref :: s ∧ n.ref ∉ p ∧ ∀ q ∈ inputsN n, q ∈ p
theorem orderL_ok : ∀ (f : Nat) {out : List Bytes} {l : List Nd}, l.length = f → (l.map (·.ref)).Nodup → (∀ n ∈ l, n.ref ∉ out) → (orderL f out l).2 = 0 →
    ∃ suf, (orderL f out l).1 = out ++ suf ∧ suf.Perm (l.map (·.ref)) ∧ ∀ n ∈ l, Ahead (orderL f out l).1 n
  | 0, out, l, hl, _, _, _ => by
    have : l = [] := List.eq_nil_of_length_eq_zero hl
    subst this
    exact ⟨[], by simp [orderL], by simp, fun n hn => by cases hn⟩
  | f + 1, out, l, hl, hn, hd, h => by
    simp only [orderL] at h ⊢
    by_cases hb : (bestL out l).2 = false
    · rw [if_pos hb] at h; cases h
    · rw [if_neg hb] at h ⊢
      have hb' : (bestL out l).2 = true := by simpa using hb
      obtain ⟨x, hx, ex, hr⟩ := best_some hb'
      obtain ⟨h1, _⟩ := best_left hn hb'
      have hfil : ∀ n ∈ l, n.ref = (bestL out l).1 ∨ n ∈ l.filter fun n => decide (n.ref ≠ (bestL out l).1) := by
        intro n hm
        by_cases e : n.ref = (bestL out l).1
        · exact .inl e
        · exact .inr (List.mem_filter.2 ⟨hm, by simp [e]⟩)
      obtain ⟨suf, e1, e2, e3⟩ := orderL_ok f (out := out ++ [(bestL out l).1]) (l := l.filter fun n => decide (n.ref ≠ (bestL out l).1)) (by omega) (filter_nodup hn) (fun n hm => by
        have hm' := List.mem_filter.1 hm
        intro hc
        rcases List.mem_append.1 hc with hc | hc
        · exact hd n hm'.1 hc
        · simp only [List.mem_singleton] at hc
          have := hm'.2
          simp [hc] at this) h
      refine ⟨(bestL out l).1 :: suf, by rw [e1]; simp, ?_, fun n hm => ?_⟩
      · have hp := filter_ref hn hx
        rw [ex] at hp
        exact (e2.cons _).trans hp
      · rcases hfil n hm with e | hm'
        · have hnx : n = x := by
            have := hn
            have inj : ∀ {l : List Nd}, (l.map (·.ref)).Nodup → ∀ a ∈ l, ∀ b ∈ l, a.ref = b.ref → a = b := by
              intro l
              induction l with
              | nil => intro _ a ha; cases ha
              | cons z l ih =>
                intro hn a ha b hb e
                simp only [List.map_cons, List.nodup_cons] at hn
                cases ha with
                | head => cases hb with
                  | head => rfl
                  | tail _ hb => exact absurd (List.mem_map.2 ⟨b, hb, e.symm⟩) hn.1
                | tail _ ha => cases hb with
                  | head => exact absurd (List.mem_map.2 ⟨a, ha, e⟩) hn.1
                  | tail _ hb => exact ih hn.2 a ha b hb e
            exact inj hn n hm x hx (e.trans ex.symm)
          subst hnx
          refine ⟨out, suf, by rw [e1, ← ex]; simp, hd n hm, fun q hq => ?_⟩
          have := List.all_eq_true.1 hr q hq
          simpa using this
        · exact e3 n hm'
theorem orderN_ok {l : List Nd} (h : (orderN l).2 = 0) : (orderN l).1.Perm (l.map (·.ref)) ∧ ∀ n ∈ l, Ahead (orderN l).1 n := by
  unfold orderN at h ⊢
  by_cases hk : okN l = false
  · rw [if_pos hk] at h; cases h
  · rw [if_neg hk] at h ⊢
    obtain ⟨suf, h1, h2, h3⟩ := orderL_ok l.length rfl (byR_ok (by simpa using hk)).2 (fun _ _ hc => by cases hc) h
    exact ⟨by rw [h1]; simpa using h2, h3⟩
theorem place_at {p s : List Bytes} {x : Bytes} (h : x ∉ p) : placeN (p ++ x :: s) x = p.length := by
  have hlt : p.length < (p ++ x :: s).length := by simp
  refine idxF_some (p := fun y => decide (y = x)) (l := p ++ x :: s) hlt (fun y hy => ?_) (by simp)
  rw [List.take_left] at hy
  exact decide_eq_false (fun e => h (e ▸ hy))
theorem place_in {p s : List Bytes} {x : Bytes} (h : x ∈ p) : 0 ≤ placeN (p ++ s) x ∧ placeN (p ++ s) x < p.length := by
  obtain ⟨a, b, rfl, hn⟩ := List.eq_append_cons_of_mem h
  rw [List.append_assoc, List.cons_append, place_at hn]
  simp; omega
theorem Ahead.place {a : List Bytes} {n : Nd} (h : Ahead a n) : 0 ≤ placeN a n.ref ∧ ∀ q ∈ inputsN n, 0 ≤ placeN a q ∧ placeN a q < placeN a n.ref := by
  obtain ⟨p, s, rfl, h1, h2⟩ := h
  rw [place_at h1]
  exact ⟨by omega, fun q hq => place_in (h2 q hq)⟩
/-! ### Turned -/
def rotN (l : List Nd) (b : Int) (i : Nat) : Nd := l.getD ((i + b.toNat % l.length) % l.length) ⟨[], 0, [], [], [], false, zeroV, zeroV, []⟩
def turnL (l : List Nd) (b : Int) (j : Nat) : List Nd := (List.range j).map (rotN l b)
theorem turn_next (l : List Nd) (b : Int) (j : Nat) : turnL l b (j + 1) = turnL l b j ++ [rotN l b j] := by simp [turnL, List.range_succ]
theorem rot_get {l : List Nd} {k i : Nat} {d : Nd} (hk : k < l.length) (hi : i < l.length) : l.getD ((i + k) % l.length) d = (l.drop k ++ l.take k)[i]'(by simp; omega) := by
  rw [List.getElem_append]
  by_cases hik : i < l.length - k
  · have e1 : (i + k) % l.length = i + k := Nat.mod_eq_of_lt (by omega)
    rw [e1, dif_pos (by simpa using hik), List.getElem_drop, List.getD_eq_getElem?_getD, List.getElem?_eq_getElem (by omega)]
    simp only [Option.getD_some]
    congr 1; omega
  · have e1 : (i + k) % l.length = i + k - l.length := by
      rw [Nat.mod_eq_sub_mod (by omega), Nat.mod_eq_of_lt (by omega)]
    rw [e1, dif_neg (by simpa using hik), List.getElem_take, List.getD_eq_getElem?_getD, List.getElem?_eq_getElem (by omega)]
    simp only [Option.getD_some, List.length_drop]
    congr 1; omega
theorem turn_perm (l : List Nd) (b : Int) : (turnL l b l.length).Perm l := by
  by_cases h0 : l = []
  · subst h0; exact .refl _
  have hl : 0 < l.length := List.length_pos_iff.2 h0
  have hk : b.toNat % l.length < l.length := Nat.mod_lt _ hl
  have e : turnL l b l.length = l.drop (b.toNat % l.length) ++ l.take (b.toNat % l.length) := by
    refine List.ext_getElem (by simp [turnL]; omega) (fun i h1 h2 => ?_)
    have hi : i < l.length := by simpa [turnL] using h1
    simp only [turnL, List.getElem_map, List.getElem_range, rotN]
    exact rot_get hk hi
  rw [e]
  exact List.perm_append_comm.trans (by rw [List.take_append_drop])
theorem rot_ix {l : List Nd} {b : Int} {j : Nat} (hb : 0 ≤ b) : Int.tmod ((j : Int) + Int.tmod b l.length) l.length = ((j + b.toNat % l.length) % l.length : Nat) := by
  obtain ⟨n, rfl⟩ := Int.eq_ofNat_of_zero_le hb
  rw [Int.toNat_natCast]
  show Int.tmod ((j : Int) + ((n % l.length : Nat) : Int)) l.length = _
  rw [← Int.natCast_add]
  rfl
theorem rot_phi {l : List Nd} {b : Int} {j : Nat} (hb : 0 ≤ b) (hj : j < l.length) (hl : l.length ≤ 24) :
    conj [0 ≤ Int.tmod ((j : Int) + Int.tmod b (l.map ndL).length) (l.map ndL).length ∧ (l.map ndL)[(Int.tmod ((j : Int) + Int.tmod b (l.map ndL).length) (l.map ndL).length).toNat]? = some (ndL (rotN l b j)), ((l.map ndL).length : Int) ≠ 0, i64ok ((j : Int) + Int.tmod b (l.map ndL).length), ((l.map ndL).length : Int) ≠ 0] := by
  have hk : b.toNat % l.length < l.length := Nat.mod_lt _ (by omega)
  have hm : (j + b.toNat % l.length) % l.length < l.length := Nat.mod_lt _ (by omega)
  have e1 : Int.tmod b l.length = ((b.toNat % l.length : Nat) : Int) := by
    obtain ⟨n, rfl⟩ := Int.eq_ofNat_of_zero_le hb
    rw [Int.toNat_natCast]; rfl
  rw [List.length_map, rot_ix hb, e1]
  have hl0 : (l.length : Int) ≠ 0 := by omega
  refine ⟨⟨Int.natCast_nonneg _, ?_⟩, hl0, ?_, hl0⟩
  · rw [Int.toNat_natCast, List.getElem?_map, List.getElem?_eq_getElem hm]
    simp only [rotN, List.getD_eq_getElem?_getD, List.getElem?_eq_getElem hm, Option.getD_some, Option.map_some]
  · unfold i64ok; omega
end Go.KX
/- Walks: WZ. -/
namespace Go.Proofs.YtomkgfdigldhcaaGreatDoor
open Go.KX
set_option maxRecDepth 100000 in
theorem dagAhead_ok {l : List Nd} {b : Int} (hb : ∀ n ∈ l, wN n ≤ 703687441776640) : Fc Tryz.prog gT 7 [rN l, nI b] (bS true) := by
 refine fb tOK (fn := Tryz.f7) 124 [.tmp 4] Tryz.func7 Tryz.results7 (fun g0 B0 Q ρ0 R => ?_)
 refine en tOK 0 1 [] ?_
 refine sn tOK 0 1 [] ?_
 refine fc tOK 5 [] (small_ok hb) ?_
 refine sib 0 rfl rfl (fun h22 => ?_) (fun h22 => ?_)
 ·refine en tOK 0 0 [] ?_
  refine fc tOK 1 [] (live12_ok) ?_
  refine sr 0 R ?_
  rfl
 ·simp only [Bool.or_eq_false_iff, Bool.not_eq_false', decide_eq_false_iff_not] at h22
  have hs : smallN l = true := by simpa using h22.1
  have hby : 0 ≤ b := by have := h22.2; omega
  have hl := small_len hs
  have hrf := small_ref hs
  refine en tOK 0 1 [] ?_
  refine sn tOK 0 1 [] ?_
  refine sl 0 ?_
  refine eonl 5 902 65 11 ?_
  refine E_loop (σ := Nat) (fun j => j ≤ l.length) (fun j => l.length - j)
    (fun j => [(0, rN l), (1, nI b), (5, .o 902 ((turnL l b j).map ndL).length), (6, nI j)])
    (fun j => [(902, .r 65 11 ((turnL l b j).map ndL))]) 0 ?_ ?_
  ·exact Nat.zero_le _
  ·rintro J j hj0 hJ
   refine en tOK 0 4 [] ?_
   refine si 0 rfl rfl (fun h27 => ?_) (fun h27 => ?_)
   ·rw [List.length_map] at h27
    have hj : j < l.length := by omega
    have hix := rot_ix (l := l) (j := j) hby
    have hmod := Nat.mod_lt (j + b.toNat % l.length) (by omega : 0 < l.length)
    refine en tOK 0 14 [ndL (rotN l b j)] ?_ (hφ := by exact rot_phi hby hj hl)
    refine sap tOK 1 [] rfl (fun _ => rfl) ?_ ?_
    ·show (((turnL l b j).map ndL).length + 1) * 128 ≤ _
     simp only [List.length_map, turnL, List.length_range]
     omega
    refine sn tOK 0 3 [] ?_
    refine sl 0 ?_
    refine eas 5 rfl (v' := .o 902 ((turnL l b (j + 1)).map ndL).length) (by rw [turn_next]; simp) ?_
    refine emb 902 (mb' := .r 65 11 ((turnL l b (j + 1)).map ndL)) ?_ ?_
    ·rw [turn_next]; simp [cellsV]
    exact hJ (j + 1) (by omega) (by omega)
   ·rw [List.length_map] at h27
    have ej : j = l.length := by omega
    subst ej
    have ht : orderN (turnL l b l.length) = orderN l := orderN_perm (turn_perm l b)
    have hlt : (turnL l b l.length).length = l.length := by simp [turnL]
    have ho2 : Fc Tryz.prog gT 29 [rN (turnL l b l.length)] (.t [rB (orderN l).1, nI (orderN l).2]) := by rw [← ht]; exact order_ok (by omega)
    refine en tOK 0 1 [] ?_
    refine fc tOK 5 [] (order_ok (l := l) (by omega)) ?_
    refine sezo 5 (rows := (turnL l b l.length).map ndL) ?_ ?_ (hr := fun r hr => by
      obtain ⟨n, _, rfl⟩ := List.mem_map.1 hr
      rfl)
    ·rfl
    refine sn tOK 0 1 [] ?_
    refine fc tOK 5 [] (ho2) ?_
    refine sn tOK 0 2 [] ?_
    refine fc tOK 3 [] (texts_ok (a := (orderN l).1) (b := (orderN l).1)) ?_
    refine fg tOK 1 [] (fun hg => num12_ok) ?_
    refine fg tOK 2 [] (fun hg => num12_ok) ?_
    refine sib 0 rfl rfl (fun h65 => ?_) (fun h65 => ?_)
    ·exact absurd h65 (by simp)
    ·refine en tOK 0 1 [] ?_
     refine fc tOK 1 [] (num12_ok) ?_
     refine si 0 rfl rfl (fun h68 => ?_) (fun h68 => ?_)
     ·have e := orderN_err h68
      refine en tOK 0 4 [] ?_
      refine fg tOK 2 [] (fun hg => live12_ok) ?_
      refine sr 0 R ?_
      rw [e]; rfl
     ·have h0 : (orderN l).2 = 0 := Decidable.not_not.1 h68
      obtain ⟨hperm, hah⟩ := orderN_ok h0
      have hol : (orderN l).1.length = l.length := by have := hperm.length_eq; simpa using this
      refine en tOK 0 1 [] ?_
      refine sl 0 ?_
      refine E_loop (σ := Nat) (fun i => i ≤ l.length) (fun i => l.length - i)
        (fun i => [(0, rN l), (7, rB (orderN l).1), (11, nI i)])
        (fun i => []) 0 ?_ ?_
      ·exact Nat.zero_le _
      ·rintro J i hi0 hI
       refine en tOK 0 4 [] ?_
       refine si 0 rfl rfl (fun h78 => ?_) (fun h78 => ?_)
       ·rw [List.length_map] at h78
        have hi : i < l.length := by omega
        have hp := (hah l[i] (List.getElem_mem hi)).place
        have hil := inputs_len l[i]
        refine en tOK 0 6 [ndL l[i]] ?_ (hφ := by exact ⟨by omega, by simpa using rN_get hi⟩)
        refine fc tOK 1 [] (place_ok (l := (orderN l).1) (s := l[i].ref)) ?_
        refine sn tOK 0 4 [ndL l[i]] ?_ (hφ := by exact ⟨by omega, by simpa using rN_get hi⟩)
        refine fc tOK 1 [] (inputs_ok (n := l[i])) ?_
        refine sn tOK 0 1 [] ?_
        refine sl 0 ?_
        refine E_loop (σ := Nat) (fun k => k ≤ (inputsN l[i]).length) (fun k => (inputsN l[i]).length - k)
          (fun k => [(0, rN l), (7, rB (orderN l).1), (11, nI i), (12, nI (placeN (orderN l).1 l[i].ref)), (13, rB (inputsN l[i])), (14, nI k)])
          (fun k => []) 0 ?_ ?_
        ·exact Nat.zero_le _
        ·rintro J k hk0 hK
         refine en tOK 0 4 [] ?_
         refine si 0 rfl rfl (fun h96 => ?_) (fun h96 => ?_)
         ·rw [List.length_map] at h96
          have hk : k < (inputsN l[i]).length := by omega
          have hq := hp.2 _ (List.getElem_mem hk)
          refine en tOK 0 5 [[.str (inputsN l[i])[k]]] ?_ (hφ := by exact ⟨by omega, by simp [hk]⟩)
          refine fc tOK 1 [] (place_ok (l := (orderN l).1) (s := (inputsN l[i])[k])) ?_
          refine sn tOK 0 11 [] ?_
          refine sib 0 rfl rfl (fun h115 => ?_) (fun h115 => ?_)
          ·exact absurd h115 (by simp only [Bool.or_eq_true, decide_eq_true_eq]; omega)
          ·refine en tOK 0 3 [] ?_
           refine sl 0 ?_
           exact hK (k + 1) (by omega) (by omega)
         ·refine en tOK 0 3 [] ?_
          refine sl 0 ?_
          exact hI (i + 1) (by omega) (by omega)
       ·have e : (decide (((rowsB (orderN l).1).length : Int) = ((l.map ndL).length : Int)) && true) = true := by rw [List.length_map, List.length_map, hol]; simp
        refine en tOK 0 6 [] ?_
        refine fg tOK 2 [] (fun hg => live12_ok) ?_
        refine sr 0 R ?_
        exact congrArg (fun b => SV.v (.bool b)) e
end Go.Proofs.YtomkgfdigldhcaaGreatDoor
