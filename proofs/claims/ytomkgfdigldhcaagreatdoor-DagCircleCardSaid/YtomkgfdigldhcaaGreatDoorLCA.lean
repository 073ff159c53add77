/- Plain: dag.Order: who stands ahead of whom; the order of nodes has no part. No program in sight. -/
import Derived.Test.YtomkgfdigldhcaaGreatDoorMM
import Derived.Laws.OwnMore
namespace Go.KX
theorem orderL_perm : ∀ (f : Nat) {out : List Bytes} {l l' : List Nd}, l.Perm l' → orderL f out l = orderL f out l'
  | 0, _, _, _, _ => rfl
  | f + 1, out, l, l', h => by
    simp only [orderL]
    rw [best_perm (out := out) h]
    split
    · rfl
    · exact orderL_perm f (h.filter _)
theorem orderN_perm {l l' : List Nd} (h : l.Perm l') : orderN l = orderN l' := by
  have e : okN l = okN l' := by
    rw [Bool.eq_iff_iff, okN_iff, okN_iff]
    exact (h.map (·.ref)).nodup_iff
  unfold orderN
  rw [e, h.length_eq]
  split
  · rfl
  · exact orderL_perm _ h
theorem orderL_err : ∀ (f : Nat) {out : List Bytes} {l : List Nd}, (orderL f out l).2 ≠ 0 → (orderL f out l).1 = [] ∧ (orderL f out l).2 = 121
  | 0, _, _, h => absurd rfl h
  | f + 1, out, l, h => by
    simp only [orderL] at h ⊢
    split
    · exact ⟨rfl, rfl⟩
    · rename_i hb; rw [if_neg hb] at h; exact orderL_err f h
theorem orderN_err {l : List Nd} (h : (orderN l).2 ≠ 0) : (orderN l).1 = [] := by
  unfold orderN at h ⊢
  split
  · rfl
  · rename_i hb; rw [if_neg hb] at h; exact (orderL_err _ h).1
theorem filter_ref {x : Nd} : ∀ {l : List Nd}, (l.map (·.ref)).Nodup → x ∈ l → (x.ref :: ((l.filter fun n => decide (n.ref ≠ x.ref)).map (·.ref))).Perm (l.map (·.ref))
  | [], _, h => by cases h
  | y :: l, hn, hx => by
    simp only [List.map_cons, List.nodup_cons] at hn
    by_cases hy : y.ref = x.ref
    · have hall : l.filter (fun n => decide (n.ref ≠ x.ref)) = l := by
        rw [List.filter_eq_self]
        intro z hz
        simp only [ne_eq, decide_eq_true_eq]
        intro ez
        exact hn.1 (List.mem_map.2 ⟨z, hz, by rw [ez, hy]⟩)
      rw [List.filter_cons_of_neg (by simp [hy]), hall, List.map_cons, hy]
    · have hx2 : x ∈ l := by
        cases hx with
        | head => exact absurd rfl hy
        | tail _ h => exact h
      rw [List.filter_cons_of_pos (by simp [hy])]
      simp only [List.map_cons]
      exact (List.Perm.swap _ _ _).trans ((filter_ref hn.2 hx2).cons _)
structure Ahead (a : List Bytes) (n : Nd) : Prop where
  ex : ∃ p s, a = p ++ n.ref :: s ∧ n.ref ∉ p ∧ ∀ q ∈ inputsN n, q ∈ p
theorem orderL_ok : ∀ (f : Nat) {out : List Bytes} {l : List Nd}, l.length = f → (l.map (·.ref)).Nodup → (∀ n ∈ l, n.ref ∉ out) → (orderL f out l).2 = 0 →
    ∃ suf, (orderL f out l).1 = out ++ suf ∧ suf.Perm (l.map (·.ref)) ∧ ∀ n ∈ l, Ahead (orderL f out l).1 n
  | 0, out, l, hl, _, _, _ => by
    have : l = [] := List.eq_nil_of_length_eq_zero hl
    subst this
    exact ⟨[], by simp [orderL], by simp, fun n hn => by cases hn⟩
  | f + 1, out, l, hl, hn, hd, h => by
    simp only [orderL] at h ⊢
    by_cases hb : (bestL out l).2 = false
    · rw [if_pos hb] at h; cases h
    · rw [if_neg hb] at h ⊢
      have hb' : (bestL out l).2 = true := by simpa using hb
      obtain ⟨x, hx, ex, hr⟩ := best_some hb'
      obtain ⟨h1, _⟩ := best_left hn hb'
      have hfil : ∀ n ∈ l, n.ref = (bestL out l).1 ∨ n ∈ l.filter fun n => decide (n.ref ≠ (bestL out l).1) := by
        intro n hm
        by_cases e : n.ref = (bestL out l).1
        · exact .inl e
        · exact .inr (List.mem_filter.2 ⟨hm, by simp [e]⟩)
      obtain ⟨suf, e1, e2, e3⟩ := orderL_ok f (out := out ++ [(bestL out l).1]) (l := l.filter fun n => decide (n.ref ≠ (bestL out l).1)) (by omega) (filter_nodup hn) (fun n hm => by
        have hm' := List.mem_filter.1 hm
        intro hc
        rcases List.mem_append.1 hc with hc | hc
        · exact hd n hm'.1 hc
        · simp only [List.mem_singleton] at hc
          have := hm'.2
          simp [hc] at this) h
      refine ⟨(bestL out l).1 :: suf, by rw [e1]; simp, ?_, fun n hm => ?_⟩
      · have hp := filter_ref hn hx
        rw [ex] at hp
        exact (e2.cons _).trans hp
      · rcases hfil n hm with e | hm'
        · have hnx : n = x := by
            have := hn
            have inj : ∀ {l : List Nd}, (l.map (·.ref)).Nodup → ∀ a ∈ l, ∀ b ∈ l, a.ref = b.ref → a = b := by
              intro l
              induction l with
              | nil => intro _ a ha; cases ha
              | cons z l ih =>
                intro hn a ha b hb e
                simp only [List.map_cons, List.nodup_cons] at hn
                cases ha with
                | head => cases hb with
                  | head => rfl
                  | tail _ hb => exact absurd (List.mem_map.2 ⟨b, hb, e.symm⟩) hn.1
                | tail _ ha => cases hb with
                  | head => exact absurd (List.mem_map.2 ⟨a, ha, e⟩) hn.1
                  | tail _ hb => exact ih hn.2 a ha b hb e
            exact inj hn n hm x hx (e.trans ex.symm)
          subst hnx
          refine ⟨out, suf, by rw [e1, ← ex]; simp, hd n hm, fun q hq => ?_⟩
          have := List.all_eq_true.1 hr q hq
          simpa using this
        · exact e3 n hm'
theorem orderN_ok {l : List Nd} (h : (orderN l).2 = 0) : (orderN l).1.Perm (l.map (·.ref)) ∧ ∀ n ∈ l, Ahead (orderN l).1 n := by
  unfold orderN at h ⊢
  by_cases hk : okN l = false
  · rw [if_pos hk] at h; cases h
  · rw [if_neg hk] at h ⊢
    obtain ⟨suf, h1, h2, h3⟩ := orderL_ok l.length rfl (byR_ok (by simpa using hk)).2 (fun _ _ hc => by cases hc) h
    exact ⟨by rw [h1]; simpa using h2, h3⟩
theorem place_at {p s : List Bytes} {x : Bytes} (h : x ∉ p) : placeN (p ++ x :: s) x = p.length := by
  have hlt : p.length < (p ++ x :: s).length := by simp
  refine idxF_some (p := fun y => decide (y = x)) (l := p ++ x :: s) hlt (fun y hy => ?_) (by simp)
  rw [List.take_left] at hy
  exact decide_eq_false (fun e => h (e ▸ hy))
theorem place_in {p s : List Bytes} {x : Bytes} (h : x ∈ p) : 0 ≤ placeN (p ++ s) x ∧ placeN (p ++ s) x < p.length := by
  obtain ⟨a, b, rfl, hn⟩ := List.eq_append_cons_of_mem h
  rw [List.append_assoc, List.cons_append, place_at hn]
  simp; omega
theorem Ahead.place {a : List Bytes} {n : Nd} (h : Ahead a n) : 0 ≤ placeN a n.ref ∧ ∀ q ∈ inputsN n, 0 ≤ placeN a q ∧ placeN a q < placeN a n.ref := by
  obtain ⟨p, s, rfl, h1, h2⟩ := h
  rw [place_at h1]
  exact ⟨by omega, fun q hq => place_in (h2 q hq)⟩
/-! ### Turned -/
def rotN (l : List Nd) (b : Int) (i : Nat) : Nd := l.getD ((i + b.toNat % l.length) % l.length) ⟨[], 0, [], [], [], false, zeroV, zeroV, []⟩
def turnL (l : List Nd) (b : Int) (j : Nat) : List Nd := (List.range j).map (rotN l b)
theorem turn_next (l : List Nd) (b : Int) (j : Nat) : turnL l b (j + 1) = turnL l b j ++ [rotN l b j] := by simp [turnL, List.range_succ]
theorem rot_get {l : List Nd} {k i : Nat} {d : Nd} (hk : k < l.length) (hi : i < l.length) : l.getD ((i + k) % l.length) d = (l.drop k ++ l.take k)[i]'(by simp; omega) := by
  rw [List.getElem_append]
  by_cases hik : i < l.length - k
  · have e1 : (i + k) % l.length = i + k := Nat.mod_eq_of_lt (by omega)
    rw [e1, dif_pos (by simpa using hik), List.getElem_drop, List.getD_eq_getElem?_getD, List.getElem?_eq_getElem (by omega)]
    simp only [Option.getD_some]
    congr 1; omega
  · have e1 : (i + k) % l.length = i + k - l.length := by
      rw [Nat.mod_eq_sub_mod (by omega), Nat.mod_eq_of_lt (by omega)]
    rw [e1, dif_neg (by simpa using hik), List.getElem_take, List.getD_eq_getElem?_getD, List.getElem?_eq_getElem (by omega)]
    simp only [Option.getD_some, List.length_drop]
    congr 1; omega
theorem turn_perm (l : List Nd) (b : Int) : (turnL l b l.length).Perm l := by
  by_cases h0 : l = []
  · subst h0; exact .refl _
  have hl : 0 < l.length := List.length_pos_iff.2 h0
  have hk : b.toNat % l.length < l.length := Nat.mod_lt _ hl
  have e : turnL l b l.length = l.drop (b.toNat % l.length) ++ l.take (b.toNat % l.length) := by
    refine List.ext_getElem (by simp [turnL]; omega) (fun i h1 h2 => ?_)
    have hi : i < l.length := by simpa [turnL] using h1
    simp only [turnL, List.getElem_map, List.getElem_range, rotN]
    exact rot_get hk hi
  rw [e]
  exact List.perm_append_comm.trans (by rw [List.take_append_drop])
theorem rot_ix {l : List Nd} {b : Int} {j : Nat} (hb : 0 ≤ b) : Int.tmod ((j : Int) + Int.tmod b l.length) l.length = ((j + b.toNat % l.length) % l.length : Nat) := by
  obtain ⟨n, rfl⟩ := Int.eq_ofNat_of_zero_le hb
  rw [Int.toNat_natCast]
  show Int.tmod ((j : Int) + ((n % l.length : Nat) : Int)) l.length = _
  rw [← Int.natCast_add]
  rfl
theorem rot_phi {l : List Nd} {b : Int} {j : Nat} (hb : 0 ≤ b) (hj : j < l.length) (hl : l.length ≤ 24) :
    conj [0 ≤ Int.tmod ((j : Int) + Int.tmod b (l.map ndL).length) (l.map ndL).length ∧ (l.map ndL)[(Int.tmod ((j : Int) + Int.tmod b (l.map ndL).length) (l.map ndL).length).toNat]? = some (ndL (rotN l b j)), ((l.map ndL).length : Int) ≠ 0, i64ok ((j : Int) + Int.tmod b (l.map ndL).length), ((l.map ndL).length : Int) ≠ 0] := by
  have hk : b.toNat % l.length < l.length := Nat.mod_lt _ (by omega)
  have hm : (j + b.toNat % l.length) % l.length < l.length := Nat.mod_lt _ (by omega)
  have e1 : Int.tmod b l.length = ((b.toNat % l.length : Nat) : Int) := by
    obtain ⟨n, rfl⟩ := Int.eq_ofNat_of_zero_le hb
    rw [Int.toNat_natCast]; rfl
  rw [List.length_map, rot_ix hb, e1]
  have hl0 : (l.length : Int) ≠ 0 := by omega
  refine ⟨⟨Int.natCast_nonneg _, ?_⟩, hl0, ?_, hl0⟩
  · rw [Int.toNat_natCast, List.getElem?_map, List.getElem?_eq_getElem hm]
    simp only [rotN, List.getD_eq_getElem?_getD, List.getElem?_eq_getElem hm, Option.getD_some, Option.map_some]
  · unfold i64ok; omega
end Go.KX
/- Plain: what a node needs is closed, and the least that is; whoever is not needed may go. No program in sight. -/
namespace Go.KX
theorem sort_mem {l : List Bytes} {x : Bytes} : x ∈ sortL l ↔ x ∈ l := (List.mergeSort_perm l _).mem_iff
section
variable {l : List Nd}
theorem needA_ind {P : List Bytes → List Bytes → Prop} (h0 : ∀ out, NI l out → P [] out) (h1 : ∀ q t out, NI l out → findN l q = none → P t out → P (q :: t) out)
    (h2 : ∀ q t out n, NI l out → findN l q = some n → n.ref ∈ out → P t out → P (q :: t) out)
    (h3 : ∀ q t out n, NI l out → findN l q = some n → n.ref ∉ out → P (t ++ inputsN n) (out ++ [n.ref]) → P (q :: t) out) : ∀ (m : Nat) (todo out : List Bytes), muN l todo out ≤ m → NI l out → P todo out
  | m, [], out, _, hI => h0 out hI
  | 0, q :: t, out, hm, hI => by rw [muN_cons] at hm; omega
  | m + 1, q :: t, out, hm, hI => by
    cases hf : findN l q with
    | none => exact h1 q t out hI hf (needA_ind h0 h1 h2 h3 m t out (by rw [muN_cons] at hm; omega) hI)
    | some n =>
      by_cases hn : n.ref ∈ out
      · exact h2 q t out n hI hf hn (needA_ind h0 h1 h2 h3 m t out (by rw [muN_cons] at hm; omega) hI)
      · exact h3 q t out n hI hf hn (needA_ind h0 h1 h2 h3 m _ _ (by have := hI.mu (t := t) hf hn; omega) (hI.step hf hn))
theorem need_ni (todo out : List Bytes) (hI : NI l out) : NI l (needA l todo out) :=
  needA_ind (P := fun todo out => NI l (needA l todo out)) (fun out h => by rw [needA_nil]; exact h) (fun q t out _ h ih => by rw [needA_none h]; exact ih)
    (fun q t out n _ h hn ih => by rw [needA_old h hn]; exact ih) (fun q t out n hI h hn ih => by rw [needA_new hI h hn]; exact ih) _ todo out (Nat.le_refl _) hI
theorem need_out (todo out : List Bytes) (hI : NI l out) : ∀ x ∈ out, x ∈ needA l todo out :=
  needA_ind (P := fun todo out => ∀ x ∈ out, x ∈ needA l todo out) (fun out h x hx => by rw [needA_nil]; exact hx) (fun q t out _ h ih => by rw [needA_none h]; exact ih)
    (fun q t out n _ h hn ih => by rw [needA_old h hn]; exact ih) (fun q t out n hI h hn ih x hx => by rw [needA_new hI h hn]; exact ih x (List.mem_append_left _ hx)) _ todo out (Nat.le_refl _) hI
theorem need_todo (todo out : List Bytes) (hI : NI l out) : ∀ x ∈ todo, findN l x ≠ none → x ∈ needA l todo out :=
  needA_ind (P := fun todo out => ∀ x ∈ todo, findN l x ≠ none → x ∈ needA l todo out) (fun out h x hx => by cases hx)
    (fun q t out _ h ih x hx hf => by
      rw [needA_none h]
      cases hx with
      | head => exact absurd h hf
      | tail _ hx => exact ih x hx hf)
    (fun q t out n hI h hn ih x hx hf => by
      rw [needA_old h hn]
      cases hx with
      | head => exact need_out t out hI _ ((findN_some h).2 ▸ hn)
      | tail _ hx => exact ih x hx hf)
    (fun q t out n hI h hn ih x hx hf => by
      rw [needA_new hI h hn]
      cases hx with
      | head => exact need_out _ _ (hI.step h hn) _ (by rw [← (findN_some h).2]; simp)
      | tail _ hx => exact ih x (List.mem_append_left _ hx) hf) _ todo out (Nat.le_refl _) hI
theorem need_closed (todo out : List Bytes) (hI : NI l out) : (∀ x ∈ out, ∀ n, findN l x = some n → ∀ i ∈ inputsN n, findN l i ≠ none → i ∈ out ∨ i ∈ todo) →
    ∀ x ∈ needA l todo out, ∀ n, findN l x = some n → ∀ i ∈ inputsN n, findN l i ≠ none → i ∈ needA l todo out :=
  needA_ind (P := fun todo out => (∀ x ∈ out, ∀ n, findN l x = some n → ∀ i ∈ inputsN n, findN l i ≠ none → i ∈ out ∨ i ∈ todo) →
    ∀ x ∈ needA l todo out, ∀ n, findN l x = some n → ∀ i ∈ inputsN n, findN l i ≠ none → i ∈ needA l todo out)
    (fun out h hc => by
      rw [needA_nil]
      intro x hx n hn i hi hf
      rcases hc x hx n hn i hi hf with h | h
      · exact h
      · cases h)
    (fun q t out _ h ih hc => by
      rw [needA_none h]
      refine ih (fun x hx n hn i hi hf => ?_)
      rcases hc x hx n hn i hi hf with h1 | h1
      · exact .inl h1
      · cases h1 with
        | head => exact absurd h hf
        | tail _ h1 => exact .inr h1)
    (fun q t out n _ h hn ih hc => by
      rw [needA_old h hn]
      refine ih (fun x hx n' hn' i hi hf => ?_)
      rcases hc x hx n' hn' i hi hf with h1 | h1
      · exact .inl h1
      · cases h1 with
        | head => exact .inl ((findN_some h).2 ▸ hn)
        | tail _ h1 => exact .inr h1)
    (fun q t out n hI h hn ih hc => by
      rw [needA_new hI h hn]
      refine ih (fun x hx n' hn' i hi hf => ?_)
      have hq := (findN_some h).2
      rcases List.mem_append.1 hx with hx | hx
      · rcases hc x hx n' hn' i hi hf with h1 | h1
        · exact .inl (List.mem_append_left _ h1)
        · cases h1 with
          | head => exact .inl (by rw [← hq]; simp)
          | tail _ h1 => exact .inr (List.mem_append_left _ h1)
      · simp only [List.mem_singleton] at hx
        subst hx
        rw [hq, h] at hn'
        cases hn'
        exact .inr (List.mem_append_right _ hi)) _ todo out (Nat.le_refl _) hI
theorem need_least {S : Bytes → Prop} (hS : ∀ x n, S x → findN l x = some n → ∀ i ∈ inputsN n, S i) (todo out : List Bytes) (hI : NI l out) : (∀ x ∈ todo, S x) → (∀ x ∈ out, S x) → ∀ x ∈ needA l todo out, S x :=
  needA_ind (P := fun todo out => (∀ x ∈ todo, S x) → (∀ x ∈ out, S x) → ∀ x ∈ needA l todo out, S x)
    (fun out h _ ho => by rw [needA_nil]; exact ho) (fun q t out _ h ih ht ho => by rw [needA_none h]; exact ih (fun x hx => ht x (.tail _ hx)) ho)
    (fun q t out n _ h hn ih ht ho => by rw [needA_old h hn]; exact ih (fun x hx => ht x (.tail _ hx)) ho)
    (fun q t out n hI h hn ih ht ho => by
      rw [needA_new hI h hn]
      refine ih (fun x hx => ?_) (fun x hx => ?_)
      · rcases List.mem_append.1 hx with hx | hx
        · exact ht x (.tail _ hx)
        · exact hS q n (ht q (.head _)) h x hx
      · rcases List.mem_append.1 hx with hx | hx
        · exact ho x hx
        · simp only [List.mem_singleton] at hx
          rw [hx, (findN_some h).2]; exact ht q (.head _)) _ todo out (Nat.le_refl _) hI
end
/-! ### An order there is, where there is one that stands -/
theorem min_rank (rank : Bytes → Int) : ∀ {l : List Nd}, l ≠ [] → ∃ x ∈ l, ∀ y ∈ l, rank x.ref ≤ rank y.ref
  | [], h => absurd rfl h
  | [x], _ => ⟨x, .head _, fun y hy => by cases hy with | head => exact Int.le_refl _ | tail _ h => cases h⟩
  | x :: y :: l, _ => by
    obtain ⟨z, hz, h⟩ := min_rank rank (l := y :: l) (by simp)
    by_cases hq : rank x.ref ≤ rank z.ref
    · refine ⟨x, .head _, fun w hw => ?_⟩
      cases hw with
      | head => exact Int.le_refl _
      | tail _ hw => exact Int.le_trans hq (h w hw)
    · refine ⟨z, .tail _ hz, fun w hw => ?_⟩
      cases hw with
      | head => omega
      | tail _ hw => exact h w hw
theorem orderL_some (rank : Bytes → Int) : ∀ (f : Nat) {out : List Bytes} {l : List Nd}, (l.map (·.ref)).Nodup → (∀ x ∈ l, ∀ i ∈ inputsN x, rank i < rank x.ref ∧ (i ∈ out ∨ i ∈ l.map (·.ref))) → l.length = f → (orderL f out l).2 = 0
  | 0, _, _, _, _, _ => rfl
  | f + 1, out, l, hn, h, hl => by
    have hne : l ≠ [] := by rintro rfl; cases hl
    obtain ⟨x, hx, hmin⟩ := min_rank rank hne
    have hr : readyN out x = true := by
      unfold readyN
      rw [List.all_eq_true]
      intro i hi
      obtain ⟨h1, h2⟩ := h x hx i hi
      rcases h2 with h2 | h2
      · exact decide_eq_true h2
      · obtain ⟨y, hy, e⟩ := List.mem_map.1 h2
        have := hmin y hy
        rw [e] at this
        omega
    have hb : (bestL out l).2 = true := by
      cases hq : (bestL out l).2 with
      | true => rfl
      | false => rw [best_none.1 hq x hx] at hr; cases hr
    simp only [orderL]
    rw [if_neg (by rw [hb]; decide)]
    obtain ⟨h1, _⟩ := best_left hn hb
    refine orderL_some rank f (filter_nodup hn) (fun y hy i hi => ?_) (by omega)
    obtain ⟨h2, h3⟩ := h y (List.mem_filter.1 hy).1 i hi
    refine ⟨h2, ?_⟩
    rcases h3 with h3 | h3
    · exact .inl (List.mem_append_left _ h3)
    · by_cases e : i = (bestL out l).1
      · exact .inl (by rw [e]; simp)
      · obtain ⟨z, hz, ez⟩ := List.mem_map.1 h3
        exact .inr (List.mem_map.2 ⟨z, List.mem_filter.2 ⟨hz, by rw [ez]; simpa using e⟩, ez⟩)
theorem orderN_some (rank : Bytes → Int) {l : List Nd} (hn : (l.map (·.ref)).Nodup) (h : ∀ x ∈ l, ∀ i ∈ inputsN x, rank i < rank x.ref ∧ i ∈ l.map (·.ref)) : (orderN l).2 = 0 := by
  unfold orderN
  rw [if_neg (by rw [okN_of hn]; decide)]
  exact orderL_some rank _ hn (fun x hx i hi => ⟨(h x hx i hi).1, .inr (h x hx i hi).2⟩) rfl
/-- Nodes that may be a rule's. -/
structure Chk (ref : Bytes) (l : List Nd) : Prop where
  len : l.length ≤ 16
  is : ∀ n ∈ l, isN n = true
  nd : (l.map (·.ref)).Nodup
  refs : ∀ q ∈ refsN ref l, q ∈ l.map (·.ref)
  ord : (orderN l).2 = 0
theorem orderN_codes {l : List Nd} : (orderN l).2 = 0 ∨ (orderN l).2 = 8 ∨ (orderN l).2 = 121 := by
  unfold orderN
  split
  · exact .inr (.inl rfl)
  · by_cases h : (orderL l.length [] l).2 = 0
    · exact .inl h
    · exact .inr (.inr (orderL_err _ h).2)
theorem chk_iff {ref : Bytes} {l : List Nd} : checkN ref l = 0 ↔ Chk ref l := by
  constructor
  · intro h
    unfold checkN at h
    split at h
    · cases h
    · rename_i h1
      split at h
      · cases h
      · rename_i h2
        split at h
        · cases h
        · rename_i h3
          split at h
          · cases h
          · rename_i h4
            refine ⟨by omega, fun n hn => ?_, okN_iff.1 (by simpa using h3), fun q hq => ?_, h⟩
            · cases hq : isN n with
              | true => rfl
              | false => exact absurd (List.any_eq_true.2 ⟨n, hn, by rw [hq]; rfl⟩) h2
            · refine Decidable.not_not.1 fun hc => h4 (List.any_eq_true.2 ⟨q, hq, ?_⟩)
              rw [findN_none.2 hc]; rfl
  · rintro ⟨h1, h2, h3, h4, h5⟩
    unfold checkN
    rw [if_neg (by omega), if_neg (by
      rw [Bool.not_eq_true, List.any_eq_false]
      intro n hn
      rw [h2 n hn]; decide), if_neg (by rw [okN_of h3]; decide), if_neg (by
      rw [Bool.not_eq_true, List.any_eq_false]
      intro q hq hc
      have : findN l q = none := by simpa using hc
      exact findN_none.1 this (h4 q hq))]
    exact h5
section
variable {ref : Bytes} {l : List Nd} (hc : Chk ref l)
include hc
omit hc in
theorem find_of {q : Bytes} (h : q ∈ l.map (·.ref)) : ∃ n, findN l q = some n ∧ n ∈ l ∧ n.ref = q := by
  cases hf : findN l q with
  | none => exact absurd h (findN_none.1 hf)
  | some n => exact ⟨n, rfl, (findN_some hf).1, (findN_some hf).2⟩
theorem Chk.input {n : Nd} (hn : n ∈ l) {i : Bytes} (hi : i ∈ inputsN n) : i ∈ l.map (·.ref) := hc.refs i (List.mem_cons_of_mem _ (List.mem_flatMap.2 ⟨n, hn, hi⟩))
theorem Chk.self {n : Nd} (hn : n ∈ l) : findN l n.ref = some n := by
  obtain ⟨m, h1, h2, h3⟩ := find_of (List.mem_map.2 ⟨n, hn, rfl⟩)
  have inj : ∀ {l : List Nd}, (l.map (·.ref)).Nodup → ∀ a ∈ l, ∀ b ∈ l, a.ref = b.ref → a = b := by
    intro l
    induction l with
    | nil => intro _ a ha; cases ha
    | cons z l ih =>
      intro hn a ha b hb e
      simp only [List.map_cons, List.nodup_cons] at hn
      cases ha with
      | head => cases hb with
        | head => rfl
        | tail _ hb => exact absurd (List.mem_map.2 ⟨b, hb, e.symm⟩) hn.1
      | tail _ ha => cases hb with
        | head => exact absurd (List.mem_map.2 ⟨a, ha, e⟩) hn.1
        | tail _ hb => exact ih hn.2 a ha b hb e
  rw [h1, inj hc.nd m h2 n hn h3]
theorem Chk.need_ref : ref ∈ needsN l ref := by
  refine sort_mem.2 (need_todo _ _ (NI.nil l) ref (.head _) ?_)
  rw [Ne, findN_none]
  exact fun h => h (hc.refs ref (.head _))
theorem Chk.need_closed {n : Nd} (hn : n ∈ l) (h : n.ref ∈ needsN l ref) {i : Bytes} (hi : i ∈ inputsN n) : i ∈ needsN l ref := by
  refine sort_mem.2 (Go.KX.need_closed _ _ (NI.nil l) (fun x hx => by cases hx) n.ref (sort_mem.1 h) n (hc.self hn) i hi ?_)
  rw [Ne, findN_none]
  exact fun h => h (hc.input hn hi)
theorem Chk.need_below {n : Nd} (hn : n ∈ l) (h : n.ref ∈ needsN l ref) {i : Bytes} (hi : i ∈ inputsN n) {x : Bytes} (hx : x ∈ needsN l i) : x ∈ needsN l ref := by
  refine need_least (S := fun x => x ∈ needsN l ref) (fun x m hx hf j hj => ?_) _ _ (NI.nil l) (fun x hx => ?_) (fun x hx => by cases hx) x (sort_mem.1 hx)
  · exact hc.need_closed (findN_some hf).1 ((findN_some hf).2 ▸ hx) hj
  · simp only [List.mem_singleton] at hx
    rw [hx]; exact hc.need_closed hn h hi
omit hc in
theorem need_sub {x : Bytes} (h : x ∈ needsN l ref) : x ∈ l.map (·.ref) := (need_ni _ _ (NI.nil l)).sub x (sort_mem.1 h)
end
theorem needs_le (l : List Nd) (q : Bytes) : (needsN l q).length ≤ l.length := by
  have h := (need_ni (l := l) [q] [] (NI.nil l)).le
  unfold needsN
  rw [sortL_len]
  exact h
theorem small_guard {l : List Nd} (h : (!(!smallN l)) = true) : smallN l = true := by simpa using h
/-- Who is needed. -/
def keptN (l : List Nd) (ref : Bytes) : List Nd := l.filter fun n => decide (n.ref ∈ needsN l ref)
section
variable {ref : Bytes} {l : List Nd} (hc : Chk ref l)
include hc
omit hc in
theorem kept_mem {x : Bytes} : x ∈ (keptN l ref).map (·.ref) ↔ x ∈ needsN l ref := by
  constructor
  · intro h
    obtain ⟨n, hn, rfl⟩ := List.mem_map.1 h
    exact of_decide_eq_true (List.mem_filter.1 hn).2
  · intro h
    obtain ⟨n, hn, e⟩ := List.mem_map.1 (need_sub h)
    exact List.mem_map.2 ⟨n, List.mem_filter.2 ⟨hn, decide_eq_true (by rw [e]; exact h)⟩, e⟩
theorem Chk.kept_nd : ((keptN l ref).map (·.ref)).Nodup := filter_nodup hc.nd
theorem Chk.kept_len : (keptN l ref).length = (needsN l ref).length := by
  have h1 : (needsN l ref).Nodup := (List.mergeSort_perm _ _).nodup_iff.2 (need_ni _ _ (NI.nil l)).nd
  have h2 := nodup_sub h1 (fun x hx => kept_mem.2 hx)
  have h3 := nodup_sub hc.kept_nd (fun x hx => kept_mem.1 hx)
  simp only [List.length_map] at h2 h3
  omega
theorem Chk.kept_chk : Chk ref (keptN l ref) := by
  have hsub : ∀ n ∈ keptN l ref, n ∈ l ∧ n.ref ∈ needsN l ref := fun n hn => ⟨(List.mem_filter.1 hn).1, of_decide_eq_true (List.mem_filter.1 hn).2⟩
  refine ⟨?_, fun n hn => hc.is n (hsub n hn).1, hc.kept_nd, fun q hq => ?_, ?_⟩
  · have : (keptN l ref).length ≤ l.length := List.length_filter_le _ _
    have := hc.len
    omega
  · rcases List.mem_cons.1 hq with rfl | hq
    · exact kept_mem.2 hc.need_ref
    · obtain ⟨n, hn, hi⟩ := List.mem_flatMap.1 hq
      exact kept_mem.2 (hc.need_closed (hsub n hn).1 (hsub n hn).2 hi)
  · obtain ⟨_, hah⟩ := orderN_ok hc.ord
    refine orderN_some (placeN (orderN l).1) hc.kept_nd (fun x hx i hi => ⟨?_, ?_⟩)
    · exact ((hah x (hsub x hx).1).place.2 i hi).2
    · exact kept_mem.2 (hc.need_closed (hsub x hx).1 (hsub x hx).2 hi)
theorem Chk.kept_find {q : Bytes} (h : q ∈ needsN l ref) : findN (keptN l ref) q = findN l q := by
  obtain ⟨n, h1, h2, h3⟩ := find_of (need_sub h)
  have hk : n ∈ keptN l ref := List.mem_filter.2 ⟨h2, decide_eq_true (by rw [h3]; exact h)⟩
  rw [h1, ← h3]
  exact hc.kept_chk.self hk
theorem Chk.kept_needs : needsN (keptN l ref) ref = needsN l ref := by
  have key : ∀ todo out, NI l out → (∀ x ∈ todo, x ∈ needsN l ref) → (∀ x ∈ out, x ∈ needsN l ref) → NI (keptN l ref) out → needA (keptN l ref) todo out = needA l todo out := fun todo out hI =>
    needA_ind (l := l) (P := fun todo out => (∀ x ∈ todo, x ∈ needsN l ref) → (∀ x ∈ out, x ∈ needsN l ref) → NI (keptN l ref) out → needA (keptN l ref) todo out = needA l todo out)
      (fun out _ _ _ _ => by rw [needA_nil, needA_nil])
      (fun q t out _ h ih ht ho hk => by
        rw [needA_none h, needA_none (by rw [hc.kept_find (ht q (.head _)), h])]
        exact ih (fun x hx => ht x (.tail _ hx)) ho hk)
      (fun q t out n _ h hn ih ht ho hk => by
        rw [needA_old h hn, needA_old (by rw [hc.kept_find (ht q (.head _)), h]) hn]
        exact ih (fun x hx => ht x (.tail _ hx)) ho hk)
      (fun q t out n hI h hn ih ht ho hk => by
        have hf : findN (keptN l ref) q = some n := by rw [hc.kept_find (ht q (.head _)), h]
        have hq := ht q (.head _)
        have e := (findN_some h).2
        rw [needA_new hI h hn, needA_new hk hf hn]
        refine ih (fun x hx => ?_) (fun x hx => ?_) (hk.step hf hn)
        · rcases List.mem_append.1 hx with hx | hx
          · exact ht x (.tail _ hx)
          · exact hc.need_closed (findN_some h).1 (by rw [e]; exact hq) hx
        · rcases List.mem_append.1 hx with hx | hx
          · exact ho x hx
          · simp only [List.mem_singleton] at hx
            rw [hx, e]; exact hq) _ todo out (Nat.le_refl _) hI
  show sortL (needA (keptN l ref) [ref] []) = needsN l ref
  rw [key [ref] [] (NI.nil l) (fun x hx => by simp only [List.mem_singleton] at hx; rw [hx]; exact hc.need_ref) (fun x hx => by cases hx) (NI.nil _)]
  rfl
omit hc in
theorem place_pos {x : Bytes} (h : x ∈ needsN l ref) : 0 ≤ placeN (needsN l ref) x := by
  have := Go.KX.place_in (p := needsN l ref) (s := []) h
  rw [List.append_nil] at this
  exact this.1
end
theorem place_neg {l : List Bytes} {x : Bytes} : placeN l x < 0 ↔ x ∉ l := by
  constructor
  · intro h hx
    have := place_in (p := l) (s := []) hx
    rw [List.append_nil] at this
    omega
  · intro h
    have : placeN l x = -1 := idxF_none (p := fun y => decide (y = x)) (fun y hy => decide_eq_false (fun e => h (e ▸ hy)))
    omega
/-- What is kept of the first j. -/
def keepJ (l : List Nd) (ref : Bytes) (j : Nat) : List Nd := (l.take j).filter fun n => decide (n.ref ∈ needsN l ref)
theorem keepJ_no {l : List Nd} {ref : Bytes} {j : Nat} (h : j < l.length) (hn : l[j].ref ∉ needsN l ref) : keepJ l ref (j + 1) = keepJ l ref j := by
  unfold keepJ
  rw [List.take_succ_eq_append_getElem h, List.filter_append, List.filter_cons_of_neg (by simpa using hn)]
  simp
theorem keepJ_yes {l : List Nd} {ref : Bytes} {j : Nat} (h : j < l.length) (hn : l[j].ref ∈ needsN l ref) : keepJ l ref (j + 1) = keepJ l ref j ++ [l[j]] := by
  unfold keepJ
  rw [List.take_succ_eq_append_getElem h, List.filter_append, List.filter_cons_of_pos (by simpa using hn)]
  simp
theorem keepJ_le (l : List Nd) (ref : Bytes) (j : Nat) : (keepJ l ref j).length ≤ j := by
  have h1 : (keepJ l ref j).length ≤ (l.take j).length := List.length_filter_le _ _
  rw [List.length_take] at h1
  omega
theorem keepJ_all (l : List Nd) (ref : Bytes) : keepJ l ref l.length = keptN l ref := by unfold keepJ keptN; rw [List.take_of_length_le (Nat.le_refl _)]
end Go.KX
/- Plain: a chain of nodes; with one more input it is a circle, or not. No program in sight. -/
namespace Go.KX
theorem cmpP_mem : ∀ (l : List Bytes) (a x : Bytes), x ∈ a :: cmpP a l ↔ x ∈ a :: l
  | [], a, x => Iff.rfl
  | b :: r, a, x => by
    have ih := cmpP_mem r b x
    simp only [List.mem_cons] at ih ⊢
    unfold cmpP
    split
    · rename_i h
      subst h
      rw [ih]
      constructor
      · rintro (h | h)
        · exact .inl h
        · exact .inr (.inr h)
      · rintro (h | h | h)
        · exact .inl h
        · exact .inl h
        · exact .inr h
    · simp only [List.mem_cons]; rw [ih]
theorem cmpB_mem {l : List Bytes} {x : Bytes} : x ∈ cmpB l ↔ x ∈ l := by
  cases l with
  | nil => exact Iff.rfl
  | cons a r => exact cmpP_mem r a x
mutual
/-- The refs in a tree, as they come. -/
def rawX : Ex → List Bytes
  | .mk k n _ l => if k = 2 then [n] else rawL l
def rawL : List Ex → List Bytes
  | [] => []
  | x :: r => rawX x ++ rawL r
end
mutual
theorem refs_mem (q : Bytes) : ∀ x : Ex, q ∈ refsX x ↔ q ∈ rawX x
  | .mk k n _ l => by
    have h := refs_mems q l
    unfold refsX rawX
    split
    · exact Iff.rfl
    · rw [cmpB_mem, sort_mem, h]
theorem refs_mems (q : Bytes) : ∀ l : List Ex, q ∈ refsL l ↔ q ∈ rawL l
  | [] => Iff.rfl
  | x :: r => by
    have h1 := refs_mem q x
    have h2 := refs_mems q r
    simp only [refsL, rawL, List.mem_append, h1, h2]
end
def nmC (i : Nat) : Bytes := [UInt8.ofNat (65 + i)]
def txC : Nat → Bytes
  | 0 => [49]
  | i + 1 => [36] ++ nmC i ++ [32, 43, 32, 49]
def mthN (r t : Bytes) : Nd := ⟨r, 3, [], [], [], false, zeroV, zeroV, t⟩
def cN (i : Nat) : Nd := mthN (nmC i) (txC i)
def xN (i t : Nat) : Nd := mthN (nmC i) (txC i ++ [32, 43, 32, 36] ++ nmC t)
def rawN (n : Nd) : List Bytes := rawX (parseX parseV n.text).1
def dnC : Nat → List Bytes
  | 0 => []
  | i + 1 => [nmC i]
theorem nmC_inj : ∀ i < 10, ∀ j < 10, nmC i = nmC j → i = j := by decide
theorem cN_ok : ∀ i < 10, isN (cN i) = true ∧ rawN (cN i) = dnC i := by decide +kernel
theorem xN_ok : ∀ i < 10, ∀ t < 10, isN (xN i t) = true ∧ rawN (xN i t) = dnC i ++ [nmC t] := by decide +kernel
theorem mth_in {r t q : Bytes} (h : isN (mthN r t) = true) : q ∈ inputsN (mthN r t) ↔ q ∈ rawN (mthN r t) := by
  have h3 : (mthN r t).kind = 3 := rfl
  unfold isN at h
  split at h
  · cases h
  · rw [isK3 h3] at h
    have h := of_decide_eq_true h
    unfold inputsN rawN
    rw [if_neg (by rw [h3]; decide), if_neg (by rw [h3]; decide), if_pos h3, if_pos h, refs_mem]
def cL (n : Nat) : List Nd := (List.range n).map cN
/-- The f-th hangs on the t-th, too. -/
def xG (f t i : Nat) : Nd := if i = f then xN f t else cN i
def xL (n f t : Nat) : List Nd := (List.range n).map (xG f t)
/-! ### A chain -/
structure Chain (n : Nat) (g : Nat → Nd) : Prop where
  n1 : 1 ≤ n
  n10 : n ≤ 10
  ref : ∀ i < n, (g i).ref = nmC i
  is : ∀ i < n, isN (g i) = true
  low : ∀ i < n, ∀ q ∈ inputsN (g i), ∃ j < i, q = nmC j
  up : ∀ i, i + 1 < n → nmC i ∈ inputsN (g (i + 1))
def rankC (q : Bytes) : Int := ((q.headD 0).toNat : Int)
theorem rank_lt : ∀ i < 10, ∀ j < i, rankC (nmC j) < rankC (nmC i) := by decide
section
variable {n : Nat} {g : Nat → Nd}
theorem refs_eq (hr : ∀ i < n, (g i).ref = nmC i) : ((List.range n).map g).map (·.ref) = (List.range n).map nmC := by
  rw [List.map_map]
  refine List.map_congr_left (fun i hi => hr i (List.mem_range.1 hi))
theorem names_nd (h : n ≤ 10) : ((List.range n).map nmC).Nodup := by
  have key : ∀ n, n ≤ 10 → ((List.range n).map nmC).Nodup := by
    intro n
    induction n with
    | zero => intro _; simp
    | succ n ih =>
      intro h
      rw [List.range_succ, List.map_append]
      refine List.nodup_append.2 ⟨ih (by omega), by simp, fun a ha b hb => ?_⟩
      obtain ⟨i, hi, rfl⟩ := List.mem_map.1 ha
      simp only [List.map_cons, List.map_nil, List.mem_singleton] at hb
      have hi := List.mem_range.1 hi
      rintro rfl
      have := nmC_inj i (by omega) n (by omega) hb
      omega
  exact key n h
theorem name_mem {i : Nat} (h : i < n) : nmC i ∈ (List.range n).map nmC := List.mem_map.2 ⟨i, List.mem_range.2 h, rfl⟩
theorem name_mem' {i : Nat} (hn : n ≤ 10) (hi : i < 10) (h : nmC i ∈ (List.range n).map nmC) : i < n := by
  obtain ⟨j, hj, e⟩ := List.mem_map.1 h
  have hj := List.mem_range.1 hj
  have := nmC_inj j (by omega) i hi e
  omega
variable (hc : Chain n g)
include hc
theorem Chain.ready {k : Nat} (hk : k < n) {i : Nat} (hi : i < n) : readyN ((List.range k).map nmC) (g i) = decide (i ≤ k) := by
  have h10 := hc.n10
  rw [Bool.eq_iff_iff, decide_eq_true_eq]
  unfold readyN
  rw [List.all_eq_true]
  constructor
  · intro h
    rcases Nat.lt_or_ge k i with h1 | h1
    · exfalso
      obtain ⟨m, rfl⟩ : ∃ m, i = m + 1 := ⟨i - 1, by omega⟩
      have h2 := of_decide_eq_true (h _ (hc.up m hi))
      have h3 := name_mem' (by omega) (by omega) h2
      omega
    · exact h1
  · intro h q hq
    obtain ⟨j, hj, rfl⟩ := hc.low i hi q hq
    exact decide_eq_true (name_mem (by omega))
theorem Chain.best {k : Nat} (hk : k < n) : bestL ((List.range k).map nmC) ((List.range' k (n - k)).map g) = (nmC k, true) := by
  obtain ⟨m, hm⟩ : ∃ m, n - k = m + 1 := ⟨n - k - 1, by omega⟩
  rw [hm, List.range'_succ, List.map_cons]
  unfold bestL
  rw [List.foldl_cons]
  have e : stepB ((List.range k).map nmC) ([], false) (g k) = (nmC k, true) := by
    unfold stepB
    rw [if_neg (by simp), if_pos (by rw [hc.ready hk hk]; simp), hc.ref k hk]
  rw [e]
  have key : ∀ l : List Nd, (∀ x ∈ l, readyN ((List.range k).map nmC) x = false) → l.foldl (stepB ((List.range k).map nmC)) (nmC k, true) = (nmC k, true) := by
    intro l
    induction l with
    | nil => intro _; rfl
    | cons x l ih =>
      intro h
      rw [List.foldl_cons]
      have : stepB ((List.range k).map nmC) (nmC k, true) x = (nmC k, true) := by
        unfold stepB
        split
        · rfl
        · rw [if_neg (by rw [h x (.head _)]; decide)]
      rw [this]
      exact ih (fun y hy => h y (.tail _ hy))
  refine key _ (fun x hx => ?_)
  obtain ⟨i, hi, rfl⟩ := List.mem_map.1 hx
  have hi := List.mem_range'_1.1 hi
  rw [hc.ready hk (by omega)]
  exact decide_eq_false (by omega)
theorem Chain.ordAll : ∀ (f k : Nat), k + f = n → orderL f ((List.range k).map nmC) ((List.range' k f).map g) = ((List.range n).map nmC, 0)
  | 0, k, h => by
    obtain rfl : k = n := by omega
    rfl
  | f + 1, k, h => by
    have hk : k < n := by omega
    have hb := hc.best hk
    rw [show n - k = f + 1 by omega] at hb
    simp only [orderL, hb]
    rw [if_neg (by decide)]
    have e1 : (List.range k).map nmC ++ [nmC k] = (List.range (k + 1)).map nmC := by rw [List.range_succ, List.map_append]; rfl
    have e2 : ((List.range' k (f + 1)).map g).filter (fun x => decide (x.ref ≠ nmC k)) = (List.range' (k + 1) f).map g := by
      rw [List.range'_succ, List.map_cons, List.filter_cons_of_neg (by simp [hc.ref k hk]), List.filter_eq_self]
      intro x hx
      obtain ⟨i, hi, rfl⟩ := List.mem_map.1 hx
      have hi := List.mem_range'_1.1 hi
      have h10 := hc.n10
      rw [hc.ref i (by omega)]
      refine decide_eq_true (fun e => ?_)
      have := nmC_inj i (by omega) k (by omega) e
      omega
    rw [e1, e2]
    exact Chain.ordAll f (k + 1) (by omega)
theorem Chain.nd : (((List.range n).map g).map (·.ref)).Nodup := by rw [refs_eq hc.ref]; exact names_nd hc.n10
theorem Chain.order : orderN ((List.range n).map g) = ((List.range n).map nmC, 0) := by
  unfold orderN
  rw [if_neg (by rw [okN_of hc.nd]; decide), List.length_map, List.length_range]
  have := hc.ordAll n 0 (by omega)
  rw [← List.range_eq_range'] at this
  exact this
theorem Chain.chk : Chk (nmC (n - 1)) ((List.range n).map g) := by
  have h1 := hc.n1
  have h10 := hc.n10
  refine ⟨by simp; omega, fun x hx => ?_, hc.nd, fun q hq => ?_, by rw [hc.order]⟩
  · obtain ⟨i, hi, rfl⟩ := List.mem_map.1 hx
    exact hc.is i (List.mem_range.1 hi)
  · rw [refs_eq hc.ref]
    rcases List.mem_cons.1 hq with rfl | hq
    · exact name_mem (by omega)
    · obtain ⟨x, hx, hq⟩ := List.mem_flatMap.1 hq
      obtain ⟨i, hi, rfl⟩ := List.mem_map.1 hx
      have hi := List.mem_range.1 hi
      obtain ⟨j, hj, rfl⟩ := hc.low i hi q hq
      exact name_mem (by omega)
theorem Chain.needs : (needsN ((List.range n).map g) (nmC (n - 1))).length = n := by
  have h1 := hc.n1
  have hk := hc.chk
  have hall : ∀ d, d < n → nmC (n - 1 - d) ∈ needsN ((List.range n).map g) (nmC (n - 1)) := by
    intro d
    induction d with
    | zero => intro _; exact hk.need_ref
    | succ d ih =>
      intro hd
      have h2 := ih (by omega)
      have e : n - 1 - d = (n - 1 - (d + 1)) + 1 := by omega
      refine hk.need_closed (n := g (n - 1 - d)) (List.mem_map.2 ⟨_, List.mem_range.2 (by omega), rfl⟩) (by rw [hc.ref _ (by omega)]; exact h2) ?_
      rw [e]
      exact hc.up _ (by omega)
  have h2 := nodup_sub (names_nd hc.n10) (l := needsN ((List.range n).map g) (nmC (n - 1))) (fun q hq => by
    obtain ⟨i, hi, rfl⟩ := List.mem_map.1 hq
    have hi := List.mem_range.1 hi
    have := hall (n - 1 - i) (by omega)
    rwa [show n - 1 - (n - 1 - i) = i by omega] at this)
  have h3 := (need_ni (l := (List.range n).map g) [nmC (n - 1)] [] (NI.nil _)).le
  have h4 := sortL_len (needA ((List.range n).map g) [nmC (n - 1)] [])
  simp only [List.length_map, List.length_range] at h2 h3
  unfold needsN at h2 ⊢
  omega
end
/-! ### A circle -/
theorem orderL_circle (C : Bytes → Prop) : ∀ (f : Nat) {out : List Bytes} {l : List Nd}, l.length = f → (l.map (·.ref)).Nodup → (∀ x ∈ l, C x.ref → ∃ i ∈ inputsN x, C i) → (∀ q ∈ out, ¬ C q) → (∃ x ∈ l, C x.ref) → orderL f out l = ([], 121)
  | 0, out, l, hl, _, _, _, ⟨x, hx, _⟩ => by
    rw [List.eq_nil_of_length_eq_zero hl] at hx; cases hx
  | f + 1, out, l, hl, hn, hC, ho, ⟨z, hz, hzC⟩ => by
    simp only [orderL]
    by_cases hb : (bestL out l).2 = false
    · rw [if_pos hb]
    · rw [if_neg hb]
      have hb' : (bestL out l).2 = true := by simpa using hb
      obtain ⟨x, hx, ex, hr⟩ := best_some hb'
      obtain ⟨h1, _⟩ := best_left hn hb'
      have hxC : ¬ C x.ref := by
        intro h
        obtain ⟨i, hi, hCi⟩ := hC x hx h
        exact ho i (of_decide_eq_true (List.all_eq_true.1 hr i hi)) hCi
      refine orderL_circle C f (by omega) (filter_nodup hn) (fun y hy => hC y (List.mem_filter.1 hy).1) (fun q hq => ?_) ⟨z, List.mem_filter.2 ⟨hz, decide_eq_true (fun e => hxC (by rw [ex, ← e]; exact hzC))⟩, hzC⟩
      rcases List.mem_append.1 hq with hq | hq
      · exact ho q hq
      · simp only [List.mem_singleton] at hq
        rw [hq, ← ex]; exact hxC
theorem chk_ord {ref : Bytes} {l : List Nd} (h1 : l.length ≤ 16) (h2 : ∀ n ∈ l, isN n = true) (h3 : (l.map (·.ref)).Nodup) (h4 : ∀ q ∈ refsN ref l, q ∈ l.map (·.ref)) : checkN ref l = (orderN l).2 := by
  unfold checkN
  rw [if_neg (by omega), if_neg (by
    rw [Bool.not_eq_true, List.any_eq_false]
    intro n hn
    rw [h2 n hn]; decide), if_neg (by rw [okN_of h3]; decide), if_neg (by
    rw [Bool.not_eq_true, List.any_eq_false]
    intro q hq hc
    have : findN l q = none := by simpa using hc
    exact findN_none.1 this (h4 q hq))]
theorem cN_in {i : Nat} (hi : i < 10) (q : Bytes) : q ∈ inputsN (cN i) ↔ q ∈ dnC i := by
  obtain ⟨h1, h2⟩ := cN_ok i hi
  rw [← h2]; exact mth_in h1
theorem xN_in {i t : Nat} (hi : i < 10) (ht : t < 10) (q : Bytes) : q ∈ inputsN (xN i t) ↔ q ∈ dnC i ∨ q = nmC t := by
  obtain ⟨h1, h2⟩ := xN_ok i hi t ht
  rw [show inputsN (xN i t) = inputsN (mthN (nmC i) (txC i ++ [32, 43, 32, 36] ++ nmC t)) from rfl, mth_in h1]
  show q ∈ rawN (xN i t) ↔ _
  rw [h2]; simp
theorem dn_mem {i : Nat} {q : Bytes} (h : q ∈ dnC i) : ∃ j < i, q = nmC j := by
  cases i with
  | zero => cases h
  | succ i =>
    simp only [dnC, List.mem_singleton] at h
    exact ⟨i, by omega, h⟩
theorem chain_c {n : Nat} (h1 : 1 ≤ n) (h10 : n ≤ 10) : Chain n cN := by
  refine ⟨h1, h10, fun i _ => rfl, fun i hi => (cN_ok i (by omega)).1, fun i hi q hq => dn_mem ((cN_in (by omega) q).1 hq), fun i hi => ?_⟩
  exact (cN_in (by omega) _).2 (by simp [dnC])
theorem xG_ref (f t i : Nat) : (xG f t i).ref = nmC i := by
  unfold xG
  split
  · rename_i h; rw [h]; rfl
  · rfl
theorem xG_is {f t i : Nat} (hi : i < 10) (ht : t < 10) : isN (xG f t i) = true := by
  unfold xG
  split
  · rename_i h; exact (xN_ok f (by omega) t ht).1
  · exact (cN_ok i hi).1
theorem xG_in {f t i : Nat} (hi : i < 10) (ht : t < 10) (q : Bytes) : q ∈ inputsN (xG f t i) ↔ q ∈ dnC i ∨ (i = f ∧ q = nmC t) := by
  unfold xG
  split
  · rename_i h; subst h; rw [xN_in hi ht]; simp
  · rename_i h; rw [cN_in hi]; simp [h]
theorem chain_x {n f t : Nat} (h1 : 1 ≤ n) (h10 : n ≤ 10) (hf : f < n) (ht : t < f) : Chain n (xG f t) := by
  refine ⟨h1, h10, fun i _ => xG_ref f t i, fun i hi => xG_is (by omega) (by omega), fun i hi q hq => ?_, fun i hi => ?_⟩
  · rcases (xG_in (by omega) (by omega) q).1 hq with h | ⟨h, h2⟩
    · exact dn_mem h
    · exact ⟨t, by omega, h2⟩
  · exact (xG_in (by omega) (by omega) _).2 (.inl (by simp [dnC]))
theorem circle_x {n f t : Nat} (h10 : n ≤ 10) (hf : f < n) (ht : t < n) (hft : f ≤ t) : orderN (xL n f t) = ([], 121) ∧ checkN (nmC (n - 1)) (xL n f t) = 121 := by
  have hr : ((xL n f t).map (·.ref)) = (List.range n).map nmC := refs_eq (fun i _ => xG_ref f t i)
  have hnd : ((xL n f t).map (·.ref)).Nodup := by rw [hr]; exact names_nd h10
  have ho : orderN (xL n f t) = ([], 121) := by
    unfold orderN
    rw [if_neg (by rw [okN_of hnd]; decide)]
    refine orderL_circle (fun q => ∃ i, f ≤ i ∧ i ≤ t ∧ q = nmC i) _ rfl hnd (fun x hx ⟨i, h1, h2, h3⟩ => ?_) (fun q hq => by cases hq) ⟨xG f t f, List.mem_map.2 ⟨f, List.mem_range.2 hf, rfl⟩, f, Nat.le_refl _, hft, xG_ref f t f⟩
    obtain ⟨j, hj, rfl⟩ := List.mem_map.1 hx
    have hj := List.mem_range.1 hj
    rw [xG_ref] at h3
    obtain rfl := nmC_inj j (by omega) i (by omega) h3
    by_cases e : j = f
    · exact ⟨nmC t, (xG_in (by omega) (by omega) _).2 (.inr ⟨e, rfl⟩), t, hft, Nat.le_refl _, rfl⟩
    · obtain ⟨m, rfl⟩ : ∃ m, j = m + 1 := ⟨j - 1, by omega⟩
      exact ⟨nmC m, (xG_in (by omega) (by omega) _).2 (.inl (by simp [dnC])), m, by omega, by omega, rfl⟩
  refine ⟨ho, ?_⟩
  rw [chk_ord (l := xL n f t) (by simp [xL]; omega) (fun x hx => by
    obtain ⟨i, hi, rfl⟩ := List.mem_map.1 hx
    exact xG_is (by have := List.mem_range.1 hi; omega) (by omega)) hnd (fun q hq => by
    rw [hr]
    rcases List.mem_cons.1 hq with rfl | hq
    · exact name_mem (by omega)
    · obtain ⟨x, hx, hq⟩ := List.mem_flatMap.1 hq
      obtain ⟨i, hi, rfl⟩ := List.mem_map.1 hx
      have hi := List.mem_range.1 hi
      rcases (xG_in (by omega) (by omega) q).1 hq with h | ⟨_, h⟩
      · obtain ⟨j, hj, rfl⟩ := dn_mem h
        exact name_mem (by omega)
      · rw [h]; exact name_mem ht), ho]
end Go.KX
/- Plain: the chain of nodes as the law on circles builds it. No program in sight. -/
namespace Go.KX
def namesC : List Bytes := [[65], [66], [67], [68], [69], [70], [71], [72], [73], [74]]
theorem names_ix : ∀ i < 10, namesC[i]? = some (nmC i) := by decide
theorem names_get {z : Int} {i : Nat} (h : z = i) (hi : i < 10) : 0 ≤ z ∧ (rowsB namesC)[z.toNat]? = some [.str (nmC i)] := by
  subst h
  refine ⟨Int.natCast_nonneg _, ?_⟩
  rw [Int.toNat_natCast, List.getElem?_map, names_ix i hi]; rfl
theorem nm_len (i : Nat) : (nmC i).length = 1 := rfl
theorem tx_len (i : Nat) : (txC i).length ≤ 6 := by cases i <;> simp [txC, nmC]
theorem tx_pos {i : Nat} (h : 1 ≤ i) : txC i = [36] ++ nmC (i - 1) ++ [32, 43, 32, 49] := by
  obtain ⟨m, rfl⟩ : ∃ m, i = m + 1 := ⟨i - 1, by omega⟩
  rfl
theorem cL_next (j : Nat) : cL (j + 1) = cL j ++ [cN j] := by simp [cL, List.range_succ]
theorem cL_len (n : Nat) : (cL n).length = n := by simp [cL]
theorem cL_row {j : Nat} (h : 1 ≤ j) : (cL (j + 1)).map ndL = (cL j).map ndL ++ [[.str (nmC j), nI 3, .str [], .str [], .str [], bS false, nI 0, nI 0, nI 0, nI 0, .str ([36] ++ nmC (j - 1) ++ [32, 43, 32, 49])]] := by
  rw [cL_next, List.map_append, ← tx_pos h]; rfl
theorem xL_len (n f t : Nat) : (xL n f t).length = n := by simp [xL]
theorem cL_get {n i : Nat} (h : i < n) : ((cL n).map ndL)[i]? = some (ndL (cN i)) := by simp [cL, h]
theorem cN_txt (i : Nat) : (ndL (cN i))[10]? = some (.str (txC i)) := rfl
theorem xL_row {n f t : Nat} (h : f < n) : ((cL n).map ndL).set f ((ndL (cN f)).set 10 (.str (txC f ++ [32, 43, 32, 36] ++ nmC t))) = (xL n f t).map ndL := by
  refine List.ext_getElem? (fun i => ?_)
  rw [List.getElem?_set]
  by_cases hi : f = i
  · subst hi
    rw [if_pos rfl, if_pos (by simp [cL, h])]
    simp only [xL, List.getElem?_map, List.getElem?_range h, Option.map_some, xG, if_true]
    rfl
  · rw [if_neg hi]
    simp only [cL, xL, List.getElem?_map]
    by_cases hn : i < n
    · rw [List.getElem?_range hn]
      simp only [Option.map_some, xG, if_neg (Ne.symm hi)]
    · rw [List.getElem?_eq_none (by simpa using hn)]; rfl
theorem cL_ref {n : Nat} : ∀ x ∈ cL n, x.ref.length ≤ 1000000 := fun x hx => by
  obtain ⟨i, _, rfl⟩ := List.mem_map.1 hx
  show (nmC i).length ≤ _
  rw [nm_len]; omega
theorem xL_ref {n f t : Nat} : ∀ x ∈ xL n f t, x.ref.length ≤ 1000000 := fun x hx => by
  obtain ⟨i, _, rfl⟩ := List.mem_map.1 hx
  rw [xG_ref, nm_len]; omega
theorem rows11 {l : List Nd} : ∀ r ∈ l.map ndL, r.length = 11 := fun r hr => by
  obtain ⟨n, _, rfl⟩ := List.mem_map.1 hr
  rfl
theorem nms_get {n i : Nat} {z : Int} (h : z = i) (hi : i < n) : 0 ≤ z ∧ (rowsB ((List.range n).map nmC))[z.toNat]? = some [.str (nmC i)] := by
  subst h
  refine ⟨Int.natCast_nonneg _, ?_⟩
  rw [Int.toNat_natCast, List.getElem?_map, List.getElem?_map, List.getElem?_range hi]; rfl
end Go.KX
/- Rows that are owned, further: an element read, a part of it written, appended to in a region that draws its order, lent to a call that hands back a list. No program in sight. -/
namespace Go.KX
/-- What is owned as i is owned as j. -/
def rnm (i j : Nat) (mb : MB) : SM → SM
  | [] => []
  | (k, m) :: r => match Nat.beq i k with
    | true => (j, mb) :: r
    | false => (k, m) :: rnm i j mb r
theorem occM_app {j : Nat} {k : Nat} {m : MB} {r : SM} (h : occM j ((k, m) :: r) = false) : occM j [(k, m)] = false ∧ occM j r = false := by
  cases m <;> simp only [occM, Bool.or_eq_false_iff, Bool.or_false] at h ⊢ <;> simp_all
theorem DenM.rn {g : GW} {ρ : Nat → Lc} : ∀ {M : SM} {ms : List Res} {i j : Nat} {mb : MB}, occM j M = false → DenM g ρ M ms → lkM M i = some mb → ∃ r m1 m2, ms = m1 ++ r :: m2 ∧ DenB g ρ i mb r ∧
    ∀ g' y r' mb', DenM g' ρ M (m1 ++ r :: m2) → DenB g' (fun k => if k = j then y else ρ k) j mb' r' → DenM g' (fun k => if k = j then y else ρ k) (rnm i j mb' M) (m1 ++ r' :: m2)
  | [], _, _, _, _, _, _, h => by cases h
  | (k, m) :: M, _, i, j, mb, ho, @DenM.cons _ _ _ _ _ r0 ms0 hb t, h => by
    obtain ⟨ho1, ho2⟩ := occM_app ho
    unfold lkM at h
    cases hij : Nat.beq i k with
    | true =>
      rw [hij] at h
      simp only [Option.some.injEq] at h
      subst h
      obtain rfl := Nat.eq_of_beq_eq_true hij
      refine ⟨r0, [], ms0, rfl, hb, fun g' y r' mb' hM hB => ?_⟩
      simp only [rnm, hij]
      cases hM with
      | cons _ t' => exact .cons hB (occ_upd t' ho2)
    | false =>
      rw [hij] at h
      obtain ⟨r, m1, m2, rfl, hB, hu⟩ := DenM.rn (M := M) ho2 t h
      refine ⟨r, r0 :: m1, m2, rfl, hB, fun g' y r' mb' hM hB' => ?_⟩
      simp only [rnm, hij]
      cases hM with
      | cons hb' t' =>
        have := occ_upd (y := y) (.cons hb' .nil : DenM g' ρ [(k, m)] [r0]) ho1
        cases this with
        | cons hb2 _ => exact .cons hb2 (hu g' y r' mb' t' hB')
section
variable {X : Kx} {k : List It} {L : SL} {M : SM} {fs : List MF} {own : List Res} {arr : Array Oper} {l : List Oper} {o : Oper}
/-- What is owned as j is owned as i from now on. -/
theorem eri (t i j : Nat) {n T sz : Nat} {rows : List (List SV)} (h : E X k ((t, .o i n) :: cln i [] L) (rnm j i (.r T sz rows) M) fs own) (ht : lkS L t = some (.o j n) := by rfl) (hm : lkM M j = some (.r T sz rows) := by rfl) (hoc : occM i M = false := by rfl) (hlt : Nat.blt i 1000 = true := by rfl) : E X k L M fs own := by
  intro g a s
  obtain ⟨ρ, ms, h1, h2, h3⟩ := s
  have hlt : i < 1000 := by simpa [Nat.blt_eq] using hlt
  obtain ⟨r, m1, m2, rfl, hB, hu⟩ := h2.rn hoc hm
  have hB' : DenB g (fun k => if k = i then ρ j else ρ k) i (.r T sz rows) r := by
    cases hB with
    | r hz ys hl hd =>
      have := DenB.r (g := g) (ρ := fun k => if k = i then ρ j else ρ k) (i := i) (T := T) hz ys hl hd
      simpa using this
  refine h g a ⟨fun k => if k = i then ρ j else ρ k, m1 ++ r :: m2, h1, hu g (ρ j) r _ h2 hB', fun q hq => ?_, fun u sv hu' => ?_⟩
  · have : q ≠ i := by omega
    simp only [if_neg this]; exact h3.pin q hq
  · by_cases hut : u = t
    · subst hut
      rw [lkS_same] at hu'
      cases hu'
      obtain ⟨x, hx, dx⟩ := h3.val u _ ht
      refine ⟨x, hx, ?_⟩
      cases dx with
      | o =>
        have : Den g (fun k => if k = i then ρ j else ρ k) (.o i n) (.slice ((fun k => if k = i then ρ j else ρ k) i).ad n ((fun k => if k = i then ρ j else ρ k) i).c) := .o
        simpa using this
    · rw [lkS_ne _ _ hut] at hu'
      obtain ⟨_, h4, h5⟩ := cln_lk hu'
      obtain ⟨x, hx, dx⟩ := h3.val u sv h4
      exact ⟨x, hx, dx.upd h5⟩
/-- append(xs, ys...): xs owned, ys frozen, in a region that draws its order. -/
theorem Stp_ap {tb : TT} (hT : tb.Ok X.P) {d T Te i n sz z : Nat} {x y : Operand} {rows rows2 : List (List SV)} {dT de : TD} (hn : n = rows.length) (hz2 : rows2 ≠ [] → z = sz) (hbig : (rows.length + rows2.length) * de.by_ ≤ 140737488355328) (ho : o.op = .call ⟨.builtin .append, #[x, y], #[T, T]⟩) (hg : o.guard = none) (hd : o.dst = some d) (hdn : Nat.blt d X.n = true)
    (hx : evS (lkS L) x = some (.o i n)) (hy : evS (lkS L) y = some (.s z rows2)) (hm : lkM M i = some (.r Te sz rows)) (hT1 : tb.get T = some dT) (hk1 : dT.kd = .sl Te) (hT2 : tb.get Te = some de) (hsz : de.sz = sz) (hzl : Nat.beq (cellsV (inj de.z)).length de.sz = true) (hby : 1 ≤ de.by_) (hoL : occSL d L = false) (hoM : occM d M = false) (hi1 : Nat.blt d 1000 = true) :
    StpU X arr o L M fs own (.o d (rows ++ rows2).length) (rnm i d (.r Te sz (rows ++ rows2)) M) := by
  subst hsz hn
  intro L' hL hf g a hE
  have hoL' : occSL d L' = false := hf d (by unfold isAl; rw [ho]; exact hd) hoL
  obtain ⟨ρ, ms, st⟩ := hE.open
  have hSl : Sl X ρ L' a g := st.all _ (.tail _ (.head _))
  have hw : Region.wanted o (yielded arr a.tmps) = true := live_wanted (L := []) st.kn (live_none hg)
  unfold opQ
  rw [if_pos hw]
  have hi1 : d < 1000 := by simpa [Nat.blt_eq] using hi1
  have hM : DenM g ρ M ms := st.all _ (.head _)
  obtain ⟨r, m1, m2, rfl, hB, hup⟩ := hM.rn hoM hm
  have hev : evs (lkS L') [x, y] = some [.o i rows.length, .s z rows2] := by
    have := evs_agree' hL
    rw [show o.op.operands.toList = [x, y] by rw [ho]; rfl] at this
    rw [this]
    simp only [evs, hx, hy]
  obtain ⟨_, _, e1, dx, hr1⟩ := (evals_den hSl.val hev).uncons
  obtain ⟨_, _, e2, dy, _⟩ := hr1.uncons
  simp only [List.map_cons, List.cons.injEq] at e1
  obtain ⟨rfl, rfl⟩ := e1
  simp only [List.cons.injEq] at e2
  obtain ⟨rfl, _⟩ := e2
  generalize hvx : a.eval x = vx at dx
  generalize hvy : a.eval y = vy at dy
  have u := (TT.get_ok hT hT1).kd
  rw [hk1] at u
  have hti := (TT.get_ok hT hT2).ti
  have hzs : de.z.cells.size = de.sz := cellsV_len (Nat.eq_of_beq_eq_true hzl)
  cases hB with
  | r hz ys hl hdd =>
    cases dx with
    | o =>
      cases dy with
      | s xs h1 h2 hxl hxr hxo hne hxd =>
        rename_i ad2 c2
        have hxl2 : xs.length = rows2.length * de.sz := by
          by_cases he : rows2 = []
          · rw [he] at hxl ⊢; simpa using hxl
          · rw [← hz2 he]; exact hxl
        obtain ⟨ys2, hyl2, hyf⟩ := chunks hz rows2.length xs hxl2 hxo.1
        have hp : (m1 ++ Res.arr (elRow de.sz hz) Te (ρ i).ad (ρ i).c ys :: m2 ++ own).Perm (Res.arr (elRow de.sz hz) Te (ρ i).ad (ρ i).c ys :: (m1 ++ m2 ++ own)) := by
          simp only [List.append_assoc, List.cons_append]
          exact List.perm_middle
        have stp0 := st.perm hp
        have stp : St X.toCx [] (rowsD ys rows :: rowsD ys2 rows2 :: F1 ρ M _ :: F2 X ρ L' a :: fs) _ g a := ⟨stp0.kn, All.cons hdd (All.cons (fun ρ' k x r hk hr => by
          have hrl : r.length = de.sz := by
            have hne2 : rows2 ≠ [] := by intro e; subst e; simp at hr
            rw [← hz2 hne2]; exact hxr r (List.mem_of_getElem? hr)
          refine ⟨by rw [x.2.1, hrl], fun j sv v hj hv => ?_⟩
          have hf := flat_get (elRow de.sz hz) ys2 k j x v hk hv
          rw [hyf] at hf
          have hne2 : rows2 ≠ [] := by intro e; subst e; simp at hr
          exact hxd ρ' k j r sv v hr hj (by rw [hz2 hne2]; exact hf)) stp0.all), stp0.own, stp0.ext, stp0.new⟩
        have hown : g.w.ownsRow 0 Te de.sz (.slice (ρ i).ad ys.length (ρ i).c) ys.length (flat (elRow de.sz hz) ys) := stp.own.p _ (.head _)
        have hbig' : (ys.length + rows2.length) * de.by_ ≤ 140737488355328 := by rw [hl]; exact hbig
        have h63 : ys.length + rows2.length ≤ maxLen := by
          have : ys.length + rows2.length ≤ (ys.length + rows2.length) * de.by_ := Nat.le_mul_of_pos_right _ hby
          simp only [maxLen]; omega
        have hrun : ∃ v' w', (Builtin.append_ #[T, T] o.type #[.slice (ρ i).ad ys.length (ρ i).c, .slice ad2 rows2.length c2]).run X.P g.w = .ok v' w' ∧ AppOK g.w w' Te de.sz (.slice (ρ i).ad ys.length (ρ i).c) v' (ys ++ ys2).length (flat (elRow de.sz hz) (ys ++ ys2)) := by
          rw [List.length_append, flat_append, hyl2, hyf]
          cases ad2 with
          | none =>
            have hr2 : rows2 = [] := by
              rcases rows2 with _ | ⟨q, qs⟩
              · rfl
              · obtain ⟨_, _, he, _⟩ := hne (by simp); cases he
            subst hr2
            have hx0 : xs = [] := List.eq_nil_of_length_eq_zero (by simpa using hxl)
            subst hx0
            obtain ⟨i0, hi0, hs0, hb0, hz0⟩ := hti
            refine ⟨.slice (ρ i).ad ys.length (ρ i).c, g.w, ?_, by simpa using hown, ⟨rfl, rfl, rfl, Nat.le_refl _, fun _ _ _ => rfl⟩, fun b hb => .inl hb⟩
            rcases hown.2 with ⟨hv, _⟩ | ⟨gg, cap, cur, hv, _, _, hnc, _⟩
            · injection hv with e1 e2 e3
              simp [Builtin.append_, run_underlying u, sizeOf, typeInfo, hi0, Builtin.lenOf, Builtin.firstCells, e1, e2, e3]
            · injection hv with e1 e2 e3
              subst e3
              simp [Builtin.append_, run_underlying u, sizeOf, typeInfo, hi0, Builtin.lenOf, Builtin.firstCells, e1, hnc, storeCells]
          | some ad2 =>
            exact run_app u hti hzs hz hown hxl2 (fun j v hv => by
              have hne2 : rows2 ≠ [] := by intro e; subst e; simp at hxl2; subst hxl2; simp at hv
              obtain ⟨b, oo, he, _, hc⟩ := hne hne2
              cases he
              rw [addr_add]
              exact hc j v hv) hxo.1 h63 hbig'
        obtain ⟨v', w', hr0, h1'⟩ := hrun
        obtain ⟨ad', c', g', rfl, rfl, s'⟩ := stp.appd .head h1'
        have hre : (execOp a.eval o).run X.P g.w = .ok (.value (.slice ad' (ys ++ ys2).length c')) g'.w := by
          simp only [execOp, ho, resolve]
          simp only [List.map_toArray, List.map_cons, List.map_nil, hvx, hvy, ← hl]
          simp [invoke, builtin, hr0]
        simp only [wn, hre, hd]
        let y : Lc := ⟨(ρ i).b, ad', c'⟩
        have hd1 : (rowsD ys rows).p g' := s'.all _ (.head _)
        have hd2 : (rowsD ys2 rows2).p g' := s'.all _ (.tail _ (.head _))
        have hSl' : Sl X ρ L' a g' := s'.all (F2 X ρ L' a) (.tail _ (.tail _ (.tail _ (.head _))))
        have hM' : DenM g' ρ M (m1 ++ _ :: m2) := s'.all (F1 ρ M _) (.tail _ (.tail _ (.head _)))
        have hBn : DenB g' (fun k => if k = d then y else ρ k) d (.r Te de.sz (rows ++ rows2)) (Res.arr (elRow de.sz hz) Te ((fun k => if k = d then y else ρ k) d).ad ((fun k => if k = d then y else ρ k) d).c (ys ++ ys2)) := .r hz (ys ++ ys2) (by simp [hl, hyl2]) (fun ρ' k x r hk hr => by
          rw [List.getElem?_append] at hk hr
          rw [hl] at hk
          split at hr
          · rename_i hlt; rw [if_pos hlt] at hk; exact hd1 ρ' k x r hk hr
          · rename_i hlt; rw [if_neg hlt] at hk; exact hd2 ρ' _ x r hk hr)
        simp only [if_pos] at hBn
        have hMn := hup g' y _ _ hM' (by simpa using hBn)
        have hp2 : (Res.arr (elRow de.sz hz) Te ad' c' (ys ++ ys2) :: (m1 ++ m2 ++ own)).Perm (m1 ++ Res.arr (elRow de.sz hz) Te ad' c' (ys ++ ys2) :: m2 ++ own) := by
          simp only [List.append_assoc, List.cons_append]
          exact List.perm_middle.symm
        have s2 := s'.perm hp2
        have s3 : St X.toCx [] (F1 (fun k => if k = d then y else ρ k) (rnm i d (.r Te de.sz (rows ++ rows2)) M) (m1 ++ Res.arr (elRow de.sz hz) Te ad' c' (ys ++ ys2) :: m2) :: F2 X (fun k => if k = d then y else ρ k) L' a :: fs) (m1 ++ Res.arr (elRow de.sz hz) Te ad' c' (ys ++ ys2) :: m2 ++ own) g' a := ⟨s2.kn, All.cons hMn (All.cons ⟨fun q hq => by
            have : q ≠ d := by omega
            simp only [if_neg this]; exact hSl'.pin q hq, fun t sv ht => by
            obtain ⟨x, hx, dx⟩ := hSl'.val t sv ht
            exact ⟨x, hx, dx.upd (occSL_get hoL' t sv ht)⟩⟩ (fun f hf => s2.all f (.tail _ (.tail _ (.tail _ (.tail _ hf)))))), s2.own, s2.ext, s2.new⟩
        refine ⟨g', rfl, ESt.put s3 hdn ?_⟩
        have hlen : (ys ++ ys2).length = (rows ++ rows2).length := by simp [hl, hyl2]
        rw [hlen]
        have : Den g' (fun k => if k = d then y else ρ k) (.o d (rows ++ rows2).length) (.slice ((fun k => if k = d then y else ρ k) d).ad (rows ++ rows2).length ((fun k => if k = d then y else ρ k) d).c) := .o
        simpa [y] using this
theorem dap {tb : TT} (hT : tb.Ok X.P) (m : Nat) (H : List (List SV)) {un q d T Te i n sz z : Nat} {D r π' : List Nat} {Ms Ms' : List SM} {x y : Operand} {rows rows2 : List (List SV)} {dT de : TD} {L' M' φ} (hn : n = rows.length) (hz2 : rows2 ≠ [] → z = sz) (hbig : (rows.length + rows2.length) * de.by_ ≤ 140737488355328) (hk : ED X arr k fs own un D π' L' M' Ms') (hi : arr[q]? = some o := by rfl) (hu : un.testBit q = true := by rfl) (ho : o.op = .call ⟨.builtin .append, #[x, y], #[T, T]⟩ := by rfl) (hg : o.guard = none := by rfl) (hd : o.dst = some d := by rfl) (hdn : Nat.blt d X.n = true := by rfl)
    (hx : evS (lkS L) x = some (.o i n) := by rfl) (hy : evS (lkS L) y = some (.s z rows2) := by rfl) (hm : lkM M i = some (.r Te sz rows) := by rfl) (hT1 : tb.get T = some dT := by rfl) (hk1 : dT.kd = .sl Te := by rfl) (hT2 : tb.get Te = some de := by rfl) (hsz : de.sz = sz := by rfl) (hzl : Nat.beq (cellsV (inj de.z)).length de.sz = true := by rfl) (hby : 1 ≤ de.by_ := by decide) (hoL : occSL d L = false := by rfl) (hoM : occM d M = false := by rfl) (hi1 : Nat.blt d 1000 = true := by rfl)
    (hr : xdrw tb X.n arr un D m H r ((d, .o d (rows ++ rows2).length) :: L) (rnm i d (.r Te sz (rows ++ rows2)) M) (M :: Ms) [] = some (π', L', M', Ms', φ) := by rfl) (hφ : conj φ := by first | trivial | omega | (simp +contextual [conj]; done)) : ED X arr k fs own un D (q :: r) L M Ms := by
  refine ⟨o, .o d (rows ++ rows2).length, hi, ?_⟩
  rw [hu]
  refine ⟨_, Stp_ap hT hn hz2 hbig ho hg hd hdn hx hy hm hT1 hk1 hT2 hsz hzl hby hoL hoM hi1, ?_⟩
  rw [hd]
  exact xd hT m H hk hr hφ
theorem arr_head {w : World} {sz Te : Nat} {hz : 0 < sz} {ad : Option Addr} {c : Nat} {ys : List (Row sz)} (h : (Res.arr (elRow sz hz) Te ad c ys).p w) (hne : 0 < ys.length) : ∃ b, ad = some ⟨b, 0, none⟩ ∧ b < w.heap.size ∧ w.ownsRow 0 Te sz (.slice (some ⟨b, 0, none⟩) ys.length c) ys.length (flat (elRow sz hz) ys) := by
  have h' : w.ownsRow 0 Te sz (.slice ad ys.length c) ys.length (flat (elRow sz hz) ys) := h
  rcases h'.2 with ⟨_, h0⟩ | ⟨gg, cap, cur, had, _, hg, _⟩
  · omega
  · injection had with e1 e2 e3
    subst e1
    exact ⟨gg, rfl, (Array.getElem?_eq_some_iff.1 hg).1, h'⟩
theorem Stp_rix {tb : TT} (hT : tb.Ok X.P) {T Te d i n sz j : Nat} {kk : IntKind} {z : Int} {x ix : Operand} {rows : List (List SV)} {dT de : TD} (hzj : z = (j : Int)) (hj : j < rows.length) (hn : n = rows.length) (ho : o.op = .indexAddr T x ix) (hg : o.guard = none) (hd : o.dst = some d) (hdn : Nat.blt d X.n = true) (hx : evS (lkS L) x = some (.o i n)) (hy : evS (lkS L) ix = some (.v (.int kk z))) (hm : lkM M i = some (.r Te sz rows))
    (hT1 : tb.get T = some dT) (hk1 : dT.kd = .sl Te) (hT2 : tb.get Te = some de) (hsz : de.sz = sz) : Stp X arr o L M fs own (.e i (j * sz)) M := by
  subst hzj hsz
  have hG : gS arr (lkS L) o = some none := by unfold gS; rw [hg]
  refine Stp_read (sv := .e i (j * de.sz)) hG hd hdn (fun L' hL hon g a ρ ms st => ?_)
  have hSl : Sl X ρ L' a g := st.all _ (.tail _ (.head _))
  have hM : DenM g ρ M ms := st.all _ (.head _)
  have hev : evs (lkS L') [x, ix] = some [.o i n, .v (.int kk (j : Int))] := by
    have := evs_agree' hL
    rw [show o.op.operands.toList = [x, ix] by rw [ho]; rfl] at this
    rw [this]
    simp only [evs, hx, hy]
  obtain ⟨_, _, e1, dx, hr1⟩ := (evals_den hSl.val hev).uncons
  obtain ⟨_, _, e2, dy, _⟩ := hr1.uncons
  simp only [List.map_cons, List.cons.injEq] at e1
  obtain ⟨rfl, rfl⟩ := e1
  simp only [List.cons.injEq] at e2
  obtain ⟨rfl, _⟩ := e2
  have hyv := den_int dy
  have u := (TT.get_ok hT hT1).kd
  rw [hk1] at u
  have hti := (TT.get_ok hT hT2).ti
  obtain ⟨r, m1, m2, rfl, hB, _⟩ := hM.split hm
  generalize hvx : a.eval x = vx at dx
  cases hB with
  | r hz ys hl hdd =>
    cases dx with
    | o =>
      obtain ⟨b, had, _, _⟩ := arr_head (st.own.p _ (List.mem_append_left _ (List.mem_append_right _ (.head _)))) (by omega)
      refine ⟨.pointer (some ⟨b, 0 + j * de.sz, none⟩), ?_, .e had⟩
      simp only [execOp, ho, hvx, hyv]
      simp only [Instr.indexAt, asIntOf, Sem.run_bind, Sem.run_pure, Result.andThen_ok, run_underlying u, had]
      rw [if_pos ⟨by omega, by omega⟩]
      simp only [Sem.run_bind, run_sizeOf hti, Result.andThen_ok, Sem.run_pure, addr_add]
      simp
/-- The address of an element of rows that are owned. -/
theorem dri {tb : TT} (hT : tb.Ok X.P) (j m : Nat) (H : List (List SV)) {un q d i T Te n sz : Nat} {D r π' : List Nat} {Ms Ms' : List SM} {kk : IntKind} {z : Int} {x ix : Operand} {rows : List (List SV)} {dT de : TD} {L' M' φ} (hzj : z = (j : Int)) (hj : j < rows.length) (hn : n = rows.length) (hk : ED X arr k fs own un D π' L' M' Ms') (hi : arr[q]? = some o := by rfl) (hu : un.testBit q = false := by rfl) (ho : o.op = .indexAddr T x ix := by rfl) (hg : o.guard = none := by rfl) (hd : o.dst = some d := by rfl) (hdn : Nat.blt d X.n = true := by rfl) (hx : evS (lkS L) x = some (.o i n) := by rfl) (hy : evS (lkS L) ix = some (.v (.int kk z)) := by rfl)
    (hm : lkM M i = some (.r Te sz rows) := by rfl) (hall : allQ i (.r Te sz rows) Ms := by repeat (first | exact trivial | refine ⟨rfl, ?_⟩)) (hb : Nat.ble (hiU arr.size un D q) Ms.length = true := by rfl) (hT1 : tb.get T = some dT := by rfl) (hk1 : dT.kd = .sl Te := by rfl) (hT2 : tb.get Te = some de := by rfl) (hsz : de.sz = sz := by rfl)
    (hr : xdrw tb X.n arr un D m H r ((d, .e i (j * sz)) :: L) M Ms [] = some (π', L', M', Ms', φ) := by rfl) (hφ : conj φ := by first | trivial | omega | (simp +contextual [conj]; done)) : ED X arr k fs own un D (q :: r) L M Ms := by
  refine ⟨o, .e i (j * sz), hi, ?_⟩
  rw [hu]
  refine ⟨.inl ⟨Nat.le_of_ble_eq_true hb, Stp_rix hT hzj hj hn ho hg hd hdn hx hy hm hT1 hk1 hT2 hsz, fun q M2 hq _ => Stp_rix hT hzj hj hn ho hg hd hdn hx hy (allQ_get hall hq) hT1 hk1 hT2 hsz⟩, ?_⟩
  rw [hd]
  exact xd hT m H hk hr hφ
theorem row_cell {w : World} {sz Te b c : Nat} {hz : 0 < sz} {ys : List (Row sz)} (h : w.ownsRow 0 Te sz (.slice (some ⟨b, 0, none⟩) ys.length c) ys.length (flat (elRow sz hz) ys)) {j f : Nat} {y : Row sz} {v : Value} (hj : ys[j]? = some y) (hf : y.1[f]? = some v) : w.cell? ⟨b, j * sz + f, none⟩ = some v := by
  have hg := flat_get (elRow sz hz) ys j f y v hj hf
  have hlt := (List.getElem?_eq_some_iff.1 hg).1
  rw [flat_len] at hlt
  rw [h.cellAt (j * sz + f) hlt]
  exact hg
theorem Stp_rld {tb : TT} (hT : tb.Ok X.P) {T Te d i sz j f off : Nat} {x : Operand} {sv : SV} {row : List SV} {rows : List (List SV)} {de : TD} (hoff : off = j * sz + f) (hrow : rows[j]? = some row) (hsv : row[f]? = some sv) (ho : o.op = .load T x) (hg : o.guard = none) (hd : o.dst = some d) (hdn : Nat.blt d X.n = true) (hx : evS (lkS L) x = some (.e i off)) (hm : lkM M i = some (.r Te sz rows)) (hT2 : tb.get T = some de) (hag : de.kd.ag = false) : Stp X arr o L M fs own sv M := by
  subst hoff
  have hG : gS arr (lkS L) o = some none := by unfold gS; rw [hg]
  refine Stp_read (sv := sv) hG hd hdn (fun L' hL hon g a ρ ms st => ?_)
  have hSl : Sl X ρ L' a g := st.all _ (.tail _ (.head _))
  have hM : DenM g ρ M ms := st.all _ (.head _)
  have hev : evs (lkS L') [x] = some [.e i (j * sz + f)] := by
    have := evs_agree' hL
    rw [show o.op.operands.toList = [x] by rw [ho]; rfl] at this
    rw [this]
    simp only [evs, hx]
  obtain ⟨_, _, e1, dx, hr1⟩ := (evals_den hSl.val hev).uncons
  simp only [List.map_cons, List.cons.injEq] at e1
  obtain ⟨rfl, rfl⟩ := e1
  obtain ⟨td, u, hag2⟩ := (TT.get_ok hT hT2).kd.und
  rw [hag] at hag2
  obtain ⟨r, m1, m2, rfl, hB, _⟩ := hM.split hm
  generalize hvx : a.eval x = vx at dx
  cases hB with
  | r hz ys hl hdd =>
    cases dx with
    | e had =>
      have hjl := (List.getElem?_eq_some_iff.1 hrow).1
      have hy := List.getElem?_eq_getElem (l := ys) (i := j) (by omega)
      obtain ⟨b, had2, _, hown⟩ := arr_head (st.own.p _ (List.mem_append_left _ (List.mem_append_right _ (.head _)))) (by omega)
      rw [had] at had2
      injection had2 with had2
      injection had2 with e3 e4
      subst e3 e4
      obtain ⟨v, hv, dv⟩ := (hdd ρ j _ row hy hrow).get hsv
      refine ⟨v, ?_, dv⟩
      have := run_load1 (P := X.P) (w := g.w) u hag2 (row_cell hown hy hv)
      simp only [execOp, ho, hvx, Nat.zero_add]
      simp [this]
/-- A part of an element of rows that are owned. -/
theorem drl {tb : TT} (hT : tb.Ok X.P) (j f m : Nat) (H : List (List SV)) {un q d i T Te sz off : Nat} {D r π' : List Nat} {Ms Ms' : List SM} {x : Operand} {sv : SV} {row : List SV} {rows : List (List SV)} {de : TD} {L' M' φ} (hrow : rows[j]? = some row) (hsv : row[f]? = some sv) (hk : ED X arr k fs own un D π' L' M' Ms') (hoff : off = j * sz + f := by rfl) (hi : arr[q]? = some o := by rfl) (hu : un.testBit q = false := by rfl) (ho : o.op = .load T x := by rfl) (hg : o.guard = none := by rfl) (hd : o.dst = some d := by rfl) (hdn : Nat.blt d X.n = true := by rfl) (hx : evS (lkS L) x = some (.e i off) := by rfl)
    (hm : lkM M i = some (.r Te sz rows) := by rfl) (hall : allQ i (.r Te sz rows) Ms := by repeat (first | exact trivial | refine ⟨rfl, ?_⟩)) (hb : Nat.ble (hiU arr.size un D q) Ms.length = true := by rfl) (hT2 : tb.get T = some de := by rfl) (hag : de.kd.ag = false := by rfl)
    (hr : xdrw tb X.n arr un D m H r ((d, sv) :: L) M Ms [] = some (π', L', M', Ms', φ) := by rfl) (hφ : conj φ := by first | trivial | omega | (simp +contextual [conj]; done)) : ED X arr k fs own un D (q :: r) L M Ms := by
  refine ⟨o, sv, hi, ?_⟩
  rw [hu]
  refine ⟨.inl ⟨Nat.le_of_ble_eq_true hb, Stp_rld hT hoff hrow hsv ho hg hd hdn hx hm hT2 hag, fun q M2 hq _ => Stp_rld hT hoff hrow hsv ho hg hd hdn hx (allQ_get hall hq) hT2 hag⟩, ?_⟩
  rw [hd]
  exact xd hT m H hk hr hφ
theorem flat_set {sz : Nat} (hz : 0 < sz) {f : Nat} {v : Value} (hf : f < sz) : ∀ (ys : List (Row sz)) (j : Nat) (y y' : Row sz), ys[j]? = some y → y'.1 = y.1.set f v → (flat (elRow sz hz) ys).set (j * sz + f) v = flat (elRow sz hz) (ys.set j y')
  | [], j, y, y', h, _ => by simp at h
  | x :: ys, 0, y, y', h, h2 => by
    simp at h
    subst h
    show (x.1 ++ flat (elRow sz hz) ys).set _ v = y'.1 ++ flat (elRow sz hz) ys
    rw [List.set_append_left _ _ (by rw [x.2.1]; omega), h2, Nat.zero_mul, Nat.zero_add]
  | x :: ys, j + 1, y, y', h, h2 => by
    have ih := flat_set hz hf ys j y y' (by simpa using h) h2
    show (x.1 ++ flat (elRow sz hz) ys).set _ v = x.1 ++ flat (elRow sz hz) (ys.set j y')
    rw [List.set_append_right _ _ (by rw [x.2.1, Nat.succ_mul]; omega), ← ih, x.2.1]
    congr 2
    rw [Nat.succ_mul]; omega
/-- A text, stored into an element of rows that are owned. -/
theorem Stp_rst {tb : TT} (hT : tb.Ok X.P) {T Te i sz j f off : Nat} {x y : Operand} {q : Bytes} {row : List SV} {rows : List (List SV)} {t : TD} {M2 : SM} {sv : SV} (hoff : off = j * sz + f) (hrow : rows[j]? = some row) (hf : f < sz) (ho : o.op = .store T x y) (hg : o.guard = none) (hd : o.dst = none) (hx : evS (lkS L) x = some (.e i off)) (hy : evS (lkS L) y = some (.str q)) (hm : lkM M i = some (.r Te sz rows)) (ht : tb.get T = some t) (hsz : t.sz = 1)
    (hu : updK M i (.r Te sz (rows.set j (row.set f (.str q)))) some = some M2) : Stp X arr o L M fs own sv M2 := by
  subst hoff
  intro L' hL g a hE
  obtain ⟨ρ, ms, st⟩ := hE.open
  have hSl : Sl X ρ L' a g := st.all _ (.tail _ (.head _))
  have hM : DenM g ρ M ms := st.all _ (.head _)
  have hw : Region.wanted o (yielded arr a.tmps) = true := live_wanted (L := []) st.kn (live_none hg)
  unfold opQ
  rw [if_pos hw]
  have hev : evs (lkS L') [x, y] = some [.e i (j * sz + f), .str q] := by
    have := evs_agree' hL
    rw [show o.op.operands.toList = [x, y] by rw [ho]; rfl] at this
    rw [this]
    simp only [evs, hx, hy]
  obtain ⟨_, _, e1, dx, hr1⟩ := (evals_den hSl.val hev).uncons
  obtain ⟨_, _, e2, dy, _⟩ := hr1.uncons
  simp only [List.map_cons, List.cons.injEq] at e1
  obtain ⟨rfl, rfl⟩ := e1
  simp only [List.cons.injEq] at e2
  obtain ⟨rfl, _⟩ := e2
  have hyv := den_str dy
  obtain ⟨r, m1, m2, rfl, hB, hup⟩ := hM.split hm
  obtain ⟨M3, hK, hM3⟩ := hup hu
  cases hK
  generalize hvx : a.eval x = vx at dx
  cases hB with
  | r hz ys hl hdd =>
    cases dx with
    | e had =>
      rename_i b0 o0
      have hjl := (List.getElem?_eq_some_iff.1 hrow).1
      have hys := List.getElem?_eq_getElem (l := ys) (i := j) (by omega)
      have hp : (m1 ++ Res.arr (elRow sz hz) Te (ρ i).ad (ρ i).c ys :: m2 ++ own).Perm (Res.arr (elRow sz hz) Te (ρ i).ad (ρ i).c ys :: (m1 ++ m2 ++ own)) := by
        simp only [List.append_assoc, List.cons_append]
        exact List.perm_middle
      have stp0 := st.perm hp
      have stp : St X.toCx [] (rowsD ys rows :: F1 ρ M _ :: F2 X ρ L' a :: fs) _ g a := ⟨stp0.kn, All.cons hdd stp0.all, stp0.own, stp0.ext, stp0.new⟩
      obtain ⟨b, had2, hbs, hown⟩ := arr_head (stp.own.p _ (.head _)) (by omega)
      rw [had] at had2
      injection had2 with had2
      injection had2 with e3 e4
      subst e3 e4
      rcases hown.2 with ⟨h', _⟩ | ⟨gg, cap, cur, h', hb0, hblk, hnc, hcm, hcs, htk⟩
      · simp at h'
      simp only [Value.slice.injEq, Option.some.injEq, Addr.mk.injEq, and_true, true_and] at h'
      obtain ⟨h5, h6⟩ := h'
      subst h5
      subst h6
      have hfl : (flat (elRow sz hz) ys).length = ys.length * sz := flat_len _ _
      have hlt : j * sz + f < ys.length * sz := by
        have : (j + 1) * sz ≤ ys.length * sz := Nat.mul_le_mul_right _ (by omega)
        rw [Nat.succ_mul] at this
        omega
      have hcur : ys.length * sz ≤ cur.size := by rw [hcs]; exact Nat.mul_le_mul_right _ hnc
      have hst := run_storeCells_at X.P b0 (j * sz + f) Te [str q] 0 cur g.w hblk (by simp; omega) (fun u hu => by rcases List.mem_singleton.1 hu with rfl; rfl)
      let y0 : Row sz := ys[j]
      let y' : Row sz := ⟨y0.1.set f (str q), by rw [List.length_set]; exact y0.2.1, fun u hu => by
        rcases List.mem_or_eq_of_mem_set hu with hu | rfl
        · exact y0.2.2 u hu
        · rfl⟩
      have hset := flat_set hz (v := str q) hf ys j y0 y' hys rfl
      have hcl : cur.toList.take (j * sz + f) ++ [str q] ++ cur.toList.drop (j * sz + f + 1) = cur.toList.set (j * sz + f) (str q) := by
        rw [List.set_eq_take_append_cons_drop, if_pos (by rw [Array.length_toList]; omega)]
        simp
      have happ : AppOK g.w (g.w.setRow b0 (cur.toList.set (j * sz + f) (str q)).toArray) Te (elRow sz hz).sz (.slice (ρ i).ad ys.length (ρ i).c) (.slice (some ⟨b0, 0, none⟩) (ys.set j y').length (ρ i).c) (ys.set j y').length (flat (elRow sz hz) (ys.set j y')) := by
        rw [had, List.length_set]
        refine ⟨⟨by rw [flat_len, List.length_set], .inr ⟨b0, (ρ i).c, _, rfl, Nat.zero_le _, setRow_heap g.w b0 cur _ Te _ hblk, hnc, hcm, by simp only [List.size_toArray, List.length_set, Array.length_toList]; exact hcs, ?_⟩⟩, ⟨rfl, rfl, rfl, by simp, fun k _ hk => setRow_other g.w b0 k _ (fun e => hk (by simp [Value.ownBlock, e]))⟩, fun x hx => .inl hx⟩
        show (cur.toList.set (j * sz + f) (str q)).take (ys.length * sz) = _
        rw [List.take_set, htk, hset]
      obtain ⟨ad', c', g', hv', hw', s'⟩ := stp.appd .head happ
      injection hv' with q1 q2 q3
      subst q1 q3
      have hM' : DenM g' ρ M _ := s'.all (F1 ρ M _) (.tail _ (.head _))
      have hd1 : (rowsD ys rows).p g' := s'.all _ (.head _)
      have hBn : DenB g' ρ i (.r Te sz (rows.set j (row.set f (.str q)))) (Res.arr (elRow sz hz) Te (ρ i).ad (ρ i).c (ys.set j y')) := .r hz _ (by simp [hl]) (fun ρ' k x r hk hr => by
        rw [List.getElem?_set] at hk hr
        by_cases hjk : j = k
        · rw [if_pos hjk] at hk hr
          rw [if_pos (by omega)] at hk hr
          cases hk; cases hr
          have h0 := hd1 ρ' j y0 row hys hrow
          refine ⟨by
            have q1 : y'.1.length = y0.1.length := List.length_set ..
            have q2 : (row.set f (.str q)).length = row.length := List.length_set ..
            rw [q1, q2]
            exact h0.1, fun p s v hp hv => ?_⟩
          rw [List.getElem?_set] at hp
          have hv2 : (y0.1.set f (str q))[p]? = some v := hv
          rw [List.getElem?_set] at hv2
          by_cases hfp : f = p
          · rw [if_pos hfp] at hp hv2
            split at hp
            · split at hv2
              · cases hp; cases hv2; exact .str
              · cases hv2
            · cases hp
          · rw [if_neg hfp] at hp hv2
            exact h0.2 p s v hp hv2
        · rw [if_neg hjk] at hk hr
          exact hd1 ρ' k x r hk hr)
      rw [← had] at s'
      have hMn := hM3 g' _ hM' hBn
      have hp2 : (Res.arr (elRow sz hz) Te (ρ i).ad (ρ i).c (ys.set j y') :: (m1 ++ m2 ++ own)).Perm (m1 ++ Res.arr (elRow sz hz) Te (ρ i).ad (ρ i).c (ys.set j y') :: m2 ++ own) := by
        simp only [List.append_assoc, List.cons_append]
        exact List.perm_middle.symm
      have s2 := s'.perm hp2
      have hE' : ESt X L' M2 fs own g' a := ⟨ρ, _, ⟨s2.kn, fun f hf => s2.all f (.tail _ (.tail _ (.tail _ hf))), s2.own, s2.ext, s2.new⟩, hMn, s2.all (F2 X ρ L' a) (.tail _ (.tail _ (.head _)))⟩
      have hrun : (execOp a.eval o).run X.P g.w = .ok .skip g'.w := by
        rw [hw']
        simp only [execOp, ho, hvx, hyv, Nat.zero_add]
        simp only [Instr.storeAt, Instr.sureAddr, storeVar, Sem.run_bind, Sem.run_pure, Result.andThen_ok, run_sizeOf (TT.get_ok hT ht).ti]
        rw [show (str q).cells = #[str q] from rfl]
        simp only [Nat.add_zero] at hst
        have hc1 : ([str q] : List Value).length = 1 := rfl
        rw [hc1] at hst
        rw [← hcl]
        simp only [hsz, List.size_toArray, List.length_singleton, ne_eq, not_true_eq_false, if_false, hst]
        rfl
      simp only [wn, hrun, hd, updL]
      exact ⟨g', rfl, hE'⟩
/-- Likewise, in a region that draws its order. -/
theorem drs {tb : TT} (hT : tb.Ok X.P) (j f m : Nat) (H : List (List SV)) {un q i T Te sz off : Nat} {D r π' : List Nat} {Ms Ms' : List SM} {x y : Operand} {s : Bytes} {row : List SV} {rows : List (List SV)} {t : TD} {M2 : SM} {L' M' φ} (hrow : rows[j]? = some row) (hk : ED X arr k fs own un D π' L' M' Ms') (hoff : off = j * sz + f := by rfl) (hf : f < sz := by decide) (hi : arr[q]? = some o := by rfl) (hu : un.testBit q = true := by rfl) (ho : o.op = .store T x y := by rfl) (hg : o.guard = none := by rfl) (hd : o.dst = none := by rfl) (hx : evS (lkS L) x = some (.e i off) := by rfl) (hy : evS (lkS L) y = some (.str s) := by rfl)
    (hm : lkM M i = some (.r Te sz rows) := by rfl) (ht : tb.get T = some t := by rfl) (hsz : t.sz = 1 := by rfl) (hup : updK M i (.r Te sz (rows.set j (row.set f (.str s)))) some = some M2 := by rfl)
    (hr : xdrw tb X.n arr un D m H r L M2 (M :: Ms) [] = some (π', L', M', Ms', φ) := by rfl) (hφ : conj φ := by first | trivial | omega | (simp +contextual [conj]; done)) : ED X arr k fs own un D (q :: r) L M Ms := by
  refine ⟨o, .v (.bool true), hi, ?_⟩
  rw [hu]
  refine ⟨M2, (Stp_rst hT hoff hrow hf ho hg hd hx hy hm ht hsz hup).u, ?_⟩
  rw [hd]
  exact xd hT m H hk hr hφ
end
end Go.KX
/- Rows that are owned, further: lent to a call that hands back a list; literals of one struct. No program in sight. -/
namespace Go.KX
section
variable {X : Kx} {k : List It} {L : SL} {M : SM} {fs : List MF} {own : List Res} {arr : Array Oper} {l : List Oper} {o : Oper}
theorem Stp_lendS {d i j T sz z : Nat} {f : FuncId} {fo : Operand} {az : Array Operand} {ts : Array TypeId} {sf : SV} {svs args : List SV} {rs rows : List (List SV)} {G : Option Bool} (hG : gS arr (lkS L) o = some G) (hd : o.dst = some d) (hn : Nat.blt d X.n = true) (ho : o.op = .call ⟨.value fo, az, ts⟩)
    (hfo : evS (lkS L) fo = some sf) (hsf : st1 sf = .f f [] []) (ha : evs (lkS L) az.toList = some svs) (hφ : ∀ p ∈ wq G (cd1 sf ++ svs.flatMap cd1), p) (hm : lkM M i = some (.r T sz rows)) (hr : ∀ r ∈ rows, r.length = sz) (hargs : (svs.map st1).map (lnd i sz rows) = args) (hlp : lndP rows.length (svs.map st1)) (hoL : occSL j L = false) (hoM : occM j M = false) (hj : j < 1000) (hs : isOn G = true → Fc X.P fs f args (.s z rs)) :
    ∀ g a, ESt X L M fs own g a → opQ X.P arr o (fun a' w' => ∃ g', g'.w = w' ∧ ESt X ((d, wr G (.o j rs.length)) :: L) M fs own g' a') a g.w := by
  intro g a hE
  obtain ⟨ρ, ms, st⟩ := hE.open
  have h2 : ∀ t sv, lkS L t = some sv → ∃ x, a.tmps[t]? = some x ∧ Den g ρ sv x := (st.all (F2 X ρ L a) (.tail _ (.head _))).val
  have hw := gS_ok st.kn h2 hG
  have hall : evs (lkS L) (fo :: az.toList) = some (sf :: svs) := by simp only [evs, hfo, ha]
  have hall' := hall
  unfold opQ
  rw [hw]
  by_cases hon : isOn G = true
  · rw [if_pos hon]
    obtain ⟨hc, hcall⟩ := hs hon
    have hM : DenM g ρ M ms := st.all _ (.head _)
    obtain ⟨r, m1, m2, rfl, hB, _⟩ := hM.split hm
    cases hB with
    | r hz ys hl hdd =>
      have hmem : Res.arr (elRow sz hz) T (ρ i).ad (ρ i).c ys ∈ (m1 ++ Res.arr (elRow sz hz) T (ρ i).ad (ρ i).c ys :: m2 ++ own) := List.mem_append_left _ (List.mem_append_right _ (.head _))
      have hbl : ∀ b ∈ vbs (ρ i).ad, b ∈ blks (m1 ++ Res.arr (elRow sz hz) T (ρ i).ad (ρ i).c ys :: m2 ++ own) := fun b hb => List.mem_flatMap.2 ⟨_, hmem, hb⟩
      let g1 : GW := ⟨g.w, fun b => g.fz b ∨ b ∈ vbs (ρ i).ad, fun b hb => hb.elim (g.lt b) (fun h => st.own.lt b (hbl b h))⟩
      have hF : FExt g g1 := ⟨rfl, rfl, rfl, Nat.le_refl _, fun _ h => .inl h, fun _ _ => rfl⟩
      have hsm : (SlM (elRow sz hz) (ρ i).ad (ρ i).c ys).p g1 := slM_of (g := g1) (st.own.p _ hmem) (fun b hb => .inr hb)
      have hds : Den g1 ρ (.s sz rows) (.slice (ρ i).ad rows.length (ρ i).c) := den_slM hsm hl hr ((rowsD ys rows).mono hF hdd)
      have hden := sts_ok (evals_den h2 hall') (by simpa using wq_ok hφ hon)
      obtain ⟨x, r, e1, dx, dr⟩ := hden.uncons
      simp only [List.map_cons, List.cons.injEq] at e1
      obtain ⟨rfl, rfl⟩ := e1
      rw [hsf] at dx
      obtain ⟨xs, ys2, hfe, d1, d2⟩ := den_f dx
      obtain rfl := d1.unnil
      obtain rfl := d2.unnil
      have hargs' : DenL g1 ρ args (az.toList.map a.eval) := by
        rw [← hargs]
        refine ⟨by simpa using dr.1, fun j sv x h1 h3 => ?_⟩
        rw [List.getElem?_map] at h1
        cases hj : (svs.map st1)[j]? with
        | none => rw [hj] at h1; cases h1
        | some s0 =>
          rw [hj] at h1
          cases h1
          have dj := dr.2 j s0 x hj h3
          unfold lnd
          split
          · rename_i j' m'
            split
            · rename_i hb
              obtain rfl := Nat.eq_of_beq_eq_true hb
              obtain rfl := lndP_get hlp hj
              cases dj
              exact hds
            · exact dj.mono hF
          · exact dj.mono hF
      have hrun := calls_ent hc (ρe := a.eval) ho hfe g.w
      simp only [List.nil_append, List.append_nil] at hrun
      simp only [wn, hrun, hd]
      refine (hcall ρ g1 _ (fun f hf => f.mono hF (st.all f (.tail _ (.tail _ hf)))) hargs').mono ?_
      rintro e w' ⟨v, g2, rfl, rfl, hE', dv⟩
      have hnf : ∀ b ∈ vbs (ρ i).ad, ¬ g.fz b := fun b hb => st.own.nfz b (hbl b hb)
      let g3 : GW := ⟨g2.w, fun b => g2.fz b ∧ b ∉ vbs (ρ i).ad, fun b hb => g2.lt b hb.1⟩
      have hE3 : Ext [] g g3 := by
        refine ⟨⟨hE'.os, hE'.tape, hE'.output, hE'.size, fun b hb => ⟨hE'.fz b (.inl hb), fun h => hnf b h hb⟩, fun b hb => hE'.same b (.inl hb)⟩, hE'.keep, fun b hb hn hf => ?_⟩
        rcases hE'.nofz b hb hn hf.1 with h | h
        · exact h
        · exact absurd h hf.2
      cases dv with
      | s xs q1 q2 q3 q4 q5 q6 q7 =>
        rename_i ad c
        let y : Lc := ⟨0, ad, c⟩
        have st3 := ESt.ext0 st hE3
        have hM3 : DenM g3 ρ M _ := st3.all _ (.head _)
        have hS3 : Sl X ρ L a g3 := st3.all _ (.tail _ (.head _))
        have st4 : St X.toCx [] (F1 (fun q => if q = j then y else ρ q) M _ :: F2 X (fun q => if q = j then y else ρ q) L a :: fs) _ g3 a := ⟨st3.kn, All.cons (occ_upd hM3 hoM) (All.cons ⟨fun q hq => by
            have : q ≠ j := by omega
            simp only [if_neg this]; exact hS3.pin q hq, fun t sv ht => by
            obtain ⟨x, hx, dx⟩ := hS3.val t sv ht
            exact ⟨x, hx, dx.upd (occSL_get hoL t sv ht)⟩⟩ (fun f hf => st3.all f (.tail _ (.tail _ hf)))), st3.own, st3.ext, st3.new⟩
        refine ⟨_, rfl, g3, rfl, ESt.put st4 hn ?_⟩
        have hd0 : Den g3 (fun q => if q = j then y else ρ q) (.o j rs.length) (.slice ((fun q => if q = j then y else ρ q) j).ad rs.length ((fun q => if q = j then y else ρ q) j).c) := .o
        have hd1 : Den g3 (fun q => if q = j then y else ρ q) (.o j rs.length) (.slice ad rs.length c) := by simpa [y] using hd0
        cases G with
        | none => exact hd1
        | some b => have hb : b = true := hon; subst hb; exact .gt hd1
  · rw [if_neg hon]
    simp only [hd]
    refine ⟨g, rfl, ESt.put st hn ?_⟩
    cases G with
    | none => exact absurd rfl hon
    | some b =>
      have hb : b = false := by simpa [isOn] using hon
      subst hb; exact .gf
/-- A call under a guard that is lent the rows i; of the list that it hands back the length is known. -/
theorem flgs {tb : TT} (hT : tb.Ok X.P) (i j m : Nat) (H : List (List SV)) {d T sz z : Nat} {f : FuncId} {fo : Operand} {az : Array Operand} {ts : Array TypeId} {sf : SV} {svs args : List SV} {rs rows : List (List SV)} {b : Bool} {l' L' M' φ ψ} (hs : b = true → Fc X.P fs f args (.s z rs)) (hr : ∀ r ∈ rows, r.length = sz) (hk : ES X arr l' k L' M' fs own) (hG : gS arr (lkS L) o = some (some b) := by rfl) (hd : o.dst = some d := by rfl) (ho : o.op = .call ⟨.value fo, az, ts⟩ := by rfl) (hfo : evS (lkS L) fo = some sf := by rfl) (hsf : st1 sf = .f f [] [] := by rfl)
    (ha : evs (lkS L) az.toList = some svs := by rfl) (hm : lkM M i = some (.r T sz rows) := by rfl) (hb : (svs.map st1).map (lnd i sz rows) = args := by rfl) (hlp : lndP rows.length (svs.map st1) := by repeat (first | exact trivial | refine ⟨rfl, ?_⟩)) (hc : wq (some b) (cd1 sf ++ svs.flatMap cd1) = ψ := by rfl) (hψ : conj ψ := by first | trivial | exact id | exact ⟨id, id⟩ | exact ⟨id, id, id⟩ | (simp +contextual [conj]; done) | simp_all [conj]) (hn : Nat.blt d X.n = true := by rfl) (hoL : occSL j L = false := by rfl) (hoM : occM j M = false := by rfl) (hj : j < 1000 := by decide)
    (hrn : xrun tb X.n arr m H l ((d, .g b (.o j rs.length)) :: L) M [] = some (l', L', M', φ) := by rfl) (hφ : conj φ := by first | trivial | omega | (simp +contextual [conj]; done)) : ES X arr (o :: l) k L M fs own := by
  have := Stp_lendS (M := M) (fs := fs) (own := own) hG hd hn ho hfo hsf ha (by rw [hc]; exact conj_all hψ) hm hr hb hlp hoL hoM hj (fun h => hs h)
  intro g a s
  show opQ X.P arr o (wl X.P arr (cont X.P X.rd X.Q k .normal) l) a g.w
  exact opQ_mono (fun a' w' ⟨g', hw, s'⟩ => hw ▸ go hT m H hk hrn hφ g' a' s') (this g a s)
/-- A literal of one struct, as rows that are owned. -/
theorem sblr {tb : TT} (hT : tb.Ok X.P) (i : Nat) {d T Te sz : Nat} {x : Operand} {sv : SV} {dT de : TD} (h : ES X arr l k ((d, .o i 1) :: L) ((i, .r Te sz [cellsV sv]) :: M) fs own) (ho : o.op = .buildSlice T 1 #[(0, x)] := by rfl) (hg : o.guard = none := by rfl) (hd : o.dst = some d := by rfl) (hn : Nat.blt d X.n = true := by rfl) (hx : evS (lkS L) x = some sv := by rfl) (hok : okc sv = true := by rfl) (hl : Nat.beq (cellsV sv).length sz = true := by rfl)
    (hT1 : tb.get T = some dT := by rfl) (hk1 : dT.kd = .sl Te := by rfl) (hT2 : tb.get Te = some de := by rfl) (hsz : de.sz = sz := by rfl) (hz0 : 0 < sz := by decide) (hbig : sz ≤ 16777216 := by decide) (hzl : Nat.beq (cellsV (inj de.z)).length de.sz = true := by rfl) (hcl : cloL (cellsV sv) = true := by rfl) (hoc : (occSL i L || occM i M) = false := by rfl) (hlt : Nat.blt i 1000 = true := by rfl) : ES X arr (o :: l) k L M fs own := by
  intro g a hE
  obtain ⟨ρ, ms, st⟩ := hE.open
  simp only [Bool.or_eq_false_iff] at hoc
  have hlt : i < 1000 := by simpa [Nat.blt_eq] using hlt
  have hclo : ∀ (g : GW) (ρ ρ' : Nat → Lc) {xs}, DenL g ρ (cellsV sv) xs → DenL g ρ' (cellsV sv) xs := fun g ρ ρ' xs hd => ⟨hd.1, fun j s v h1 h2 => (hd.2 j s v h1 h2).swap (cloL_get hcl j s h1) ρ'⟩
  have hl := Nat.eq_of_beq_eq_true hl
  have hSl : Sl X ρ L a g := st.all _ (.tail _ (.head _))
  have u := (TT.get_ok hT hT1).kd
  rw [hk1] at u
  have hti := (TT.get_ok hT hT2).ti
  have hzs : de.z.cells.size = de.sz := cellsV_len (Nat.eq_of_beq_eq_true hzl)
  rw [hsz] at hti hzs
  have hev : evs (lkS L) [x] = some [sv] := by simp only [evs, hx]
  obtain ⟨Lr, st', hevl, hfr⟩ := st.slots (fun t sv ht => by obtain ⟨x, hx, _⟩ := hSl.val t sv ht; exact ⟨x, hx⟩) hev
  obtain ⟨d1, d2⟩ := cellsV_ok hok (eval_den hSl.val hx)
  simp only [List.map_cons, List.map_nil] at hevl
  let y0 : Row sz := ⟨(a.eval x).cells.toList, by rw [d1.1, hl], d2⟩
  have key := S_lit (k := [.lp fun a' w' => ∃ g', g'.w = w' ∧ ESt X ((d, .o i 1) :: L) ((i, .r Te sz [cellsV sv]) :: M) fs own g' a']) (arr := arr) (l := []) (elRow sz hz0) [y0] (parts := [(0, x)]) (vs := [a.eval x]) (fs := denF ρ (cellsV sv) (a.eval x).cells.toList :: F1 ρ M ms :: F2 X ρ L a :: fs) ho (live_none hg) hd hn u hti rfl hzs rfl hevl rfl (by omega) (fun ad c => S_J (fun g' a' s' => by
      let y : Lc := ⟨0, ad, c⟩
      have hF : DenL g' ρ (cellsV sv) (a.eval x).cells.toList := s'.all _ (.head _)
      have hM' : DenM g' ρ M ms := s'.all (F1 ρ M ms) (.tail _ (.head _))
      have hS' : Sl X ρ L a g' := s'.all (F2 X ρ L a) (.tail _ (.tail _ (.head _)))
      have hB : DenB g' (fun j => if j = i then y else ρ j) i (.r Te sz [cellsV sv]) (Res.arr (elRow sz hz0) Te ((fun j => if j = i then y else ρ j) i).ad ((fun j => if j = i then y else ρ j) i).c [y0]) := .r hz0 [y0] rfl (fun ρ' k x r hk hr => by
        cases k with
        | zero =>
          cases hk; cases hr
          exact hclo g' ρ ρ' hF
        | succ k => cases hk)
      simp only [if_pos] at hB
      refine ⟨g', rfl, fun j => if j = i then y else ρ j, Res.arr (elRow sz hz0) Te ad c [y0] :: ms, ⟨⟨s'.kn.size, s'.kn.defers, fun i v hv => by simp [lk] at hv⟩, fun f hf => s'.all f (.tail _ (.tail _ (.tail _ hf))), s'.own, s'.ext, s'.new⟩, .cons hB (occ_upd hM' hoc.2), fun j hj => ?_, fun t sv ht => ?_⟩
      · have : j ≠ i := by omega
        simp only [if_neg this]; exact hS'.pin j hj
      · by_cases htd : t = d
        · subst htd
          rw [lkS_same] at ht
          cases ht
          refine ⟨_, s'.kn.val t _ (lk_cons_same _ _ _), ?_⟩
          have : Den g' (fun j => if j = i then y else ρ j) (.o i 1) (.slice ((fun j => if j = i then y else ρ j) i).ad 1 ((fun j => if j = i then y else ρ j) i).c) := .o
          simpa [y] using this
        · rw [lkS_ne _ _ htd] at ht
          obtain ⟨x, hx, dx⟩ := hS'.val t sv ht
          exact ⟨x, s'.kn.val t x (by rw [lk_cons_ne _ _ htd]; exact hfr t x hx), dx.upd (occSL_get hoc.1 t sv ht)⟩)) g a ⟨st'.kn, All.cons d1 st'.all, st'.own, st'.ext, st'.new⟩
  have hw : Region.wanted o (yielded arr a.tmps) = true := live_wanted (L := []) st.kn (live_none hg)
  simp only [wl, hw, if_true] at key ⊢
  exact wn_mono (fun a' w' hh => by
    obtain ⟨g', rfl, hs⟩ := hh
    exact h g' a' hs) key
/-- An empty literal, as rows that are owned. -/
theorem opl0 {tb : TT} (hT : tb.Ok X.P) (i : Nat) {d T Te sz : Nat} {dT de : TD} (ho : o.op = .buildSlice T 0 #[]) (hg : o.guard = none) (hd : o.dst = some d) (hn : Nat.blt d X.n = true)
    (hT1 : tb.get T = some dT) (hk1 : dT.kd = .sl Te) (hT2 : tb.get Te = some de) (hsz : de.sz = sz) (hz0 : 0 < sz) (hzl : Nat.beq (cellsV (inj de.z)).length de.sz = true) (hoc : (occSL i L || occM i M) = false) (hlt : Nat.blt i 1000 = true) :
    ∀ g a, ESt X L M fs own g a → opQ X.P arr o (fun a' w' => ∃ g', g'.w = w' ∧ ESt X ((d, .o i 0) :: L) ((i, .r Te sz []) :: M) fs own g' a') a g.w := by
  intro g a hE
  obtain ⟨ρ, ms, st⟩ := hE.open
  simp only [Bool.or_eq_false_iff] at hoc
  have hlt : i < 1000 := by simpa [Nat.blt_eq] using hlt
  have hSl : Sl X ρ L a g := st.all _ (.tail _ (.head _))
  have u := (TT.get_ok hT hT1).kd
  rw [hk1] at u
  have hti := (TT.get_ok hT hT2).ti
  have hzs : de.z.cells.size = de.sz := cellsV_len (Nat.eq_of_beq_eq_true hzl)
  rw [hsz] at hti hzs
  have hev : evs (lkS L) [] = some [] := rfl
  obtain ⟨Lr, st', hevl, hfr⟩ := st.slots (fun t sv ht => by obtain ⟨x, hx, _⟩ := hSl.val t sv ht; exact ⟨x, hx⟩) hev
  simp only [List.map_cons, List.map_nil] at hevl
  have key := S_lit (k := [.lp fun a' w' => ∃ g', g'.w = w' ∧ ESt X ((d, .o i 0) :: L) ((i, .r Te sz []) :: M) fs own g' a']) (arr := arr) (l := []) (elRow sz hz0) ([] : List (Row sz)) (parts := []) (vs := []) (fs := F1 ρ M ms :: F2 X ρ L a :: fs) ho (live_none hg) hd hn u hti rfl hzs rfl hevl rfl (by omega) (fun ad c => S_J (fun g' a' s' => by
      let y : Lc := ⟨0, ad, c⟩
      have hM' : DenM g' ρ M ms := s'.all (F1 ρ M ms) (.head _)
      have hS' : Sl X ρ L a g' := s'.all (F2 X ρ L a) (.tail _ (.head _))
      have hB : DenB g' (fun j => if j = i then y else ρ j) i (.r Te sz []) (Res.arr (elRow sz hz0) Te ((fun j => if j = i then y else ρ j) i).ad ((fun j => if j = i then y else ρ j) i).c []) := .r hz0 [] rfl (fun ρ' k x r hk hr => by simp at hk)
      simp only [if_pos] at hB
      refine ⟨g', rfl, fun j => if j = i then y else ρ j, Res.arr (elRow sz hz0) Te ad c [] :: ms, ⟨⟨s'.kn.size, s'.kn.defers, fun i v hv => by simp [lk] at hv⟩, fun f hf => s'.all f (.tail _ (.tail _ hf)), s'.own, s'.ext, s'.new⟩, .cons hB (occ_upd hM' hoc.2), fun j hj => ?_, fun t sv ht => ?_⟩
      · have : j ≠ i := by omega
        simp only [if_neg this]; exact hS'.pin j hj
      · by_cases htd : t = d
        · subst htd
          rw [lkS_same] at ht
          cases ht
          refine ⟨_, s'.kn.val t _ (lk_cons_same _ _ _), ?_⟩
          have : Den g' (fun j => if j = i then y else ρ j) (.o i 0) (.slice ((fun j => if j = i then y else ρ j) i).ad 0 ((fun j => if j = i then y else ρ j) i).c) := .o
          simpa [y] using this
        · rw [lkS_ne _ _ htd] at ht
          obtain ⟨x, hx, dx⟩ := hS'.val t sv ht
          exact ⟨x, s'.kn.val t x (by rw [lk_cons_ne _ _ htd]; exact hfr t x hx), dx.upd (occSL_get hoc.1 t sv ht)⟩)) g a st'
  have hw : Region.wanted o (yielded arr a.tmps) = true := live_wanted (L := []) st.kn (live_none hg)
  unfold opQ
  rw [if_pos hw]
  simp only [wl, hw, if_true] at key
  exact key
theorem sbl0 {tb : TT} (hT : tb.Ok X.P) (i : Nat) {d T Te sz : Nat} {dT de : TD} (h : ES X arr l k ((d, .o i 0) :: L) ((i, .r Te sz []) :: M) fs own) (ho : o.op = .buildSlice T 0 #[] := by rfl) (hg : o.guard = none := by rfl) (hd : o.dst = some d := by rfl) (hn : Nat.blt d X.n = true := by rfl)
    (hT1 : tb.get T = some dT := by rfl) (hk1 : dT.kd = .sl Te := by rfl) (hT2 : tb.get Te = some de := by rfl) (hsz : de.sz = sz := by rfl) (hz0 : 0 < sz := by decide) (hzl : Nat.beq (cellsV (inj de.z)).length de.sz = true := by rfl) (hoc : (occSL i L || occM i M) = false := by rfl) (hlt : Nat.blt i 1000 = true := by rfl) : ES X arr (o :: l) k L M fs own := by
  intro g a s
  show opQ X.P arr o (wl X.P arr (cont X.P X.rd X.Q k .normal) l) a g.w
  exact opQ_mono (fun a' w' ⟨g', hw, s'⟩ => hw ▸ h g' a' s') (opl0 hT i ho hg hd hn hT1 hk1 hT2 hsz hz0 hzl hoc hlt g a s)
/-- An empty literal, as rows that are owned, in a region that draws its order. -/
theorem dbl0 {tb : TT} (hT : tb.Ok X.P) (m : Nat) (H : List (List SV)) {un q d T Te sz : Nat} {D r π' : List Nat} {Ms Ms' : List SM} {dT de : TD} {L' M' φ} (hk : ED X arr k fs own un D π' L' M' Ms') (hi : arr[q]? = some o := by rfl) (hu : un.testBit q = true := by rfl) (ho : o.op = .buildSlice T 0 #[] := by rfl) (hg : o.guard = none := by rfl) (hd : o.dst = some d := by rfl) (hn : Nat.blt d X.n = true := by rfl)
    (hT1 : tb.get T = some dT := by rfl) (hk1 : dT.kd = .sl Te := by rfl) (hT2 : tb.get Te = some de := by rfl) (hsz : de.sz = sz := by rfl) (hz0 : 0 < sz := by decide) (hzl : Nat.beq (cellsV (inj de.z)).length de.sz = true := by rfl) (hoL : occSL d L = false := by rfl) (hoM : occM d M = false := by rfl) (hlt : Nat.blt d 1000 = true := by rfl)
    (hr : xdrw tb X.n arr un D m H r ((d, .o d 0) :: L) ((d, .r Te sz []) :: M) (M :: Ms) [] = some (π', L', M', Ms', φ) := by rfl) (hφ : conj φ := by first | trivial | omega | (simp +contextual [conj]; done)) : ED X arr k fs own un D (q :: r) L M Ms := by
  refine ⟨o, .o d 0, hi, ?_⟩
  rw [hu]
  refine ⟨_, (fun L' _ hf g a s => ?_ : StpU X arr o L M fs own (.o d 0) ((d, .r Te sz []) :: M)), ?_⟩
  · have h0 : occSL d L' = false := hf d (by unfold isAl; rw [ho]; exact hd) hoL
    have := opl0 (L := L') (M := M) (fs := fs) (own := own) (arr := arr) hT d ho hg hd hn hT1 hk1 hT2 hsz hz0 hzl (by rw [h0, hoM]; rfl) hlt g a s
    rw [hd]
    exact this
  · rw [hd]
    exact xd hT m H hk hr hφ
/-- A guard that holds. -/
theorem sgd (h : ES X arr ({ o with guard := none } :: l) k L M fs own) (hG : gS arr (lkS L) o = some (some true) := by rfl) : ES X arr (o :: l) k L M fs own := by
  intro g a s
  have h1 := h g a s
  obtain ⟨ρ, ms, st⟩ := s.open
  have hw := gS_ok st.kn (st.all (F2 X ρ L a) (.tail _ (.head _))).val hG
  have hw2 := live_wanted (arr := arr) (L := []) (o := { o with guard := none }) st.kn (live_none rfl)
  simp only [wl, hw2, if_true] at h1
  simp only [wl, hw, isOn, if_true]
  exact h1
theorem add_zeroA (a : Addr) : a.add 0 = a := by
  obtain ⟨b, o, s⟩ := a
  cases s <;> simp [Addr.add]
/-- xs[:b], of a list that is never written. -/
theorem Stp_cut {tb : TT} (hT : tb.Ok X.P) {T Te d sz b : Nat} {kk : IntKind} {z : Int} {x hi : Operand} {rows : List (List SV)} {dT de : TD} (hzb : z = (b : Int)) (hb : b ≤ rows.length) (ho : o.op = .slice T x none (some hi) none) (hg : o.guard = none) (hd : o.dst = some d) (hdn : Nat.blt d X.n = true) (hx : evS (lkS L) x = some (.s sz rows)) (hy : evS (lkS L) hi = some (.v (.int kk z)))
    (hT1 : tb.get T = some dT) (hk1 : dT.kd = .sl Te) (hT2 : tb.get Te = some de) : Stp X arr o L M fs own (.s sz (rows.take b)) M := by
  subst hzb
  have hG : gS arr (lkS L) o = some none := by unfold gS; rw [hg]
  refine Stp_read (sv := .s sz (rows.take b)) hG hd hdn (fun L' hL hon g a ρ ms st => ?_)
  have hSl : Sl X ρ L' a g := st.all _ (.tail _ (.head _))
  have hev : evs (lkS L') [x, hi] = some [.s sz rows, .v (.int kk (b : Int))] := by
    have := evs_agree' hL
    rw [show o.op.operands.toList = [x, hi] by rw [ho]; rfl] at this
    rw [this]
    simp only [evs, hx, hy]
  obtain ⟨_, _, e1, dx, hr1⟩ := (evals_den hSl.val hev).uncons
  obtain ⟨_, _, e2, dy, _⟩ := hr1.uncons
  simp only [List.map_cons, List.cons.injEq] at e1
  obtain ⟨rfl, rfl⟩ := e1
  simp only [List.cons.injEq] at e2
  obtain ⟨rfl, _⟩ := e2
  have hyv := den_int dy
  have u := (TT.get_ok hT hT1).kd
  rw [hk1] at u
  have hti := (TT.get_ok hT hT2).ti
  generalize hvx : a.eval x = vx at dx
  cases dx with
  | s xs q1 q2 q3 q4 q5 q6 q7 =>
    rename_i ad c
    have hlen : (rows.take b).length = b := by rw [List.length_take]; omega
    refine ⟨.slice ad b c, ?_, ?_⟩
    · have hh := run_sliceBound (P := X.P) (w := g.w) (kk := kk) (z := (b : Int)) (m := c) (code := .sliceAcap) (by omega) (by omega)
      have hb2 : (Instr.sliceBounds true rows.length c none (some (.int kk (b : Int))) none).run X.P g.w = .ok (0, b, c) g.w := by
        simp only [Instr.sliceBounds, Sem.run_bind, Sem.run_pure, Result.andThen_ok, if_true, hh, Int.toNat_natCast]
      simp only [execOp, ho, hvx]
      simp only [Option.map_some, Option.map_none, hyv, Instr.sliceAt, Instr.slice, Sem.run_bind, run_underlying u, Result.andThen_ok, hb2, run_sizeOf hti, Sem.run_pure]
      cases ad <;> simp [add_zeroA]
    · have := Den.s (g := g) (ρ := ρ) (sz := sz) (rows := rows.take b) (ad := ad) (c := c) (xs.take (b * sz)) (by rw [hlen]; omega) (by rw [hlen]; omega) (by rw [hlen, List.length_take, q3, Nat.min_eq_left (Nat.mul_le_mul_right _ hb)]) (fun r hr => q4 r (List.mem_of_mem_take hr)) ⟨fun u hu => q5.1 u (List.mem_of_mem_take hu), q5.2⟩ (fun hne => by
          obtain ⟨b', o', e3, e4, e5⟩ := q6 (fun e => hne (by rw [e]; simp))
          exact ⟨b', o', e3, e4, fun k v hk => e5 k v (by rw [List.getElem?_take] at hk; split at hk; exact hk; cases hk)⟩) (fun ρ' i j r sv v h1 h2 h3 => by
          rw [List.getElem?_take] at h1 h3
          split at h1
          · split at h3
            · exact q7 ρ' i j r sv v h1 h2 h3
            · cases h3
          · cases h1)
      rw [hlen] at this
      exact this
/-- xs[a:], of a list that is never written. -/
theorem Stp_tl {tb : TT} (hT : tb.Ok X.P) {T Te d sz b : Nat} {kk : IntKind} {z : Int} {x lo : Operand} {rows : List (List SV)} {dT de : TD} (hzb : z = (b : Int)) (hb : b ≤ rows.length) (ho : o.op = .slice T x (some lo) none none) (hg : o.guard = none) (hd : o.dst = some d) (hdn : Nat.blt d X.n = true) (hx : evS (lkS L) x = some (.s sz rows)) (hy : evS (lkS L) lo = some (.v (.int kk z)))
    (hT1 : tb.get T = some dT) (hk1 : dT.kd = .sl Te) (hT2 : tb.get Te = some de) (hsz : de.sz = sz) : Stp X arr o L M fs own (.s sz (rows.drop b)) M := by
  subst hzb hsz
  have hG : gS arr (lkS L) o = some none := by unfold gS; rw [hg]
  refine Stp_read (sv := .s de.sz (rows.drop b)) hG hd hdn (fun L' hL hon g a ρ ms st => ?_)
  have hSl : Sl X ρ L' a g := st.all _ (.tail _ (.head _))
  have hev : evs (lkS L') [x, lo] = some [.s de.sz rows, .v (.int kk (b : Int))] := by
    have := evs_agree' hL
    rw [show o.op.operands.toList = [x, lo] by rw [ho]; rfl] at this
    rw [this]
    simp only [evs, hx, hy]
  obtain ⟨_, _, e1, dx, hr1⟩ := (evals_den hSl.val hev).uncons
  obtain ⟨_, _, e2, dy, _⟩ := hr1.uncons
  simp only [List.map_cons, List.cons.injEq] at e1
  obtain ⟨rfl, rfl⟩ := e1
  simp only [List.cons.injEq] at e2
  obtain ⟨rfl, _⟩ := e2
  have hyv := den_int dy
  have u := (TT.get_ok hT hT1).kd
  rw [hk1] at u
  have hti := (TT.get_ok hT hT2).ti
  generalize hvx : a.eval x = vx at dx
  cases dx with
  | s xs q1 q2 q3 q4 q5 q6 q7 =>
    rename_i ad c
    have hlen : (rows.drop b).length = rows.length - b := List.length_drop ..
    refine ⟨.slice (if c = b then ad else ad.map (·.add (b * de.sz))) (rows.length - b) (c - b), ?_, ?_⟩
    · have hb1 := run_sliceBound (P := X.P) (w := g.w) (kk := kk) (z := (b : Int)) (m := rows.length) (code := .sliceB) (by omega) (by omega)
      have hb2 : (Instr.sliceBounds true rows.length c (some (.int kk (b : Int))) none none).run X.P g.w = .ok (b, rows.length, c) g.w := by
        simp only [Instr.sliceBounds, Sem.run_bind, Sem.run_pure, Result.andThen_ok, Option.isSome_none, Bool.false_eq_true, if_false, hb1, Int.toNat_natCast]
      simp only [execOp, ho, hvx]
      simp only [Option.map_some, Option.map_none, hyv, Instr.sliceAt, Instr.slice, Sem.run_bind, run_underlying u, Result.andThen_ok, hb2, run_sizeOf hti, Sem.run_pure]
      first | done | rfl
    · have := Den.s (g := g) (ρ := ρ) (sz := de.sz) (rows := rows.drop b) (ad := if c = b then ad else ad.map (·.add (b * de.sz))) (c := c - b) (xs.drop (b * de.sz)) (by rw [hlen]; omega) (by rw [hlen]; omega) (by rw [hlen, List.length_drop, q3, ← Nat.sub_mul]) (fun r hr => q4 r (List.mem_of_mem_drop hr)) ⟨fun u hu => q5.1 u (List.mem_of_mem_drop hu), fun h0 => by
          obtain ⟨h1, h2⟩ := q5.2 h0
          refine ⟨?_, by omega⟩
          rw [h1]; split <;> rfl⟩ (fun hne => by
          have hbl : b < rows.length := by
            rcases Nat.lt_or_ge b rows.length with h | h
            · exact h
            · exact absurd (List.drop_eq_nil_of_le h) hne
          obtain ⟨b', o', e3, e4, e5⟩ := q6 (fun e => by rw [e] at hbl; simp at hbl)
          refine ⟨b', o' + b * de.sz, by rw [if_neg (by omega), e3]; simp [addr_add], e4, fun k v hk => ?_⟩
          rw [List.getElem?_drop] at hk
          have := e5 _ v hk
          rw [← Nat.add_assoc] at this
          exact this) (fun ρ' i j r sv v h1 h2 h3 => by
          rw [List.getElem?_drop] at h1 h3
          refine q7 ρ' (b + i) j r sv v h1 h2 ?_
          rw [← h3]
          congr 1
          rw [Nat.add_mul]; omega)
      rw [hlen] at this
      exact this
theorem dct {tb : TT} (hT : tb.Ok X.P) (b m : Nat) (H : List (List SV)) {un q d T Te sz : Nat} {D r π' : List Nat} {Ms Ms' : List SM} {kk : IntKind} {z : Int} {x hi : Operand} {rows : List (List SV)} {dT de : TD} {L' M' φ} (hzb : z = (b : Int)) (hb : b ≤ rows.length) (hk : ED X arr k fs own un D π' L' M' Ms') (hq : arr[q]? = some o := by rfl) (hu : un.testBit q = false := by rfl) (ho : o.op = .slice T x none (some hi) none := by rfl) (hg : o.guard = none := by rfl) (hd : o.dst = some d := by rfl) (hdn : Nat.blt d X.n = true := by rfl) (hx : evS (lkS L) x = some (.s sz rows) := by rfl) (hy : evS (lkS L) hi = some (.v (.int kk z)) := by rfl)
    (hT1 : tb.get T = some dT := by rfl) (hk1 : dT.kd = .sl Te := by rfl) (hT2 : tb.get Te = some de := by rfl)
    (hr : xdrw tb X.n arr un D m H r ((d, .s sz (rows.take b)) :: L) M Ms [] = some (π', L', M', Ms', φ) := by rfl) (hφ : conj φ := by first | trivial | omega | (simp +contextual [conj]; done)) : ED X arr k fs own un D (q :: r) L M Ms := by
  refine ⟨o, .s sz (rows.take b), hq, ?_⟩
  rw [hu]
  refine ⟨.inr (fun M' => Stp_cut hT hzb hb ho hg hd hdn hx hy hT1 hk1 hT2), ?_⟩
  rw [hd]
  exact xd hT m H hk hr hφ
theorem dtl {tb : TT} (hT : tb.Ok X.P) (b m : Nat) (H : List (List SV)) {un q d T Te sz : Nat} {D r π' : List Nat} {Ms Ms' : List SM} {kk : IntKind} {z : Int} {x lo : Operand} {rows : List (List SV)} {dT de : TD} {L' M' φ} (hzb : z = (b : Int)) (hb : b ≤ rows.length) (hk : ED X arr k fs own un D π' L' M' Ms') (hi : arr[q]? = some o := by rfl) (hu : un.testBit q = false := by rfl) (ho : o.op = .slice T x (some lo) none none := by rfl) (hg : o.guard = none := by rfl) (hd : o.dst = some d := by rfl) (hdn : Nat.blt d X.n = true := by rfl) (hx : evS (lkS L) x = some (.s sz rows) := by rfl) (hy : evS (lkS L) lo = some (.v (.int kk z)) := by rfl)
    (hT1 : tb.get T = some dT := by rfl) (hk1 : dT.kd = .sl Te := by rfl) (hT2 : tb.get Te = some de := by rfl) (hsz : de.sz = sz := by rfl)
    (hr : xdrw tb X.n arr un D m H r ((d, .s sz (rows.drop b)) :: L) M Ms [] = some (π', L', M', Ms', φ) := by rfl) (hφ : conj φ := by first | trivial | omega | (simp +contextual [conj]; done)) : ED X arr k fs own un D (q :: r) L M Ms := by
  refine ⟨o, .s sz (rows.drop b), hi, ?_⟩
  rw [hu]
  refine ⟨.inr (fun M' => Stp_tl hT hzb hb ho hg hd hdn hx hy hT1 hk1 hT2 hsz), ?_⟩
  rw [hd]
  exact xd hT m H hk hr hφ
end
end Go.KX
