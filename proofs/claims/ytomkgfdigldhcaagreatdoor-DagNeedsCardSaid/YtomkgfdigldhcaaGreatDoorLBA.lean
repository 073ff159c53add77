/- Plain: dag.Order: who stands ahead of whom; the order of nodes has no part. No program in sight. -/
import Derived.Test.YtomkgfdigldhcaaGreatDoorMM
namespace Go.KX
theorem orderL_perm : ∀ (f : Nat) {out : List Bytes} {l l' : List Nd}, l.Perm l' → orderL f out l = orderL f out l'
  | 0, _, _, _, _ => rfl
  | f + 1, out, l, l', h => by
    simp only [orderL]
    rw [best_perm (out := out) h]
    split
    · rfl
    · exact orderL_perm f (h.filter _)
theorem orderN_perm {l l' : List Nd} (h : l.Perm l') : orderN l = orderN l' := by
  have e : okN l = okN l' := by
    rw [Bool.eq_iff_iff, okN_iff, okN_iff]
    exact (h.map (·.ref)).nodup_iff
  unfold orderN
  rw [e, h.length_eq]
  split
  · rfl
  · exact orderL_perm _ h
theorem orderL_err : ∀ (f : Nat) {out : List Bytes} {l : List Nd}, (orderL f out l).2 ≠ 0 → (orderL f out l).1 = [] ∧ (orderL f out l).2 = 121
  | 0, _, _, h => absurd rfl h
  | f + 1, out, l, h => by
    simp only [orderL] at h ⊢
    split
    · exact ⟨rfl, rfl⟩
    · rename_i hb; rw [if_neg hb] at h; exact orderL_err f h
theorem orderN_err {l : List Nd} (h : (orderN l).2 ≠ 0) : (orderN l).1 = [] := by
  unfold orderN at h ⊢
  split
  · rfl
  · rename_i hb; rw [if_neg hb] at h; exact (orderL_err _ h).1
theorem filter_ref {x : Nd} : ∀ {l : List Nd}, (l.map (·.ref)).Nodup → x ∈ l → (x.ref :: ((l.filter fun n => decide (n.ref ≠ x.ref)).map (·.ref))).Perm (l.map (·.ref))
  | [], _, h => by cases h
  | y :: l, hn, hx => by
    simp only [List.map_cons, List.nodup_cons] at hn
    by_cases hy : y.ref = x.ref
    · have hall : l.filter (fun n => decide (n.ref ≠ x.ref)) = l := by
        rw [List.filter_eq_self]
        intro z hz
        simp only [ne_eq, decide_eq_true_eq]
        intro ez
        exact hn.1 (List.mem_map.2 ⟨z, hz, by rw [ez, hy]⟩)
      rw [List.filter_cons_of_neg (by simp [hy]), hall, List.map_cons, hy]
    · have hx2 : x ∈ l := by
        cases hx with
        | head => exact absurd rfl hy
        | tail _ h => exact h
      rw [List.filter_cons_of_pos (by simp [hy])]
      simp only [List.map_cons]
      exact (List.Perm.swap _ _ _).trans ((filter_ref hn.2 hx2).cons _)
structure Ahead (a : List Bytes) (n : Nd) : Prop where
  ex : ∃ p s, a = p ++ n.ref :: s ∧ n.ref ∉ p ∧ ∀ q ∈ inputsN n, q ∈ p
theorem orderL_ok : ∀ (f : Nat) {out : List Bytes} {l : List Nd}, l.length = f → (l.map (·.ref)).Nodup → (∀ n ∈ l, n.ref ∉ out) → (orderL f out l).2 = 0 →
    ∃ suf, (orderL f out l).1 = out ++ suf ∧ suf.Perm (l.map (·.ref)) ∧ ∀ n ∈ l, Ahead (orderL f out l).1 n
  | 0, out, l, hl, _, _, _ => by
    have : l = [] := List.eq_nil_of_length_eq_zero hl
    subst this
    exact ⟨[], by simp [orderL], by simp, fun n hn => by cases hn⟩
  | f + 1, out, l, hl, hn, hd, h => by
    simp only [orderL] at h ⊢
    by_cases hb : (bestL out l).2 = false
    · rw [if_pos hb] at h; cases h
    · rw [if_neg hb] at h ⊢
      have hb' : (bestL out l).2 = true := by simpa using hb
      obtain ⟨x, hx, ex, hr⟩ := best_some hb'
      obtain ⟨h1, _⟩ := best_left hn hb'
      have hfil : ∀ n ∈ l, n.ref = (bestL out l).1 ∨ n ∈ l.filter fun n => decide (n.ref ≠ (bestL out l).1) := by
        intro n hm
        by_cases e : n.ref = (bestL out l).1
        · exact .inl e
        · exact .inr (List.mem_filter.2 ⟨hm, by simp [e]⟩)
      obtain ⟨suf, e1, e2, e3⟩ := orderL_ok f (out := out ++ [(bestL out l).1]) (l := l.filter fun n => decide (n.ref ≠ (bestL out l).1)) (by omega) (filter_nodup hn) (fun n hm => by
        have hm' := List.mem_filter.1 hm
        intro hc
        rcases List.mem_append.1 hc with hc | hc
        · exact hd n hm'.1 hc
        · simp only [List.mem_singleton] at hc
          have := hm'.2
          simp [hc] at this) h
      refine ⟨(bestL out l).1 :: suf, by rw [e1]; simp, ?_, fun n hm => ?_⟩
      · have hp := filter_ref hn hx
        rw [ex] at hp
        exact (e2.cons _).trans hp
      · rcases hfil n hm with e | hm'
        · have hnx : n = x := by
            have := hn
            have inj : ∀ {l : List Nd}, (l.map (·.ref)).Nodup → ∀ a ∈ l, ∀ b ∈ l, a.ref = b.ref → a = b := by
              intro l
              induction l with
              | nil => intro _ a ha; cases ha
              | cons z l ih =>
                intro hn a ha b hb e
                simp only [List.map_cons, List.nodup_cons] at hn
                cases ha with
                | head => cases hb with
                  | head => rfl
                  | tail _ hb => exact absurd (List.mem_map.2 ⟨b, hb, e.symm⟩) hn.1
                | tail _ ha => cases hb with
                  | head => exact absurd (List.mem_map.2 ⟨a, ha, e⟩) hn.1
                  | tail _ hb => exact ih hn.2 a ha b hb e
            exact inj hn n hm x hx (e.trans ex.symm)
          subst hnx
          refine ⟨out, suf, by rw [e1, ← ex]; simp, hd n hm, fun q hq => ?_⟩
          have := List.all_eq_true.1 hr q hq
          simpa using this
        · exact e3 n hm'
theorem orderN_ok {l : List Nd} (h : (orderN l).2 = 0) : (orderN l).1.Perm (l.map (·.ref)) ∧ ∀ n ∈ l, Ahead (orderN l).1 n := by
  unfold orderN at h ⊢
  by_cases hk : okN l = false
  · rw [if_pos hk] at h; cases h
  · rw [if_neg hk] at h ⊢
    obtain ⟨suf, h1, h2, h3⟩ := orderL_ok l.length rfl (byR_ok (by simpa using hk)).2 (fun _ _ hc => by cases hc) h
    exact ⟨by rw [h1]; simpa using h2, h3⟩
theorem place_at {p s : List Bytes} {x : Bytes} (h : x ∉ p) : placeN (p ++ x :: s) x = p.length := by
  have hlt : p.length < (p ++ x :: s).length := by simp
  refine idxF_some (p := fun y => decide (y = x)) (l := p ++ x :: s) hlt (fun y hy => ?_) (by simp)
  rw [List.take_left] at hy
  exact decide_eq_false (fun e => h (e ▸ hy))
theorem place_in {p s : List Bytes} {x : Bytes} (h : x ∈ p) : 0 ≤ placeN (p ++ s) x ∧ placeN (p ++ s) x < p.length := by
  obtain ⟨a, b, rfl, hn⟩ := List.eq_append_cons_of_mem h
  rw [List.append_assoc, List.cons_append, place_at hn]
  simp; omega
theorem Ahead.place {a : List Bytes} {n : Nd} (h : Ahead a n) : 0 ≤ placeN a n.ref ∧ ∀ q ∈ inputsN n, 0 ≤ placeN a q ∧ placeN a q < placeN a n.ref := by
  obtain ⟨p, s, rfl, h1, h2⟩ := h
  rw [place_at h1]
  exact ⟨by omega, fun q hq => place_in (h2 q hq)⟩
/-! ### Turned -/
def rotN (l : List Nd) (b : Int) (i : Nat) : Nd := l.getD ((i + b.toNat % l.length) % l.length) ⟨[], 0, [], [], [], false, zeroV, zeroV, []⟩
def turnL (l : List Nd) (b : Int) (j : Nat) : List Nd := (List.range j).map (rotN l b)
theorem turn_next (l : List Nd) (b : Int) (j : Nat) : turnL l b (j + 1) = turnL l b j ++ [rotN l b j] := by simp [turnL, List.range_succ]
theorem rot_get {l : List Nd} {k i : Nat} {d : Nd} (hk : k < l.length) (hi : i < l.length) : l.getD ((i + k) % l.length) d = (l.drop k ++ l.take k)[i]'(by simp; omega) := by
  rw [List.getElem_append]
  by_cases hik : i < l.length - k
  · have e1 : (i + k) % l.length = i + k := Nat.mod_eq_of_lt (by omega)
    rw [e1, dif_pos (by simpa using hik), List.getElem_drop, List.getD_eq_getElem?_getD, List.getElem?_eq_getElem (by omega)]
    simp only [Option.getD_some]
    congr 1; omega
  · have e1 : (i + k) % l.length = i + k - l.length := by
      rw [Nat.mod_eq_sub_mod (by omega), Nat.mod_eq_of_lt (by omega)]
    rw [e1, dif_neg (by simpa using hik), List.getElem_take, List.getD_eq_getElem?_getD, List.getElem?_eq_getElem (by omega)]
    simp only [Option.getD_some, List.length_drop]
    congr 1; omega
theorem turn_perm (l : List Nd) (b : Int) : (turnL l b l.length).Perm l := by
  by_cases h0 : l = []
  · subst h0; exact .refl _
  have hl : 0 < l.length := List.length_pos_iff.2 h0
  have hk : b.toNat % l.length < l.length := Nat.mod_lt _ hl
  have e : turnL l b l.length = l.drop (b.toNat % l.length) ++ l.take (b.toNat % l.length) := by
    refine List.ext_getElem (by simp [turnL]; omega) (fun i h1 h2 => ?_)
    have hi : i < l.length := by simpa [turnL] using h1
    simp only [turnL, List.getElem_map, List.getElem_range, rotN]
    exact rot_get hk hi
  rw [e]
  exact List.perm_append_comm.trans (by rw [List.take_append_drop])
theorem rot_ix {l : List Nd} {b : Int} {j : Nat} (hb : 0 ≤ b) : Int.tmod ((j : Int) + Int.tmod b l.length) l.length = ((j + b.toNat % l.length) % l.length : Nat) := by
  obtain ⟨n, rfl⟩ := Int.eq_ofNat_of_zero_le hb
  rw [Int.toNat_natCast]
  show Int.tmod ((j : Int) + ((n % l.length : Nat) : Int)) l.length = _
  rw [← Int.natCast_add]
  rfl
theorem rot_phi {l : List Nd} {b : Int} {j : Nat} (hb : 0 ≤ b) (hj : j < l.length) (hl : l.length ≤ 24) :
    conj [0 ≤ Int.tmod ((j : Int) + Int.tmod b (l.map ndL).length) (l.map ndL).length ∧ (l.map ndL)[(Int.tmod ((j : Int) + Int.tmod b (l.map ndL).length) (l.map ndL).length).toNat]? = some (ndL (rotN l b j)), ((l.map ndL).length : Int) ≠ 0, i64ok ((j : Int) + Int.tmod b (l.map ndL).length), ((l.map ndL).length : Int) ≠ 0] := by
  have hk : b.toNat % l.length < l.length := Nat.mod_lt _ (by omega)
  have hm : (j + b.toNat % l.length) % l.length < l.length := Nat.mod_lt _ (by omega)
  have e1 : Int.tmod b l.length = ((b.toNat % l.length : Nat) : Int) := by
    obtain ⟨n, rfl⟩ := Int.eq_ofNat_of_zero_le hb
    rw [Int.toNat_natCast]; rfl
  rw [List.length_map, rot_ix hb, e1]
  have hl0 : (l.length : Int) ≠ 0 := by omega
  refine ⟨⟨Int.natCast_nonneg _, ?_⟩, hl0, ?_, hl0⟩
  · rw [Int.toNat_natCast, List.getElem?_map, List.getElem?_eq_getElem hm]
    simp only [rotN, List.getD_eq_getElem?_getD, List.getElem?_eq_getElem hm, Option.getD_some, Option.map_some]
  · unfold i64ok; omega
end Go.KX
/- Plain: what a node needs is closed, and the least that is; whoever is not needed may go. No program in sight. -/
namespace Go.KX
theorem sort_mem {l : List Bytes} {x : Bytes} : x ∈ sortL l ↔ x ∈ l := (List.mergeSort_perm l _).mem_iff
section
variable {l : List Nd}
theorem needA_ind {P : List Bytes → List Bytes → Prop} (h0 : ∀ out, NI l out → P [] out) (h1 : ∀ q t out, NI l out → findN l q = none → P t out → P (q :: t) out)
    (h2 : ∀ q t out n, NI l out → findN l q = some n → n.ref ∈ out → P t out → P (q :: t) out)
    (h3 : ∀ q t out n, NI l out → findN l q = some n → n.ref ∉ out → P (t ++ inputsN n) (out ++ [n.ref]) → P (q :: t) out) : ∀ (m : Nat) (todo out : List Bytes), muN l todo out ≤ m → NI l out → P todo out
  | m, [], out, _, hI => h0 out hI
  | 0, q :: t, out, hm, hI => by rw [muN_cons] at hm; omega
  | m + 1, q :: t, out, hm, hI => by
    cases hf : findN l q with
    | none => exact h1 q t out hI hf (needA_ind h0 h1 h2 h3 m t out (by rw [muN_cons] at hm; omega) hI)
    | some n =>
      by_cases hn : n.ref ∈ out
      · exact h2 q t out n hI hf hn (needA_ind h0 h1 h2 h3 m t out (by rw [muN_cons] at hm; omega) hI)
      · exact h3 q t out n hI hf hn (needA_ind h0 h1 h2 h3 m _ _ (by have := hI.mu (t := t) hf hn; omega) (hI.step hf hn))
theorem need_ni (todo out : List Bytes) (hI : NI l out) : NI l (needA l todo out) :=
  needA_ind (P := fun todo out => NI l (needA l todo out)) (fun out h => by rw [needA_nil]; exact h) (fun q t out _ h ih => by rw [needA_none h]; exact ih)
    (fun q t out n _ h hn ih => by rw [needA_old h hn]; exact ih) (fun q t out n hI h hn ih => by rw [needA_new hI h hn]; exact ih) _ todo out (Nat.le_refl _) hI
theorem need_out (todo out : List Bytes) (hI : NI l out) : ∀ x ∈ out, x ∈ needA l todo out :=
  needA_ind (P := fun todo out => ∀ x ∈ out, x ∈ needA l todo out) (fun out h x hx => by rw [needA_nil]; exact hx) (fun q t out _ h ih => by rw [needA_none h]; exact ih)
    (fun q t out n _ h hn ih => by rw [needA_old h hn]; exact ih) (fun q t out n hI h hn ih x hx => by rw [needA_new hI h hn]; exact ih x (List.mem_append_left _ hx)) _ todo out (Nat.le_refl _) hI
theorem need_todo (todo out : List Bytes) (hI : NI l out) : ∀ x ∈ todo, findN l x ≠ none → x ∈ needA l todo out :=
  needA_ind (P := fun todo out => ∀ x ∈ todo, findN l x ≠ none → x ∈ needA l todo out) (fun out h x hx => by cases hx)
    (fun q t out _ h ih x hx hf => by
      rw [needA_none h]
      cases hx with
      | head => exact absurd h hf
      | tail _ hx => exact ih x hx hf)
    (fun q t out n hI h hn ih x hx hf => by
      rw [needA_old h hn]
      cases hx with
      | head => exact need_out t out hI _ ((findN_some h).2 ▸ hn)
      | tail _ hx => exact ih x hx hf)
    (fun q t out n hI h hn ih x hx hf => by
      rw [needA_new hI h hn]
      cases hx with
      | head => exact need_out _ _ (hI.step h hn) _ (by rw [← (findN_some h).2]; simp)
      | tail _ hx => exact ih x (List.mem_append_left _ hx) hf) _ todo out (Nat.le_refl _) hI
theorem need_closed (todo out : List Bytes) (hI : NI l out) : (∀ x ∈ out, ∀ n, findN l x = some n → ∀ i ∈ inputsN n, findN l i ≠ none → i ∈ out ∨ i ∈ todo) →
    ∀ x ∈ needA l todo out, ∀ n, findN l x = some n → ∀ i ∈ inputsN n, findN l i ≠ none → i ∈ needA l todo out :=
  needA_ind (P := fun todo out => (∀ x ∈ out, ∀ n, findN l x = some n → ∀ i ∈ inputsN n, findN l i ≠ none → i ∈ out ∨ i ∈ todo) →
    ∀ x ∈ needA l todo out, ∀ n, findN l x = some n → ∀ i ∈ inputsN n, findN l i ≠ none → i ∈ needA l todo out)
    (fun out h hc => by
      rw [needA_nil]
      intro x hx n hn i hi hf
      rcases hc x hx n hn i hi hf with h | h
      · exact h
      · cases h)
    (fun q t out _ h ih hc => by
      rw [needA_none h]
      refine ih (fun x hx n hn i hi hf => ?_)
      rcases hc x hx n hn i hi hf with h1 | h1
      · exact .inl h1
      · cases h1 with
        | head => exact absurd h hf
        | tail _ h1 => exact .inr h1)
    (fun q t out n _ h hn ih hc => by
      rw [needA_old h hn]
      refine ih (fun x hx n' hn' i hi hf => ?_)
      rcases hc x hx n' hn' i hi hf with h1 | h1
      · exact .inl h1
      · cases h1 with
        | head => exact .inl ((findN_some h).2 ▸ hn)
        | tail _ h1 => exact .inr h1)
    (fun q t out n hI h hn ih hc => by
      rw [needA_new hI h hn]
      refine ih (fun x hx n' hn' i hi hf => ?_)
      have hq := (findN_some h).2
      rcases List.mem_append.1 hx with hx | hx
      · rcases hc x hx n' hn' i hi hf with h1 | h1
        · exact .inl (List.mem_append_left _ h1)
        · cases h1 with
          | head => exact .inl (by rw [← hq]; simp)
          | tail _ h1 => exact .inr (List.mem_append_left _ h1)
      · simp only [List.mem_singleton] at hx
        subst hx
        rw [hq, h] at hn'
        cases hn'
        exact .inr (List.mem_append_right _ hi)) _ todo out (Nat.le_refl _) hI
theorem need_least {S : Bytes → Prop} (hS : ∀ x n, S x → findN l x = some n → ∀ i ∈ inputsN n, S i) (todo out : List Bytes) (hI : NI l out) : (∀ x ∈ todo, S x) → (∀ x ∈ out, S x) → ∀ x ∈ needA l todo out, S x :=
  needA_ind (P := fun todo out => (∀ x ∈ todo, S x) → (∀ x ∈ out, S x) → ∀ x ∈ needA l todo out, S x)
    (fun out h _ ho => by rw [needA_nil]; exact ho) (fun q t out _ h ih ht ho => by rw [needA_none h]; exact ih (fun x hx => ht x (.tail _ hx)) ho)
    (fun q t out n _ h hn ih ht ho => by rw [needA_old h hn]; exact ih (fun x hx => ht x (.tail _ hx)) ho)
    (fun q t out n hI h hn ih ht ho => by
      rw [needA_new hI h hn]
      refine ih (fun x hx => ?_) (fun x hx => ?_)
      · rcases List.mem_append.1 hx with hx | hx
        · exact ht x (.tail _ hx)
        · exact hS q n (ht q (.head _)) h x hx
      · rcases List.mem_append.1 hx with hx | hx
        · exact ho x hx
        · simp only [List.mem_singleton] at hx
          rw [hx, (findN_some h).2]; exact ht q (.head _)) _ todo out (Nat.le_refl _) hI
end
/-! ### An order there is, where there is one that stands -/
theorem min_rank (rank : Bytes → Int) : ∀ {l : List Nd}, l ≠ [] → ∃ x ∈ l, ∀ y ∈ l, rank x.ref ≤ rank y.ref
  | [], h => absurd rfl h
  | [x], _ => ⟨x, .head _, fun y hy => by cases hy with | head => exact Int.le_refl _ | tail _ h => cases h⟩
  | x :: y :: l, _ => by
    obtain ⟨z, hz, h⟩ := min_rank rank (l := y :: l) (by simp)
    by_cases hq : rank x.ref ≤ rank z.ref
    · refine ⟨x, .head _, fun w hw => ?_⟩
      cases hw with
      | head => exact Int.le_refl _
      | tail _ hw => exact Int.le_trans hq (h w hw)
    · refine ⟨z, .tail _ hz, fun w hw => ?_⟩
      cases hw with
      | head => omega
      | tail _ hw => exact h w hw
theorem orderL_some (rank : Bytes → Int) : ∀ (f : Nat) {out : List Bytes} {l : List Nd}, (l.map (·.ref)).Nodup → (∀ x ∈ l, ∀ i ∈ inputsN x, rank i < rank x.ref ∧ (i ∈ out ∨ i ∈ l.map (·.ref))) → l.length = f → (orderL f out l).2 = 0
  | 0, _, _, _, _, _ => rfl
  | f + 1, out, l, hn, h, hl => by
    have hne : l ≠ [] := by rintro rfl; cases hl
    obtain ⟨x, hx, hmin⟩ := min_rank rank hne
    have hr : readyN out x = true := by
      unfold readyN
      rw [List.all_eq_true]
      intro i hi
      obtain ⟨h1, h2⟩ := h x hx i hi
      rcases h2 with h2 | h2
      · exact decide_eq_true h2
      · obtain ⟨y, hy, e⟩ := List.mem_map.1 h2
        have := hmin y hy
        rw [e] at this
        omega
    have hb : (bestL out l).2 = true := by
      cases hq : (bestL out l).2 with
      | true => rfl
      | false => rw [best_none.1 hq x hx] at hr; cases hr
    simp only [orderL]
    rw [if_neg (by rw [hb]; decide)]
    obtain ⟨h1, _⟩ := best_left hn hb
    refine orderL_some rank f (filter_nodup hn) (fun y hy i hi => ?_) (by omega)
    obtain ⟨h2, h3⟩ := h y (List.mem_filter.1 hy).1 i hi
    refine ⟨h2, ?_⟩
    rcases h3 with h3 | h3
    · exact .inl (List.mem_append_left _ h3)
    · by_cases e : i = (bestL out l).1
      · exact .inl (by rw [e]; simp)
      · obtain ⟨z, hz, ez⟩ := List.mem_map.1 h3
        exact .inr (List.mem_map.2 ⟨z, List.mem_filter.2 ⟨hz, by rw [ez]; simpa using e⟩, ez⟩)
theorem orderN_some (rank : Bytes → Int) {l : List Nd} (hn : (l.map (·.ref)).Nodup) (h : ∀ x ∈ l, ∀ i ∈ inputsN x, rank i < rank x.ref ∧ i ∈ l.map (·.ref)) : (orderN l).2 = 0 := by
  unfold orderN
  rw [if_neg (by rw [okN_of hn]; decide)]
  exact orderL_some rank _ hn (fun x hx i hi => ⟨(h x hx i hi).1, .inr (h x hx i hi).2⟩) rfl
/-- Nodes that may be a rule's. -/
structure Chk (ref : Bytes) (l : List Nd) : Prop where
  len : l.length ≤ 16
  is : ∀ n ∈ l, isN n = true
  nd : (l.map (·.ref)).Nodup
  refs : ∀ q ∈ refsN ref l, q ∈ l.map (·.ref)
  ord : (orderN l).2 = 0
theorem orderN_codes {l : List Nd} : (orderN l).2 = 0 ∨ (orderN l).2 = 8 ∨ (orderN l).2 = 121 := by
  unfold orderN
  split
  · exact .inr (.inl rfl)
  · by_cases h : (orderL l.length [] l).2 = 0
    · exact .inl h
    · exact .inr (.inr (orderL_err _ h).2)
theorem chk_iff {ref : Bytes} {l : List Nd} : checkN ref l = 0 ↔ Chk ref l := by
  constructor
  · intro h
    unfold checkN at h
    split at h
    · cases h
    · rename_i h1
      split at h
      · cases h
      · rename_i h2
        split at h
        · cases h
        · rename_i h3
          split at h
          · cases h
          · rename_i h4
            refine ⟨by omega, fun n hn => ?_, okN_iff.1 (by simpa using h3), fun q hq => ?_, h⟩
            · cases hq : isN n with
              | true => rfl
              | false => exact absurd (List.any_eq_true.2 ⟨n, hn, by rw [hq]; rfl⟩) h2
            · refine Decidable.not_not.1 fun hc => h4 (List.any_eq_true.2 ⟨q, hq, ?_⟩)
              rw [findN_none.2 hc]; rfl
  · rintro ⟨h1, h2, h3, h4, h5⟩
    unfold checkN
    rw [if_neg (by omega), if_neg (by
      rw [Bool.not_eq_true, List.any_eq_false]
      intro n hn
      rw [h2 n hn]; decide), if_neg (by rw [okN_of h3]; decide), if_neg (by
      rw [Bool.not_eq_true, List.any_eq_false]
      intro q hq hc
      have : findN l q = none := by simpa using hc
      exact findN_none.1 this (h4 q hq))]
    exact h5
section
variable {ref : Bytes} {l : List Nd} (hc : Chk ref l)
include hc
omit hc in
theorem find_of {q : Bytes} (h : q ∈ l.map (·.ref)) : ∃ n, findN l q = some n ∧ n ∈ l ∧ n.ref = q := by
  cases hf : findN l q with
  | none => exact absurd h (findN_none.1 hf)
  | some n => exact ⟨n, rfl, (findN_some hf).1, (findN_some hf).2⟩
theorem Chk.input {n : Nd} (hn : n ∈ l) {i : Bytes} (hi : i ∈ inputsN n) : i ∈ l.map (·.ref) := hc.refs i (List.mem_cons_of_mem _ (List.mem_flatMap.2 ⟨n, hn, hi⟩))
theorem Chk.self {n : Nd} (hn : n ∈ l) : findN l n.ref = some n := by
  obtain ⟨m, h1, h2, h3⟩ := find_of (List.mem_map.2 ⟨n, hn, rfl⟩)
  have inj : ∀ {l : List Nd}, (l.map (·.ref)).Nodup → ∀ a ∈ l, ∀ b ∈ l, a.ref = b.ref → a = b := by
    intro l
    induction l with
    | nil => intro _ a ha; cases ha
    | cons z l ih =>
      intro hn a ha b hb e
      simp only [List.map_cons, List.nodup_cons] at hn
      cases ha with
      | head => cases hb with
        | head => rfl
        | tail _ hb => exact absurd (List.mem_map.2 ⟨b, hb, e.symm⟩) hn.1
      | tail _ ha => cases hb with
        | head => exact absurd (List.mem_map.2 ⟨a, ha, e⟩) hn.1
        | tail _ hb => exact ih hn.2 a ha b hb e
  rw [h1, inj hc.nd m h2 n hn h3]
theorem Chk.need_ref : ref ∈ needsN l ref := by
  refine sort_mem.2 (need_todo _ _ (NI.nil l) ref (.head _) ?_)
  rw [Ne, findN_none]
  exact fun h => h (hc.refs ref (.head _))
theorem Chk.need_closed {n : Nd} (hn : n ∈ l) (h : n.ref ∈ needsN l ref) {i : Bytes} (hi : i ∈ inputsN n) : i ∈ needsN l ref := by
  refine sort_mem.2 (Go.KX.need_closed _ _ (NI.nil l) (fun x hx => by cases hx) n.ref (sort_mem.1 h) n (hc.self hn) i hi ?_)
  rw [Ne, findN_none]
  exact fun h => h (hc.input hn hi)
theorem Chk.need_below {n : Nd} (hn : n ∈ l) (h : n.ref ∈ needsN l ref) {i : Bytes} (hi : i ∈ inputsN n) {x : Bytes} (hx : x ∈ needsN l i) : x ∈ needsN l ref := by
  refine need_least (S := fun x => x ∈ needsN l ref) (fun x m hx hf j hj => ?_) _ _ (NI.nil l) (fun x hx => ?_) (fun x hx => by cases hx) x (sort_mem.1 hx)
  · exact hc.need_closed (findN_some hf).1 ((findN_some hf).2 ▸ hx) hj
  · simp only [List.mem_singleton] at hx
    rw [hx]; exact hc.need_closed hn h hi
omit hc in
theorem need_sub {x : Bytes} (h : x ∈ needsN l ref) : x ∈ l.map (·.ref) := (need_ni _ _ (NI.nil l)).sub x (sort_mem.1 h)
end
theorem needs_le (l : List Nd) (q : Bytes) : (needsN l q).length ≤ l.length := by
  have h := (need_ni (l := l) [q] [] (NI.nil l)).le
  unfold needsN
  rw [sortL_len]
  exact h
theorem small_guard {l : List Nd} (h : (!(!smallN l)) = true) : smallN l = true := by simpa using h
/-- Who is needed. -/
def keptN (l : List Nd) (ref : Bytes) : List Nd := l.filter fun n => decide (n.ref ∈ needsN l ref)
section
variable {ref : Bytes} {l : List Nd} (hc : Chk ref l)
include hc
omit hc in
theorem kept_mem {x : Bytes} : x ∈ (keptN l ref).map (·.ref) ↔ x ∈ needsN l ref := by
  constructor
  · intro h
    obtain ⟨n, hn, rfl⟩ := List.mem_map.1 h
    exact of_decide_eq_true (List.mem_filter.1 hn).2
  · intro h
    obtain ⟨n, hn, e⟩ := List.mem_map.1 (need_sub h)
    exact List.mem_map.2 ⟨n, List.mem_filter.2 ⟨hn, decide_eq_true (by rw [e]; exact h)⟩, e⟩
theorem Chk.kept_nd : ((keptN l ref).map (·.ref)).Nodup := filter_nodup hc.nd
theorem Chk.kept_len : (keptN l ref).length = (needsN l ref).length := by
  have h1 : (needsN l ref).Nodup := (List.mergeSort_perm _ _).nodup_iff.2 (need_ni _ _ (NI.nil l)).nd
  have h2 := nodup_sub h1 (fun x hx => kept_mem.2 hx)
  have h3 := nodup_sub hc.kept_nd (fun x hx => kept_mem.1 hx)
  simp only [List.length_map] at h2 h3
  omega
theorem Chk.kept_chk : Chk ref (keptN l ref) := by
  have hsub : ∀ n ∈ keptN l ref, n ∈ l ∧ n.ref ∈ needsN l ref := fun n hn => ⟨(List.mem_filter.1 hn).1, of_decide_eq_true (List.mem_filter.1 hn).2⟩
  refine ⟨?_, fun n hn => hc.is n (hsub n hn).1, hc.kept_nd, fun q hq => ?_, ?_⟩
  · have : (keptN l ref).length ≤ l.length := List.length_filter_le _ _
    have := hc.len
    omega
  · rcases List.mem_cons.1 hq with rfl | hq
    · exact kept_mem.2 hc.need_ref
    · obtain ⟨n, hn, hi⟩ := List.mem_flatMap.1 hq
      exact kept_mem.2 (hc.need_closed (hsub n hn).1 (hsub n hn).2 hi)
  · obtain ⟨_, hah⟩ := orderN_ok hc.ord
    refine orderN_some (placeN (orderN l).1) hc.kept_nd (fun x hx i hi => ⟨?_, ?_⟩)
    · exact ((hah x (hsub x hx).1).place.2 i hi).2
    · exact kept_mem.2 (hc.need_closed (hsub x hx).1 (hsub x hx).2 hi)
theorem Chk.kept_find {q : Bytes} (h : q ∈ needsN l ref) : findN (keptN l ref) q = findN l q := by
  obtain ⟨n, h1, h2, h3⟩ := find_of (need_sub h)
  have hk : n ∈ keptN l ref := List.mem_filter.2 ⟨h2, decide_eq_true (by rw [h3]; exact h)⟩
  rw [h1, ← h3]
  exact hc.kept_chk.self hk
theorem Chk.kept_needs : needsN (keptN l ref) ref = needsN l ref := by
  have key : ∀ todo out, NI l out → (∀ x ∈ todo, x ∈ needsN l ref) → (∀ x ∈ out, x ∈ needsN l ref) → NI (keptN l ref) out → needA (keptN l ref) todo out = needA l todo out := fun todo out hI =>
    needA_ind (l := l) (P := fun todo out => (∀ x ∈ todo, x ∈ needsN l ref) → (∀ x ∈ out, x ∈ needsN l ref) → NI (keptN l ref) out → needA (keptN l ref) todo out = needA l todo out)
      (fun out _ _ _ _ => by rw [needA_nil, needA_nil])
      (fun q t out _ h ih ht ho hk => by
        rw [needA_none h, needA_none (by rw [hc.kept_find (ht q (.head _)), h])]
        exact ih (fun x hx => ht x (.tail _ hx)) ho hk)
      (fun q t out n _ h hn ih ht ho hk => by
        rw [needA_old h hn, needA_old (by rw [hc.kept_find (ht q (.head _)), h]) hn]
        exact ih (fun x hx => ht x (.tail _ hx)) ho hk)
      (fun q t out n hI h hn ih ht ho hk => by
        have hf : findN (keptN l ref) q = some n := by rw [hc.kept_find (ht q (.head _)), h]
        have hq := ht q (.head _)
        have e := (findN_some h).2
        rw [needA_new hI h hn, needA_new hk hf hn]
        refine ih (fun x hx => ?_) (fun x hx => ?_) (hk.step hf hn)
        · rcases List.mem_append.1 hx with hx | hx
          · exact ht x (.tail _ hx)
          · exact hc.need_closed (findN_some h).1 (by rw [e]; exact hq) hx
        · rcases List.mem_append.1 hx with hx | hx
          · exact ho x hx
          · simp only [List.mem_singleton] at hx
            rw [hx, e]; exact hq) _ todo out (Nat.le_refl _) hI
  show sortL (needA (keptN l ref) [ref] []) = needsN l ref
  rw [key [ref] [] (NI.nil l) (fun x hx => by simp only [List.mem_singleton] at hx; rw [hx]; exact hc.need_ref) (fun x hx => by cases hx) (NI.nil _)]
  rfl
omit hc in
theorem place_pos {x : Bytes} (h : x ∈ needsN l ref) : 0 ≤ placeN (needsN l ref) x := by
  have := Go.KX.place_in (p := needsN l ref) (s := []) h
  rw [List.append_nil] at this
  exact this.1
end
theorem place_neg {l : List Bytes} {x : Bytes} : placeN l x < 0 ↔ x ∉ l := by
  constructor
  · intro h hx
    have := place_in (p := l) (s := []) hx
    rw [List.append_nil] at this
    omega
  · intro h
    have : placeN l x = -1 := idxF_none (p := fun y => decide (y = x)) (fun y hy => decide_eq_false (fun e => h (e ▸ hy)))
    omega
/-- What is kept of the first j. -/
def keepJ (l : List Nd) (ref : Bytes) (j : Nat) : List Nd := (l.take j).filter fun n => decide (n.ref ∈ needsN l ref)
theorem keepJ_no {l : List Nd} {ref : Bytes} {j : Nat} (h : j < l.length) (hn : l[j].ref ∉ needsN l ref) : keepJ l ref (j + 1) = keepJ l ref j := by
  unfold keepJ
  rw [List.take_succ_eq_append_getElem h, List.filter_append, List.filter_cons_of_neg (by simpa using hn)]
  simp
theorem keepJ_yes {l : List Nd} {ref : Bytes} {j : Nat} (h : j < l.length) (hn : l[j].ref ∈ needsN l ref) : keepJ l ref (j + 1) = keepJ l ref j ++ [l[j]] := by
  unfold keepJ
  rw [List.take_succ_eq_append_getElem h, List.filter_append, List.filter_cons_of_pos (by simpa using hn)]
  simp
theorem keepJ_le (l : List Nd) (ref : Bytes) (j : Nat) : (keepJ l ref j).length ≤ j := by
  have h1 : (keepJ l ref j).length ≤ (l.take j).length := List.length_filter_le _ _
  rw [List.length_take] at h1
  omega
theorem keepJ_all (l : List Nd) (ref : Bytes) : keepJ l ref l.length = keptN l ref := by unfold keepJ keptN; rw [List.take_of_length_le (Nat.le_refl _)]
end Go.KX
/- Walks: UA. -/
namespace Go.Proofs.YtomkgfdigldhcaaGreatDoor
open Go.KX
set_option maxRecDepth 100000 in
theorem dagNeeds_ok {ref : Bytes} {l : List Nd} (hb : ∀ n ∈ l, wN n ≤ 703687441776640) : Fc Tryz.prog gT 8 [.str ref, rN l] (bS true) := by
 refine fb tOK (fn := Tryz.f8) 105 [.tmp 4] Tryz.func8 Tryz.results8 (fun g0 B0 Q ρ0 R => ?_)
 refine en tOK 0 1 [] ?_
 refine sn tOK 0 1 [] ?_
 refine fc tOK 4 [] (small_ok hb) ?_
 refine fg tOK 0 [] (fun hg => check_ok (cond := ref) (l := l) (small_ref (small_guard hg))) ?_
 refine fg tOK 2 [] (fun hg => num12_ok) ?_
 refine sib 0 rfl rfl (fun h21 => ?_) (fun h21 => ?_)
 ·refine en tOK 0 0 [] ?_
  refine fc tOK 1 [] (live12_ok) ?_
  refine sr 0 R ?_
  rfl
 ·simp only [Bool.or_eq_false_iff, Bool.not_eq_false', decide_eq_false_iff_not] at h21
  have hs : smallN l = true := by simpa using h21.1
  have hc : Chk ref l := chk_iff.1 (by simpa using h21.2)
  have hl := small_len hs
  have hrf := small_ref hs
  refine en tOK 0 2 [] ?_
  refine fc tOK 1 [] (needs_ok (ref := ref) (l := l) (by omega)) ?_
  refine sn tOK 0 1 [] ?_
  refine sn tOK 0 1 [] ?_
  refine sl 0 ?_
  refine eonl 6 902 65 11 ?_
  refine E_loop (σ := Nat) (fun j => j ≤ l.length) (fun j => l.length - j)
    (fun j => [(0, .str ref), (1, rN l), (5, rB (needsN l ref)), (6, .o 902 ((keepJ l ref j).map ndL).length), (7, nI j)])
    (fun j => [(902, .r 65 11 ((keepJ l ref j).map ndL))]) 0 ?_ ?_
  ·exact Nat.zero_le _
  ·rintro J j hj0 hJ
   refine en tOK 0 4 [] ?_
   refine si 0 rfl rfl (fun h29 => ?_) (fun h29 => ?_)
   ·rw [List.length_map] at h29
    have hj : j < l.length := by omega
    refine en tOK 0 6 [ndL l[j]] ?_ (hφ := by exact ⟨by omega, by simpa using rN_get hj⟩)
    refine fc tOK 1 [] (place_ok (l := needsN l ref) (s := l[j].ref)) ?_
    refine si 0 rfl rfl (fun h39 => ?_) (fun h39 => ?_)
    ·have hno := place_neg.1 h39
     refine en tOK 0 3 [] ?_
     first
      | (have hno' := hno
         refine sl 0 ?_
         refine eas 6 rfl (v' := .o 902 ((keepJ l ref (j + 1)).map ndL).length) (by rw [keepJ_no hj hno]) ?_
         refine emb 902 (mb' := .r 65 11 ((keepJ l ref (j + 1)).map ndL)) ?_ ?_
         · rw [keepJ_no hj hno]
         exact hJ (j + 1) (by omega) (by omega))
      | (refine sl 0 ?_
         exact hJ (j + 1) (by omega) (by omega))
    ·have hyes : l[j].ref ∈ needsN l ref := Decidable.not_not.1 (fun hc => h39 (place_neg.2 hc))
     refine en tOK 0 6 [ndL l[j]] ?_ (hφ := by exact ⟨by omega, by simpa using rN_get hj⟩)
     refine sap tOK 1 [] rfl (fun _ => rfl) ?_ ?_
     ·show (((keepJ l ref j).map ndL).length + 1) * 128 ≤ _
      have hkl := keepJ_le l ref j
      simp only [List.length_map]
      omega
     refine sn tOK 0 4 [ndL l[j]] ?_ (hφ := by exact ⟨by omega, by simpa using rN_get hj⟩)
     refine fc tOK 1 [] (inputs_ok (n := l[j])) ?_
     refine sn tOK 0 1 [] ?_
     refine sl 0 ?_
     refine eas 6 rfl (v' := .o 902 ((keepJ l ref (j + 1)).map ndL).length) (by rw [keepJ_yes hj hyes]; simp) ?_
     refine emb 902 (mb' := .r 65 11 ((keepJ l ref (j + 1)).map ndL)) ?_ ?_
     ·rw [keepJ_yes hj hyes]; simp [cellsV]
     refine E_loop (σ := Nat) (fun k => k ≤ (inputsN l[j]).length) (fun k => (inputsN l[j]).length - k)
       (fun k => [(0, .str ref), (1, rN l), (5, rB (needsN l ref)), (6, .o 902 ((keepJ l ref (j + 1)).map ndL).length), (7, nI j), (8, rB (inputsN l[j])), (9, nI k)])
       (fun k => [(902, .r 65 11 ((keepJ l ref (j + 1)).map ndL))]) 0 ?_ ?_
     ·exact Nat.zero_le _
     ·rintro J k hk0 hK
      refine en tOK 0 4 [] ?_
      refine si 0 rfl rfl (fun h55 => ?_) (fun h55 => ?_)
      ·rw [List.length_map] at h55
       have hk : k < (inputsN l[j]).length := by omega
       have hil := inputs_len l[j]
       refine en tOK 0 5 [[.str (inputsN l[j])[k]]] ?_ (hφ := by exact ⟨by omega, by simp [hk]⟩)
       refine fc tOK 1 [] (needs_ok (ref := (inputsN l[j])[k]) (l := l) (by omega)) ?_
       refine sn tOK 0 1 [] ?_
       refine sl 0 ?_
       refine E_loop (σ := Nat) (fun i => i ≤ (needsN l (inputsN l[j])[k]).length) (fun i => (needsN l (inputsN l[j])[k]).length - i)
         (fun i => [(0, .str ref), (1, rN l), (5, rB (needsN l ref)), (6, .o 902 ((keepJ l ref (j + 1)).map ndL).length), (7, nI j), (8, rB (inputsN l[j])), (9, nI k), (10, rB (needsN l (inputsN l[j])[k])), (11, nI i)])
         (fun i => [(902, .r 65 11 ((keepJ l ref (j + 1)).map ndL))]) 0 ?_ ?_
       ·exact Nat.zero_le _
       ·rintro J i hi0 hI
        refine en tOK 0 4 [] ?_
        refine si 0 rfl rfl (fun h67 => ?_) (fun h67 => ?_)
        ·rw [List.length_map] at h67
         have hi : i < (needsN l (inputsN l[j])[k]).length := by omega
         have hnl := needs_le l (inputsN l[j])[k]
         refine en tOK 0 5 [[.str (needsN l (inputsN l[j])[k])[i]]] ?_ (hφ := by exact ⟨by omega, by simp [hi]⟩)
         refine fc tOK 1 [] (place_ok (l := needsN l ref) (s := (needsN l (inputsN l[j])[k])[i])) ?_
         refine si 0 rfl rfl (fun h76 => ?_) (fun h76 => ?_)
         ·exact absurd h76 (by have := place_pos (hc.need_below (List.getElem_mem hj) hyes (List.getElem_mem hk) (List.getElem_mem hi)); omega)
         ·refine en tOK 0 3 [] ?_
          refine sl 0 ?_
          exact hI (i + 1) (by omega) (by omega)
        ·refine en tOK 0 3 [] ?_
         refine sl 0 ?_
         exact hK (k + 1) (by omega) (by omega)
      ·refine en tOK 0 3 [] ?_
       first
        | (have hno' := hno
           refine sl 0 ?_
           refine eas 6 rfl (v' := .o 902 ((keepJ l ref (j + 1)).map ndL).length) (by rw [keepJ_no hj hno]) ?_
           refine emb 902 (mb' := .r 65 11 ((keepJ l ref (j + 1)).map ndL)) ?_ ?_
           · rw [keepJ_no hj hno]
           exact hJ (j + 1) (by omega) (by omega))
        | (refine sl 0 ?_
           exact hJ (j + 1) (by omega) (by omega))
   ·rw [List.length_map] at h29
    have ej : j = l.length := by omega
    subst ej
    rw [keepJ_all]
    have hkl : (keptN l ref).length ≤ l.length := List.length_filter_le _ _
    have e1 := place_pos hc.need_ref
    have e2 := hc.kept_len
    have e3 : checkN ref (keptN l ref) = 0 := chk_iff.2 hc.kept_chk
    have e4 := hc.kept_needs
    refine eezo 6 (rows := (keptN l ref).map ndL) ?_ ?_ (hr := fun r hr => by
      obtain ⟨n, _, rfl⟩ := List.mem_map.1 hr
      rfl)
    ·rfl
    refine en tOK 0 2 [] ?_
    refine fc tOK 11 [] (place_ok (l := needsN l ref) (s := ref)) ?_
    refine fg tOK 0 [] (fun hg => check_ok (cond := ref) (l := keptN l ref) (fun n hn => hrf n (List.mem_filter.1 hn).1)) ?_
    refine fg tOK 5 [] (fun hg => num12_ok) ?_
    refine fg tOK 1 [] (fun hg => needs_ok (ref := ref) (l := keptN l ref) (by omega)) ?_
    refine fg tOK 2 [] (fun hg => texts_ok (a := needsN (keptN l ref) ref) (b := needsN l ref)) ?_
    refine fg tOK 2 [] (fun hg => live12_ok) ?_
    refine sr 0 R ?_
    refine congrArg (fun b => SV.v (.bool b)) ?_
    simp [e1, e2, e3, e4]
end Go.Proofs.YtomkgfdigldhcaaGreatDoor
