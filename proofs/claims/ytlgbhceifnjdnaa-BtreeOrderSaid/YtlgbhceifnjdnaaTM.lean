/- Plain: keys put in whatever order. No program in sight. -/
import Derived.Test.YtlgbhceifnjdnaaTL
namespace Go.KX
def kvA (a : Ac) : KV := ⟨a.key, a.value⟩
/-- Unlike keys, and the list that they make. -/
structure Uniq (ks : List Ac) (w : List KV) : Prop where
  srt : Srt w
  ok : ∀ a ∈ ks, rightKV a.key a.value = true
  nd : (ks.map fun a => a.key).Nodup
  mem : ∀ p, p ∈ w ↔ ∃ a ∈ ks, p = kvA a
theorem Uniq.nil : Uniq [] [] := ⟨List.Pairwise.nil, fun a h => (by cases h), List.nodup_nil, fun p => by simp⟩
theorem Uniq.add {ks : List Ac} {w : List KV} (h : Uniq ks w) {y : Ac} (hy : rightKV y.key y.value = true) (hn : isAt w y.key = false) : Uniq (ks ++ [y]) (putK w y.key y.value) := by
  have hno : ∀ a ∈ ks, a.key ≠ y.key := fun a ha e => by
    have : isAt w y.key = true := (isAt_iff h.srt).2 ⟨kvA a, (h.mem _).2 ⟨a, ha, rfl⟩, e⟩
    rw [hn] at this; cases this
  refine ⟨putK_srt h.srt, fun a ha => ?_, ?_, fun p => ?_⟩
  · rcases List.mem_append.1 ha with ha | ha
    · exact h.ok a ha
    · rcases List.mem_singleton.1 ha with rfl; exact hy
  · rw [List.map_append]
    refine List.nodup_append.2 ⟨h.nd, by simp, fun x hx z hz e => ?_⟩
    obtain ⟨a, ha, rfl⟩ := List.mem_map.1 hx
    simp at hz
    exact hno a ha (e.trans hz)
  · rw [mem_putK h.srt, h.mem]
    constructor
    · rintro (e | ⟨⟨a, ha, e⟩, _⟩)
      · exact ⟨y, by simp, e⟩
      · exact ⟨a, by simp [ha], e⟩
    · rintro ⟨a, ha, e⟩
      rcases List.mem_append.1 ha with ha | ha
      · exact .inr ⟨⟨a, ha, e⟩, by rw [e]; exact hno a ha⟩
      · rcases List.mem_singleton.1 ha with rfl; exact .inl e
theorem Uniq.inj {ks : List Ac} {w : List KV} (h : Uniq ks w) {i j : Nat} {a b : Ac} (hi : ks[i]? = some a) (hj : ks[j]? = some b) (e : a.key = b.key) : i = j := by
  have h1 : (ks.map fun a => a.key)[i]? = some a.key := by rw [List.getElem?_map, hi]; rfl
  have h2 : (ks.map fun a => a.key)[j]? = some b.key := by rw [List.getElem?_map, hj]; rfl
  have hl := (List.getElem?_eq_some_iff.1 h1).1
  exact (List.getElem?_inj hl h.nd).1 (by rw [h1, h2, e])
/-- What has been put, of those whose places f tells. -/
def PutMem (ks : List Ac) (f : Nat → Nat) (i : Nat) (ws : List KV) : Prop := ∀ p, p ∈ ws ↔ ∃ j, j < i ∧ ∃ a, ks[f j]? = some a ∧ p = kvA a
theorem PutMem.add {ks : List Ac} {w ws : List KV} {f : Nat → Nat} {i : Nat} (hu : Uniq ks w) (h : PutMem ks f i ws) (hs : Srt ws) (hf : ∀ j, j < i → f j ≠ f i) {y : Ac} (hy : ks[f i]? = some y) : PutMem ks f (i + 1) (putK ws y.key y.value) := by
  intro p
  rw [mem_putK hs, h]
  constructor
  · rintro (e | ⟨⟨j, hj, a, ha, e⟩, _⟩)
    · exact ⟨i, by omega, y, hy, e⟩
    · exact ⟨j, by omega, a, ha, e⟩
  · rintro ⟨j, hj, a, ha, e⟩
    by_cases hji : j = i
    · subst hji
      rw [hy] at ha; cases ha
      exact .inl e
    · refine .inr ⟨⟨j, by omega, a, ha, e⟩, fun hk => ?_⟩
      rw [e] at hk
      exact hf j (by omega) (hu.inj ha hy hk)
theorem PutMem.all {ks : List Ac} {w ws : List KV} {f : Nat → Nat} (hu : Uniq ks w) (h : PutMem ks f ks.length ws) (hs : Srt ws) (hf : ∀ j, j < ks.length → ∃ j', j' < ks.length ∧ f j' = j) : ws = w := by
  refine srt_ext hs hu.srt (fun p => ?_)
  rw [h, hu.mem]
  constructor
  · rintro ⟨j, hj, a, ha, e⟩
    exact ⟨a, List.mem_of_getElem? ha, e⟩
  · rintro ⟨a, ha, e⟩
    obtain ⟨j, hj⟩ := List.mem_iff_getElem?.1 ha
    have hl := (List.getElem?_eq_some_iff.1 hj).1
    obtain ⟨j', h1, h2⟩ := hf j hl
    exact ⟨j', h1, a, by rw [h2]; exact hj, e⟩
/-- The other order. -/
def oth (n b j : Nat) : Nat := (n - 1 - j + b) % n
theorem oth_val {n b j : Nat} (hj : j < n) (hb : b < n) : oth n b j = if b ≤ j then n - 1 - j + b else b - 1 - j := by
  unfold oth
  by_cases h : b ≤ j
  · rw [if_pos h, Nat.mod_eq_of_lt (by omega)]
  · rw [if_neg h, show n - 1 - j + b = (b - 1 - j) + n by omega, Nat.add_mod_right, Nat.mod_eq_of_lt (by omega)]
theorem oth_lt {n b j : Nat} (hj : j < n) : oth n b j < n := Nat.mod_lt _ (by omega)
theorem oth_ne {n b i j : Nat} (hi : i < n) (hj : j < i) (hb : b < n) : oth n b j ≠ oth n b i := by
  rw [oth_val (by omega) hb, oth_val hi hb]
  split <;> split <;> omega
theorem oth_all {n b : Nat} (hb : b < n) (j : Nat) (hj : j < n) : ∃ j', j' < n ∧ oth n b j' = j := by
  by_cases h : b ≤ j
  · refine ⟨n - 1 - j + b, by omega, ?_⟩
    rw [oth_val (by omega) hb, if_pos (by omega)]; omega
  · refine ⟨b - 1 - j, by omega, ?_⟩
    rw [oth_val (by omega) hb, if_neg (by omega)]; omega
end Go.KX
