/- Plain: what the law of shared pages asks. No program in sight. -/
import Derived.Test.YtlgbhceifnjdnaaTL
namespace Go.KX
section
variable {X : Cx} {k : List It} {L : LL} {fs : List MF} {own : List Res} {arr : Array Oper}
theorem S_slsn {l : List Oper} {α : Type} {E : El α} {xs : List (SlE α)} {a : Option Addr} {c : Nat} {ys : List α} (hf : Has fs (SlM E a c ys)) (hx : Has fs (AllSl E xs)) (h : S X arr l k L (AllSl E (xs ++ [(a, c, ys)]) :: fs) own) : S X arr l k L fs own :=
  S_fact (fun _ hA x hm => by
    rcases List.mem_append.1 hm with hm | hm
    · exact hA _ hx.mem x hm
    · rcases List.mem_singleton.1 hm with rfl
      exact hA _ hf.mem) h
/-- However the drawn operations come, the rest is shown once. -/
theorem C_cut {σ : Type} (Ls : σ → LL) (Fs : σ → List MF) (Os : σ → List Res) {f : Nat} {listed : Array Bool} (hrest : ∀ s, C X k (Ls s) (Fs s) (Os s))
    (hda : (∀ s {L' fs' own' r'}, (_ : subL L' (Ls s) := by repeat (first | exact trivial | refine ⟨rfl, ?_⟩ | refine ⟨intE (by omega), ?_⟩)) → (_ : Subs fs' (Fs s) := by repeat constructor) → (_ : Split own' (Os s) r' := by repeat constructor) → C X k L' fs' own') → C X (.da arr f listed :: k) L fs own) : C X (.da arr f listed :: k) L fs own :=
  hda (fun s {_ _ _ _} h1 h2 h3 => C_weak (subL_sub _ h1) h2 h3 (hrest s))
end
def elTr : El Tree := ⟨3, fun t => [.int .i64 t.root, .int .i64 t.keys, .int .i64 t.deep], fun _ => rfl, by decide, fun _ u h => by simp at h; rcases h with rfl | rfl | rfl <;> rfl⟩
theorem mostS_snoc {l : List KV} {i : Nat} {y : KV} (h : l[i]? = some y) (room : Int) : mostS (l.take (i + 1)) room = mostS (l.take i) room + mostI room y.value.length := by
  rw [take_succ_snoc h, mostS_app]; simp [mostS]
theorem mostI_le {room : Int} (hr : 480 ≤ room) {v : Nat} (hv : v ≤ 16384) : mostI room v ≤ 36 := by
  obtain ⟨r, hr'⟩ : ∃ r : Nat, room - 8 = (r : Int) := ⟨(room - 8).toNat, by omega⟩
  unfold mostI
  split
  · rw [hr', tdiv_pred v (by omega), Int.toNat_natCast]
    have : (v - 1) / r ≤ 35 := Nat.le_of_lt_succ ((Nat.div_lt_iff_lt_mul (by omega)).2 (by omega))
    omega
  · decide
theorem mostS_le {room : Int} (hr : 480 ≤ room) : ∀ {l : List KV}, (∀ p ∈ l, p.value.length ≤ 16384) → 0 ≤ mostS l room ∧ mostS l room ≤ 36 * (l.length : Int)
  | [], _ => by simp [mostS]
  | p :: l, h => by
    have h1 := mostI_le hr (h p (.head _))
    have h2 := mostI_nn room (by omega) p.value.length
    have h3 := mostS_le hr (l := l) (fun q hq => h q (.tail _ hq))
    have e : mostS (p :: l) room = mostI room p.value.length + mostS l room := by simp [mostS]
    rw [e]
    simp only [List.length_cons]
    omega
/-- The trees that there were, and what they hold. -/
structure Hist (room : Int) (m : Mem) (ts : List Tree) (xs : List (SlE KV)) : Prop where
  len : ts.length = xs.length
  at_ : ∀ (k : Nat) t x, ts[k]? = some t → xs[k]? = some x → At room 1048576 1000 m t x.2.2
theorem Hist.grow {room : Int} {m m' : Mem} {ts : List Tree} {xs : List (SlE KV)} (h : Hist room m ts xs) {i : Nat} {t' : Tree} {w' : List KV} (h' : At room 1048576 i m' t' w') (g : Gr m m') : Hist room m' ts xs :=
  ⟨h.len, fun k t x a b => (h.at_ k t x a b).gr h' g⟩
theorem At.more {room most : Int} {i j : Nat} {m : Mem} {t : Tree} {w : List KV} (h : At room most i m t w) (hij : i ≤ j) : At room most j m t w := ⟨h.mol, h.size, h.most, h.le, h.st, h.srt, by have := h.len; omega⟩
theorem Hist.add {room : Int} {m : Mem} {ts : List Tree} {xs : List (SlE KV)} (h : Hist room m ts xs) {i : Nat} {t : Tree} {x : SlE KV} (h' : At room 1048576 i m t x.2.2) (hi : i ≤ 1000) : Hist room m (ts ++ [t]) (xs ++ [x]) := by
  refine ⟨by simp [h.len], fun k t1 x1 a b => ?_⟩
  rw [List.getElem?_append] at a b
  have hl := h.len
  by_cases hk : k < ts.length
  · rw [if_pos hk] at a
    rw [if_pos (by omega)] at b
    exact h.at_ k t1 x1 a b
  · rw [if_neg hk] at a
    rw [if_neg (by omega)] at b
    have hk0 : k - ts.length = 0 := by
      rcases Nat.eq_zero_or_pos (k - ts.length) with h | h
      · exact h
      · rw [List.getElem?_eq_none (by simp; omega)] at a; cases a
    rw [hk0] at a
    rw [show k - xs.length = 0 by omega] at b
    simp at a b
    subst a; subst b
    exact h'.more hi
theorem Cat.valsOK {R : Cell → List KV → List Nat → Prop} (hR : ∀ c L q, R c L q → ∀ p ∈ L, p.value.length ≤ 16384) : ∀ {l : List Cell} {L : List KV} {q : List Nat}, Cat R l L q → ∀ p ∈ L, p.value.length ≤ 16384
  | [], _, _, ⟨rfl, _⟩, p, hp => by cases hp
  | c :: r, _, _, ⟨L1, L2, q1, q2, rfl, _, h3, h4⟩, p, hp => by
    rcases List.mem_append.1 hp with hp | hp
    · exact hR _ _ _ h3 p hp
    · exact h4.valsOK hR p hp
theorem Item.valsOK {m : Mem} : ∀ {d : Nat} (c : Cell) (L : List KV) (q : List Nat), Item m d c L q → ∀ p ∈ L, p.value.length ≤ 16384
  | 0, c, L, q, ⟨hf, v, h, hv, _⟩, p, hp => by
    subst h
    rcases List.mem_singleton.1 hp with rfl
    exact hv
  | d + 1, c, L, q, ⟨_, _, _, cs, qs, _, _, h3, _, _⟩, p, hp => h3.valsOK (fun c L q h => Item.valsOK c L q h) p hp
theorem At.vals {room most : Int} {i : Nat} {m : Mem} {t : Tree} {w : List KV} (h : At room most i m t w) : ∀ p ∈ w, p.value.length ≤ 16384 := by
  obtain ⟨q, hst, hnd⟩ := h.st
  cases hst with
  | none ht hL hq => subst hL; intro p hp; cases hp
  | some d n hr hd hk hn h0 hd64 hrep =>
    obtain ⟨cs, qs, _, _, h3, _, _⟩ := hrep
    exact h3.valsOK (fun c L q h => Item.valsOK c L q h)
theorem intsQ_nodup {q : List Nat} (h : q.Nodup) : (intsQ q).Nodup := by
  unfold intsQ
  refine List.Pairwise.map _ (fun a b hab => ?_) h
  intro e
  exact hab (by exact_mod_cast e)
theorem mem_pages {q : List Nat} {x : Int} : x ∈ sortI (intsQ q) ↔ ∃ a ∈ q, ((a : Nat) : Int) = x := by
  rw [mem_sortI]; simp [intsQ]
theorem len_insI (x : Int) (l : List Int) : (insI x l).length = l.length + 1 := by
  induction l with
  | nil => rfl
  | cons a l ih => unfold insI; split <;> simp [ih]
theorem len_sortI : ∀ l : List Int, (sortI l).length = l.length
  | [] => rfl
  | a :: l => by rw [show sortI (a :: l) = insI a (sortI l) from rfl, len_insI, len_sortI l]; rfl
/-- What is asked of one act: the pages ahead, what is told, the pages behind. -/
structure StepOK (room : Int) (m : Mem) (t : Tree) (w' : List KV) (r : Pt) (was is_ : List Int) : Prop where
  pw : pagesN m t = (was, 0)
  pi : pagesN r.m r.t = (is_, 0)
  e : r.e = 0
  rf : r.gone.Pairwise (· < ·)
  ri : is_.Pairwise (· < ·)
  few : (is_.length : Int) ≤ mostN w' room
  deep : r.t.deep ≤ (deepN w'.length : Int)
  empty : w' = [] → r.t = tree0
  a1 : ∀ x ∈ r.gone, x ∈ was ∧ x ∉ is_
  a2 : ∀ x ∈ was, x ∈ is_ ∨ x ∈ r.gone
  a3 : ∀ x ∈ is_, x ∈ was ∨ (m.pages.length : Int) < x
theorem At.stepOK {room : Int} {i : Nat} {m : Mem} {t : Tree} {w : List KV} (h : At room 1048576 i m t w) (hr : 480 ≤ room) (hi : i ≤ 1000) (hp : m.pages.length ≤ 1000000) {a : Ac} (ha : rightA a = true) :
    ∃ was is_, StepOK room m t (modelK w a) (doesN m t a) was is_ ∧ At room 1048576 (i + 1) (doesN m t a).m (doesN m t a).t (modelK w a) ∧ (doesN m t a).m.pages.length ≤ m.pages.length + 300 ∧ Gr m (doesN m t a).m := by
  obtain ⟨q, hst, hnd⟩ := h.st
  have hres := doesN_res h hr (Int.le_refl _) hi ha hst hnd
  have hstep := (h.step hr (Int.le_refl _) hi ha).resolve_right (fun x => by have := x.2.2.2.2; omega)
  obtain ⟨he, hA2, hp2, hg2, _⟩ := hstep
  cases hres with
  | full he5 _ _ _ _ => omega
  | done he' gr hp' q' hst' hnd' hrr a1 a2 a3 a4 =>
    have hsz : (doesN m t a).m.size = room := hA2.size
    refine ⟨sortI (intsQ q), sortI (intsQ q'), ⟨pagesN_ok hst h.srt hnd (by rw [h.size]; exact hr), pagesN_ok hst' hA2.srt hnd' (by rw [hsz]; exact hr), he, hrr, sortI_lt (intsQ_nodup hnd'), ?_, hst'.deep.1, hst'.deep.2, fun x hx => ?_, fun x hx => ?_, fun x hx => ?_⟩, hA2, hp2, hg2⟩
    · rw [len_sortI]
      have := hst'.few (by rw [hsz]; exact hr)
      rw [hsz] at this
      simpa [intsQ] using this
    · obtain ⟨n, h1, h2, h3⟩ := a1 x hx
      refine ⟨mem_pages.2 ⟨n, h1, h2⟩, fun hm => ?_⟩
      obtain ⟨n', h4, h5⟩ := mem_pages.1 hm
      have : n' = n := by omega
      subst this
      exact h3 h4
    · obtain ⟨n, h1, h2⟩ := mem_pages.1 hx
      rcases a2 n h1 with h3 | h3
      · exact .inl (mem_pages.2 ⟨n, h3, h2⟩)
      · rw [h2] at h3; exact .inr h3
    · obtain ⟨n, h1, h2⟩ := mem_pages.1 hx
      rcases a3 n h1 with h3 | h3
      · exact .inl (mem_pages.2 ⟨n, h3, h2⟩)
      · right; omega
end Go.KX
