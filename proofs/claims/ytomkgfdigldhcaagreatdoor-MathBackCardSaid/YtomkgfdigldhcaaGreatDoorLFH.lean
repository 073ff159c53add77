/- ZH YH YI YJ YK YL YM YN YO EA EE EB EF XT PX WA. -/
import Derived.Test.YtomkgfdigldhcaaGreatDoorLFG
import Derived.Test.YtomkgfdigldhcaaGreatDoorProg
import Derived.KernelRfl
import Derived.Laws.Bits64b
namespace Go.KX
/-- A text in brackets. -/
abbrev brk (s : Bytes) : Bytes := 32 :: 40 :: (s ++ [41, 32])
abbrev kE : Bytes := [41, 32]
section
variable {s : Bytes}
/-- The same place, two further. -/
def Sh (p p' : Ps) : Prop := p'.dead = false ∧ p'.i = p.i + 2
/-- In brackets it goes likewise, or it nests too deep. -/
def ShR (s : Bytes) (f g : Ps → Ex × Ps) : Prop := ∀ p p', p.i ≤ s.length → p.dead = false → Sh p p' → (f p).2.dead = false → Dd (g p').2 ∨ ((g p').1 = (f p).1 ∧ Sh (f p).2 (g p').2)
theorem brk_drop {i : Nat} (h : i ≤ s.length) : (brk s).drop (i + 2) = s.drop i ++ kE := by
  show (s ++ kE).drop i = _
  rw [List.drop_append_of_le_length h]
theorem sh_at {p p' : Ps} (hi : p.i ≤ s.length) (h : Sh p p') : At (brk s) (s.drop p.i ++ kE) p' := ⟨h.1, by rw [h.2]; exact brk_drop hi⟩
theorem strip_ext (R : Bytes) : strip (R ++ kE) = strip R ++ kE ∧ runB [32] (R ++ kE) = runB [32] R := by
  have e : runB [32] (R ++ kE) = runB [32] R := runB_ext (by decide) R
  refine ⟨?_, e⟩
  unfold strip
  rw [e, List.drop_append_of_le_length (runB_le _ _)]
theorem first_ext {R : Bytes} (h : R ≠ []) : firstSign (R ++ kE) = firstSign R := by
  have key : ∀ x ∈ signsT, Lib.hasPrefix (R ++ kE) x = Lib.hasPrefix R x := by
    intro x hx
    simp only [signsT, List.mem_cons, List.not_mem_nil, or_false] at hx
    match R, h with
    | [c], _ => rcases hx with rfl | rfl | rfl | rfl | rfl | rfl | rfl | rfl | rfl | rfl | rfl | rfl | rfl | rfl | rfl <;> simp [Lib.hasPrefix, List.isPrefixOf]
    | c :: d :: r, _ => rcases hx with rfl | rfl | rfl | rfl | rfl | rfl | rfl | rfl | rfl | rfl | rfl | rfl | rfl | rfl | rfl <;> simp [Lib.hasPrefix, List.isPrefixOf]
  unfold firstSign
  have : ∀ l : List Bytes, (∀ x ∈ l, Lib.hasPrefix (R ++ kE) x = Lib.hasPrefix R x) → l.find? (fun x => Lib.hasPrefix (R ++ kE) x) = l.find? (fun x => Lib.hasPrefix R x) := by
    intro l
    induction l with
    | nil => intro _; rfl
    | cons a l ih =>
      intro hl
      rw [List.find?_cons, List.find?_cons, hl a (.head _), ih (fun x hx => hl x (.tail _ hx))]
  exact this _ key
theorem sh_rest {p p' : Ps} (hi : p.i ≤ s.length) (hd : p.dead = false) (h : Sh p p') : Sh (p.restP s) (p'.restP (brk s)) ∧ p'.restT (brk s) = p.restT s ++ kE := by
  have ha := sh_at hi h
  have hp : At s (s.drop p.i) p := ⟨hd, rfl⟩
  have e := strip_ext (s.drop p.i)
  refine ⟨⟨ha.rest.1, ?_⟩, by rw [ha.restT, hp.restT, e.1]⟩
  unfold Ps.restP
  rw [if_neg (by simp [h.1]), if_neg (by simp [hd])]
  simp only
  rw [ha.2, e.2, h.2]
  omega
theorem sh_take {l : List Bytes} {p p' : Ps} (hi : p.i ≤ s.length) (hd : p.dead = false) (h : Sh p p') (hl : oPR ∉ l ∨ p.restT s ≠ []) : takeT (brk s) l p' = takeT s l p ∧ Sh (takeP s l p) (takeP (brk s) l p') := by
  obtain ⟨h1, h2⟩ := sh_rest hi hd h
  have ht : takeT (brk s) l p' = takeT s l p := by
    unfold takeT
    rw [h2]
    by_cases hr : p.restT s = []
    · rw [hr]
      have : firstSign ([] ++ kE) = some oPR := first_cl _
      rw [this, first_nil]
      rcases hl with hl | hl
      · simp only
        rw [if_neg hl]
      · exact absurd hr hl
    · rw [first_ext hr]
      first | done | (cases firstSign (p.restT s) <;> rfl)
  refine ⟨ht, ?_⟩
  unfold takeP
  rw [ht]
  cases takeT s l p with
  | none => exact h1
  | some x => exact ⟨h1.1, by simp only; rw [h1.2]; omega⟩
theorem must_alive {x : Bytes} {p : Ps} (h : (mustP s x p).dead = false) : (∃ o, takeT s [x] p = some o) ∧ mustP s x p = takeP s [x] p := by
  unfold mustP at h ⊢
  cases ht : takeT s [x] p with
  | some o => exact ⟨⟨o, rfl⟩, rfl⟩
  | none => rw [ht] at h; simp only [fails_dead] at h; cases h
theorem sh_must {x : Bytes} {p p' : Ps} (hi : p.i ≤ s.length) (h : Sh p p') (ha : (mustP s x p).dead = false) : Sh (mustP s x p) (mustP (brk s) x p') := by
  have hd := alive (gone_must x p) ha
  obtain ⟨⟨o, h1⟩, h2⟩ := must_alive ha
  have hr : p.restT s ≠ [] := by
    intro hr
    unfold takeT at h1
    rw [hr, first_nil] at h1
    cases h1
  obtain ⟨h3, h4⟩ := sh_take (l := [x]) hi hd h (.inr hr)
  rw [h2]
  unfold mustP
  rw [h3, h1]
  exact h4
theorem sh_enter {d : Nat} {p p' : Ps} (hi : p.i ≤ s.length) (h : Sh p p') (ha : (enterP s d p).dead = false) : Dd (enterP (brk s) (d + 1) p') ∨ Sh (enterP s d p) (enterP (brk s) (d + 1) p') := by
  have hd := alive (gone_enter d p) ha
  have hn : ¬ 32 < d := by
    intro hn
    unfold enterP at ha
    rw [if_pos hn, fails_dead] at ha
    cases ha
  obtain ⟨h1, _⟩ := sh_rest hi hd h
  by_cases hn2 : 32 < d + 1
  · refine .inl ?_
    unfold enterP Ps.fails
    rw [if_pos hn2, if_neg (by rw [h1.1]; simp)]
    exact ⟨rfl, rfl⟩
  · refine .inr ?_
    unfold enterP
    rw [if_neg hn, if_neg hn2]
    exact h1
theorem sh_loop {f g : Ps → Ex × Ps} (hf : ShR s f g) (hfit : Fit s f) (hgf : ∀ p, Gone p (f p).2) {ops : List Bytes} (hop : oPR ∉ ops) {al : Bool} : ∀ (n n' : Nat) (x : Ex) (p p' : Ps), s.length < n + p.i → (brk s).length < n' + p'.i → p.i ≤ s.length → p.dead = false → Sh p p' → (loopG (tkX s) f ops al n x p).2.dead = false →
    Dd (loopG (tkX (brk s)) g ops al n' x p').2 ∨ ((loopG (tkX (brk s)) g ops al n' x p').1 = (loopG (tkX s) f ops al n x p).1 ∧ Sh (loopG (tkX s) f ops al n x p).2 (loopG (tkX (brk s)) g ops al n' x p').2)
  | 0, _, _, p, _, hn, _, hi, _, _, _ => by omega
  | n + 1, 0, _, p, p', _, hn', hi, _, h, _ => by
    have := h.2
    have hl : (brk s).length = s.length + 4 := by simp
    omega
  | n + 1, n' + 1, x, p, p', hn, hn', hi, hd, h, ha => by
    obtain ⟨h1, h2⟩ := sh_take (l := ops) hi hd h (.inl hop)
    cases ht : takeT s ops p with
    | none =>
      rw [loop_none ht, loop_none (h1.trans ht)]
      exact .inr ⟨rfl, h2⟩
    | some o =>
      have hk := take_fit (l := ops) hi
      have hm := take_more ht
      have hk' := take_more (h1.trans ht)
      have hdk : (takeP s ops p).dead = false := by
        unfold takeP
        rw [ht]
        exact (restP_dead s p).trans hd
      cases al with
      | true =>
        rw [loop_alone ht] at ha ⊢
        rw [loop_alone (h1.trans ht)]
        rcases hf _ _ hk.2 hdk h2 ha with g1 | ⟨g1, g2⟩
        · exact .inl g1
        · exact .inr ⟨by rw [g1], g2⟩
      | false =>
        rw [loop_more ht] at ha ⊢
        rw [loop_more (h1.trans ht)]
        have ha2 := alive (gone_loop n _ _) ha
        have hft := hfit _ hk.2
        rcases hf _ _ hk.2 hdk h2 ha2 with g1 | ⟨g1, g2⟩
        · exact .inl (loop_d g1 _ _ _ _)
        · rw [g1]
          have e1 := g2.2
          have e2 := h2.2
          have e3 := h.2
          exact sh_loop hf hfit hgf hop n n' _ _ _ (by omega) (by omega) hft.2 ha2 g2 ha
theorem sh_lev {f g : Ps → Ex × Ps} (hf : ShR s f g) (hfit : Fit s f) (hgf : ∀ p, Gone p (f p).2) : ∀ n, n ≤ 5 → ShR s (levX s f n) (levX (brk s) g n)
  | 0, _ => hf
  | n + 1, hn => fun p p' hi hd h ha => by
    have hl : (brk s).length = s.length + 4 := by simp
    have ha2 : (levX s f n p).2.dead = false := alive (gone_loop _ _ _) ha
    have hft := lev_fit hfit n p hi
    rcases sh_lev hf hfit hgf n (by omega) p p' hi hd h ha2 with g1 | ⟨g1, g2⟩
    · exact .inl (loop_d g1 _ _ _ _)
    · have e1 := g2.2
      have hh := sh_loop (sh_lev hf hfit hgf n (by omega)) (lev_fit hfit n) (gone_lev hgf n) (pr_no n (by omega)) (al := n == 2) (s.length + 1) ((brk s).length + 1) (levX s f n p).1 (levX s f n p).2 (levX (brk s) g n p').2 (by omega) (by omega) hft.2 ha2 g2 ha
      show Dd (loopG (tkX (brk s)) (levX (brk s) g n) (levelsT.getD (4 - n) []) (n == 2) ((brk s).length + 1) (levX (brk s) g n p').1 (levX (brk s) g n p').2).2 ∨ ((loopG (tkX (brk s)) (levX (brk s) g n) (levelsT.getD (4 - n) []) (n == 2) ((brk s).length + 1) (levX (brk s) g n p').1 (levX (brk s) g n p').2).1 = (loopG (tkX s) (levX s f n) (levelsT.getD (4 - n) []) (n == 2) (s.length + 1) (levX s f n p).1 (levX s f n p).2).1 ∧ Sh (loopG (tkX s) (levX s f n) (levelsT.getD (4 - n) []) (n == 2) (s.length + 1) (levX s f n p).1 (levX s f n p).2).2 (loopG (tkX (brk s)) (levX (brk s) g n) (levelsT.getD (4 - n) []) (n == 2) ((brk s).length + 1) (levX (brk s) g n p').1 (levX (brk s) g n p').2).2)
      rw [g1]
      exact hh
theorem sh_expr {f g : Ps → Ex × Ps} (hf : ShR s f g) (hfit : Fit s f) (hgf : ∀ p, Gone p (f p).2) (hgg : ∀ p, Gone p (g p).2) (d : Nat) : ShR s (exprX s f d) (exprX (brk s) g (d + 1)) := fun p p' hi hd h ha => by
  have ha2 : (enterP s d p).dead = false := alive (gone_lev hgf 5 _) ha
  rcases sh_enter hi h ha2 with g1 | g1
  · exact .inl (g1.gone (gone_lev hgg 5 _))
  · exact sh_lev hf hfit hgf 5 (Nat.le_refl _) _ _ (enter_fit hi).2 ha2 g1 ha
theorem sh_par {f g : Ps → Ex × Ps} (hf : ShR s f g) (hfit : Fit s f) {p p' : Ps} (hi : p.i ≤ s.length) (hd : p.dead = false) (h : Sh p p') (ha : (parX s f p).2.dead = false) : Dd (parX (brk s) g p').2 ∨ ((parX (brk s) g p').1 = (parX s f p).1 ∧ Sh (parX s f p).2 (parX (brk s) g p').2) := by
  have ha2 : (f p).2.dead = false := alive (gone_must oPR _) ha
  rcases hf p p' hi hd h ha2 with g1 | ⟨g1, g2⟩
  · exact .inl (g1.gone (gone_must _ _))
  · exact .inr ⟨g1, sh_must (hfit p hi).2 g2 ha⟩
theorem numLen_ext (R : Bytes) : numLen (R ++ kE) = numLen R := by
  have e : runB gDig (R ++ kE) = runB gDig R := runB_ext (by decide) R
  have hle := runB_le gDig R
  unfold numLen
  rw [e]
  generalize runB gDig R = n at hle
  by_cases h1 : n + 1 < R.length
  · have e2 : (R ++ kE).getD n 0 = R.getD n 0 := by
      rw [List.getD_eq_getElem?_getD, List.getD_eq_getElem?_getD, List.getElem?_append_left (by omega)]
    have e3 : runB gDig ((R ++ kE).drop (n + 1)) = runB gDig (R.drop (n + 1)) := by
      rw [List.drop_append_of_le_length (by omega)]
      exact runB_ext (by decide) _
    rw [e2, e3]
    simp only [List.length_append, List.length_cons, List.length_nil, h1, true_and, show n + 1 < R.length + (0 + 1 + 1) from by omega]
  · have hne : ¬ (n + 1 < (R ++ kE).length ∧ (R ++ kE).getD n 0 = 46 ∧ 0 < runB gDig ((R ++ kE).drop (n + 1))) := ?_
    · rw [if_neg hne, if_neg (fun h => h1 h.1)]
    rintro ⟨g1, g2, g3⟩
    by_cases h2 : n = R.length
    · subst h2
      rw [List.getD_eq_getElem?_getD, List.getElem?_append_right (Nat.le_refl _)] at g2
      simp at g2
    · have : n + 1 = R.length := by omega
      rw [this, List.drop_left] at g3
      exact absurd g3 (by decide)
theorem sh_move {p p' : Ps} (h : Sh p p') {n m : Nat} (e : n = m) : Sh { p with i := p.i + n } { p' with i := p'.i + m } := ⟨h.1, by simp only; rw [h.2]; omega⟩
theorem sh_prim {f g : Ps → Ex × Ps} (hf : ShR s f g) (hfit : Fit s f) (hgf : ∀ p, Gone p (f p).2) : ShR s (primX parseV s f) (primX parseV (brk s) g) := fun p p' hi hd h ha => by
  obtain ⟨h1, h2⟩ := sh_rest hi hd h
  have hri := rest_le (s := s) hi
  have hrl := restT_len (s := s) hi
  cases hr : p.restT s with
  | nil => rw [prim_nil hd hr] at ha; simp only [fails_dead] at ha; cases ha
  | cons c r =>
    rw [hr] at h2 hrl
    simp only [List.length_cons] at hrl
    have h2' : p'.restT (brk s) = c :: (r ++ kE) := h2
    rw [prim_cons hd hr] at ha ⊢
    rw [prim_cons h.1 h2']
    have hrd : (p.restP s).dead = false := (restP_dead s p).trans hd
    split
    · rename_i hc; rw [if_pos hc] at ha
      exact sh_par hf hfit (by show (p.restP s).i + 1 ≤ _; omega) hrd (sh_move h1 rfl) ha
    rename_i h40; rw [if_neg h40] at ha
    split
    · rename_i hc; rw [if_pos hc] at ha
      have e : ((c :: (r ++ kE)).drop 1).take (runB gLD ((c :: (r ++ kE)).drop 1)) = ((c :: r).drop 1).take (runB gLD ((c :: r).drop 1)) := by
        show (r ++ kE).take (runB gLD (r ++ kE)) = r.take (runB gLD r)
        rw [runB_ext (by decide), List.take_append_of_le_length (runB_le _ _)]
      unfold refX at ha ⊢
      simp only at ha ⊢
      rw [e]
      by_cases hb : refB (((c :: r).drop 1).take (runB gLD ((c :: r).drop 1))) = true
      · rw [if_pos hb, if_pos hb]
        exact .inr ⟨rfl, sh_move h1 rfl⟩
      · rw [if_neg hb] at ha; rw [fails_dead] at ha; cases ha
    rename_i h36; rw [if_neg h36] at ha
    split
    · rename_i hc; rw [if_pos hc] at ha
      have e0 : numLen (c :: (r ++ kE)) = numLen (c :: r) := numLen_ext (c :: r)
      have e : (c :: (r ++ kE)).take (numLen (c :: (r ++ kE))) = (c :: r).take (numLen (c :: r)) := by
        rw [e0]
        show (c :: r ++ kE).take _ = _
        rw [List.take_append_of_le_length (numLen_le _)]
      unfold numberX at ha ⊢
      simp only at ha ⊢
      rw [e, e0]
      by_cases hb : (parseV ((c :: r).take (numLen (c :: r)))).2 = 0
      · rw [if_pos hb, if_pos hb]
        exact .inr ⟨rfl, sh_move h1 rfl⟩
      · rw [if_neg hb] at ha; rw [fails_dead] at ha; cases ha
    rename_i hdg; rw [if_neg hdg] at ha
    split
    · rename_i hc; rw [if_pos hc] at ha
      have e : (c :: (r ++ kE)).take (runB gLD (c :: (r ++ kE))) = (c :: r).take (runB gLD (c :: r)) := by
        show (c :: r ++ kE).take (runB gLD (c :: r ++ kE)) = _
        rw [runB_ext (by decide), List.take_append_of_le_length (runB_le _ _)]
      have hwl := runB_le gLD (c :: r)
      simp only [List.length_cons] at hwl
      unfold wordX at ha ⊢
      simp only at ha ⊢
      rw [e]
      generalize hw : (c :: r).take (runB gLD (c :: r)) = w at ha ⊢
      have hwl2 : w.length ≤ r.length + 1 := by rw [← hw, List.length_take]; simp only [List.length_cons]; omega
      have hm := sh_move h1 (n := w.length) rfl
      split
      · exact .inr ⟨rfl, hm⟩
      rename_i w1; rw [if_neg w1] at ha
      split
      · exact .inr ⟨rfl, hm⟩
      rename_i w2; rw [if_neg w2] at ha
      split
      · exact .inr ⟨rfl, hm⟩
      rename_i w3; rw [if_neg w3] at ha
      by_cases hb : functionB w = true
      · rw [if_pos hb] at ha
        rw [if_pos hb, if_pos hb]
        have a2 := alive (gone_must oPR _) ha
        have a3 := alive (hgf _) a2
        have hmi : ({ p.restP s with i := (p.restP s).i + w.length } : Ps).i ≤ s.length := by show (p.restP s).i + w.length ≤ _; omega
        have hmu := sh_must hmi hm a3
        rcases sh_par hf hfit (must_fit (x := oPL) hmi).2 a3 hmu ha with g1 | ⟨g1, g2⟩
        · exact .inl g1
        · exact .inr ⟨by rw [g1], g2⟩
      · rw [if_neg hb] at ha
        have a2 := alive (gone_must oPR _) ha
        have a3 := alive (gone_must oPL _) (alive (hgf _) a2)
        rw [fails_dead] at a3; cases a3
    · rename_i hc; rw [if_neg hc] at ha
      simp only [fails_dead] at ha; cases ha
theorem sh_un : ∀ d, d ≤ 32 → ShR s (unX parseV s (d + 1)) (unX parseV (brk s) d)
  | 0, _ => fun p p' hi hd h ha => by
    refine .inl (Dd.gone (p := enterP (brk s) 33 p') ?_ ((gone_take [oSub, oNot] (enterP (brk s) 33 p')).trans (gone_prim (pv := parseV) (s := brk s) (fun q => (ex0, q)) _)))
    unfold enterP Ps.fails
    rw [if_pos (by decide), if_neg (by rw [restP_dead, h.1]; simp)]
    exact ⟨rfl, rfl⟩
  | d + 1, hle => fun p p' hi hd h ha => by
    have he : enterP s (32 - (d + 1)) p = p.restP s := by unfold enterP; rw [if_neg (by omega)]
    have he' : enterP (brk s) (32 - d) p' = p'.restP (brk s) := by unfold enterP; rw [if_neg (by omega)]
    obtain ⟨h1, _⟩ := sh_rest hi hd h
    have hrd : (p.restP s).dead = false := (restP_dead s p).trans hd
    obtain ⟨h2, h3⟩ := sh_take (l := [oSub, oNot]) (rest_le (s := s) hi) hrd h1 (.inl (by decide))
    have hft := (take_fit (l := [oSub, oNot]) (rest_le (s := s) hi)).2
    cases ht : takeT s [oSub, oNot] (p.restP s) with
    | some o =>
      have u1 := un_some (pv := parseV) (s := s) (p := p) (d := d + 1) (by rw [he]; exact ht)
      have u2 := un_some (pv := parseV) (s := brk s) (p := p') (d := d) (by rw [he']; exact h2.trans ht)
      rw [he] at u1
      rw [he'] at u2
      rw [u1] at ha ⊢
      rw [u2]
      have hdk : (takeP s [oSub, oNot] (p.restP s)).dead = false := by
        unfold takeP
        rw [ht]
        exact (restP_dead s _).trans hrd
      rcases sh_un d (by omega) _ _ hft hdk h3 ha with g1 | ⟨g1, g2⟩
      · exact .inl g1
      · exact .inr ⟨by rw [g1], g2⟩
    | none =>
      have u1 := un_none (pv := parseV) (s := s) (p := p) (d := d + 1) (by rw [he]; exact ht)
      have u2 := un_none (pv := parseV) (s := brk s) (p := p') (d := d) (by rw [he']; exact h2.trans ht)
      rw [he] at u1
      rw [he'] at u2
      rw [u1] at ha ⊢
      rw [u2]
      have hdk : (takeP s [oSub, oNot] (p.restP s)).dead = false := by
        unfold takeP
        rw [ht]
        exact (restP_dead s _).trans hrd
      rw [show 33 - d = 33 - (d + 1) + 1 by omega]
      exact sh_prim (sh_expr (sh_un d (by omega)) (un_fit _) (gone_un _) (gone_un _) _) (expr_fit (un_fit _) _) (gone_expr (gone_un _) _) _ _ hft hdk h3 ha
/-- In brackets, with blanks around, it is the same, or it nests too deep. -/
theorem parse_brk (h : (parseX parseV s).2.1 = 0) (hl : s.length ≤ 1020) : (parseX parseV (brk s)).2.1 = 111 ∨ parseX parseV (brk s) = ((parseX parseV s).1, 0, 0) := by
  obtain ⟨_, h1, h2, h3⟩ := parse_open h
  rw [h1]
  simp only
  have hlen : (brk s).length = s.length + 4 := by simp
  have hun : ShR s (unX parseV s 33) (unX parseV (brk s) 32) := sh_un (s := s) 32 (Nat.le_refl _)
  have hS0 : ShR s (exprX s (unX parseV s 33) 0) (exprX (brk s) (unX parseV (brk s) 32) (0 + 1)) := sh_expr (s := s) hun (un_fit 33) (gone_un 33) (gone_un (s := brk s) 32) 0
  have hS : ∀ p', Sh ⟨0, 0, 0, false⟩ p' → Dd (exprX (brk s) (unX parseV (brk s) 32) (33 - 32) p').2 ∨ ((exprX (brk s) (unX parseV (brk s) 32) (33 - 32) p').1 = (exprX s (unX parseV s 33) 0 ⟨0, 0, 0, false⟩).1 ∧ Sh (exprX s (unX parseV s 33) 0 ⟨0, 0, 0, false⟩).2 (exprX (brk s) (unX parseV (brk s) 32) (33 - 32) p').2) := fun p' hsh => hS0 ⟨0, 0, 0, false⟩ p' (Nat.zero_le _) rfl hsh h2
  have hfi := (expr_fit (s := s) (un_fit (pv := parseV) 33) 0 ⟨0, 0, 0, false⟩ (Nat.zero_le _)).2
  clear h1 hS0 hun h
  generalize exprX s (unX parseV s 33) 0 ⟨0, 0, 0, false⟩ = A at h2 h3 hfi hS ⊢
  have hG : Got (brk s) (unX parseV (brk s) 33) (40 :: (s ++ [41])) A.1 [32] := by
    have hform : 40 :: (s ++ [41]) ++ [32] = 40 :: (s ++ kE) := by simp
    refine got_unS (d := 32) (fun o' ho' => ?_) (by rw [hform]; exact strip_one (by decide)) (fun p hp => ?_)
    · rw [hform, strip_one (by decide), first_par] at ho'
      cases ho'
      decide
    · have hp' := hp.i hform
      rw [prim_at hp' (by decide), if_pos rfl]
      have hm := ((hp'.rest1 (by decide)).move 1).i (show _ = s ++ kE from rfl)
      have hi2 : (p.restP (brk s)).i + 1 = 2 := by
        have hlen2 := congrArg List.length hm.2
        simp only [List.length_drop, List.length_append, hlen, List.length_cons, List.length_nil] at hlen2
        omega
      have hsh : Sh ⟨0, 0, 0, false⟩ { p.restP (brk s) with i := (p.restP (brk s)).i + 1 } := ⟨hm.1, by simp only; omega⟩
      rcases hS _ hsh with g1 | ⟨g1, g2⟩
      · exact .inl (g1.gone (gone_must _ _))
      · refine .inr ⟨g1, [32], ?_, rfl⟩
        have ha := sh_at hfi g2
        have hst : strip (s.drop A.2.i ++ kE) = kE := by
          rw [(strip_ext _).1]
          have hp3 : At s (s.drop A.2.i) A.2 := ⟨h2, rfl⟩
          rw [← hp3.restT, h3]
          rfl
        obtain ⟨t1, t2⟩ := ha.sm (l := [oPR]) (by rw [hst]; exact first_cl _) (by simp)
        unfold parX mustP
        simp only
        rw [t1]
        exact t2.i (by rw [hst]; rfl)
  have h5 := got_upto (n := 0) hG 5 (fun j _ hj o ho => by
    rw [show strip [32] = [] from rfl, first_nil] at ho
    cases ho)
  have hfin := got_expr (d := 0) h5 (gone_un 33) (by
    rw [show 40 :: (s ++ [41]) ++ [32] = 40 :: (s ++ kE) by simp]
    exact strip_one (by decide))
  have h0 : At (brk s) (brk s) ⟨0, 0, 0, false⟩ := ⟨rfl, rfl⟩
  rcases hfin _ _ h0 (by rw [show (brk s) = 32 :: (40 :: (s ++ kE)) from rfl, strip_sp, strip_one (by decide)]; simp) with g1 | ⟨g1, R', g2, g3⟩
  · exact parse_shut (R := []) (by omega) (.inl g1)
  · exact parse_shut (R := R') (by omega) (.inr ⟨g1, g2, g3⟩)
end
end Go.KX
namespace Go.KX
structure Nd where
  ref : Bytes
  kind : Int
  source : Bytes
  input : Bytes
  how : Bytes
  strict : Bool
  low : Val
  high : Val
  text : Bytes
  deriving DecidableEq
def inputsN (n : Nd) : List Bytes := if n.kind = 2 then [n.input] else if n.kind = 4 then [n.input] else if n.kind = 3 then (if (parseX parseV n.text).2.1 = 0 then refsX (parseX parseV n.text).1 else []) else []
def boundV (v : Val) : Bool := isV v && decide (v.k ≠ 2) && decide (v.k ≠ 3)
abbrev hGt : Bytes := [103, 116]
abbrev hLt : Bytes := [108, 116]
abbrev hIn : Bytes := [105, 110]
abbrev hOut : Bytes := [111, 117, 116]
abbrev hCount : Bytes := [99, 111, 117, 110, 116]
def hows : List Bytes := [[108, 97, 115, 116], [109, 105, 110], [109, 97, 120], [115, 117, 109], [109, 101, 97, 110], hCount]
def plainN (n : Nd) : Nd :=
  if n.kind = 1 then ⟨n.ref, n.kind, n.source, [], [], false, zeroV, zeroV, []⟩ else
  if n.kind = 2 then ⟨n.ref, n.kind, [], n.input, n.how, n.strict, zeroV, zeroV, []⟩ else
  if n.kind = 3 then ⟨n.ref, n.kind, [], [], [], false, zeroV, zeroV, n.text⟩ else
  if n.kind = 4 then (if n.how = hIn ∨ n.how = hOut then ⟨n.ref, n.kind, [], n.input, n.how, false, n.low, n.high, []⟩ else ⟨n.ref, n.kind, [], n.input, n.how, false, n.low, zeroV, []⟩) else
  ⟨n.ref, n.kind, [], [], [], false, zeroV, zeroV, []⟩
def isK (n : Nd) : Bool :=
  if n.kind = 1 then decide (n.source ≠ []) && decide (n.source.length ≤ 64) else
  if n.kind = 2 then decide (n.how ∈ hows) else
  if n.kind = 3 then decide ((parseX parseV n.text).2.1 = 0) else
  if n.kind = 4 then (if n.how = hGt ∨ n.how = hLt then boundV n.low else if n.how = hIn ∨ n.how = hOut then boundV n.low && boundV n.high else false) else false
def isN (n : Nd) : Bool := if (!refB n.ref || !decide (n = plainN n)) = true then false else isK n
end Go.KX
namespace Go.KX
/-- byRef's map. -/
def byR (l : List Nd) : List (Bytes × Nd) := l.foldl (fun m n => mset m n.ref n) []
def okN (l : List Nd) : Bool := decide ((byR l).length = l.length)
section
variable {α β γ : Type} [DecidableEq α]
theorem mset_new {m : List (α × β)} {q : α} {v : β} (h : q ∉ m.map (·.1)) : mset m q v = m ++ [(q, v)] := by
  induction m with
  | nil => rfl
  | cons p r ih =>
    simp only [List.map_cons, List.mem_cons, not_or] at h
    simp only [mset, if_neg h.1, ih h.2, List.cons_append]
end
theorem okN_of {l : List Nd} (h : (l.map (·.ref)).Nodup) : okN l = true := by
  have key : ∀ (l : List Nd) (m : List (Bytes × Nd)), (l.map (·.ref)).Nodup → (∀ n ∈ l, n.ref ∉ m.map (·.1)) → (l.foldl (fun m n => mset m n.ref n) m).length = m.length + l.length := by
    intro l
    induction l with
    | nil => intro m _ _; simp
    | cons n l ih =>
      intro m h hm
      simp only [List.map_cons, List.nodup_cons] at h
      have hn := mset_new (v := n) (hm n (.head _))
      simp only [List.foldl_cons]
      rw [ih _ h.2 (fun x hx => ?_), hn]
      · simp; omega
      · rw [hn]
        simp only [List.map_append, List.mem_append, not_or]
        refine ⟨hm x (.tail _ hx), ?_⟩
        simp only [List.map_cons, List.map_nil, List.mem_singleton]
        intro e
        exact h.1 (List.mem_map.2 ⟨x, hx, e⟩)
  have := key l [] h (fun _ _ => by simp)
  exact decide_eq_true (by simpa [byR] using this)
def readyN (out : List Bytes) (n : Nd) : Bool := (inputsN n).all fun i => decide (i ∈ out)
abbrev gtB (a b : Bytes) : Bool := !(blt a b || decide (a = b))
def stepB (out : List Bytes) (s : Bytes × Bool) (n : Nd) : Bytes × Bool := if (s.2 && gtB n.ref s.1) = true then s else if readyN out n = true then (n.ref, true) else s
def bestL (out : List Bytes) (l : List Nd) : Bytes × Bool := l.foldl (stepB out) ([], false)
theorem blt_irrefl : ∀ a : Bytes, blt a a = false
  | [] => rfl
  | x :: a => by
    have ih := blt_irrefl a
    unfold blt at ih ⊢
    simp [Op.bytesLess, ih]
theorem blt_ne {a b : Bytes} (h : blt a b = true) : a ≠ b := fun e => by subst e; rw [blt_irrefl] at h; cases h
theorem nodup_sub {α : Type} [DecidableEq α] : ∀ {js l : List α}, js.Nodup → (∀ i ∈ js, i ∈ l) → js.length ≤ l.length
  | [], _, _, _ => by simp
  | a :: js, l, h, h2 => by
    rw [List.nodup_cons] at h
    have ha := h2 a (.head _)
    have := nodup_sub (l := l.erase a) h.2 (fun i hi => by
      have hne : i ≠ a := by rintro rfl; exact h.1 hi
      exact (List.mem_erase_of_ne hne).2 (h2 i (.tail _ hi)))
    rw [List.length_erase_of_mem ha] at this
    have := List.length_pos_of_mem ha
    simp only [List.length_cons]
    omega
def orderL : Nat → List Bytes → List Nd → List Bytes × Int
  | 0, out, _ => (out, 0)
  | f + 1, out, left => if (bestL out left).2 = false then ([], 121) else orderL f (out ++ [(bestL out left).1]) (left.filter fun n => decide (n.ref ≠ (bestL out left).1))
def orderN (l : List Nd) : List Bytes × Int := if okN l = false then ([], 8) else orderL l.length [] l
end Go.KX
namespace Go.KX
def findN (l : List Nd) (q : Bytes) : Option Nd := l.find? fun n => decide (n.ref = q)
theorem findN_some {l : List Nd} {q : Bytes} {n : Nd} (h : findN l q = some n) : n ∈ l ∧ n.ref = q :=
  ⟨List.mem_of_find?_eq_some h, by have := List.find?_some h; simpa using this⟩
def needL (l : List Nd) : Nat → List Bytes → List Bytes → List Bytes
  | 0, _, out => out
  | _ + 1, [], out => out
  | f + 1, q :: t, out => match findN l q with
    | none => needL l f t out
    | some n => if n.ref ∈ out then needL l f t out else needL l f (t ++ inputsN n) (out ++ [n.ref])
def muN (l : List Nd) (todo out : List Bytes) : Nat := (l.length - out.length) * 3000 + todo.length
structure NI (l : List Nd) (out : List Bytes) : Prop where
  nd : out.Nodup
  sub : ∀ r ∈ out, r ∈ l.map (·.ref)
theorem NI.le {l : List Nd} {out : List Bytes} (h : NI l out) : out.length ≤ l.length := by
  have := nodup_sub h.nd h.sub
  simpa using this
theorem NI.step {l : List Nd} {out : List Bytes} (h : NI l out) {q : Bytes} {n : Nd} (hf : findN l q = some n) (hn : n.ref ∉ out) : NI l (out ++ [n.ref]) := by
  refine ⟨List.nodup_append.2 ⟨h.nd, by simp, fun a ha b hb => ?_⟩, fun r hr => ?_⟩
  · simp only [List.mem_singleton] at hb; rintro rfl; exact hn (hb ▸ ha)
  · rcases List.mem_append.1 hr with hr | hr
    · exact h.sub r hr
    · simp only [List.mem_singleton] at hr
      rw [hr]; exact List.mem_map.2 ⟨n, (findN_some hf).1, rfl⟩
def needA (l : List Nd) (todo out : List Bytes) : List Bytes := needL l (muN l todo out) todo out
theorem NI.nil (l : List Nd) : NI l [] := ⟨List.nodup_nil, fun _ h => by cases h⟩
attribute [irreducible] muN needA
def refsN (cond : Bytes) (l : List Nd) : List Bytes := cond :: l.flatMap inputsN
end Go.KX
namespace Go.KX
/-- A node's texts. -/
def wN (n : Nd) : Nat := n.ref.length + n.source.length + n.input.length + n.how.length + n.text.length
def placeN (l : List Bytes) (s : Bytes) : Int := idxF (fun x => decide (x = s)) l
theorem eq_next {a b : List Bytes} {j : Nat} (hj : j < a.length) (hb : j < b.length) (h : a.take j = b.take j) (e : a[j] = b[j]) : a.take (j + 1) = b.take (j + 1) := by
  rw [List.take_succ_eq_append_getElem hj, List.take_succ_eq_append_getElem hb, h, e]
end Go.KX
namespace Go.KX
structure Ahead (a : List Bytes) (n : Nd) : Prop where
  ex : ∃ p s, a = p ++ n.ref :: s ∧ n.ref ∉ p ∧ ∀ q ∈ inputsN n, q ∈ p
theorem place_at {p s : List Bytes} {x : Bytes} (h : x ∉ p) : placeN (p ++ x :: s) x = p.length := by
  have hlt : p.length < (p ++ x :: s).length := by simp
  refine idxF_some (p := fun y => decide (y = x)) (l := p ++ x :: s) hlt (fun y hy => ?_) (by simp)
  rw [List.take_left] at hy
  exact decide_eq_false (fun e => h (e ▸ hy))
theorem place_in {p s : List Bytes} {x : Bytes} (h : x ∈ p) : 0 ≤ placeN (p ++ s) x ∧ placeN (p ++ s) x < p.length := by
  obtain ⟨a, b, rfl, hn⟩ := List.eq_append_cons_of_mem h
  rw [List.append_assoc, List.cons_append, place_at hn]
  simp; omega
theorem Ahead.place {a : List Bytes} {n : Nd} (h : Ahead a n) : 0 ≤ placeN a n.ref ∧ ∀ q ∈ inputsN n, 0 ≤ placeN a q ∧ placeN a q < placeN a n.ref := by
  obtain ⟨p, s, rfl, h1, h2⟩ := h
  rw [place_at h1]
  exact ⟨by omega, fun q hq => place_in (h2 q hq)⟩
end Go.KX
namespace Go.KX
/-- Nodes that may be a rule's. -/
structure Chk (ref : Bytes) (l : List Nd) : Prop where
  len : l.length ≤ 16
  is : ∀ n ∈ l, isN n = true
  nd : (l.map (·.ref)).Nodup
  refs : ∀ q ∈ refsN ref l, q ∈ l.map (·.ref)
  ord : (orderN l).2 = 0
section
variable {ref : Bytes} {l : List Nd} (hc : Chk ref l)
include hc
theorem Chk.input {n : Nd} (hn : n ∈ l) {i : Bytes} (hi : i ∈ inputsN n) : i ∈ l.map (·.ref) := hc.refs i (List.mem_cons_of_mem _ (List.mem_flatMap.2 ⟨n, hn, hi⟩))
end
section
variable {ref : Bytes} {l : List Nd} (hc : Chk ref l)
include hc
end
end Go.KX
namespace Go.KX
def nmC (i : Nat) : Bytes := [UInt8.ofNat (65 + i)]
theorem nmC_inj : ∀ i < 10, ∀ j < 10, nmC i = nmC j → i = j := by decide
structure Chain (n : Nat) (g : Nat → Nd) : Prop where
  n1 : 1 ≤ n
  n10 : n ≤ 10
  ref : ∀ i < n, (g i).ref = nmC i
  is : ∀ i < n, isN (g i) = true
  low : ∀ i < n, ∀ q ∈ inputsN (g i), ∃ j < i, q = nmC j
  up : ∀ i, i + 1 < n → nmC i ∈ inputsN (g (i + 1))
section
variable {n : Nat} {g : Nat → Nd}
theorem refs_eq (hr : ∀ i < n, (g i).ref = nmC i) : ((List.range n).map g).map (·.ref) = (List.range n).map nmC := by
  rw [List.map_map]
  refine List.map_congr_left (fun i hi => hr i (List.mem_range.1 hi))
theorem names_nd (h : n ≤ 10) : ((List.range n).map nmC).Nodup := by
  have key : ∀ n, n ≤ 10 → ((List.range n).map nmC).Nodup := by
    intro n
    induction n with
    | zero => intro _; simp
    | succ n ih =>
      intro h
      rw [List.range_succ, List.map_append]
      refine List.nodup_append.2 ⟨ih (by omega), by simp, fun a ha b hb => ?_⟩
      obtain ⟨i, hi, rfl⟩ := List.mem_map.1 ha
      simp only [List.map_cons, List.map_nil, List.mem_singleton] at hb
      have hi := List.mem_range.1 hi
      rintro rfl
      have := nmC_inj i (by omega) n (by omega) hb
      omega
  exact key n h
theorem name_mem {i : Nat} (h : i < n) : nmC i ∈ (List.range n).map nmC := List.mem_map.2 ⟨i, List.mem_range.2 h, rfl⟩
theorem name_mem' {i : Nat} (hn : n ≤ 10) (hi : i < 10) (h : nmC i ∈ (List.range n).map nmC) : i < n := by
  obtain ⟨j, hj, e⟩ := List.mem_map.1 h
  have hj := List.mem_range.1 hj
  have := nmC_inj j (by omega) i hi e
  omega
variable (hc : Chain n g)
include hc
theorem Chain.ready {k : Nat} (hk : k < n) {i : Nat} (hi : i < n) : readyN ((List.range k).map nmC) (g i) = decide (i ≤ k) := by
  have h10 := hc.n10
  rw [Bool.eq_iff_iff, decide_eq_true_eq]
  unfold readyN
  rw [List.all_eq_true]
  constructor
  · intro h
    rcases Nat.lt_or_ge k i with h1 | h1
    · exfalso
      obtain ⟨m, rfl⟩ : ∃ m, i = m + 1 := ⟨i - 1, by omega⟩
      have h2 := of_decide_eq_true (h _ (hc.up m hi))
      have h3 := name_mem' (by omega) (by omega) h2
      omega
    · exact h1
  · intro h q hq
    obtain ⟨j, hj, rfl⟩ := hc.low i hi q hq
    exact decide_eq_true (name_mem (by omega))
theorem Chain.best {k : Nat} (hk : k < n) : bestL ((List.range k).map nmC) ((List.range' k (n - k)).map g) = (nmC k, true) := by
  obtain ⟨m, hm⟩ : ∃ m, n - k = m + 1 := ⟨n - k - 1, by omega⟩
  rw [hm, List.range'_succ, List.map_cons]
  unfold bestL
  rw [List.foldl_cons]
  have e : stepB ((List.range k).map nmC) ([], false) (g k) = (nmC k, true) := by
    unfold stepB
    rw [if_neg (by simp), if_pos (by rw [hc.ready hk hk]; simp), hc.ref k hk]
  rw [e]
  have key : ∀ l : List Nd, (∀ x ∈ l, readyN ((List.range k).map nmC) x = false) → l.foldl (stepB ((List.range k).map nmC)) (nmC k, true) = (nmC k, true) := by
    intro l
    induction l with
    | nil => intro _; rfl
    | cons x l ih =>
      intro h
      rw [List.foldl_cons]
      have : stepB ((List.range k).map nmC) (nmC k, true) x = (nmC k, true) := by
        unfold stepB
        split
        · rfl
        · rw [if_neg (by rw [h x (.head _)]; decide)]
      rw [this]
      exact ih (fun y hy => h y (.tail _ hy))
  refine key _ (fun x hx => ?_)
  obtain ⟨i, hi, rfl⟩ := List.mem_map.1 hx
  have hi := List.mem_range'_1.1 hi
  rw [hc.ready hk (by omega)]
  exact decide_eq_false (by omega)
theorem Chain.ordAll : ∀ (f k : Nat), k + f = n → orderL f ((List.range k).map nmC) ((List.range' k f).map g) = ((List.range n).map nmC, 0)
  | 0, k, h => by
    obtain rfl : k = n := by omega
    rfl
  | f + 1, k, h => by
    have hk : k < n := by omega
    have hb := hc.best hk
    rw [show n - k = f + 1 by omega] at hb
    simp only [orderL, hb]
    rw [if_neg (by decide)]
    have e1 : (List.range k).map nmC ++ [nmC k] = (List.range (k + 1)).map nmC := by rw [List.range_succ, List.map_append]; rfl
    have e2 : ((List.range' k (f + 1)).map g).filter (fun x => decide (x.ref ≠ nmC k)) = (List.range' (k + 1) f).map g := by
      rw [List.range'_succ, List.map_cons, List.filter_cons_of_neg (by simp [hc.ref k hk]), List.filter_eq_self]
      intro x hx
      obtain ⟨i, hi, rfl⟩ := List.mem_map.1 hx
      have hi := List.mem_range'_1.1 hi
      have h10 := hc.n10
      rw [hc.ref i (by omega)]
      refine decide_eq_true (fun e => ?_)
      have := nmC_inj i (by omega) k (by omega) e
      omega
    rw [e1, e2]
    exact Chain.ordAll f (k + 1) (by omega)
theorem Chain.nd : (((List.range n).map g).map (·.ref)).Nodup := by rw [refs_eq hc.ref]; exact names_nd hc.n10
theorem Chain.order : orderN ((List.range n).map g) = ((List.range n).map nmC, 0) := by
  unfold orderN
  rw [if_neg (by rw [okN_of hc.nd]; decide), List.length_map, List.length_range]
  have := hc.ordAll n 0 (by omega)
  rw [← List.range_eq_range'] at this
  exact this
end
end Go.KX
namespace Go.KX
def Rise (l : List Bytes) : Prop := l.Pairwise fun a b => blt a b = true
theorem Rise.nd {l : List Bytes} (h : Rise l) : l.Nodup := h.imp (fun h => blt_ne h)
end Go.KX
namespace Go.KX
/-- From the front. -/
def firstR : List (Bytes × Val) → Bytes → Option Val
  | [], _ => none
  | e :: r, n => if e.1 = n then some e.2 else firstR r n
/-- From the back. -/
def lastR (l : List (Bytes × Val)) (n : Bytes) : Option Val := firstR l.reverse n
end Go.KX
namespace Go.KX
abbrev rF (l : List (Bytes × Val)) : SV := .s 2 (l.map fun p => frF p.1 p.2)
/-- What Backward hands over. -/
def bkF (l : List (Bytes × Val)) : List (List SV) := (List.range l.length).map fun (j : Nat) => [nI ((l.length : Int) - 1 - j), .a (frF (l.getD (l.length - 1 - j) ([], zeroV)).1 (l.getD (l.length - 1 - j) ([], zeroV)).2)]
theorem bkF_len (l : List (Bytes × Val)) : (bkF l).length = l.length := by simp [bkF]
theorem bkF_get {l : List (Bytes × Val)} {j : Nat} (h : j < l.length) : (bkF l)[j]? = some [nI ((l.length : Int) - 1 - j), .a (frF (l[l.length - 1 - j]'(by omega)).1 (l[l.length - 1 - j]'(by omega)).2)] := by
  have h2 : l.length - 1 - j < l.length := by omega
  simp [bkF, h, h2]
theorem bkF_clo {l : List (Bytes × Val)} : ∀ a ∈ bkF l, cloL a = true ∧ a.length = 2 := fun a ha => by
  obtain ⟨j, hj, rfl⟩ := List.mem_map.1 ha
  exact ⟨rfl, rfl⟩
/-- Of the last j ones none bears a name. -/
def noneB (l : List (Bytes × Val)) (n : Bytes) (j : Nat) : Bool := (l.reverse.take j).all fun p => !decide (p.1 = n)
def msF (l : List (Bytes × Val)) (n : Bytes) (j : Nat) : SM := match noneB l n j with
  | true => [(5, .c 33 [nI 0]), (4, .c 32 [.s 0 []])]
  | false => [(5, .c 33 [nI 0]), (4, .c 32 [.s 0 [[]]])]
theorem msF_t {l : List (Bytes × Val)} {n : Bytes} {j : Nat} (h : noneB l n j = true) : msF l n j = [(5, .c 33 [nI 0]), (4, .c 32 [.s 0 []])] := by unfold msF; rw [h]
theorem msF_f {l : List (Bytes × Val)} {n : Bytes} {j : Nat} (h : noneB l n j = false) : msF l n j = [(5, .c 33 [nI 0]), (4, .c 32 [.s 0 [[]]])] := by unfold msF; rw [h]
theorem no_denF {a b T : Nat} {mb : MB} {g : GW} {ρ : Nat → Lc} {ms : List Res} : ¬ DenM g ρ [(a, mb), (b, .c T [.s 0 [[]]])] ms := by
  intro h
  cases h with
  | cons _ t => exact no_den _ _ _ t
theorem rev_at {l : List (Bytes × Val)} {j : Nat} (hj : j < l.length) : l.reverse[j]? = some (l[l.length - 1 - j]'(by omega)) := by
  rw [List.getElem?_reverse hj, List.getElem?_eq_getElem (by omega)]
theorem noneB_next {l : List (Bytes × Val)} {n : Bytes} {j : Nat} (hj : j < l.length) (h : noneB l n j = true) (hx : ¬ (l[l.length - 1 - j]'(by omega)).1 = n) : noneB l n (j + 1) = true := by
  unfold noneB at h ⊢
  rw [List.take_add_one, rev_at hj, List.all_append, h]
  simp [hx]
theorem first_at : ∀ {r : List (Bytes × Val)} {n : Bytes} {j : Nat} {x : Bytes × Val}, (r.take j).all (fun p => !decide (p.1 = n)) = true → r[j]? = some x → x.1 = n → firstR r n = some x.2
  | [], _, _, _, _, h, _ => by simp at h
  | p :: r, n, 0, x, _, h, hx => by
    simp only [List.getElem?_cons_zero, Option.some.injEq] at h
    subst h
    unfold firstR
    rw [if_pos hx]
  | p :: r, n, j + 1, x, h0, h, hx => by
    simp only [List.take_succ_cons, List.all_cons, Bool.and_eq_true] at h0
    unfold firstR
    rw [if_neg (by simpa using h0.1)]
    exact first_at h0.2 (by simpa using h) hx
theorem last_at {l : List (Bytes × Val)} {n : Bytes} {j : Nat} (hj : j < l.length) (h : noneB l n j = true) (hx : (l[l.length - 1 - j]'(by omega)).1 = n) : lastR l n = some (l[l.length - 1 - j]'(by omega)).2 := first_at h (rev_at hj) hx
theorem none_len {l : List (Bytes × Val)} {n : Bytes} {v : Val} (h : lastR l n = some v) : noneB l n l.length = false := by
  cases hb : noneB l n l.length with
  | false => rfl
  | true =>
    unfold noneB at hb
    rw [List.take_of_length_le (by simp)] at hb
    have key : ∀ (r : List (Bytes × Val)), r.all (fun p => !decide (p.1 = n)) = true → firstR r n = none := by
      intro r
      induction r with
      | nil => intro _; rfl
      | cons p r ih =>
        intro hr
        simp only [List.all_cons, Bool.and_eq_true] at hr
        unfold firstR
        rw [if_neg (by simpa using hr.1)]
        exact ih hr.2
    have := key _ hb
    unfold lastR at h
    rw [this] at h
    cases h
theorem row_atI {l : List (Bytes × Val)} {j : Nat} {z : Int} {hz : l.length - 1 - j < l.length} (h : z.toNat = l.length - 1 - j) : (l.map fun p => frF p.1 p.2)[z.toNat]? = some (frF (l[l.length - 1 - j]).1 (l[l.length - 1 - j]).2) := by
  rw [h, List.getElem?_map, List.getElem?_eq_getElem hz]
  rfl
end Go.KX
namespace Go.KX
section
variable {s : Bytes}
/-- The error's place lies within the text. -/
def In (s : Bytes) (p : Ps) : Prop := 0 ≤ p.at_ ∧ p.at_ ≤ s.length
def Pl (s : Bytes) (f : Ps → Ex × Ps) : Prop := ∀ p, p.i ≤ s.length → In s p → In s (f p).2
theorem in_rest {p : Ps} (h : In s p) : In s (p.restP s) := by unfold Ps.restP; split <;> exact h
theorem in_fails {p : Ps} (h : In s p) (e : Int) {a : Nat} (ha : a ≤ s.length) : In s (p.fails e a) := by
  unfold Ps.fails
  split
  · exact h
  · exact ⟨by simp only; omega, by simp only; omega⟩
theorem in_take {p : Ps} (h : In s p) (l : List Bytes) : In s (takeP s l p) := by
  unfold takeP
  split
  · exact in_rest h
  · exact in_rest h
theorem in_must {p : Ps} (hi : p.i ≤ s.length) (h : In s p) (x : Bytes) : In s (mustP s x p) := by
  have h1 := take_fit (l := [x]) hi
  unfold mustP
  split
  · exact in_take h _
  · exact in_fails (in_take h _) _ h1.2
theorem in_enter {p : Ps} (hi : p.i ≤ s.length) (h : In s p) (d : Nat) : In s (enterP s d p) := by
  unfold enterP
  split
  · exact in_fails (in_rest h) _ (rest_le hi)
  · exact in_rest h
theorem in_loop {f : Ps → Ex × Ps} (hf : Fit s f) (hp : Pl s f) {ops : List Bytes} {al : Bool} : ∀ (n : Nat) (x : Ex) (p : Ps), p.i ≤ s.length → In s p → In s (loopG (tkX s) f ops al n x p).2
  | 0, x, p, _, h => h
  | n + 1, x, p, hi, h => by
    have h1 := take_fit (l := ops) hi
    cases ht : takeT s ops p with
    | none => rw [loop_none ht]; exact in_take h _
    | some o =>
      cases al with
      | true => rw [loop_alone ht]; exact hp _ h1.2 (in_take h _)
      | false => rw [loop_more ht]; exact in_loop hf hp n _ _ (hf _ h1.2).2 (hp _ h1.2 (in_take h _))
theorem in_lev {f : Ps → Ex × Ps} (hf : Fit s f) (hp : Pl s f) : ∀ n, Pl s (levX s f n)
  | 0 => hp
  | n + 1 => fun p hi h => in_loop (lev_fit hf n) (in_lev hf hp n) _ _ _ (lev_fit hf n p hi).2 (in_lev hf hp n p hi h)
theorem in_expr {f : Ps → Ex × Ps} (hf : Fit s f) (hp : Pl s f) (d : Nat) : Pl s (exprX s f d) := fun p hi h => in_lev hf hp 5 _ (enter_fit hi).2 (in_enter hi h d)
theorem in_par {f : Ps → Ex × Ps} (hf : Fit s f) (hp : Pl s f) : Pl s (parX s f) := fun p hi h => in_must (hf p hi).2 (hp p hi h) _
theorem in_prim {f : Ps → Ex × Ps} (hf : Fit s f) (hp : Pl s f) : Pl s (primX parseV s f) := fun p hi h => by
  have hri := rest_le (s := s) hi
  have hrl := restT_len (s := s) hi
  have hr0 := in_rest (s := s) h
  cases hd : p.dead with
  | true => rw [prim_dead hd]; exact hr0
  | false =>
    cases hr : p.restT s with
    | nil => rw [prim_nil hd hr]; exact in_fails hr0 _ hri
    | cons c r =>
      rw [hr] at hrl
      simp only [List.length_cons] at hrl
      rw [prim_cons hd hr]
      split
      · exact in_par hf hp _ (by show (p.restP s).i + 1 ≤ _; omega) hr0
      split
      · unfold refX
        simp only
        split
        · exact hr0
        · exact in_fails hr0 _ hri
      split
      · unfold numberX
        simp only
        split
        · exact hr0
        · exact in_fails hr0 _ hri
      split
      · have hwl := runB_le gLD (c :: r)
        simp only [List.length_cons] at hwl
        unfold wordX
        simp only
        have hm : ({ p.restP s with i := (p.restP s).i + ((c :: r).take (runB gLD (c :: r))).length } : Ps).i ≤ s.length := by
          show (p.restP s).i + _ ≤ _
          rw [List.length_take]
          simp only [List.length_cons]
          omega
        split
        · exact hr0
        split
        · exact hr0
        split
        · exact hr0
        have key : ∀ q : Ps, q.i ≤ s.length → In s q → In s (parX s f (mustP s oPL q)).2 := fun q hq hin => in_par hf hp _ (must_fit (x := oPL) hq).2 (in_must hq hin _)
        split
        · exact key _ hm hr0
        · refine key _ (by rw [fails_i]; exact hm) ?_
          unfold Ps.fails
          split
          · exact hr0
          · exact ⟨by simp only; omega, by simp only; omega⟩
      · exact in_fails hr0 _ hri
theorem in_un : ∀ d, Pl s (unX parseV s d)
  | 0 => fun p hi h => by
    have h1 := enter_fit (d := 33) hi
    have h2 := take_fit (l := [oSub, oNot]) h1.2
    exact in_prim (f := fun q => (ex0, q)) (fun q hq => ⟨Nat.le_refl _, hq⟩) (fun q _ h => h) _ h2.2 (in_take (in_enter hi h 33) _)
  | d + 1 => fun p hi h => by
    have h1 := enter_fit (d := 32 - d) hi
    have h2 := take_fit (l := [oSub, oNot]) h1.2
    have h3 := in_take (s := s) (in_enter hi h (32 - d)) [oSub, oNot]
    cases ht : takeT s [oSub, oNot] (enterP s (32 - d) p) with
    | some o => rw [un_some ht]; exact in_un d _ h2.2 h3
    | none => rw [un_none ht]; exact in_prim (expr_fit (un_fit d) _) (in_expr (un_fit d) (in_un d) _) _ h2.2 h3
theorem parse_at : 0 ≤ (parseX parseV s).2.2 ∧ (parseX parseV s).2.2 ≤ s.length := by
  have h0 : In s ⟨0, 0, 0, false⟩ := ⟨by simp, by simp⟩
  have h1 := in_expr (un_fit (pv := parseV) 33) (in_un (s := s) 33) 0 _ (Nat.zero_le _) h0
  have hf := (expr_fit (un_fit (pv := parseV) (s := s) 33) 0 ⟨0, 0, 0, false⟩ (Nat.zero_le _)).2
  unfold parseX
  split
  · exact ⟨by simp, by simp⟩
  · simp only
    generalize exprX s (unX parseV s 33) 0 ⟨0, 0, 0, false⟩ = A at h1 hf ⊢
    have h2 : In s (if A.2.restT s = [] then A.2.restP s else (A.2.restP s).fails 110 (A.2.restP s).i) := by
      split
      · exact in_rest h1
      · exact in_fails (in_rest h1) _ (rest_le hf)
    generalize (if A.2.restT s = [] then A.2.restP s else (A.2.restP s).fails 110 (A.2.restP s).i) = q at h2 ⊢
    split
    · exact h2
    · exact ⟨by simp, by simp⟩
end
theorem op_len {m : Nat} (hm : m ≤ 4) {o : Bytes} (h : o ∈ levelsT.getD (4 - m) []) : o.length ≤ 2 := by
  have : ∀ m ≤ 4, ∀ o ∈ levelsT.getD (4 - m) [], o.length ≤ 2 := by decide
  exact this m hm o h
theorem fn_len {o : Bytes} (h : functionB o = true) : o.length ≤ 9 := by
  have h := of_decide_eq_true h
  have h2 : ∀ o ∈ ([oAbs, oFloor, oNull, oNan, oInf, oNum] : List Bytes), o.length ≤ 9 := by decide
  exact h2 o h
theorem opd_len (x : Ex) : (opdX x).length ≤ (printX x).length + 2 := by
  unfold opdX
  split
  · simp
  · omega
theorem print_size {x : Ex} (h : Wf x) : (printX x).length ≤ 40 * exSize x := by
  induction h with
  | @num v h =>
    rw [print_num3, exsN]
    have := print_len v
    split
    · decide
    split
    · decide
    · omega
  | @ref n h =>
    rw [print_ref, exsR]
    unfold refB at h
    split at h
    · cases h
    · simp only [Bool.and_eq_true, decide_eq_true_eq] at h
      have := h.1.1
      simp only [List.length_cons] at this ⊢
      omega
  | @sign o x ho hx ih =>
    rw [print_one, exs1]
    have h1 := opd_len x
    have h2 : o.length ≤ 1 := by
      simp only [List.mem_cons, List.not_mem_nil, or_false] at ho
      rcases ho with rfl | rfl <;> decide
    split
    · simp; omega
    · simp; omega
  | @fn o x ho hx ih =>
    rw [print_one, exs1, if_pos ho]
    have := fn_len ho
    simp; omega
  | @bin o x y m hm ho hx hy ihx ihy =>
    rw [print_two, exs2]
    have h1 := opd_len x
    have h2 := opd_len y
    have h3 := op_len hm ho
    simp; omega
theorem opd_ge (x : Ex) : (printX x).length ≤ (opdX x).length := by
  unfold opdX
  split
  · simp; omega
  · omega
theorem print_one_len (o : Bytes) (x : Ex) : (printX x).length ≤ (printX (exC o [x])).length := by
  have := opd_ge x
  rw [print_one]
  split
  · simp; omega
  · simp; omega
theorem print_two_len (o : Bytes) (x y : Ex) : (printX x).length ≤ (printX (exC o [x, y])).length ∧ (printX y).length ≤ (printX (exC o [x, y])).length := by
  have h1 := opd_ge x
  have h2 := opd_ge y
  rw [print_two]
  constructor <;> simp <;> omega
mutual
def sameX : Ex → Ex → Bool
  | .mk k n v l, .mk k2 n2 v2 l2 => decide (k = k2) && decide (n = n2) && decide (v = v2) && sameL l l2
def sameL : List Ex → List Ex → Bool
  | [], [] => true
  | x :: a, y :: b => sameX x y && sameL a b
  | [], _ :: _ => false
  | _ :: _, [] => false
end
theorem sameX_eq (x y : Ex) : sameX x y = (decide (x.kind = y.kind) && decide (x.name = y.name) && decide (x.val = y.val) && sameL x.kids y.kids) := by cases x; cases y; rfl
theorem sameL_len : ∀ {a b : List Ex}, a.length ≠ b.length → sameL a b = false
  | [], [], h => absurd rfl h
  | _ :: _, [], _ => rfl
  | [], _ :: _, _ => rfl
  | x :: a, y :: b, h => by
    have : sameL a b = false := sameL_len (fun e => h (by simp [e]))
    show (sameX x y && sameL a b) = false
    rw [this, Bool.and_false]
theorem sameL_at : ∀ {a b : List Ex} {j : Nat} (h : j < a.length) (h2 : j < b.length), sameX a[j] b[j] = false → sameL a b = false
  | x :: a, y :: b, 0, _, _, e => by
    show (sameX x y && sameL a b) = false
    have e : sameX x y = false := e
    rw [e, Bool.false_and]
  | x :: a, y :: b, j + 1, h, h2, e => by
    show (sameX x y && sameL a b) = false
    rw [sameL_at (j := j) (by simpa using h) (by simpa using h2) (by simpa using e), Bool.and_false]
theorem sameL_all : ∀ {a b : List Ex}, a.length = b.length → (∀ (j : Nat) (h : j < a.length) (h2 : j < b.length), sameX a[j] b[j] = true) → sameL a b = true
  | [], [], _, _ => rfl
  | x :: a, y :: b, hl, h => by
    show (sameX x y && sameL a b) = true
    rw [show sameX x y = true from h 0 (by simp) (by simp), sameL_all (by simpa using hl) (fun j h1 h2 => h (j + 1) (by simpa using h1) (by simpa using h2))]
    rfl
theorem sameX_refl : ∀ (n : Nat) (x : Ex), exSize x ≤ n → sameX x x = true
  | 0, x, h => by have := exSize_eq x; omega
  | n + 1, x, h => by
    rw [sameX_eq, sameL_all rfl (fun j h1 h2 => sameX_refl n _ (by
      have h3 := exSize_kid h1
      have h4 := exSize_eq x
      omega))]
    simp
theorem same_self (x : Ex) : sameX x x = true := sameX_refl _ x (Nat.le_refl _)
end Go.KX
namespace Go.KX
abbrev sA : Bytes := [36, 65, 32, 43, 32, 50, 32, 42, 32, 36, 66, 32, 62, 32, 51]
abbrev sB : Bytes := [49, 32, 43, 32, 36, 97]
abbrev sC : Bytes := [97, 98, 115, 40, 36, 65, 41]
abbrev xM : Ex := exC [42] [exN ⟨1, 2000⟩, exR [66]]
abbrev xP : Ex := exC [43] [exR [65], xM]
abbrev xA : Ex := exC [62] [xP, exN ⟨1, 3000⟩]
abbrev xC : Ex := exC oAbs [exR [65]]
theorem live_a : parseX parseV sA = (xA, 0, 0) := by rfl
theorem live_b : (parseX parseV sB).2 = (110, 4) := by rfl
theorem live_c : parseX parseV sC = (xC, 0, 0) := by rfl
theorem pn_k {n : Int} {d : Nat} (h0 : 0 ≤ n) (h1 : n ≤ 1000000000000000) (hd : n.natAbs / 1000 = d) (hr : n.natAbs % 1000 = 0) (h : d < 10) : printX (exN ⟨1, n⟩) = ((([48, 49, 50, 51, 52, 53, 54, 55, 56, 57] : Bytes).drop d).take 1) := by
  rw [print_num3, if_neg (by simp), if_neg (by simp), print_pos h0 h1]
  unfold magV fracV
  rw [hd, hr, if_pos rfl, List.append_nil, dec_one h]
theorem live_p : printX xA = [40, 36, 65, 32, 43, 32, 40, 50, 32, 42, 32, 36, 66, 41, 41, 32, 62, 32, 51] := by
  have h2 : printX (exN ⟨1, 2000⟩) = [50] := pn_k (d := 2) (by decide) (by decide) (by decide) (by decide) (by decide)
  have h3 : printX (exN ⟨1, 3000⟩) = [51] := pn_k (d := 3) (by decide) (by decide) (by decide) (by decide) (by decide)
  have hA : printX (exR [65]) = [36, 65] := print_ref [65] zeroV []
  have hB : printX (exR [66]) = [36, 66] := print_ref [66] zeroV []
  rw [print_two, opd_two, opd_not2 (x := exN ⟨1, 3000⟩) (by decide), h3, print_two, opd_not2 (x := exR [65]) (by decide), hA, opd_two, print_two, opd_not2 (x := exN ⟨1, 2000⟩) (by decide), h2, opd_not2 (x := exR [66]) (by decide), hB]
  rfl
theorem live_w : Wf xA := by
  refine .bin 2 (by decide) (by decide) (.bin 1 (by decide) (by decide) (.ref (by decide)) (.bin 0 (by decide) (by decide) (.num (.inr (.inr (.inr ⟨by decide, rfl, by decide⟩)))) (.ref (by decide)))) (.num (.inr (.inr (.inr ⟨by decide, rfl, by decide⟩))))
theorem live_r : refsX xA = [[65], [66]] := by
  have h0 : ∀ v, refsX (exN v) = [] := fun v => by
    rw [refsX_eq, if_neg (by simp [Ex.kind])]
    show cmpB (sortL []) = []
    simp [sortL, cmpB]
  have hR : ∀ n, refsX (exR n) = [n] := fun n => by rw [refsX_eq, if_pos (by simp [Ex.kind])]; rfl
  have h1 : refsX xM = [[66]] := by
    rw [refsX_eq, if_neg (by simp [Ex.kind])]
    show cmpB (sortL (refsX (exN ⟨1, 2000⟩) ++ (refsX (exR [66]) ++ []))) = _
    rw [h0, hR]
    simp [sortL, cmpB, cmpP]
  have hs : sortL [[65], [66]] = [[65], [66]] := by
    simp [sortL, List.mergeSort, List.MergeSort.Internal.splitInTwo, List.merge]
    decide
  have h2 : refsX xP = [[65], [66]] := by
    rw [refsX_eq, if_neg (by simp [Ex.kind])]
    show cmpB (sortL (refsX (exR [65]) ++ (refsX xM ++ []))) = _
    rw [h1, hR]
    show cmpB (sortL [[65], [66]]) = _
    rw [hs]
    decide
  rw [refsX_eq, if_neg (by simp [Ex.kind])]
  show cmpB (sortL (refsX xP ++ (refsX (exN ⟨1, 3000⟩) ++ []))) = _
  rw [h2, h0]
  show cmpB (sortL [[65], [66]]) = _
  rw [hs]
  decide
theorem live_v : (doV oAbs [numV (-1000)]).1 = numV 1000 := by decide
end Go.KX
namespace Go.Proofs.YtomkgfdigldhcaaGreatDoor
open Go.KX
theorem tk2 : TDok Tryz.prog 2 ⟨1, 8, .int .i64 0, .int .i64⟩ := ⟨TI_of (by kernel_rfl), Tryz.underlying2⟩
theorem tk3 : TDok Tryz.prog 3 ⟨1, 8, .int .i64 0, .int .i64⟩ := ⟨TI_of (by kernel_rfl), Tryz.underlying3⟩
theorem tk4 : TDok Tryz.prog 4 ⟨1, 1, .bool false, .bool⟩ := ⟨TI_of (by kernel_rfl), Tryz.underlying4⟩
theorem tk5 : TDok Tryz.prog 5 ⟨1, 1, .int .u8 0, .int .u8⟩ := ⟨TI_of (by kernel_rfl), Tryz.underlying5⟩
theorem tk9 : TDok Tryz.prog 9 ⟨1, 16, str [], .str⟩ := ⟨TI_of (by kernel_rfl), Tryz.underlying9⟩
theorem tk21 : TDok Tryz.prog 21 ⟨1, 4, .int .i32 0, .int .i32⟩ := ⟨TI_of (by kernel_rfl), Tryz.underlying21⟩
theorem tk22 : TDok Tryz.prog 22 ⟨1, 24, .slice none 0 0, .sl 52⟩ := ⟨TI_of (by kernel_rfl), Tryz.underlying22⟩
theorem tk26 : TDok Tryz.prog 26 ⟨2, 16, .agg #[.int .i64 0, .int .i64 0], .st [(0, 1, false), (1, 1, false)]⟩ := TDst (TI_of (by kernel_rfl)) Tryz.underlying26 (by kernel_rfl)
theorem tk27 : TDok Tryz.prog 27 ⟨1, 24, .slice none 0 0, .sl 29⟩ := ⟨TI_of (by kernel_rfl), Tryz.underlying27⟩
theorem tk29 : TDok Tryz.prog 29 ⟨5, 64, .agg #[.int .i64 0, str [], .int .i64 0, .int .i64 0, .slice none 0 0], .st [(0, 1, false), (1, 1, false), (2, 2, true), (4, 1, false)]⟩ := TDst (TI_of (by kernel_rfl)) Tryz.underlying29 (by kernel_rfl)
theorem tk32 : TDok Tryz.prog 32 ⟨1, 24, .slice none 0 0, .sl 98⟩ := ⟨TI_of (by kernel_rfl), Tryz.underlying32⟩
theorem tk33 : TDok Tryz.prog 33 ⟨1, 8, .int .i64 0, .int .i64⟩ := ⟨TI_of (by kernel_rfl), Tryz.underlying33⟩
theorem tk46 : TDok Tryz.prog 46 ⟨1, 24, .slice none 0 0, .sl 26⟩ := ⟨TI_of (by kernel_rfl), Tryz.underlying46⟩
theorem tk48 : TDok Tryz.prog 48 ⟨1, 24, .slice none 0 0, .sl 9⟩ := ⟨TI_of (by kernel_rfl), Tryz.underlying48⟩
theorem tk52 : TDok Tryz.prog 52 ⟨2, 40, .agg #[str [], .slice none 0 0], .st [(0, 1, false), (1, 1, false)]⟩ := TDst (TI_of (by kernel_rfl)) Tryz.underlying52 (by kernel_rfl)
theorem tk56 : TDok Tryz.prog 56 ⟨1, 24, .slice none 0 0, .sl 65⟩ := ⟨TI_of (by kernel_rfl), Tryz.underlying56⟩
theorem tk65 : TDok Tryz.prog 65 ⟨11, 128, .agg #[str [], .int .i64 0, str [], str [], str [], .bool false, .int .i64 0, .int .i64 0, .int .i64 0, .int .i64 0, str []], .st [(0, 1, false), (1, 1, false), (2, 1, false), (3, 1, false), (4, 1, false), (5, 1, false), (6, 2, true), (8, 2, true), (10, 1, false)]⟩ := TDst (TI_of (by kernel_rfl)) Tryz.underlying65 (by kernel_rfl)
theorem tk74 : TDok Tryz.prog 74 ⟨1, 24, .slice none 0 0, .sl 77⟩ := ⟨TI_of (by kernel_rfl), Tryz.underlying74⟩
theorem tk75 : TDok Tryz.prog 75 ⟨1, 24, .slice none 0 0, .sl 93⟩ := ⟨TI_of (by kernel_rfl), Tryz.underlying75⟩
theorem tk77 : TDok Tryz.prog 77 ⟨3, 48, .agg #[str [], .bool false, .slice none 0 0], .st [(0, 1, false), (1, 1, false), (2, 1, false)]⟩ := TDst (TI_of (by kernel_rfl)) Tryz.underlying77 (by kernel_rfl)
theorem tk79 : TDok Tryz.prog 79 ⟨1, 24, .slice none 0 0, .sl 95⟩ := ⟨TI_of (by kernel_rfl), Tryz.underlying79⟩
theorem tk87 : TDok Tryz.prog 87 ⟨1, 24, .slice none 0 0, .sl 90⟩ := ⟨TI_of (by kernel_rfl), Tryz.underlying87⟩
theorem tk90 : TDok Tryz.prog 90 ⟨3, 24, .agg #[.int .i64 0, .int .i64 0, .int .i64 0], .st [(0, 1, false), (1, 2, true)]⟩ := TDst (TI_of (by kernel_rfl)) Tryz.underlying90 (by kernel_rfl)
theorem tk91 : TDok Tryz.prog 91 ⟨1, 24, .slice none 0 0, .sl 138⟩ := ⟨TI_of (by kernel_rfl), Tryz.underlying91⟩
theorem tk93 : TDok Tryz.prog 93 ⟨2, 48, .agg #[.slice none 0 0, .slice none 0 0], .st [(0, 1, false), (1, 1, false)]⟩ := TDst (TI_of (by kernel_rfl)) Tryz.underlying93 (by kernel_rfl)
theorem tk95 : TDok Tryz.prog 95 ⟨4, 48, .agg #[.slice none 0 0, .int .i64 0, .int .i64 0, .int .i64 0], .st [(0, 1, false), (1, 1, false), (2, 2, true)]⟩ := TDst (TI_of (by kernel_rfl)) Tryz.underlying95 (by kernel_rfl)
theorem tk98 : TDok Tryz.prog 98 ⟨3, 40, .agg #[.slice none 0 0, .int .i64 0, .int .i64 0], .st [(0, 1, false), (1, 2, true)]⟩ := TDst (TI_of (by kernel_rfl)) Tryz.underlying98 (by kernel_rfl)
theorem tk101 : TDok Tryz.prog 101 ⟨4, 40, .agg #[str [], .int .i64 0, .int .i64 0, .int .i64 0], .st [(0, 1, false), (1, 1, false), (2, 1, false), (3, 1, false)]⟩ := TDst (TI_of (by kernel_rfl)) Tryz.underlying101 (by kernel_rfl)
theorem tk108 : TDok Tryz.prog 108 ⟨1, 24, .slice none 0 0, .sl 32⟩ := ⟨TI_of (by kernel_rfl), Tryz.underlying108⟩
theorem tk117 : TDok Tryz.prog 117 ⟨5, 48, .agg #[str [], .int .i64 0, .int .i64 0, .int .i64 0, .bool false], .st [(0, 1, false), (1, 1, false), (2, 1, false), (3, 1, false), (4, 1, false)]⟩ := TDst (TI_of (by kernel_rfl)) Tryz.underlying117 (by kernel_rfl)
theorem tk124 : TDok Tryz.prog 124 ⟨1, 8, .map none, .mp 9 65⟩ := ⟨TI_of (by kernel_rfl), Tryz.underlying124⟩
theorem tk127 : TDok Tryz.prog 127 ⟨1, 8, .map none, .mp 9 4⟩ := ⟨TI_of (by kernel_rfl), Tryz.underlying127⟩
theorem tk138 : TDok Tryz.prog 138 ⟨2, 32, .agg #[str [], str []], .st [(0, 1, false), (1, 1, false)]⟩ := TDst (TI_of (by kernel_rfl)) Tryz.underlying138 (by kernel_rfl)
theorem tk163 : TDok Tryz.prog 163 ⟨1, 8, .nilFunc, .oth⟩ := ⟨TI_of (by kernel_rfl), ⟨_, Tryz.underlying163, rfl⟩⟩
theorem tk167 : TDok Tryz.prog 167 ⟨6, 96, .agg #[str [], str [], str [], str [], str [], str []], .arr 6 9⟩ := ⟨TI_of (by kernel_rfl), Tryz.underlying167⟩
theorem tk172 : TDok Tryz.prog 172 ⟨1, 8, .int .u64 0, .int .u64⟩ := ⟨TI_of (by kernel_rfl), Tryz.underlying172⟩
theorem tk182 : TDok Tryz.prog 182 ⟨3, 56, .agg #[.map none, .slice none 0 0, .slice none 0 0], .st [(0, 1, false), (1, 1, false), (2, 1, false)]⟩ := TDst (TI_of (by kernel_rfl)) Tryz.underlying182 (by kernel_rfl)
theorem tk183 : TDok Tryz.prog 183 ⟨1, 8, .nilFunc, .oth⟩ := ⟨TI_of (by kernel_rfl), ⟨_, Tryz.underlying183, rfl⟩⟩
theorem tk185 : TDok Tryz.prog 185 ⟨1, 8, .map none, .mp 3 183⟩ := ⟨TI_of (by kernel_rfl), Tryz.underlying185⟩
theorem tk197 : TDok Tryz.prog 197 ⟨1, 8, .nilFunc, .oth⟩ := ⟨TI_of (by kernel_rfl), ⟨_, Tryz.underlying197, rfl⟩⟩
theorem tk199 : TDok Tryz.prog 199 ⟨1, 8, .map none, .mp 9 197⟩ := ⟨TI_of (by kernel_rfl), Tryz.underlying199⟩
theorem tk201 : TDok Tryz.prog 201 ⟨1, 8, .nilFunc, .oth⟩ := ⟨TI_of (by kernel_rfl), ⟨_, Tryz.underlying201, rfl⟩⟩
theorem tk203 : TDok Tryz.prog 203 ⟨1, 8, .map none, .mp 9 201⟩ := ⟨TI_of (by kernel_rfl), Tryz.underlying203⟩
theorem tk212 : TDok Tryz.prog 212 ⟨5, 120, .agg #[.slice none 0 0, .slice none 0 0, .slice none 0 0, .slice none 0 0, .slice none 0 0], .arr 5 48⟩ := ⟨TI_of (by kernel_rfl), Tryz.underlying212⟩
theorem tk217 : TDok Tryz.prog 217 ⟨256, 256, .agg #[.bool false, .bool false, .bool false, .bool false, .bool false, .bool false, .bool false, .bool false, .bool false, .bool false, .bool false, .bool false, .bool false, .bool false, .bool false, .bool false, .bool false, .bool false, .bool false, .bool false, .bool false, .bool false, .bool false, .bool false, .bool false, .bool false, .bool false, .bool false, .bool false, .bool false, .bool false, .bool false, .bool false, .bool false, .bool false, .bool false, .bool false, .bool false, .bool false, .bool false, .bool false, .bool false, .bool false, .bool false, .bool false, .bool false, .bool false, .bool false, .bool false, .bool false, .bool false, .bool false, .bool false, .bool false, .bool false, .bool false, .bool false, .bool false, .bool false, .bool false, .bool false, .bool false, .bool false, .bool false, .bool false, .bool false, .bool false, .bool false, .bool false, .bool false, .bool false, .bool false, .bool false, .bool false, .bool false, .bool false, .bool false, .bool false, .bool false, .bool false, .bool false, .bool false, .bool false, .bool false, .bool false, .bool false, .bool false, .bool false, .bool false, .bool false, .bool false, .bool false, .bool false, .bool false, .bool false, .bool false, .bool false, .bool false, .bool false, .bool false, .bool false, .bool false, .bool false, .bool false, .bool false, .bool false, .bool false, .bool false, .bool false, .bool false, .bool false, .bool false, .bool false, .bool false, .bool false, .bool false, .bool false, .bool false, .bool false, .bool false, .bool false, .bool false, .bool false, .bool false, .bool false, .bool false, .bool false, .bool false, .bool false, .bool false, .bool false, .bool false, .bool false, .bool false, .bool false, .bool false, .bool false, .bool false, .bool false, .bool false, .bool false, .bool false, .bool false, .bool false, .bool false, .bool false, .bool false, .bool false, .bool false, .bool false, .bool false, .bool false, .bool false, .bool false, .bool false, .bool false, .bool false, .bool false, .bool false, .bool false, .bool false, .bool false, .bool false, .bool false, .bool false, .bool false, .bool false, .bool false, .bool false, .bool false, .bool false, .bool false, .bool false, .bool false, .bool false, .bool false, .bool false, .bool false, .bool false, .bool false, .bool false, .bool false, .bool false, .bool false, .bool false, .bool false, .bool false, .bool false, .bool false, .bool false, .bool false, .bool false, .bool false, .bool false, .bool false, .bool false, .bool false, .bool false, .bool false, .bool false, .bool false, .bool false, .bool false, .bool false, .bool false, .bool false, .bool false, .bool false, .bool false, .bool false, .bool false, .bool false, .bool false, .bool false, .bool false, .bool false, .bool false, .bool false, .bool false, .bool false, .bool false, .bool false, .bool false, .bool false, .bool false, .bool false, .bool false, .bool false, .bool false, .bool false, .bool false, .bool false, .bool false, .bool false, .bool false, .bool false, .bool false, .bool false, .bool false, .bool false, .bool false, .bool false, .bool false, .bool false, .bool false, .bool false, .bool false, .bool false, .bool false, .bool false, .bool false, .bool false, .bool false, .bool false, .bool false, .bool false], .arr 256 4⟩ := ⟨TI_of (by kernel_rfl), Tryz.underlying217⟩
theorem tk223 : TDok Tryz.prog 223 ⟨1, 8, .int .i64 0, .int .i64⟩ := ⟨TI_of (by kernel_rfl), Tryz.underlying223⟩
theorem tk232 : TDok Tryz.prog 232 ⟨1, 4, .int .u32 0, .int .u32⟩ := ⟨TI_of (by kernel_rfl), Tryz.underlying232⟩
theorem tk234 : TDok Tryz.prog 234 ⟨1, 8, .int .u64 0, .int .u64⟩ := ⟨TI_of (by kernel_rfl), Tryz.underlying234⟩
theorem tk254 : TDok Tryz.prog 254 ⟨1, 8, .nilFunc, .oth⟩ := ⟨TI_of (by kernel_rfl), ⟨_, Tryz.underlying254, rfl⟩⟩
theorem tk259 : TDok Tryz.prog 259 ⟨1, 8, .nilFunc, .oth⟩ := ⟨TI_of (by kernel_rfl), ⟨_, Tryz.underlying259, rfl⟩⟩
theorem tk262 : TDok Tryz.prog 262 ⟨15, 240, .agg #[str [], str [], str [], str [], str [], str [], str [], str [], str [], str [], str [], str [], str [], str [], str []], .arr 15 9⟩ := ⟨TI_of (by kernel_rfl), Tryz.underlying262⟩
theorem tk264 : TDok Tryz.prog 264 ⟨24, 24, .agg #[.int .u8 0, .int .u8 0, .int .u8 0, .int .u8 0, .int .u8 0, .int .u8 0, .int .u8 0, .int .u8 0, .int .u8 0, .int .u8 0, .int .u8 0, .int .u8 0, .int .u8 0, .int .u8 0, .int .u8 0, .int .u8 0, .int .u8 0, .int .u8 0, .int .u8 0, .int .u8 0, .int .u8 0, .int .u8 0, .int .u8 0, .int .u8 0], .arr 24 5⟩ := ⟨TI_of (by kernel_rfl), Tryz.underlying264⟩
theorem tk266 : TDok Tryz.prog 266 ⟨1, 24, .slice none 0 0, .sl 5⟩ := ⟨TI_of (by kernel_rfl), Tryz.underlying266⟩
theorem tk272 : TDok Tryz.prog 272 ⟨1, 8, .int .u64 0, .int .u64⟩ := ⟨TI_of (by kernel_rfl), Tryz.underlying272⟩
theorem tk296 : TDok Tryz.prog 296 ⟨1, 24, .slice none 0 0, .sl 3⟩ := ⟨TI_of (by kernel_rfl), Tryz.underlying296⟩
theorem tk304 : TDok Tryz.prog 304 ⟨20, 160, .agg #[.int .u64 0, .int .u64 0, .int .u64 0, .int .u64 0, .int .u64 0, .int .u64 0, .int .u64 0, .int .u64 0, .int .u64 0, .int .u64 0, .int .u64 0, .int .u64 0, .int .u64 0, .int .u64 0, .int .u64 0, .int .u64 0, .int .u64 0, .int .u64 0, .int .u64 0, .int .u64 0], .arr 20 234⟩ := ⟨TI_of (by kernel_rfl), Tryz.underlying304⟩
theorem tk305 : TDok Tryz.prog 305 ⟨65, 65, .agg #[.int .u8 0, .int .u8 0, .int .u8 0, .int .u8 0, .int .u8 0, .int .u8 0, .int .u8 0, .int .u8 0, .int .u8 0, .int .u8 0, .int .u8 0, .int .u8 0, .int .u8 0, .int .u8 0, .int .u8 0, .int .u8 0, .int .u8 0, .int .u8 0, .int .u8 0, .int .u8 0, .int .u8 0, .int .u8 0, .int .u8 0, .int .u8 0, .int .u8 0, .int .u8 0, .int .u8 0, .int .u8 0, .int .u8 0, .int .u8 0, .int .u8 0, .int .u8 0, .int .u8 0, .int .u8 0, .int .u8 0, .int .u8 0, .int .u8 0, .int .u8 0, .int .u8 0, .int .u8 0, .int .u8 0, .int .u8 0, .int .u8 0, .int .u8 0, .int .u8 0, .int .u8 0, .int .u8 0, .int .u8 0, .int .u8 0, .int .u8 0, .int .u8 0, .int .u8 0, .int .u8 0, .int .u8 0, .int .u8 0, .int .u8 0, .int .u8 0, .int .u8 0, .int .u8 0, .int .u8 0, .int .u8 0, .int .u8 0, .int .u8 0, .int .u8 0, .int .u8 0], .arr 65 5⟩ := ⟨TI_of (by kernel_rfl), Tryz.underlying305⟩
theorem tk318 : TDok Tryz.prog 318 ⟨1, 16, .nilIface, .oth⟩ := ⟨TI_of (by kernel_rfl), ⟨_, Tryz.underlying318, rfl⟩⟩
theorem tk329 : TDok Tryz.prog 329 ⟨32, 32, .agg #[.int .u8 0, .int .u8 0, .int .u8 0, .int .u8 0, .int .u8 0, .int .u8 0, .int .u8 0, .int .u8 0, .int .u8 0, .int .u8 0, .int .u8 0, .int .u8 0, .int .u8 0, .int .u8 0, .int .u8 0, .int .u8 0, .int .u8 0, .int .u8 0, .int .u8 0, .int .u8 0, .int .u8 0, .int .u8 0, .int .u8 0, .int .u8 0, .int .u8 0, .int .u8 0, .int .u8 0, .int .u8 0, .int .u8 0, .int .u8 0, .int .u8 0, .int .u8 0], .arr 32 5⟩ := ⟨TI_of (by kernel_rfl), Tryz.underlying329⟩
theorem tk330 : TDok Tryz.prog 330 ⟨64, 64, .agg #[.int .u8 0, .int .u8 0, .int .u8 0, .int .u8 0, .int .u8 0, .int .u8 0, .int .u8 0, .int .u8 0, .int .u8 0, .int .u8 0, .int .u8 0, .int .u8 0, .int .u8 0, .int .u8 0, .int .u8 0, .int .u8 0, .int .u8 0, .int .u8 0, .int .u8 0, .int .u8 0, .int .u8 0, .int .u8 0, .int .u8 0, .int .u8 0, .int .u8 0, .int .u8 0, .int .u8 0, .int .u8 0, .int .u8 0, .int .u8 0, .int .u8 0, .int .u8 0, .int .u8 0, .int .u8 0, .int .u8 0, .int .u8 0, .int .u8 0, .int .u8 0, .int .u8 0, .int .u8 0, .int .u8 0, .int .u8 0, .int .u8 0, .int .u8 0, .int .u8 0, .int .u8 0, .int .u8 0, .int .u8 0, .int .u8 0, .int .u8 0, .int .u8 0, .int .u8 0, .int .u8 0, .int .u8 0, .int .u8 0, .int .u8 0, .int .u8 0, .int .u8 0, .int .u8 0, .int .u8 0, .int .u8 0, .int .u8 0, .int .u8 0, .int .u8 0], .arr 64 5⟩ := ⟨TI_of (by kernel_rfl), Tryz.underlying330⟩
theorem tk331 : TDok Tryz.prog 331 ⟨256, 256, .agg #[.int .u8 0, .int .u8 0, .int .u8 0, .int .u8 0, .int .u8 0, .int .u8 0, .int .u8 0, .int .u8 0, .int .u8 0, .int .u8 0, .int .u8 0, .int .u8 0, .int .u8 0, .int .u8 0, .int .u8 0, .int .u8 0, .int .u8 0, .int .u8 0, .int .u8 0, .int .u8 0, .int .u8 0, .int .u8 0, .int .u8 0, .int .u8 0, .int .u8 0, .int .u8 0, .int .u8 0, .int .u8 0, .int .u8 0, .int .u8 0, .int .u8 0, .int .u8 0, .int .u8 0, .int .u8 0, .int .u8 0, .int .u8 0, .int .u8 0, .int .u8 0, .int .u8 0, .int .u8 0, .int .u8 0, .int .u8 0, .int .u8 0, .int .u8 0, .int .u8 0, .int .u8 0, .int .u8 0, .int .u8 0, .int .u8 0, .int .u8 0, .int .u8 0, .int .u8 0, .int .u8 0, .int .u8 0, .int .u8 0, .int .u8 0, .int .u8 0, .int .u8 0, .int .u8 0, .int .u8 0, .int .u8 0, .int .u8 0, .int .u8 0, .int .u8 0, .int .u8 0, .int .u8 0, .int .u8 0, .int .u8 0, .int .u8 0, .int .u8 0, .int .u8 0, .int .u8 0, .int .u8 0, .int .u8 0, .int .u8 0, .int .u8 0, .int .u8 0, .int .u8 0, .int .u8 0, .int .u8 0, .int .u8 0, .int .u8 0, .int .u8 0, .int .u8 0, .int .u8 0, .int .u8 0, .int .u8 0, .int .u8 0, .int .u8 0, .int .u8 0, .int .u8 0, .int .u8 0, .int .u8 0, .int .u8 0, .int .u8 0, .int .u8 0, .int .u8 0, .int .u8 0, .int .u8 0, .int .u8 0, .int .u8 0, .int .u8 0, .int .u8 0, .int .u8 0, .int .u8 0, .int .u8 0, .int .u8 0, .int .u8 0, .int .u8 0, .int .u8 0, .int .u8 0, .int .u8 0, .int .u8 0, .int .u8 0, .int .u8 0, .int .u8 0, .int .u8 0, .int .u8 0, .int .u8 0, .int .u8 0, .int .u8 0, .int .u8 0, .int .u8 0, .int .u8 0, .int .u8 0, .int .u8 0, .int .u8 0, .int .u8 0, .int .u8 0, .int .u8 0, .int .u8 0, .int .u8 0, .int .u8 0, .int .u8 0, .int .u8 0, .int .u8 0, .int .u8 0, .int .u8 0, .int .u8 0, .int .u8 0, .int .u8 0, .int .u8 0, .int .u8 0, .int .u8 0, .int .u8 0, .int .u8 0, .int .u8 0, .int .u8 0, .int .u8 0, .int .u8 0, .int .u8 0, .int .u8 0, .int .u8 0, .int .u8 0, .int .u8 0, .int .u8 0, .int .u8 0, .int .u8 0, .int .u8 0, .int .u8 0, .int .u8 0, .int .u8 0, .int .u8 0, .int .u8 0, .int .u8 0, .int .u8 0, .int .u8 0, .int .u8 0, .int .u8 0, .int .u8 0, .int .u8 0, .int .u8 0, .int .u8 0, .int .u8 0, .int .u8 0, .int .u8 0, .int .u8 0, .int .u8 0, .int .u8 0, .int .u8 0, .int .u8 0, .int .u8 0, .int .u8 0, .int .u8 0, .int .u8 0, .int .u8 0, .int .u8 0, .int .u8 0, .int .u8 0, .int .u8 0, .int .u8 0, .int .u8 0, .int .u8 0, .int .u8 0, .int .u8 0, .int .u8 0, .int .u8 0, .int .u8 0, .int .u8 0, .int .u8 0, .int .u8 0, .int .u8 0, .int .u8 0, .int .u8 0, .int .u8 0, .int .u8 0, .int .u8 0, .int .u8 0, .int .u8 0, .int .u8 0, .int .u8 0, .int .u8 0, .int .u8 0, .int .u8 0, .int .u8 0, .int .u8 0, .int .u8 0, .int .u8 0, .int .u8 0, .int .u8 0, .int .u8 0, .int .u8 0, .int .u8 0, .int .u8 0, .int .u8 0, .int .u8 0, .int .u8 0, .int .u8 0, .int .u8 0, .int .u8 0, .int .u8 0, .int .u8 0, .int .u8 0, .int .u8 0, .int .u8 0, .int .u8 0, .int .u8 0, .int .u8 0, .int .u8 0, .int .u8 0, .int .u8 0, .int .u8 0, .int .u8 0, .int .u8 0, .int .u8 0, .int .u8 0, .int .u8 0, .int .u8 0, .int .u8 0, .int .u8 0, .int .u8 0, .int .u8 0, .int .u8 0, .int .u8 0, .int .u8 0, .int .u8 0], .arr 256 5⟩ := ⟨TI_of (by kernel_rfl), Tryz.underlying331⟩
theorem tk333 : TDok Tryz.prog 333 ⟨2, 2, .agg #[.int .u8 0, .int .u8 0], .st [(0, 1, false), (1, 1, false)]⟩ := TDst (TI_of (by kernel_rfl)) Tryz.underlying333 (by kernel_rfl)
theorem tk334 : TDok Tryz.prog 334 ⟨32, 32, .agg #[.int .u8 0, .int .u8 0, .int .u8 0, .int .u8 0, .int .u8 0, .int .u8 0, .int .u8 0, .int .u8 0, .int .u8 0, .int .u8 0, .int .u8 0, .int .u8 0, .int .u8 0, .int .u8 0, .int .u8 0, .int .u8 0, .int .u8 0, .int .u8 0, .int .u8 0, .int .u8 0, .int .u8 0, .int .u8 0, .int .u8 0, .int .u8 0, .int .u8 0, .int .u8 0, .int .u8 0, .int .u8 0, .int .u8 0, .int .u8 0, .int .u8 0, .int .u8 0], .arr 16 333⟩ := ⟨TI_of (by kernel_rfl), Tryz.underlying334⟩
theorem tk339 : TDok Tryz.prog 339 ⟨1, 8, .pointer none, .ptr 341⟩ := ⟨TI_of (by kernel_rfl), Tryz.underlying339⟩
theorem tk341 : TDok Tryz.prog 341 ⟨2, 32, .agg #[.pointer none, .slice none 0 0], .st [(0, 1, false), (1, 1, false)]⟩ := TDst (TI_of (by kernel_rfl)) Tryz.underlying341 (by kernel_rfl)
theorem tk345 : TDok Tryz.prog 345 ⟨1, 8, .int .i64 0, .int .i64⟩ := ⟨TI_of (by kernel_rfl), Tryz.underlying345⟩
theorem tk347 : TDok Tryz.prog 347 ⟨1, 8, .pointer none, .ptr 353⟩ := ⟨TI_of (by kernel_rfl), Tryz.underlying347⟩
theorem tk350 : TDok Tryz.prog 350 ⟨1, 8, .pointer none, .ptr 5⟩ := ⟨TI_of (by kernel_rfl), Tryz.underlying350⟩
theorem tk353 : TDok Tryz.prog 353 ⟨3, 48, .agg #[str [], str [], .nilIface], .st [(0, 1, false), (1, 1, false), (2, 1, false)]⟩ := TDst (TI_of (by kernel_rfl)) Tryz.underlying353 (by kernel_rfl)
theorem tk359 : TDok Tryz.prog 359 ⟨1, 8, .pointer none, .ptr 361⟩ := ⟨TI_of (by kernel_rfl), Tryz.underlying359⟩
theorem tk361 : TDok Tryz.prog 361 ⟨1, 16, .agg #[str []], .st [(0, 1, false)]⟩ := TDst (TI_of (by kernel_rfl)) Tryz.underlying361 (by kernel_rfl)
def tb : TT := .node (.node (.node (.node (.node (.node (.node (.nil) 2 ⟨1, 8, .int .i64 0, .int .i64⟩ (.nil)) 3 ⟨1, 8, .int .i64 0, .int .i64⟩ (.nil)) 4 ⟨1, 1, .bool false, .bool⟩ (.node (.nil) 5 ⟨1, 1, .int .u8 0, .int .u8⟩ (.nil))) 9 ⟨1, 16, str [], .str⟩ (.node (.node (.nil) 21 ⟨1, 4, .int .i32 0, .int .i32⟩ (.nil)) 22 ⟨1, 24, .slice none 0 0, .sl 52⟩ (.node (.nil) 26 ⟨2, 16, .agg #[.int .i64 0, .int .i64 0], .st [(0, 1, false), (1, 1, false)]⟩ (.nil)))) 27 ⟨1, 24, .slice none 0 0, .sl 29⟩ (.node (.node (.node (.node (.nil) 29 ⟨5, 64, .agg #[.int .i64 0, str [], .int .i64 0, .int .i64 0, .slice none 0 0], .st [(0, 1, false), (1, 1, false), (2, 2, true), (4, 1, false)]⟩ (.nil)) 32 ⟨1, 24, .slice none 0 0, .sl 98⟩ (.nil)) 33 ⟨1, 8, .int .i64 0, .int .i64⟩ (.node (.nil) 46 ⟨1, 24, .slice none 0 0, .sl 26⟩ (.nil))) 48 ⟨1, 24, .slice none 0 0, .sl 9⟩ (.node (.node (.nil) 52 ⟨2, 40, .agg #[str [], .slice none 0 0], .st [(0, 1, false), (1, 1, false)]⟩ (.nil)) 56 ⟨1, 24, .slice none 0 0, .sl 65⟩ (.node (.nil) 65 ⟨11, 128, .agg #[str [], .int .i64 0, str [], str [], str [], .bool false, .int .i64 0, .int .i64 0, .int .i64 0, .int .i64 0, str []], .st [(0, 1, false), (1, 1, false), (2, 1, false), (3, 1, false), (4, 1, false), (5, 1, false), (6, 2, true), (8, 2, true), (10, 1, false)]⟩ (.nil))))) 74 ⟨1, 24, .slice none 0 0, .sl 77⟩ (.node (.node (.node (.node (.node (.nil) 75 ⟨1, 24, .slice none 0 0, .sl 93⟩ (.nil)) 77 ⟨3, 48, .agg #[str [], .bool false, .slice none 0 0], .st [(0, 1, false), (1, 1, false), (2, 1, false)]⟩ (.nil)) 79 ⟨1, 24, .slice none 0 0, .sl 95⟩ (.node (.nil) 87 ⟨1, 24, .slice none 0 0, .sl 90⟩ (.nil))) 90 ⟨3, 24, .agg #[.int .i64 0, .int .i64 0, .int .i64 0], .st [(0, 1, false), (1, 2, true)]⟩ (.node (.node (.nil) 91 ⟨1, 24, .slice none 0 0, .sl 138⟩ (.nil)) 93 ⟨2, 48, .agg #[.slice none 0 0, .slice none 0 0], .st [(0, 1, false), (1, 1, false)]⟩ (.node (.nil) 95 ⟨4, 48, .agg #[.slice none 0 0, .int .i64 0, .int .i64 0, .int .i64 0], .st [(0, 1, false), (1, 1, false), (2, 2, true)]⟩ (.nil)))) 98 ⟨3, 40, .agg #[.slice none 0 0, .int .i64 0, .int .i64 0], .st [(0, 1, false), (1, 2, true)]⟩ (.node (.node (.node (.node (.nil) 101 ⟨4, 40, .agg #[str [], .int .i64 0, .int .i64 0, .int .i64 0], .st [(0, 1, false), (1, 1, false), (2, 1, false), (3, 1, false)]⟩ (.nil)) 108 ⟨1, 24, .slice none 0 0, .sl 32⟩ (.nil)) 117 ⟨5, 48, .agg #[str [], .int .i64 0, .int .i64 0, .int .i64 0, .bool false], .st [(0, 1, false), (1, 1, false), (2, 1, false), (3, 1, false), (4, 1, false)]⟩ (.node (.nil) 124 ⟨1, 8, .map none, .mp 9 65⟩ (.nil))) 127 ⟨1, 8, .map none, .mp 9 4⟩ (.node (.node (.nil) 138 ⟨2, 32, .agg #[str [], str []], .st [(0, 1, false), (1, 1, false)]⟩ (.nil)) 163 ⟨1, 8, .nilFunc, .oth⟩ (.node (.nil) 167 ⟨6, 96, .agg #[str [], str [], str [], str [], str [], str []], .arr 6 9⟩ (.nil)))))) 172 ⟨1, 8, .int .u64 0, .int .u64⟩ (.node (.node (.node (.node (.node (.node (.nil) 182 ⟨3, 56, .agg #[.map none, .slice none 0 0, .slice none 0 0], .st [(0, 1, false), (1, 1, false), (2, 1, false)]⟩ (.nil)) 183 ⟨1, 8, .nilFunc, .oth⟩ (.nil)) 185 ⟨1, 8, .map none, .mp 3 183⟩ (.node (.nil) 197 ⟨1, 8, .nilFunc, .oth⟩ (.nil))) 199 ⟨1, 8, .map none, .mp 9 197⟩ (.node (.node (.nil) 201 ⟨1, 8, .nilFunc, .oth⟩ (.nil)) 203 ⟨1, 8, .map none, .mp 9 201⟩ (.node (.nil) 212 ⟨5, 120, .agg #[.slice none 0 0, .slice none 0 0, .slice none 0 0, .slice none 0 0, .slice none 0 0], .arr 5 48⟩ (.nil)))) 217 ⟨256, 256, .agg #[.bool false, .bool false, .bool false, .bool false, .bool false, .bool false, .bool false, .bool false, .bool false, .bool false, .bool false, .bool false, .bool false, .bool false, .bool false, .bool false, .bool false, .bool false, .bool false, .bool false, .bool false, .bool false, .bool false, .bool false, .bool false, .bool false, .bool false, .bool false, .bool false, .bool false, .bool false, .bool false, .bool false, .bool false, .bool false, .bool false, .bool false, .bool false, .bool false, .bool false, .bool false, .bool false, .bool false, .bool false, .bool false, .bool false, .bool false, .bool false, .bool false, .bool false, .bool false, .bool false, .bool false, .bool false, .bool false, .bool false, .bool false, .bool false, .bool false, .bool false, .bool false, .bool false, .bool false, .bool false, .bool false, .bool false, .bool false, .bool false, .bool false, .bool false, .bool false, .bool false, .bool false, .bool false, .bool false, .bool false, .bool false, .bool false, .bool false, .bool false, .bool false, .bool false, .bool false, .bool false, .bool false, .bool false, .bool false, .bool false, .bool false, .bool false, .bool false, .bool false, .bool false, .bool false, .bool false, .bool false, .bool false, .bool false, .bool false, .bool false, .bool false, .bool false, .bool false, .bool false, .bool false, .bool false, .bool false, .bool false, .bool false, .bool false, .bool false, .bool false, .bool false, .bool false, .bool false, .bool false, .bool false, .bool false, .bool false, .bool false, .bool false, .bool false, .bool false, .bool false, .bool false, .bool false, .bool false, .bool false, .bool false, .bool false, .bool false, .bool false, .bool false, .bool false, .bool false, .bool false, .bool false, .bool false, .bool false, .bool false, .bool false, .bool false, .bool false, .bool false, .bool false, .bool false, .bool false, .bool false, .bool false, .bool false, .bool false, .bool false, .bool false, .bool false, .bool false, .bool false, .bool false, .bool false, .bool false, .bool false, .bool false, .bool false, .bool false, .bool false, .bool false, .bool false, .bool false, .bool false, .bool false, .bool false, .bool false, .bool false, .bool false, .bool false, .bool false, .bool false, .bool false, .bool false, .bool false, .bool false, .bool false, .bool false, .bool false, .bool false, .bool false, .bool false, .bool false, .bool false, .bool false, .bool false, .bool false, .bool false, .bool false, .bool false, .bool false, .bool false, .bool false, .bool false, .bool false, .bool false, .bool false, .bool false, .bool false, .bool false, .bool false, .bool false, .bool false, .bool false, .bool false, .bool false, .bool false, .bool false, .bool false, .bool false, .bool false, .bool false, .bool false, .bool false, .bool false, .bool false, .bool false, .bool false, .bool false, .bool false, .bool false, .bool false, .bool false, .bool false, .bool false, .bool false, .bool false, .bool false, .bool false, .bool false, .bool false, .bool false, .bool false, .bool false, .bool false, .bool false, .bool false, .bool false, .bool false, .bool false, .bool false, .bool false, .bool false, .bool false, .bool false, .bool false, .bool false, .bool false, .bool false, .bool false, .bool false, .bool false], .arr 256 4⟩ (.node (.node (.node (.node (.nil) 223 ⟨1, 8, .int .i64 0, .int .i64⟩ (.nil)) 232 ⟨1, 4, .int .u32 0, .int .u32⟩ (.nil)) 234 ⟨1, 8, .int .u64 0, .int .u64⟩ (.node (.nil) 254 ⟨1, 8, .nilFunc, .oth⟩ (.nil))) 259 ⟨1, 8, .nilFunc, .oth⟩ (.node (.node (.nil) 262 ⟨15, 240, .agg #[str [], str [], str [], str [], str [], str [], str [], str [], str [], str [], str [], str [], str [], str [], str []], .arr 15 9⟩ (.nil)) 264 ⟨24, 24, .agg #[.int .u8 0, .int .u8 0, .int .u8 0, .int .u8 0, .int .u8 0, .int .u8 0, .int .u8 0, .int .u8 0, .int .u8 0, .int .u8 0, .int .u8 0, .int .u8 0, .int .u8 0, .int .u8 0, .int .u8 0, .int .u8 0, .int .u8 0, .int .u8 0, .int .u8 0, .int .u8 0, .int .u8 0, .int .u8 0, .int .u8 0, .int .u8 0], .arr 24 5⟩ (.node (.nil) 266 ⟨1, 24, .slice none 0 0, .sl 5⟩ (.nil))))) 272 ⟨1, 8, .int .u64 0, .int .u64⟩ (.node (.node (.node (.node (.node (.nil) 296 ⟨1, 24, .slice none 0 0, .sl 3⟩ (.nil)) 304 ⟨20, 160, .agg #[.int .u64 0, .int .u64 0, .int .u64 0, .int .u64 0, .int .u64 0, .int .u64 0, .int .u64 0, .int .u64 0, .int .u64 0, .int .u64 0, .int .u64 0, .int .u64 0, .int .u64 0, .int .u64 0, .int .u64 0, .int .u64 0, .int .u64 0, .int .u64 0, .int .u64 0, .int .u64 0], .arr 20 234⟩ (.nil)) 305 ⟨65, 65, .agg #[.int .u8 0, .int .u8 0, .int .u8 0, .int .u8 0, .int .u8 0, .int .u8 0, .int .u8 0, .int .u8 0, .int .u8 0, .int .u8 0, .int .u8 0, .int .u8 0, .int .u8 0, .int .u8 0, .int .u8 0, .int .u8 0, .int .u8 0, .int .u8 0, .int .u8 0, .int .u8 0, .int .u8 0, .int .u8 0, .int .u8 0, .int .u8 0, .int .u8 0, .int .u8 0, .int .u8 0, .int .u8 0, .int .u8 0, .int .u8 0, .int .u8 0, .int .u8 0, .int .u8 0, .int .u8 0, .int .u8 0, .int .u8 0, .int .u8 0, .int .u8 0, .int .u8 0, .int .u8 0, .int .u8 0, .int .u8 0, .int .u8 0, .int .u8 0, .int .u8 0, .int .u8 0, .int .u8 0, .int .u8 0, .int .u8 0, .int .u8 0, .int .u8 0, .int .u8 0, .int .u8 0, .int .u8 0, .int .u8 0, .int .u8 0, .int .u8 0, .int .u8 0, .int .u8 0, .int .u8 0, .int .u8 0, .int .u8 0, .int .u8 0, .int .u8 0, .int .u8 0], .arr 65 5⟩ (.node (.nil) 318 ⟨1, 16, .nilIface, .oth⟩ (.nil))) 329 ⟨32, 32, .agg #[.int .u8 0, .int .u8 0, .int .u8 0, .int .u8 0, .int .u8 0, .int .u8 0, .int .u8 0, .int .u8 0, .int .u8 0, .int .u8 0, .int .u8 0, .int .u8 0, .int .u8 0, .int .u8 0, .int .u8 0, .int .u8 0, .int .u8 0, .int .u8 0, .int .u8 0, .int .u8 0, .int .u8 0, .int .u8 0, .int .u8 0, .int .u8 0, .int .u8 0, .int .u8 0, .int .u8 0, .int .u8 0, .int .u8 0, .int .u8 0, .int .u8 0, .int .u8 0], .arr 32 5⟩ (.node (.node (.nil) 330 ⟨64, 64, .agg #[.int .u8 0, .int .u8 0, .int .u8 0, .int .u8 0, .int .u8 0, .int .u8 0, .int .u8 0, .int .u8 0, .int .u8 0, .int .u8 0, .int .u8 0, .int .u8 0, .int .u8 0, .int .u8 0, .int .u8 0, .int .u8 0, .int .u8 0, .int .u8 0, .int .u8 0, .int .u8 0, .int .u8 0, .int .u8 0, .int .u8 0, .int .u8 0, .int .u8 0, .int .u8 0, .int .u8 0, .int .u8 0, .int .u8 0, .int .u8 0, .int .u8 0, .int .u8 0, .int .u8 0, .int .u8 0, .int .u8 0, .int .u8 0, .int .u8 0, .int .u8 0, .int .u8 0, .int .u8 0, .int .u8 0, .int .u8 0, .int .u8 0, .int .u8 0, .int .u8 0, .int .u8 0, .int .u8 0, .int .u8 0, .int .u8 0, .int .u8 0, .int .u8 0, .int .u8 0, .int .u8 0, .int .u8 0, .int .u8 0, .int .u8 0, .int .u8 0, .int .u8 0, .int .u8 0, .int .u8 0, .int .u8 0, .int .u8 0, .int .u8 0, .int .u8 0], .arr 64 5⟩ (.nil)) 331 ⟨256, 256, .agg #[.int .u8 0, .int .u8 0, .int .u8 0, .int .u8 0, .int .u8 0, .int .u8 0, .int .u8 0, .int .u8 0, .int .u8 0, .int .u8 0, .int .u8 0, .int .u8 0, .int .u8 0, .int .u8 0, .int .u8 0, .int .u8 0, .int .u8 0, .int .u8 0, .int .u8 0, .int .u8 0, .int .u8 0, .int .u8 0, .int .u8 0, .int .u8 0, .int .u8 0, .int .u8 0, .int .u8 0, .int .u8 0, .int .u8 0, .int .u8 0, .int .u8 0, .int .u8 0, .int .u8 0, .int .u8 0, .int .u8 0, .int .u8 0, .int .u8 0, .int .u8 0, .int .u8 0, .int .u8 0, .int .u8 0, .int .u8 0, .int .u8 0, .int .u8 0, .int .u8 0, .int .u8 0, .int .u8 0, .int .u8 0, .int .u8 0, .int .u8 0, .int .u8 0, .int .u8 0, .int .u8 0, .int .u8 0, .int .u8 0, .int .u8 0, .int .u8 0, .int .u8 0, .int .u8 0, .int .u8 0, .int .u8 0, .int .u8 0, .int .u8 0, .int .u8 0, .int .u8 0, .int .u8 0, .int .u8 0, .int .u8 0, .int .u8 0, .int .u8 0, .int .u8 0, .int .u8 0, .int .u8 0, .int .u8 0, .int .u8 0, .int .u8 0, .int .u8 0, .int .u8 0, .int .u8 0, .int .u8 0, .int .u8 0, .int .u8 0, .int .u8 0, .int .u8 0, .int .u8 0, .int .u8 0, .int .u8 0, .int .u8 0, .int .u8 0, .int .u8 0, .int .u8 0, .int .u8 0, .int .u8 0, .int .u8 0, .int .u8 0, .int .u8 0, .int .u8 0, .int .u8 0, .int .u8 0, .int .u8 0, .int .u8 0, .int .u8 0, .int .u8 0, .int .u8 0, .int .u8 0, .int .u8 0, .int .u8 0, .int .u8 0, .int .u8 0, .int .u8 0, .int .u8 0, .int .u8 0, .int .u8 0, .int .u8 0, .int .u8 0, .int .u8 0, .int .u8 0, .int .u8 0, .int .u8 0, .int .u8 0, .int .u8 0, .int .u8 0, .int .u8 0, .int .u8 0, .int .u8 0, .int .u8 0, .int .u8 0, .int .u8 0, .int .u8 0, .int .u8 0, .int .u8 0, .int .u8 0, .int .u8 0, .int .u8 0, .int .u8 0, .int .u8 0, .int .u8 0, .int .u8 0, .int .u8 0, .int .u8 0, .int .u8 0, .int .u8 0, .int .u8 0, .int .u8 0, .int .u8 0, .int .u8 0, .int .u8 0, .int .u8 0, .int .u8 0, .int .u8 0, .int .u8 0, .int .u8 0, .int .u8 0, .int .u8 0, .int .u8 0, .int .u8 0, .int .u8 0, .int .u8 0, .int .u8 0, .int .u8 0, .int .u8 0, .int .u8 0, .int .u8 0, .int .u8 0, .int .u8 0, .int .u8 0, .int .u8 0, .int .u8 0, .int .u8 0, .int .u8 0, .int .u8 0, .int .u8 0, .int .u8 0, .int .u8 0, .int .u8 0, .int .u8 0, .int .u8 0, .int .u8 0, .int .u8 0, .int .u8 0, .int .u8 0, .int .u8 0, .int .u8 0, .int .u8 0, .int .u8 0, .int .u8 0, .int .u8 0, .int .u8 0, .int .u8 0, .int .u8 0, .int .u8 0, .int .u8 0, .int .u8 0, .int .u8 0, .int .u8 0, .int .u8 0, .int .u8 0, .int .u8 0, .int .u8 0, .int .u8 0, .int .u8 0, .int .u8 0, .int .u8 0, .int .u8 0, .int .u8 0, .int .u8 0, .int .u8 0, .int .u8 0, .int .u8 0, .int .u8 0, .int .u8 0, .int .u8 0, .int .u8 0, .int .u8 0, .int .u8 0, .int .u8 0, .int .u8 0, .int .u8 0, .int .u8 0, .int .u8 0, .int .u8 0, .int .u8 0, .int .u8 0, .int .u8 0, .int .u8 0, .int .u8 0, .int .u8 0, .int .u8 0, .int .u8 0, .int .u8 0, .int .u8 0, .int .u8 0, .int .u8 0, .int .u8 0, .int .u8 0, .int .u8 0, .int .u8 0, .int .u8 0, .int .u8 0, .int .u8 0, .int .u8 0, .int .u8 0, .int .u8 0, .int .u8 0, .int .u8 0, .int .u8 0, .int .u8 0, .int .u8 0, .int .u8 0, .int .u8 0, .int .u8 0, .int .u8 0, .int .u8 0, .int .u8 0, .int .u8 0, .int .u8 0], .arr 256 5⟩ (.node (.nil) 333 ⟨2, 2, .agg #[.int .u8 0, .int .u8 0], .st [(0, 1, false), (1, 1, false)]⟩ (.nil)))) 334 ⟨32, 32, .agg #[.int .u8 0, .int .u8 0, .int .u8 0, .int .u8 0, .int .u8 0, .int .u8 0, .int .u8 0, .int .u8 0, .int .u8 0, .int .u8 0, .int .u8 0, .int .u8 0, .int .u8 0, .int .u8 0, .int .u8 0, .int .u8 0, .int .u8 0, .int .u8 0, .int .u8 0, .int .u8 0, .int .u8 0, .int .u8 0, .int .u8 0, .int .u8 0, .int .u8 0, .int .u8 0, .int .u8 0, .int .u8 0, .int .u8 0, .int .u8 0, .int .u8 0, .int .u8 0], .arr 16 333⟩ (.node (.node (.node (.node (.nil) 339 ⟨1, 8, .pointer none, .ptr 341⟩ (.nil)) 341 ⟨2, 32, .agg #[.pointer none, .slice none 0 0], .st [(0, 1, false), (1, 1, false)]⟩ (.nil)) 345 ⟨1, 8, .int .i64 0, .int .i64⟩ (.node (.nil) 347 ⟨1, 8, .pointer none, .ptr 353⟩ (.nil))) 350 ⟨1, 8, .pointer none, .ptr 5⟩ (.node (.node (.nil) 353 ⟨3, 48, .agg #[str [], str [], .nilIface], .st [(0, 1, false), (1, 1, false), (2, 1, false)]⟩ (.nil)) 359 ⟨1, 8, .pointer none, .ptr 361⟩ (.node (.nil) 361 ⟨1, 16, .agg #[str []], .st [(0, 1, false)]⟩ (.nil))))))
theorem tOK : tb.Ok Tryz.prog := ⟨⟨⟨⟨⟨⟨⟨trivial, tk2, trivial⟩, tk3, trivial⟩, tk4, ⟨trivial, tk5, trivial⟩⟩, tk9, ⟨⟨trivial, tk21, trivial⟩, tk22, ⟨trivial, tk26, trivial⟩⟩⟩, tk27, ⟨⟨⟨⟨trivial, tk29, trivial⟩, tk32, trivial⟩, tk33, ⟨trivial, tk46, trivial⟩⟩, tk48, ⟨⟨trivial, tk52, trivial⟩, tk56, ⟨trivial, tk65, trivial⟩⟩⟩⟩, tk74, ⟨⟨⟨⟨⟨trivial, tk75, trivial⟩, tk77, trivial⟩, tk79, ⟨trivial, tk87, trivial⟩⟩, tk90, ⟨⟨trivial, tk91, trivial⟩, tk93, ⟨trivial, tk95, trivial⟩⟩⟩, tk98, ⟨⟨⟨⟨trivial, tk101, trivial⟩, tk108, trivial⟩, tk117, ⟨trivial, tk124, trivial⟩⟩, tk127, ⟨⟨trivial, tk138, trivial⟩, tk163, ⟨trivial, tk167, trivial⟩⟩⟩⟩⟩, tk172, ⟨⟨⟨⟨⟨⟨trivial, tk182, trivial⟩, tk183, trivial⟩, tk185, ⟨trivial, tk197, trivial⟩⟩, tk199, ⟨⟨trivial, tk201, trivial⟩, tk203, ⟨trivial, tk212, trivial⟩⟩⟩, tk217, ⟨⟨⟨⟨trivial, tk223, trivial⟩, tk232, trivial⟩, tk234, ⟨trivial, tk254, trivial⟩⟩, tk259, ⟨⟨trivial, tk262, trivial⟩, tk264, ⟨trivial, tk266, trivial⟩⟩⟩⟩, tk272, ⟨⟨⟨⟨⟨trivial, tk296, trivial⟩, tk304, trivial⟩, tk305, ⟨trivial, tk318, trivial⟩⟩, tk329, ⟨⟨trivial, tk330, trivial⟩, tk331, ⟨trivial, tk333, trivial⟩⟩⟩, tk334, ⟨⟨⟨⟨trivial, tk339, trivial⟩, tk341, trivial⟩, tk345, ⟨trivial, tk347, trivial⟩⟩, tk350, ⟨⟨trivial, tk353, trivial⟩, tk359, ⟨trivial, tk361, trivial⟩⟩⟩⟩⟩⟩
end Go.Proofs.YtomkgfdigldhcaaGreatDoor
namespace Go.KX
theorem div_k {N Q r : Nat} (h : N * 4194304 = 4194304000 * Q + r) (hr : r < 4194304000) : Q = N / 1000 := by omega
theorem div_two {hi lo u v q1 r1 w q0 r0 : Nat} (hlo : lo < 18446744073709551616) (h : hi < 1000) (hu : u = hi * 18014398509481984 + lo / 1024) (hv : v = lo % 1024 * 4194304) (h1 : u = 4194304000 * q1 + r1) (h2 : r1 < 4194304000) (hw : w = r1 * 4294967296 + v) (h3 : w = 4194304000 * q0 + r0) (h4 : r0 < 4194304000) :
    q1 < 4294967296 ∧ q0 < 4294967296 ∧ w < 18014398509481984000 ∧ q1 * 4294967296 + q0 = (hi * 18446744073709551616 + lo) / 1000 := by
  have hv2 : v < 4294967296 := by omega
  have hu2 : u < 18014398509481984000 := by omega
  have hq1 : q1 < 4294967296 := by omega
  have hw2 : w < 18014398509481984000 := by omega
  have hq0 : q0 < 4294967296 := by omega
  have hm : lo = lo / 1024 * 1024 + lo % 1024 := by omega
  have e1 : (hi * 18446744073709551616 + lo) * 4194304 = 4194304000 * (q1 * 4294967296 + q0) + r0 := by
    generalize lo / 1024 = x at hm hu
    generalize lo % 1024 = y at hm hv
    subst hm hv
    omega
  exact ⟨hq1, hq0, hw2, div_k e1 h4⟩
theorem or_add {a b : Nat} (ha : a < 1024) (hb : b < 18014398509481984) : bits .or .u64 ((a * 18014398509481984 : Nat) : Int) (b : Int) = ((a * 18014398509481984 + b : Nat) : Int) := by
  rw [bits_or_u64_nat _ _ (by omega) (by omega)]
  congr 1
  have := Nat.shiftLeft_add_eq_or_of_lt (i := 54) (b := b) (by omega) a
  rw [Nat.shiftLeft_eq] at this
  exact this.symm
theorem wrapN {a : Nat} (ha : a < 18446744073709551616) : IntKind.wrap .u64 (a : Int) = (a : Int) := by rw [IntKind.wrap_u64]; omega
theorem u_eq {hi lo : Nat} (hh : hi < 1000) (hl : lo < 18446744073709551616) : bits .or .u64 (IntKind.wrap .u64 ((hi : Int) * 2 ^ (54 : Int).toNat)) ((lo : Int) / 2 ^ (IntKind.wrap .u64 (64 - 54)).toNat) = ((hi * 18014398509481984 + lo / 1024 : Nat) : Int) := by
  rw [show (IntKind.wrap .u64 (64 - 54)).toNat = 10 from rfl, show (54 : Int).toNat = 54 from rfl, show (hi : Int) * 2 ^ 54 = ((hi * 18014398509481984 : Nat) : Int) by omega, wrapN (by omega), show (lo : Int) / 2 ^ 10 = ((lo / 1024 : Nat) : Int) by omega]
  exact or_add (by omega) (by omega)
theorem low_eq (lo : Nat) : IntKind.wrap .u64 ((lo : Int) * 2 ^ (54 : Int).toNat) = ((lo % 1024 * 18014398509481984 : Nat) : Int) := by
  rw [IntKind.wrap_u64, show (54 : Int).toNat = 54 from rfl]; omega
theorem mid_eq (lo : Nat) : ((lo % 1024 * 18014398509481984 : Nat) : Int) / 2 ^ (32 : Int).toNat = ((lo % 1024 * 4194304 : Nat) : Int) := by
  rw [show (32 : Int).toNat = 32 from rfl]; omega
theorem mask_eq (lo : Nat) : bits .and .u64 ((lo % 1024 * 18014398509481984 : Nat) : Int) 4294967295 = 0 := by
  have h := bits_and_u64_nat (lo % 1024 * 18014398509481984) 4294967295 (by omega) (by omega)
  have e : (lo % 1024 * 18014398509481984) &&& 4294967295 = 0 := by
    rw [show (4294967295 : Nat) = 2 ^ 32 - 1 from rfl, Nat.and_two_pow_sub_one_eq_mod]; omega
  rw [e] at h
  exact h
theorem quo_eq {u : Nat} (h : u < 18446744073709551616) : IntKind.wrap .u64 ((u : Int).tdiv 4194304000) = ((u / 4194304000 : Nat) : Int) := by
  rw [show (4194304000 : Int) = ((4194304000 : Nat) : Int) from rfl, ← Int.ofNat_tdiv, wrapN (by omega)]
theorem rem_eq {u : Nat} (h : u < 18446744073709551616) : IntKind.wrap .u64 ((u : Int) - IntKind.wrap .u64 (((u / 4194304000 : Nat) : Int) * 4194304000)) = ((u % 4194304000 : Nat) : Int) := by
  rw [show ((u / 4194304000 : Nat) : Int) * 4194304000 = ((u / 4194304000 * 4194304000 : Nat) : Int) by omega, wrapN (by omega), show (u : Int) - ((u / 4194304000 * 4194304000 : Nat) : Int) = ((u % 4194304000 : Nat) : Int) by omega, wrapN (by omega)]
theorem quo0_eq {lo : Nat} (hl : lo < 18446744073709551616) : IntKind.wrap .u64 ((lo : Int).tdiv 1000) = (((0 * 18446744073709551616 + lo) / 1000 : Nat) : Int) := by
  rw [show (1000 : Int) = ((1000 : Nat) : Int) from rfl, ← Int.ofNat_tdiv, wrapN (by omega)]
  congr 2
  omega
theorem low_w {u v q1 r1 w : Nat} (hu : u = 4194304000 * q1 + r1) (_hr : r1 < 4194304000) (hw : w = r1 * 4294967296 + v) (bw : w < 18014398509481984000) : IntKind.wrap .u64 (IntKind.wrap .u64 (IntKind.wrap .u64 ((u : Int) * 4294967296) + (v : Int)) - IntKind.wrap .u64 ((q1 : Int) * 18014398509481984000)) = (w : Int) := by
  simp only [IntKind.wrap_u64]
  omega
theorem fin1 {q1 q0 Q : Nat} (b1 : q1 < 4294967296) (b0 : q0 < 4294967296) (hQ : q1 * 4294967296 + q0 = Q) : IntKind.wrap .u64 (IntKind.wrap .u64 ((q1 : Int) * 4294967296) + (q0 : Int)) = (Q : Int) := by
  simp only [IntKind.wrap_u64]
  omega
theorem fin_r {w q0 r0 : Nat} (h : w = 4194304000 * q0 + r0) (hr : r0 < 4194304000) : IntKind.wrap .u64 (IntKind.wrap .u64 (IntKind.wrap .u64 ((w : Int) * 4294967296) + 0) - IntKind.wrap .u64 ((q0 : Int) * 18014398509481984000)) = ((r0 * 4294967296 : Nat) : Int) := by
  simp only [IntKind.wrap_u64]
  omega
theorem t_eq {x y x' y' : Int} (h : x = x') (h2 : y = y') : SV.t [.v (.int .u64 x), .v (.int .u64 y)] = SV.t [.v (.int .u64 x'), .v (.int .u64 y')] := by rw [h, h2]
def rem1000 (hi lo : Nat) : Int := if hi = 0 then (lo : Int).tmod 1000 else (((hi * 18014398509481984 + lo / 1024) % 4194304000 * 4294967296 + lo % 1024 * 4194304) % 4194304000 / 4194304 : Nat)
theorem fin2 {hi lo u v r1 w q0 r0 : Nat} (h0 : hi ≠ 0) (hu : u = hi * 18014398509481984 + lo / 1024) (hv : v = lo % 1024 * 4194304) (hr1 : r1 = u % 4194304000) (hw : w = r1 * 4294967296 + v) (hq0 : q0 = w / 4194304000) (hr0 : r0 = w % 4194304000) :
    IntKind.wrap .u64 (IntKind.wrap .u64 (IntKind.wrap .u64 ((w : Int) * 4294967296) + 0) - IntKind.wrap .u64 ((q0 : Int) * 18014398509481984000)) / 2 ^ (54 : Int).toNat = rem1000 hi lo := by
  rw [fin_r (r0 := r0) (by omega) (by omega), rem1000, if_neg h0, ← hu, ← hv, ← hr1, ← hw, ← hr0, show (54 : Int).toNat = 54 from rfl]
  omega
end Go.KX
namespace Go.Proofs.YtomkgfdigldhcaaGreatDoor
open Go.KX
set_option maxRecDepth 100000 in
theorem vnan_ok  : Fc Tryz.prog gT 205 [] (vS nanV) := by
 refine fb tOK (fn := Tryz.f205) 2 [.cell 0 26] Tryz.func205 Tryz.results205 (fun g0 B0 Q ρ0 R => ?_)
 refine en tOK 0 1 [] ?_
 refine sn tOK 0 2 [] ?_
 refine sr 0 R ?_
 rfl
set_option maxRecDepth 100000 in
theorem vplus_ok  : Fc Tryz.prog gT 226 [] (vS plusV) := by
 refine fb tOK (fn := Tryz.f226) 2 [.cell 0 26] Tryz.func226 Tryz.results226 (fun g0 B0 Q ρ0 R => ?_)
 refine en tOK 0 1 [] ?_
 refine sn tOK 0 2 [] ?_
 refine sr 0 R ?_
 rfl
set_option maxRecDepth 100000 in
theorem vminus_ok  : Fc Tryz.prog gT 227 [] (vS minusV) := by
 refine fb tOK (fn := Tryz.f227) 2 [.cell 0 26] Tryz.func227 Tryz.results227 (fun g0 B0 Q ρ0 R => ?_)
 refine en tOK 0 1 [] ?_
 refine sn tOK 0 2 [] ?_
 refine sr 0 R ?_
 rfl
set_option maxRecDepth 100000 in
theorem vnull_ok  : Fc Tryz.prog gT 87 [] (vS nullV) := by
 refine fb tOK (fn := Tryz.f87) 2 [.cell 0 26] Tryz.func87 Tryz.results87 (fun g0 B0 Q ρ0 R => ?_)
 refine en tOK 0 1 [] ?_
 refine sn tOK 0 2 [] ?_
 refine sr 0 R ?_
 rfl
set_option maxRecDepth 100000 in
theorem vnum_ok {n : Int} : Fc Tryz.prog gT 156 [nI n] (vS (numV n)) := by
 refine fb tOK (fn := Tryz.f156) 13 [.cell 2 26] Tryz.func156 Tryz.results156 (fun g0 B0 Q ρ0 R => ?_)
 refine en tOK 0 1 [] ?_
 refine sn tOK 0 3 [] ?_
 refine si 0 rfl rfl (fun h3 => ?_) (fun h3 => ?_)
 ·have e : numV n = plusV := by unfold numV; rw [if_pos h3]
  refine en tOK 0 0 [] ?_
  refine fc tOK 1 [] (vplus_ok) ?_
  refine sr 0 R ?_
  rw [e]; rfl
 ·refine en tOK 0 3 [] ?_
  refine si 0 rfl rfl (fun h7 => ?_) (fun h7 => ?_)
  ·have e : numV n = minusV := by unfold numV; rw [if_neg h3, if_pos h7]
   refine en tOK 0 0 [] ?_
   refine fc tOK 1 [] (vminus_ok) ?_
   refine sr 0 R ?_
   rw [e]; rfl
  ·have e : numV n = ⟨1, n⟩ := by unfold numV; rw [if_neg h3, if_neg h7]
   refine en tOK 0 3 [] ?_
   refine sr 0 R ?_
   rw [e]; rfl
set_option maxRecDepth 100000 in
theorem vtruth_ok {b : Bool} : Fc Tryz.prog gT 234 [.v (.bool b)] (vS (truthV b)) := by
 refine fb tOK (fn := Tryz.f234) 6 [.cell 2 26] Tryz.func234 Tryz.results234 (fun g0 B0 Q ρ0 R => ?_)
 refine en tOK 0 1 [] ?_
 refine sn tOK 0 1 [] ?_
 refine sib 0 rfl rfl (fun h3 => ?_) (fun h3 => ?_)
 ·refine en tOK 0 0 [] ?_
  refine fc tOK 1 [] (vnum_ok) ?_
  refine sr 0 R ?_
  rw [h3]; rfl
 ·refine en tOK 0 0 [] ?_
  refine fc tOK 1 [] (vnum_ok) ?_
  refine sr 0 R ?_
  rw [h3]; rfl
set_option maxRecDepth 100000 in
theorem vback_ok {n : Int} : Fc Tryz.prog gT 239 [nI n] (vS (numV n)) := by
 refine fb tOK (fn := Tryz.f239) 5 [.cell 2 26] Tryz.func239 Tryz.results239 (fun g0 B0 Q ρ0 R => ?_)
 refine en tOK 0 1 [] ?_
 refine sn tOK 0 1 [] ?_
 refine fc tOK 1 [] (vnum_ok) ?_
 refine sr 0 R ?_
 rfl
set_option maxRecDepth 100000 in
theorem vrank_ok {v : Val} : Fc Tryz.prog gT 240 [vS v] (nI (rankV v)) := by
 refine fb tOK (fn := Tryz.f240) 11 [.tmp 2] Tryz.func240 Tryz.results240 (fun g0 B0 Q ρ0 R => ?_)
 refine en tOK 0 2 [] ?_
 refine sn tOK 0 2 [] ?_
 refine sn tOK 0 2 [] ?_
 refine si 0 rfl rfl (fun h5 => ?_) (fun h5 => ?_)
 ·refine en tOK 0 1 [] ?_
  refine sr 0 R ?_
  simp [resVS, rankV, *]
 ·refine en tOK 0 2 [] ?_
  refine si 0 rfl rfl (fun h7 => ?_) (fun h7 => ?_)
  ·refine en tOK 0 1 [] ?_
   refine sr 0 R ?_
   simp [resVS, rankV, *]
  ·refine en tOK 0 3 [] ?_
   refine sr 0 R ?_
   simp [resVS, rankV, *]
set_option maxRecDepth 100000 in
theorem vsign_ok {v : Val} : Fc Tryz.prog gT 293 [vS v] (nI (signV v)) := by
 refine fb tOK (fn := Tryz.f293) 7 [.tmp 2] Tryz.func293 Tryz.results293 (fun g0 B0 Q ρ0 R => ?_)
 refine en tOK 0 2 [] ?_
 refine sn tOK 0 1 [] ?_
 refine fc tOK 3 [] (vrank_ok) ?_
 refine sr 0 R ?_
 simp only [resVS]; rw [sgn_mm]; rfl
set_option maxRecDepth 100000 in
theorem vinf_ok {n : Int} : Fc Tryz.prog gT 294 [nI n] (vS (infV n)) := by
 refine fb tOK (fn := Tryz.f294) 11 [.cell 2 26] Tryz.func294 Tryz.results294 (fun g0 B0 Q ρ0 R => ?_)
 refine en tOK 0 1 [] ?_
 refine sn tOK 0 2 [] ?_
 refine si 0 rfl rfl (fun h4 => ?_) (fun h4 => ?_)
 ·have e : infV n = nanV := by unfold infV; rw [if_pos h4]
  refine en tOK 0 0 [] ?_
  refine fc tOK 1 [] (vnan_ok) ?_
  refine sr 0 R ?_
  rw [← e]; rfl
 ·have e : numV (min (max n (-1)) 1 * 1000000000000001) = infV n := inf_mm h4
  refine en tOK 0 4 [] ?_
  refine fc tOK 1 [] (vback_ok) ?_
  refine sr 0 R ?_
  rw [← e]; rfl
set_option maxRecDepth 100000 in
theorem vfin_ok {v : Val} : Fc Tryz.prog gT 232 [vS v] (SV.v (.bool (finV v))) := by
 refine fb tOK (fn := Tryz.f232) 6 [.tmp 2] Tryz.func232 Tryz.results232 (fun g0 B0 Q ρ0 R => ?_)
 refine en tOK 0 2 [] ?_
 refine sn tOK 0 4 [] ?_
 refine sr 0 R ?_
 rfl
set_option maxRecDepth 100000 in
theorem vtrue_ok {v : Val} : Fc Tryz.prog gT 89 [vS v] (SV.v (.bool (trueV v))) := by
 refine fb tOK (fn := Tryz.f89) 21 [.tmp 2] Tryz.func89 Tryz.results89 (fun g0 B0 Q ρ0 R => ?_)
 refine en tOK 0 2 [] ?_
 refine sn tOK 0 19 [] ?_
 refine sr 0 R ?_
 simp [resVS, trueV, Bool.and_assoc]
set_option maxRecDepth 100000 in
theorem vis_ok {v : Val} : Fc Tryz.prog gT 117 [vS v] (SV.v (.bool (isV v))) := by
 refine fb tOK (fn := Tryz.f117) 23 [.tmp 2] Tryz.func117 Tryz.results117 (fun g0 B0 Q ρ0 R => ?_)
 refine en tOK 0 2 [] ?_
 refine sn tOK 0 2 [] ?_
 refine sn tOK 0 2 [] ?_
 refine si 0 rfl rfl (fun h5 => ?_) (fun h5 => ?_)
 ·refine en tOK 0 9 [] ?_
  refine sr 0 R ?_
  simp [resVS, isV, *] <;> omega
 ·refine en tOK 0 2 [] ?_
  refine si 0 rfl rfl (fun h15 => ?_) (fun h15 => ?_)
  ·refine ei 0 rfl rfl (fun h15 => ?_) (fun h15 => ?_)
   ·refine en tOK 0 4 [] ?_
    refine sr 0 R ?_
    simp [resVS, isV, *] <;> omega
   ·refine en tOK 0 1 [] ?_
    refine sr 0 R ?_
    simp [resVS, isV, *] <;> omega
  ·refine en tOK 0 2 [] ?_
   refine si 0 rfl rfl (fun h15 => ?_) (fun h15 => ?_)
   ·refine ei 0 rfl rfl (fun h15 => ?_) (fun h15 => ?_)
    ·refine en tOK 0 4 [] ?_
     refine sr 0 R ?_
     simp [resVS, isV, *] <;> omega
    ·refine en tOK 0 1 [] ?_
     refine sr 0 R ?_
     simp [resVS, isV, *] <;> omega
   ·refine en tOK 0 2 [] ?_
    refine si 0 rfl rfl (fun h15 => ?_) (fun h15 => ?_)
    ·refine ei 0 rfl rfl (fun h15 => ?_) (fun h15 => ?_)
     ·refine en tOK 0 4 [] ?_
      refine sr 0 R ?_
      simp [resVS, isV, *] <;> omega
     ·refine en tOK 0 1 [] ?_
      refine sr 0 R ?_
      simp [resVS, isV, *] <;> omega
    ·refine en tOK 0 2 [] ?_
     refine si 0 rfl rfl (fun h15 => ?_) (fun h15 => ?_)
     ·refine en tOK 0 4 [] ?_
      refine sr 0 R ?_
      simp [resVS, isV, *] <;> omega
     ·refine en tOK 0 1 [] ?_
      refine sr 0 R ?_
      simp [resVS, isV, *] <;> omega
end Go.Proofs.YtomkgfdigldhcaaGreatDoor
