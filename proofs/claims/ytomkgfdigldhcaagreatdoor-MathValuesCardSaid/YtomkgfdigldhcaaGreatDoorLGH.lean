/- YG ZE ZF ZG YH YI YJ YK YL YM YN YO EA EE XT EB PX WA. -/
import Derived.Test.YtomkgfdigldhcaaGreatDoorLGG
import Derived.Test.YtomkgfdigldhcaaGreatDoorProg
import Derived.KernelRfl
import Derived.Laws.Bits64b
namespace Go.KX
mutual
def exSize : Ex → Nat
  | .mk _ _ _ l => 1 + exSizes l
def exSizes : List Ex → Nat
  | [] => 0
  | x :: r => exSize x + exSizes r
end
theorem exSize_eq (x : Ex) : exSize x = 1 + exSizes x.kids := by cases x; rfl
theorem exSize_kid : ∀ {l : List Ex} {j : Nat} (h : j < l.length), exSize l[j] ≤ exSizes l
  | x :: r, 0, _ => by simp [exSizes]
  | x :: r, j + 1, h => by
    have := exSize_kid (l := r) (j := j) (by simpa using h)
    simp only [List.getElem_cons_succ, exSizes]
    omega
/-- A tree costs two for each byte, at most. -/
def Sz (s : Bytes) (f : Ps → Ex × Ps) : Prop := ∀ p, p.i ≤ s.length → exSize (f p).1 + 2 * p.i ≤ 2 * (f p).2.i + 1
variable {s : Bytes}
theorem exs0 : exSize ex0 = 1 := rfl
theorem exsN (v : Val) : exSize (exN v) = 1 := rfl
theorem exsR (w : Bytes) : exSize (exR w) = 1 := rfl
theorem exs1 (o : Bytes) (x : Ex) : exSize (exC o [x]) = 1 + exSize x := by simp [exSize, exSizes]
theorem exs2 (o : Bytes) (x y : Ex) : exSize (exC o [x, y]) = 1 + (exSize x + exSize y) := by simp [exSize, exSizes]
theorem loop_sz {f : Ps → Ex × Ps} (hf : Fit s f) (hs : Sz s f) {ops : List Bytes} {alone : Bool} {i0 : Nat} : ∀ (n : Nat) (x : Ex) (p : Ps), p.i ≤ s.length → exSize x + 2 * i0 ≤ 2 * p.i + 1 → exSize (loopG (tkX s) f ops alone n x p).1 + 2 * i0 ≤ 2 * (loopG (tkX s) f ops alone n x p).2.i + 1
  | 0, x, p, h, h2 => h2
  | n + 1, x, p, h, h2 => by
    have h1 := take_fit (l := ops) h
    unfold loopG
    simp only
    split
    · simp only; omega
    · rename_i o ho
      have h3 := take_more ho
      have h4 := hf _ h1.2
      have h5 := hs _ h1.2
      split
      · rw [exs2]; simp only; omega
      · exact loop_sz hf hs n _ _ h4.2 (by rw [exs2]; omega)
theorem lev_sz {f : Ps → Ex × Ps} (hf : Fit s f) (hs : Sz s f) : ∀ n, Sz s (levX s f n)
  | 0 => hs
  | n + 1 => fun p h => by
    have h1 := lev_fit hf n p h
    have h2 := lev_sz hf hs n p h
    exact loop_sz (lev_fit hf n) (lev_sz hf hs n) _ _ _ h1.2 h2
theorem expr_sz {f : Ps → Ex × Ps} (hf : Fit s f) (hs : Sz s f) (d : Nat) : Sz s (exprX s f d) := fun p h => by
  have h1 := enter_fit (d := d) h
  have h2 := lev_sz hf hs 5 _ h1.2
  show exSize (levX s f 5 (enterP s d p)).1 + 2 * p.i ≤ 2 * (levX s f 5 (enterP s d p)).2.i + 1
  omega
theorem par_sz {f : Ps → Ex × Ps} (hf : Fit s f) (hs : Sz s f) : Sz s (parX s f) := fun p h => by
  have h1 := hf p h
  have h2 := must_fit (x := oPR) h1.2
  have h3 := hs p h
  show exSize (f p).1 + 2 * p.i ≤ 2 * (mustP s oPR (f p).2).i + 1
  omega
variable {pv : Bytes → Val × Int}
theorem word_sz {f : Ps → Ex × Ps} (hf : Fit s f) (hs : Sz s f) {r : Bytes} {p : Ps} (h : p.i + r.length ≤ s.length) (h1 : 1 ≤ runB gLD r) : exSize (wordX s f r p).1 + 2 * p.i ≤ 2 * (wordX s f r p).2.i + 1 := by
  have hr := runB_le gLD r
  have hl : (r.take (runB gLD r)).length = runB gLD r := by simp; omega
  have key : ∀ (w : Bytes) (q : Ps), q.i = p.i + runB gLD r → exSize (exC w [(parX s f (mustP s oPL q)).1]) + 2 * p.i ≤ 2 * (parX s f (mustP s oPL q)).2.i + 1 := by
    intro w q hq
    have hq2 : q.i ≤ s.length := by omega
    have h2 := must_fit (x := oPL) hq2
    have h3 := par_sz hf hs _ h2.2
    rw [exs1]
    omega
  unfold wordX
  simp only [hl]
  split
  · rw [exsN]; simp only; omega
  split
  · rw [exsN]; simp only; omega
  split
  · rw [exsN]; simp only; omega
  refine key _ _ ?_
  split
  · rfl
  · rw [fails_i]
theorem let_run {c : UInt8} {r : Bytes} (h : c ∈ gLet) : 1 ≤ runB gLD (c :: r) := by
  have : c ∈ gLD := by
    have : ∀ x ∈ gLet, x ∈ gLD := by decide
    exact this c h
  unfold runB
  rw [if_pos this]
  omega
theorem prim_sz {f : Ps → Ex × Ps} (hf : Fit s f) (hs : Sz s f) : Sz s (primX pv s f) := fun p h => by
  have h1 := rest_ge (s := s) p
  have h2 := rest_le (s := s) h
  have h3 := restT_len (s := s) h
  unfold primX
  simp only
  cases p.dead with
  | true => simp only [exs0]; omega
  | false =>
    cases hr : p.restT s with
    | nil => simp only [exs0]; rw [fails_i]; omega
    | cons c r =>
      rw [hr] at h3
      simp only [List.length_cons] at h3
      simp only
      split
      · have := par_sz hf hs { p.restP s with i := (p.restP s).i + 1 } (by show (p.restP s).i + 1 ≤ _; omega)
        simp only at this
        omega
      split
      · unfold refX
        simp only [exsR]
        omega
      split
      · unfold numberX
        simp only [exsN]
        omega
      split
      · rename_i hle
        have := word_sz hf hs (r := c :: r) (p := p.restP s) (by simp only [List.length_cons]; omega) (let_run hle)
        omega
      · simp only [exs0]; rw [fails_i]; omega
theorem un_sz : ∀ d, Sz s (unX pv s d)
  | 0 => fun p h => by
    have h1 := enter_fit (d := 33) h
    have h2 := take_fit (l := [oSub, oNot]) h1.2
    have h3 := prim_sz (pv := pv) (f := fun q => (ex0, q)) (fun q hq => ⟨Nat.le_refl _, hq⟩) (fun q hq => by simp only [exs0]; omega) _ h2.2
    unfold unX
    omega
  | d + 1 => fun p h => by
    have h1 := enter_fit (d := 32 - d) h
    have h2 := take_fit (l := [oSub, oNot]) h1.2
    unfold unX
    split
    · rename_i o ho
      have h3 := un_sz d _ h2.2
      have h4 := take_more ho
      simp only [exs1]
      omega
    · have h3 := prim_sz (pv := pv) (expr_fit (un_fit d) (33 - d)) (expr_sz (un_fit d) (un_sz d) (33 - d)) _ h2.2
      omega
theorem parse_sz : exSize (parseX pv s).1 ≤ 2049 := by
  unfold parseX
  split
  · simp only [exs0]; omega
  · rename_i hs
    have h1 := expr_sz (s := s) (un_fit (pv := pv) 33) (un_sz 33) 0 ⟨0, 0, 0, false⟩ (Nat.zero_le _)
    have h2 := expr_fit (s := s) (un_fit (pv := pv) 33) 0 ⟨0, 0, 0, false⟩ (Nat.zero_le _)
    simp only at h1 h2 ⊢
    repeat' split
    all_goals first | (simp only [exs0]; omega) | omega
mutual
def refsX : Ex → List Bytes
  | .mk k n _ l => if k = 2 then [n] else cmpB (sortL (refsL l))
def refsL : List Ex → List Bytes
  | [] => []
  | x :: r => refsX x ++ refsL r
end
theorem refsX_eq (x : Ex) : refsX x = if x.kind = 2 then [x.name] else cmpB (sortL (refsL x.kids)) := by cases x; rfl
theorem refsL_app : ∀ (a b : List Ex), refsL (a ++ b) = refsL a ++ refsL b
  | [], b => rfl
  | x :: r, b => by simp [refsL, refsL_app r b]
theorem refsL_next {l : List Ex} {j : Nat} (hj : j < l.length) : refsL (l.take (j + 1)) = refsL (l.take j) ++ refsX l[j] := by
  rw [List.take_succ_eq_append_getElem hj, refsL_app]
  simp [refsL]
mutual
theorem refs_len : ∀ x : Ex, (refsX x).length ≤ exSize x
  | .mk k n v l => by
    have h := refs_lens l
    have h1 := cmpB_len (sortL (refsL l))
    rw [sortL_len] at h1
    unfold refsX exSize
    split
    · simp
    · omega
theorem refs_lens : ∀ l : List Ex, (refsL l).length ≤ exSizes l
  | [] => Nat.le_refl _
  | x :: r => by
    have h1 := refs_len x
    have h2 := refs_lens r
    simp only [refsL, exSizes, List.length_append]
    omega
end
theorem exSizes_take {l : List Ex} (j : Nat) : exSizes (l.take j) ≤ exSizes l := by
  induction l generalizing j with
  | nil => simp
  | cons x r ih =>
    cases j with
    | zero => simp [exSizes]
    | succ j =>
      have := ih j
      simp only [List.take_succ_cons, exSizes]
      omega
theorem kids_len : ∀ l : List Ex, l.length ≤ exSizes l
  | [] => Nat.le_refl _
  | x :: r => by
    have := kids_len r
    have h2 := exSize_eq x
    simp only [List.length_cons, exSizes]
    omega
theorem rowsB_len {l : List Bytes} : ∀ r ∈ rowsB l, r.length = 1 := fun r hr => by
  obtain ⟨s, _, rfl⟩ := List.mem_map.1 hr
  rfl
end Go.KX
namespace Go.KX
abbrev opdT (t : Bytes × Bool) : Bytes := if t.2 = true then 40 :: (t.1 ++ [41]) else t.1
mutual
def printX : Ex → Bytes
  | .mk k n v kids => if k = 2 then 36 :: n else if k = 1 then (if v.k = 3 then wNan else if v.k = 4 then wInf else printV v) else match printL kids with
    | [a, b] => opdT a ++ (32 :: n ++ (32 :: opdT b))
    | a :: _ => if functionB n then n ++ (40 :: (a.1 ++ [41])) else n ++ opdT a
    | [] => []
def printL : List Ex → List (Bytes × Bool)
  | [] => []
  | .mk k n v kids :: l => (printX (.mk k n v kids), decide (kids.length = 2)) :: printL l
end
def opdX (x : Ex) : Bytes := if x.kids.length = 2 then 40 :: (printX x ++ [41]) else printX x
theorem opdT_eq (x : Ex) : opdT (printX x, decide (x.kids.length = 2)) = opdX x := by
  unfold opdX
  by_cases h : x.kids.length = 2
  · simp [h]
  · simp [h]
theorem printL_cons (x : Ex) (l : List Ex) : printL (x :: l) = (printX x, decide (x.kids.length = 2)) :: printL l := by cases x; rfl
theorem print_ref (n : Bytes) (v : Val) (l : List Ex) : printX (.mk 2 n v l) = 36 :: n := by simp [printX]
theorem print_num3 (n : Bytes) (v : Val) (l : List Ex) : printX (.mk 1 n v l) = if v.k = 3 then wNan else if v.k = 4 then wInf else printV v := by simp [printX]
theorem print_two (n : Bytes) (a b : Ex) : printX (exC n [a, b]) = opdX a ++ (32 :: n ++ (32 :: opdX b)) := by
  rw [show printX (exC n [a, b]) = (match printL [a, b] with
    | [a, b] => opdT a ++ (32 :: n ++ (32 :: opdT b))
    | a :: _ => if functionB n then n ++ (40 :: (a.1 ++ [41])) else n ++ opdT a
    | [] => []) from rfl, printL_cons, printL_cons, ← opdT_eq a, ← opdT_eq b]
  rfl
theorem print_one (n : Bytes) (a : Ex) : printX (exC n [a]) = if functionB n then n ++ (40 :: (printX a ++ [41])) else n ++ opdX a := by
  rw [show printX (exC n [a]) = (match printL [a] with
    | [a, b] => opdT a ++ (32 :: n ++ (32 :: opdT b))
    | a :: _ => if functionB n then n ++ (40 :: (a.1 ++ [41])) else n ++ opdT a
    | [] => []) from rfl, printL_cons, ← opdT_eq a]
  rfl
/-- Values that a text has. -/
def numT (v : Val) : Prop := v = nullV ∨ v = nanV ∨ v = plusV ∨ (isV v = true ∧ v.k = 1 ∧ 0 ≤ v.n)
/-- Trees that a parser gives. -/
inductive Wf : Ex → Prop where
  | num {v : Val} (h : numT v) : Wf (exN v)
  | ref {n : Bytes} (h : refB n = true) : Wf (exR n)
  | sign {o : Bytes} {x : Ex} (h : o ∈ [oSub, oNot]) (hx : Wf x) : Wf (exC o [x])
  | fn {o : Bytes} {x : Ex} (h : functionB o = true) (hx : Wf x) : Wf (exC o [x])
  | bin {o : Bytes} {x y : Ex} (m : Nat) (hm : m ≤ 4) (h : o ∈ levelsT.getD (4 - m) []) (hx : Wf x) (hy : Wf y) : Wf (exC o [x, y])
theorem alive {p q : Ps} (g : Gone p q) (h : q.dead = false) : p.dead = false := by
  cases hp : p.dead with
  | false => rfl
  | true => have := (g hp).1; rw [h] at this; cases this
def WfR (f : Ps → Ex × Ps) : Prop := ∀ p, (f p).2.dead = false → Wf (f p).1
section
variable {s : Bytes}
theorem wf_loop {f : Ps → Ex × Ps} (hf : WfR f) (hg : ∀ p, Gone p (f p).2) {m : Nat} (hm : m ≤ 4) {al : Bool} : ∀ (n : Nat) (x : Ex) (p : Ps), (p.dead = false → Wf x) → (loopG (tkX s) f (levelsT.getD (4 - m) []) al n x p).2.dead = false → Wf (loopG (tkX s) f (levelsT.getD (4 - m) []) al n x p).1
  | 0, x, p, hx, hd => hx hd
  | n + 1, x, p, hx, hd => by
    cases ht : takeT s (levelsT.getD (4 - m) []) p with
    | none =>
      rw [loop_none ht] at hd ⊢
      exact hx (alive (gone_take _ p) hd)
    | some o =>
      cases al with
      | true =>
        rw [loop_alone ht] at hd ⊢
        have h1 := alive (hg _) hd
        exact .bin m hm (takeT_some ht).1 (hx (alive (gone_take _ p) h1)) (hf _ hd)
      | false =>
        rw [loop_more ht] at hd ⊢
        refine wf_loop hf hg hm n _ _ (fun h2 => ?_) hd
        have h1 := alive (hg _) h2
        exact .bin m hm (takeT_some ht).1 (hx (alive (gone_take _ p) h1)) (hf _ h2)
theorem wf_lev {f : Ps → Ex × Ps} (hf : WfR f) (hg : ∀ p, Gone p (f p).2) : ∀ n, n ≤ 5 → WfR (levX s f n)
  | 0, _ => hf
  | n + 1, hn => fun p hd => wf_loop (wf_lev hf hg n (by omega)) (gone_lev hg n) (by omega) _ _ _ (fun h => wf_lev hf hg n (by omega) p h) hd
theorem wf_expr {f : Ps → Ex × Ps} (hf : WfR f) (hg : ∀ p, Gone p (f p).2) (d : Nat) : WfR (exprX s f d) := fun p hd => wf_lev hf hg 5 (Nat.le_refl _) _ hd
theorem fails_dead (p : Ps) (e a : Int) : (p.fails e a).dead = true := by unfold Ps.fails; split <;> simp_all
theorem digs_num {c : UInt8} {r : Bytes} (hc : c ∈ gDig) (h : (parseV (c :: r)).2 = 0) : numT (parseV (c :: r)).1 := by
  obtain ⟨h1, h2⟩ := parseV_ok h
  have hd : dgt c := by
    have : ∀ c ∈ gDig, dgt c := by decide
    exact this c hc
  rcases isV_cases h1 with h3 | h3 | h3 | h3 | h3
  · refine .inr (.inr (.inr ⟨h1, h3.1, ?_⟩))
    by_cases h0 : (parseV (c :: r)).1.n < 0
    · rw [print_num h1 h3.1, if_pos h0] at h2
      injection h2 with h4 _
      exact absurd h4.symm (dgt_ne hd).2.1
    · omega
  · exact .inl h3
  · exact .inr (.inl h3)
  · exact .inr (.inr (.inl h3))
  · rw [h3] at h2
    have : printV minusV = [45, 73, 110, 102] := by decide
    rw [this] at h2
    injection h2 with h4 _
    exact absurd h4.symm (dgt_ne hd).2.1
theorem wf_prim {ex : Ps → Ex × Ps} (hf : WfR ex) (hg : ∀ p, Gone p (ex p).2) : WfR (primX parseV s ex) := fun p hd => by
  have hp := alive (gone_prim ex p) hd
  cases hr : p.restT s with
  | nil => rw [prim_nil hp hr] at hd; simp only [fails_dead] at hd; cases hd
  | cons c r =>
    rw [prim_cons hp hr] at hd ⊢
    split
    · rename_i h; rw [if_pos h] at hd
      exact hf _ (alive (gone_must _ _) hd)
    rename_i h40; rw [if_neg h40] at hd
    split
    · rename_i h; rw [if_pos h] at hd
      unfold refX at hd ⊢
      simp only at hd ⊢
      refine .ref ?_
      by_cases hb : refB (((c :: r).drop 1).take (runB gLD ((c :: r).drop 1))) = true
      · exact hb
      · rw [if_neg hb] at hd; rw [fails_dead] at hd; cases hd
    rename_i h36; rw [if_neg h36] at hd
    split
    · rename_i h; rw [if_pos h] at hd
      unfold numberX at hd ⊢
      simp only at hd ⊢
      refine .num ?_
      have h1 : (parseV ((c :: r).take (numLen (c :: r)))).2 = 0 := by
        by_cases hb : (parseV ((c :: r).take (numLen (c :: r)))).2 = 0
        · exact hb
        · rw [if_neg hb] at hd; rw [fails_dead] at hd; cases hd
      obtain ⟨k, hk⟩ : ∃ k, numLen (c :: r) = k + 1 := by
        have : runB gDig (c :: r) = runB gDig r + 1 := by conv => lhs; unfold runB
                                                          rw [if_pos h]
        unfold numLen
        rw [this]
        split
        · exact ⟨_, by rw [show ∀ a b : Nat, a + 1 + 1 + b = (a + 1 + b) + 1 from fun a b => by omega]⟩
        · exact ⟨_, rfl⟩
      rw [hk] at h1 ⊢
      exact digs_num h h1
    rename_i hdg; rw [if_neg hdg] at hd
    split
    · rename_i h; rw [if_pos h] at hd
      unfold wordX at hd ⊢
      simp only at hd ⊢
      split
      · exact .num (.inl rfl)
      rename_i h1; rw [if_neg h1] at hd
      split
      · exact .num (.inr (.inl rfl))
      rename_i h2; rw [if_neg h2] at hd
      split
      · exact .num (.inr (.inr (.inl rfl)))
      rename_i h3; rw [if_neg h3] at hd
      have h5 := alive (gone_must _ _) hd
      have h4 := alive (gone_must _ _) (alive (hg _) h5)
      refine .fn ?_ (hf _ h5)
      by_cases hb : functionB ((c :: r).take (runB gLD (c :: r))) = true
      · exact hb
      · rw [if_neg hb] at h4; rw [fails_dead] at h4; cases h4
    · rename_i h; rw [if_neg h] at hd
      simp only [fails_dead] at hd; cases hd
theorem wf_un : ∀ d, WfR (unX parseV s d)
  | 0 => fun p hd => by
    have h := alive ((gone_take [oSub, oNot] (enterP s 33 p)).trans (gone_prim (pv := parseV) (s := s) (fun q => (ex0, q)) _)) hd
    rw [enter33] at h; cases h
  | d + 1 => fun p hd => by
    cases ht : takeT s [oSub, oNot] (enterP s (32 - d) p) with
    | some o =>
      rw [un_some ht] at hd ⊢
      exact .sign (takeT_some ht).1 (wf_un d _ hd)
    | none =>
      rw [un_none ht] at hd ⊢
      exact wf_prim (wf_expr (wf_un d) (gone_un d) _) (gone_expr (gone_un d) _) _ hd
/-- What a parser gives. -/
theorem parse_open (h : (parseX parseV s).2.1 = 0) : s.length ≤ 1024 ∧ parseX parseV s = ((exprX s (unX parseV s 33) 0 ⟨0, 0, 0, false⟩).1, 0, 0) ∧ (exprX s (unX parseV s 33) 0 ⟨0, 0, 0, false⟩).2.dead = false ∧ (exprX s (unX parseV s 33) 0 ⟨0, 0, 0, false⟩).2.restT s = [] := by
  unfold parseX at h ⊢
  by_cases hL : 1024 < s.length
  · rw [if_pos hL] at h; cases h
  rw [if_neg hL] at h ⊢
  have hS := (sim_expr (s := s) (sim_un (pv := parseV) (s := s) 33) (d := 0) (p := ⟨0, 0, 0, false⟩) (q := ⟨0, 0, 0⟩) (.inl ⟨rfl, rfl, rfl⟩)).1
  simp only at h ⊢
  generalize exprX s (unX parseV s 33) 0 ⟨0, 0, 0, false⟩ = A at h hS ⊢
  have hdr := restP_dead s A.2
  cases hd : A.2.dead with
  | true =>
    have hT : A.2.restT s = [] := by unfold Ps.restT; rw [if_pos hd]
    rw [if_pos hT, if_pos (hdr.trans hd)] at h
    have he : A.2.err ≠ 0 := by
      rcases hS with ⟨h1, _⟩ | ⟨_, h2, h3, _⟩
      · rw [hd] at h1; cases h1
      · rw [← h2]; exact h3
    have : (A.2.restP s).err = A.2.err := (gone_rest A.2 hd).2.1
    simp only [this] at h
    exact absurd h he
  | false =>
    by_cases hT : A.2.restT s = []
    · rw [if_pos hT] at h ⊢
      rw [if_neg (by rw [hdr, hd]; simp)]
      exact ⟨by omega, rfl, rfl, hT⟩
    · rw [if_neg hT, if_pos (fails_dead _ _ _)] at h
      unfold Ps.fails at h
      rw [if_neg (by rw [hdr, hd]; simp)] at h
      simp at h
theorem parse_wf (h : (parseX parseV s).2.1 = 0) : Wf (parseX parseV s).1 := by
  have h0 := parse_open h
  have hw := wf_expr (s := s) (wf_un (s := s) 33) (fun p => gone_un 33 p) 0 ⟨0, 0, 0, false⟩
  generalize exprX s (unX parseV s 33) 0 ⟨0, 0, 0, false⟩ = A at h0 hw
  rw [h0.2.1]
  exact hw h0.2.2.1
end
end Go.KX
namespace Go.KX
/-- Alive, with so much left. -/
def At (s R : Bytes) (p : Ps) : Prop := p.dead = false ∧ s.drop p.i = R
/-- It nested too deep. -/
def Dd (p : Ps) : Prop := p.dead = true ∧ p.err = 111
def strip (R : Bytes) : Bytes := R.drop (runB [32] R)
theorem Dd.gone {p q : Ps} (h : Dd p) (g : Gone p q) : Dd q := ⟨(g h.1).1, (g h.1).2.1.trans h.2⟩
section
variable {s R : Bytes} {p : Ps}
theorem At.rest (h : At s R p) : At s (strip R) (p.restP s) := by
  refine ⟨(restP_dead s p).trans h.1, ?_⟩
  unfold Ps.restP strip
  rw [if_neg (by simp [h.1])]
  simp only
  rw [← List.drop_drop, h.2]
theorem At.restT (h : At s R p) : p.restT s = strip R := by
  unfold Ps.restT
  rw [if_neg (by simp [h.1])]
  exact h.rest.2
theorem At.move (h : At s R p) (n : Nat) : At s (R.drop n) { p with i := p.i + n } := ⟨h.1, by simp only; rw [← List.drop_drop, h.2]⟩
end
/-- No sign of a list is next. -/
def No (K : Bytes) (l : List Bytes) : Prop := ∀ o, firstSign (strip K) = some o → o ∉ l
section
variable {s : Bytes} {f u : Ps → Ex × Ps} {T K : Bytes} {x : Ex}
theorem No.of {K R : Bytes} {l : List Bytes} (h : No K l) (e : strip R = strip K) : No R l := fun o ho => h o (by rw [← e]; exact ho)
end
/-- What ends a word, and a number. -/
def okK (K : Bytes) : Prop := K = [] ∨ (∃ r, K = 32 :: r) ∨ ∃ r, K = 41 :: r
theorem okK.run {K : Bytes} (h : okK K) : runB gLD K = 0 ∧ runB gDig K = 0 := by
  rcases h with rfl | ⟨r, rfl⟩ | ⟨r, rfl⟩
  · exact ⟨rfl, rfl⟩
  · constructor <;> (conv => lhs; unfold runB) <;> rw [if_neg (by decide)]
  · constructor <;> (conv => lhs; unfold runB) <;> rw [if_neg (by decide)]
end Go.KX
namespace Go.KX
/-- What a printed text begins with. -/
def Hd (c : UInt8) : Prop := c ∈ ([40, 36, 45, 33] : Bytes) ∨ c ∈ gDig ∨ c ∈ gLet
theorem Hd.ne {c : UInt8} (h : Hd c) : c ≠ 32 ∧ c ≠ 61 := by
  have h1 : ∀ c ∈ ([40, 36, 45, 33] : Bytes), c ≠ 32 ∧ c ≠ 61 := by decide
  have h2 : ∀ c ∈ gDig, c ≠ 32 ∧ c ≠ 61 := by decide
  have h3 : ∀ c ∈ gLet, c ≠ 32 ∧ c ≠ 61 := by decide
  rcases h with h | h | h
  · exact h1 c h
  · exact h2 c h
  · exact h3 c h
theorem opd_not2 {x : Ex} (h : ¬ x.kids.length = 2) : opdX x = printX x := by unfold opdX; rw [if_neg h]
theorem opd_two (n : Bytes) (a b : Ex) : opdX (exC n [a, b]) = 40 :: (printX (exC n [a, b]) ++ [41]) := rfl
section
variable {s : Bytes}
theorem At.i {R R' : Bytes} {p : Ps} (h : At s R p) (e : R = R') : At s R' p := e ▸ h
end
end Go.KX
namespace Go.KX
structure Nd where
  ref : Bytes
  kind : Int
  source : Bytes
  input : Bytes
  how : Bytes
  strict : Bool
  low : Val
  high : Val
  text : Bytes
  deriving DecidableEq
def inputsN (n : Nd) : List Bytes := if n.kind = 2 then [n.input] else if n.kind = 4 then [n.input] else if n.kind = 3 then (if (parseX parseV n.text).2.1 = 0 then refsX (parseX parseV n.text).1 else []) else []
def boundV (v : Val) : Bool := isV v && decide (v.k ≠ 2) && decide (v.k ≠ 3)
abbrev hGt : Bytes := [103, 116]
abbrev hLt : Bytes := [108, 116]
abbrev hIn : Bytes := [105, 110]
abbrev hOut : Bytes := [111, 117, 116]
abbrev hCount : Bytes := [99, 111, 117, 110, 116]
def hows : List Bytes := [[108, 97, 115, 116], [109, 105, 110], [109, 97, 120], [115, 117, 109], [109, 101, 97, 110], hCount]
def plainN (n : Nd) : Nd :=
  if n.kind = 1 then ⟨n.ref, n.kind, n.source, [], [], false, zeroV, zeroV, []⟩ else
  if n.kind = 2 then ⟨n.ref, n.kind, [], n.input, n.how, n.strict, zeroV, zeroV, []⟩ else
  if n.kind = 3 then ⟨n.ref, n.kind, [], [], [], false, zeroV, zeroV, n.text⟩ else
  if n.kind = 4 then (if n.how = hIn ∨ n.how = hOut then ⟨n.ref, n.kind, [], n.input, n.how, false, n.low, n.high, []⟩ else ⟨n.ref, n.kind, [], n.input, n.how, false, n.low, zeroV, []⟩) else
  ⟨n.ref, n.kind, [], [], [], false, zeroV, zeroV, []⟩
def isK (n : Nd) : Bool :=
  if n.kind = 1 then decide (n.source ≠ []) && decide (n.source.length ≤ 64) else
  if n.kind = 2 then decide (n.how ∈ hows) else
  if n.kind = 3 then decide ((parseX parseV n.text).2.1 = 0) else
  if n.kind = 4 then (if n.how = hGt ∨ n.how = hLt then boundV n.low else if n.how = hIn ∨ n.how = hOut then boundV n.low && boundV n.high else false) else false
def isN (n : Nd) : Bool := if (!refB n.ref || !decide (n = plainN n)) = true then false else isK n
end Go.KX
namespace Go.KX
/-- byRef's map. -/
def byR (l : List Nd) : List (Bytes × Nd) := l.foldl (fun m n => mset m n.ref n) []
def okN (l : List Nd) : Bool := decide ((byR l).length = l.length)
section
variable {α β γ : Type} [DecidableEq α]
theorem mset_new {m : List (α × β)} {q : α} {v : β} (h : q ∉ m.map (·.1)) : mset m q v = m ++ [(q, v)] := by
  induction m with
  | nil => rfl
  | cons p r ih =>
    simp only [List.map_cons, List.mem_cons, not_or] at h
    simp only [mset, if_neg h.1, ih h.2, List.cons_append]
end
theorem okN_of {l : List Nd} (h : (l.map (·.ref)).Nodup) : okN l = true := by
  have key : ∀ (l : List Nd) (m : List (Bytes × Nd)), (l.map (·.ref)).Nodup → (∀ n ∈ l, n.ref ∉ m.map (·.1)) → (l.foldl (fun m n => mset m n.ref n) m).length = m.length + l.length := by
    intro l
    induction l with
    | nil => intro m _ _; simp
    | cons n l ih =>
      intro m h hm
      simp only [List.map_cons, List.nodup_cons] at h
      have hn := mset_new (v := n) (hm n (.head _))
      simp only [List.foldl_cons]
      rw [ih _ h.2 (fun x hx => ?_), hn]
      · simp; omega
      · rw [hn]
        simp only [List.map_append, List.mem_append, not_or]
        refine ⟨hm x (.tail _ hx), ?_⟩
        simp only [List.map_cons, List.map_nil, List.mem_singleton]
        intro e
        exact h.1 (List.mem_map.2 ⟨x, hx, e⟩)
  have := key l [] h (fun _ _ => by simp)
  exact decide_eq_true (by simpa [byR] using this)
def readyN (out : List Bytes) (n : Nd) : Bool := (inputsN n).all fun i => decide (i ∈ out)
abbrev gtB (a b : Bytes) : Bool := !(blt a b || decide (a = b))
def stepB (out : List Bytes) (s : Bytes × Bool) (n : Nd) : Bytes × Bool := if (s.2 && gtB n.ref s.1) = true then s else if readyN out n = true then (n.ref, true) else s
def bestL (out : List Bytes) (l : List Nd) : Bytes × Bool := l.foldl (stepB out) ([], false)
theorem blt_irrefl : ∀ a : Bytes, blt a a = false
  | [] => rfl
  | x :: a => by
    have ih := blt_irrefl a
    unfold blt at ih ⊢
    simp [Op.bytesLess, ih]
theorem blt_trans : ∀ {a b c : Bytes}, blt a b = true → blt b c = true → blt a c = true
  | _, _, [], _, h => by unfold blt at h; simp [Op.bytesLess] at h
  | _, [], _ :: _, h, _ => by unfold blt at h; simp [Op.bytesLess] at h
  | [], _ :: _, _ :: _, _, _ => by unfold blt; simp [Op.bytesLess]
  | x :: a, y :: b, z :: c, h1, h2 => by
    have ih := @blt_trans a b c
    unfold blt at *
    simp only [Op.bytesLess, Bool.or_eq_true, decide_eq_true_eq, Bool.and_eq_true, beq_iff_eq] at *
    rcases h1 with h1 | ⟨rfl, h1⟩
    · rcases h2 with h2 | ⟨rfl, h2⟩
      · exact .inl (UInt8.lt_trans h1 h2)
      · exact .inl h1
    · rcases h2 with h2 | ⟨rfl, h2⟩
      · exact .inl h2
      · exact .inr ⟨rfl, ih h1 h2⟩
theorem blt_total : ∀ (a b : Bytes), blt a b = true ∨ a = b ∨ blt b a = true
  | [], [] => .inr (.inl rfl)
  | [], _ :: _ => .inl (by unfold blt; simp [Op.bytesLess])
  | _ :: _, [] => .inr (.inr (by unfold blt; simp [Op.bytesLess]))
  | x :: a, y :: b => by
    have ih := blt_total a b
    unfold blt at *
    simp only [Op.bytesLess, Bool.or_eq_true, decide_eq_true_eq, Bool.and_eq_true, beq_iff_eq] at *
    rcases Nat.lt_trichotomy x.toNat y.toNat with h | h | h
    · exact .inl (.inl (UInt8.lt_iff_toNat_lt.2 h))
    · have hxy : x = y := UInt8.toNat_inj.1 h
      subst hxy
      rcases ih with h | rfl | h
      · exact .inl (.inr ⟨rfl, h⟩)
      · exact .inr (.inl rfl)
      · exact .inr (.inr (.inr ⟨rfl, h⟩))
    · exact .inr (.inr (.inl (UInt8.lt_iff_toNat_lt.2 h)))
theorem blt_ne {a b : Bytes} (h : blt a b = true) : a ≠ b := fun e => by subst e; rw [blt_irrefl] at h; cases h
theorem nodup_sub {α : Type} [DecidableEq α] : ∀ {js l : List α}, js.Nodup → (∀ i ∈ js, i ∈ l) → js.length ≤ l.length
  | [], _, _, _ => by simp
  | a :: js, l, h, h2 => by
    rw [List.nodup_cons] at h
    have ha := h2 a (.head _)
    have := nodup_sub (l := l.erase a) h.2 (fun i hi => by
      have hne : i ≠ a := by rintro rfl; exact h.1 hi
      exact (List.mem_erase_of_ne hne).2 (h2 i (.tail _ hi)))
    rw [List.length_erase_of_mem ha] at this
    have := List.length_pos_of_mem ha
    simp only [List.length_cons]
    omega
def orderL : Nat → List Bytes → List Nd → List Bytes × Int
  | 0, out, _ => (out, 0)
  | f + 1, out, left => if (bestL out left).2 = false then ([], 121) else orderL f (out ++ [(bestL out left).1]) (left.filter fun n => decide (n.ref ≠ (bestL out left).1))
def orderN (l : List Nd) : List Bytes × Int := if okN l = false then ([], 8) else orderL l.length [] l
end Go.KX
namespace Go.KX
def findN (l : List Nd) (q : Bytes) : Option Nd := l.find? fun n => decide (n.ref = q)
theorem findN_some {l : List Nd} {q : Bytes} {n : Nd} (h : findN l q = some n) : n ∈ l ∧ n.ref = q :=
  ⟨List.mem_of_find?_eq_some h, by have := List.find?_some h; simpa using this⟩
def needL (l : List Nd) : Nat → List Bytes → List Bytes → List Bytes
  | 0, _, out => out
  | _ + 1, [], out => out
  | f + 1, q :: t, out => match findN l q with
    | none => needL l f t out
    | some n => if n.ref ∈ out then needL l f t out else needL l f (t ++ inputsN n) (out ++ [n.ref])
def muN (l : List Nd) (todo out : List Bytes) : Nat := (l.length - out.length) * 3000 + todo.length
structure NI (l : List Nd) (out : List Bytes) : Prop where
  nd : out.Nodup
  sub : ∀ r ∈ out, r ∈ l.map (·.ref)
theorem NI.le {l : List Nd} {out : List Bytes} (h : NI l out) : out.length ≤ l.length := by
  have := nodup_sub h.nd h.sub
  simpa using this
theorem NI.step {l : List Nd} {out : List Bytes} (h : NI l out) {q : Bytes} {n : Nd} (hf : findN l q = some n) (hn : n.ref ∉ out) : NI l (out ++ [n.ref]) := by
  refine ⟨List.nodup_append.2 ⟨h.nd, by simp, fun a ha b hb => ?_⟩, fun r hr => ?_⟩
  · simp only [List.mem_singleton] at hb; rintro rfl; exact hn (hb ▸ ha)
  · rcases List.mem_append.1 hr with hr | hr
    · exact h.sub r hr
    · simp only [List.mem_singleton] at hr
      rw [hr]; exact List.mem_map.2 ⟨n, (findN_some hf).1, rfl⟩
def needA (l : List Nd) (todo out : List Bytes) : List Bytes := needL l (muN l todo out) todo out
theorem NI.nil (l : List Nd) : NI l [] := ⟨List.nodup_nil, fun _ h => by cases h⟩
attribute [irreducible] muN needA
def refsN (cond : Bytes) (l : List Nd) : List Bytes := cond :: l.flatMap inputsN
end Go.KX
namespace Go.KX
/-- A node's texts. -/
def wN (n : Nd) : Nat := n.ref.length + n.source.length + n.input.length + n.how.length + n.text.length
def placeN (l : List Bytes) (s : Bytes) : Int := idxF (fun x => decide (x = s)) l
theorem eq_next {a b : List Bytes} {j : Nat} (hj : j < a.length) (hb : j < b.length) (h : a.take j = b.take j) (e : a[j] = b[j]) : a.take (j + 1) = b.take (j + 1) := by
  rw [List.take_succ_eq_append_getElem hj, List.take_succ_eq_append_getElem hb, h, e]
end Go.KX
namespace Go.KX
structure Ahead (a : List Bytes) (n : Nd) : Prop where
  ex : ∃ p s, a = p ++ n.ref :: s ∧ n.ref ∉ p ∧ ∀ q ∈ inputsN n, q ∈ p
theorem place_at {p s : List Bytes} {x : Bytes} (h : x ∉ p) : placeN (p ++ x :: s) x = p.length := by
  have hlt : p.length < (p ++ x :: s).length := by simp
  refine idxF_some (p := fun y => decide (y = x)) (l := p ++ x :: s) hlt (fun y hy => ?_) (by simp)
  rw [List.take_left] at hy
  exact decide_eq_false (fun e => h (e ▸ hy))
theorem place_in {p s : List Bytes} {x : Bytes} (h : x ∈ p) : 0 ≤ placeN (p ++ s) x ∧ placeN (p ++ s) x < p.length := by
  obtain ⟨a, b, rfl, hn⟩ := List.eq_append_cons_of_mem h
  rw [List.append_assoc, List.cons_append, place_at hn]
  simp; omega
theorem Ahead.place {a : List Bytes} {n : Nd} (h : Ahead a n) : 0 ≤ placeN a n.ref ∧ ∀ q ∈ inputsN n, 0 ≤ placeN a q ∧ placeN a q < placeN a n.ref := by
  obtain ⟨p, s, rfl, h1, h2⟩ := h
  rw [place_at h1]
  exact ⟨by omega, fun q hq => place_in (h2 q hq)⟩
end Go.KX
namespace Go.KX
/-- Nodes that may be a rule's. -/
structure Chk (ref : Bytes) (l : List Nd) : Prop where
  len : l.length ≤ 16
  is : ∀ n ∈ l, isN n = true
  nd : (l.map (·.ref)).Nodup
  refs : ∀ q ∈ refsN ref l, q ∈ l.map (·.ref)
  ord : (orderN l).2 = 0
section
variable {ref : Bytes} {l : List Nd} (hc : Chk ref l)
include hc
theorem Chk.input {n : Nd} (hn : n ∈ l) {i : Bytes} (hi : i ∈ inputsN n) : i ∈ l.map (·.ref) := hc.refs i (List.mem_cons_of_mem _ (List.mem_flatMap.2 ⟨n, hn, hi⟩))
end
section
variable {ref : Bytes} {l : List Nd} (hc : Chk ref l)
include hc
end
end Go.KX
namespace Go.KX
theorem cmpP_mem : ∀ (l : List Bytes) (a x : Bytes), x ∈ a :: cmpP a l ↔ x ∈ a :: l
  | [], a, x => Iff.rfl
  | b :: r, a, x => by
    have ih := cmpP_mem r b x
    simp only [List.mem_cons] at ih ⊢
    unfold cmpP
    split
    · rename_i h
      subst h
      rw [ih]
      constructor
      · rintro (h | h)
        · exact .inl h
        · exact .inr (.inr h)
      · rintro (h | h | h)
        · exact .inl h
        · exact .inl h
        · exact .inr h
    · simp only [List.mem_cons]; rw [ih]
theorem cmpB_mem {l : List Bytes} {x : Bytes} : x ∈ cmpB l ↔ x ∈ l := by
  cases l with
  | nil => exact Iff.rfl
  | cons a r => exact cmpP_mem r a x
def nmC (i : Nat) : Bytes := [UInt8.ofNat (65 + i)]
theorem nmC_inj : ∀ i < 10, ∀ j < 10, nmC i = nmC j → i = j := by decide
structure Chain (n : Nat) (g : Nat → Nd) : Prop where
  n1 : 1 ≤ n
  n10 : n ≤ 10
  ref : ∀ i < n, (g i).ref = nmC i
  is : ∀ i < n, isN (g i) = true
  low : ∀ i < n, ∀ q ∈ inputsN (g i), ∃ j < i, q = nmC j
  up : ∀ i, i + 1 < n → nmC i ∈ inputsN (g (i + 1))
section
variable {n : Nat} {g : Nat → Nd}
theorem refs_eq (hr : ∀ i < n, (g i).ref = nmC i) : ((List.range n).map g).map (·.ref) = (List.range n).map nmC := by
  rw [List.map_map]
  refine List.map_congr_left (fun i hi => hr i (List.mem_range.1 hi))
theorem names_nd (h : n ≤ 10) : ((List.range n).map nmC).Nodup := by
  have key : ∀ n, n ≤ 10 → ((List.range n).map nmC).Nodup := by
    intro n
    induction n with
    | zero => intro _; simp
    | succ n ih =>
      intro h
      rw [List.range_succ, List.map_append]
      refine List.nodup_append.2 ⟨ih (by omega), by simp, fun a ha b hb => ?_⟩
      obtain ⟨i, hi, rfl⟩ := List.mem_map.1 ha
      simp only [List.map_cons, List.map_nil, List.mem_singleton] at hb
      have hi := List.mem_range.1 hi
      rintro rfl
      have := nmC_inj i (by omega) n (by omega) hb
      omega
  exact key n h
theorem name_mem {i : Nat} (h : i < n) : nmC i ∈ (List.range n).map nmC := List.mem_map.2 ⟨i, List.mem_range.2 h, rfl⟩
theorem name_mem' {i : Nat} (hn : n ≤ 10) (hi : i < 10) (h : nmC i ∈ (List.range n).map nmC) : i < n := by
  obtain ⟨j, hj, e⟩ := List.mem_map.1 h
  have hj := List.mem_range.1 hj
  have := nmC_inj j (by omega) i hi e
  omega
variable (hc : Chain n g)
include hc
theorem Chain.ready {k : Nat} (hk : k < n) {i : Nat} (hi : i < n) : readyN ((List.range k).map nmC) (g i) = decide (i ≤ k) := by
  have h10 := hc.n10
  rw [Bool.eq_iff_iff, decide_eq_true_eq]
  unfold readyN
  rw [List.all_eq_true]
  constructor
  · intro h
    rcases Nat.lt_or_ge k i with h1 | h1
    · exfalso
      obtain ⟨m, rfl⟩ : ∃ m, i = m + 1 := ⟨i - 1, by omega⟩
      have h2 := of_decide_eq_true (h _ (hc.up m hi))
      have h3 := name_mem' (by omega) (by omega) h2
      omega
    · exact h1
  · intro h q hq
    obtain ⟨j, hj, rfl⟩ := hc.low i hi q hq
    exact decide_eq_true (name_mem (by omega))
theorem Chain.best {k : Nat} (hk : k < n) : bestL ((List.range k).map nmC) ((List.range' k (n - k)).map g) = (nmC k, true) := by
  obtain ⟨m, hm⟩ : ∃ m, n - k = m + 1 := ⟨n - k - 1, by omega⟩
  rw [hm, List.range'_succ, List.map_cons]
  unfold bestL
  rw [List.foldl_cons]
  have e : stepB ((List.range k).map nmC) ([], false) (g k) = (nmC k, true) := by
    unfold stepB
    rw [if_neg (by simp), if_pos (by rw [hc.ready hk hk]; simp), hc.ref k hk]
  rw [e]
  have key : ∀ l : List Nd, (∀ x ∈ l, readyN ((List.range k).map nmC) x = false) → l.foldl (stepB ((List.range k).map nmC)) (nmC k, true) = (nmC k, true) := by
    intro l
    induction l with
    | nil => intro _; rfl
    | cons x l ih =>
      intro h
      rw [List.foldl_cons]
      have : stepB ((List.range k).map nmC) (nmC k, true) x = (nmC k, true) := by
        unfold stepB
        split
        · rfl
        · rw [if_neg (by rw [h x (.head _)]; decide)]
      rw [this]
      exact ih (fun y hy => h y (.tail _ hy))
  refine key _ (fun x hx => ?_)
  obtain ⟨i, hi, rfl⟩ := List.mem_map.1 hx
  have hi := List.mem_range'_1.1 hi
  rw [hc.ready hk (by omega)]
  exact decide_eq_false (by omega)
theorem Chain.ordAll : ∀ (f k : Nat), k + f = n → orderL f ((List.range k).map nmC) ((List.range' k f).map g) = ((List.range n).map nmC, 0)
  | 0, k, h => by
    obtain rfl : k = n := by omega
    rfl
  | f + 1, k, h => by
    have hk : k < n := by omega
    have hb := hc.best hk
    rw [show n - k = f + 1 by omega] at hb
    simp only [orderL, hb]
    rw [if_neg (by decide)]
    have e1 : (List.range k).map nmC ++ [nmC k] = (List.range (k + 1)).map nmC := by rw [List.range_succ, List.map_append]; rfl
    have e2 : ((List.range' k (f + 1)).map g).filter (fun x => decide (x.ref ≠ nmC k)) = (List.range' (k + 1) f).map g := by
      rw [List.range'_succ, List.map_cons, List.filter_cons_of_neg (by simp [hc.ref k hk]), List.filter_eq_self]
      intro x hx
      obtain ⟨i, hi, rfl⟩ := List.mem_map.1 hx
      have hi := List.mem_range'_1.1 hi
      have h10 := hc.n10
      rw [hc.ref i (by omega)]
      refine decide_eq_true (fun e => ?_)
      have := nmC_inj i (by omega) k (by omega) e
      omega
    rw [e1, e2]
    exact Chain.ordAll f (k + 1) (by omega)
theorem Chain.nd : (((List.range n).map g).map (·.ref)).Nodup := by rw [refs_eq hc.ref]; exact names_nd hc.n10
theorem Chain.order : orderN ((List.range n).map g) = ((List.range n).map nmC, 0) := by
  unfold orderN
  rw [if_neg (by rw [okN_of hc.nd]; decide), List.length_map, List.length_range]
  have := hc.ordAll n 0 (by omega)
  rw [← List.range_eq_range'] at this
  exact this
end
end Go.KX
namespace Go.KX
theorem blt_iff : ∀ (a b : Bytes), blt a b = true ↔ a < b
  | [], [] => by unfold blt; simp [Op.bytesLess]
  | [], _ :: _ => by unfold blt; simp [Op.bytesLess]
  | _ :: _, [] => by unfold blt; simp [Op.bytesLess]
  | x :: a, y :: b => by
    have ih := blt_iff a b
    unfold blt at *
    rw [List.cons_lt_cons_iff, ← ih]
    simp only [Op.bytesLess, Bool.or_eq_true, decide_eq_true_eq, Bool.and_eq_true, beq_iff_eq]
theorem ble_iff (a b : Bytes) : a ≤ b ↔ blt b a = false := by
  rw [← List.not_lt, ← blt_iff, Bool.not_eq_true]
def Rise (l : List Bytes) : Prop := l.Pairwise fun a b => blt a b = true
theorem Rise.nd {l : List Bytes} (h : Rise l) : l.Nodup := h.imp (fun h => blt_ne h)
theorem sort_up (l : List Bytes) : (sortL l).Pairwise fun a b => blt b a = false := by
  have := List.pairwise_mergeSort (le := fun x y : Bytes => decide (x ≤ y)) (fun a b c h1 h2 => decide_eq_true (List.le_trans (of_decide_eq_true h1) (of_decide_eq_true h2))) (fun a b => by
    rcases List.le_total a b with h | h
    · simp [h]
    · simp [h]) l
  exact this.imp (fun h => (ble_iff _ _).1 (of_decide_eq_true h))
theorem cmpP_rise : ∀ (r : List Bytes) (a : Bytes), (a :: r).Pairwise (fun a b => blt b a = false) → Rise (a :: cmpP a r)
  | [], a, _ => List.pairwise_singleton _ _
  | b :: r, a, h => by
    have h1 := List.pairwise_cons.1 h
    unfold cmpP
    split
    · rename_i e; subst e; exact cmpP_rise r b h1.2
    · rename_i e
      have ih := cmpP_rise r b h1.2
      have hab : blt a b = true := by
        rcases blt_total a b with q | q | q
        · exact q
        · exact absurd q.symm e
        · rw [h1.1 b (.head _)] at q; cases q
      refine List.pairwise_cons.2 ⟨fun x hx => ?_, ih⟩
      cases hx with
      | head => exact hab
      | tail _ hx => exact blt_trans hab ((List.pairwise_cons.1 ih).1 x hx)
theorem cmp_rise (l : List Bytes) : Rise (cmpB (sortL l)) := by
  have := sort_up l
  cases h : sortL l with
  | nil => exact List.Pairwise.nil
  | cons a r => rw [h] at this; exact cmpP_rise r a this
end Go.KX
namespace Go.KX
theorem mget_some {α β : Type} [DecidableEq α] : ∀ {m : List (α × β)} {k : α}, k ∈ m.map (·.1) → ∃ x, mget m k = some x
  | [], _, h => by cases h
  | p :: r, k, h => by
    unfold mget
    by_cases hk : k = p.1
    · rw [if_pos hk]; exact ⟨_, rfl⟩
    · rw [if_neg hk]
      rcases List.mem_cons.1 h with h | h
      · exact absurd h hk
      · exact mget_some h
theorem numT_isV {v : Val} (h : numT v) : isV v = true := by
  rcases h with rfl | rfl | rfl | h
  · decide
  · decide
  · decide
  · exact h.1
theorem doV_one {o : Bytes} {a : Val} (h : o ∈ ([oSub, oNot] : List Bytes) ∨ functionB o = true) (ha : isV a = true) : (doV o [a]).2 = 0 := by
  have hm : o ∈ oneT.map (·.1) := by
    have h1 : ∀ o ∈ ([oSub, oNot] : List Bytes), o ∈ oneT.map (·.1) := by simp [oneT]
    rcases h with h | h
    · exact h1 o h
    · unfold functionB at h
      have h := of_decide_eq_true h
      have h2 : ∀ o ∈ ([oAbs, oFloor, oNull, oNan, oInf, oNum] : List Bytes), o ∈ oneT.map (·.1) := by simp [oneT]
      exact h2 o h
  obtain ⟨f, hf⟩ := mget_some hm
  unfold doV
  rw [if_pos (by simpa using ha)]
  simp only [oneV, hf, Option.map_some]
theorem doV_two {o : Bytes} {m : Nat} {a b : Val} (hm : m ≤ 4) (ho : o ∈ levelsT.getD (4 - m) []) (ha : isV a = true) (hb : isV b = true) : (doV o [a, b]).2 = 0 := by
  have h1 : ∀ m ≤ 4, ∀ o ∈ levelsT.getD (4 - m) [], o ∈ ([oAdd, oSub, oMul, oDiv, oEq, oNe, oLt, oLe, oGt, oGe, oAnd, oOr] : List Bytes) := by decide
  have h2 : o ∈ twoT.map (·.1) := h1 m hm o ho
  obtain ⟨f, hf⟩ := mget_some h2
  unfold doV
  rw [if_pos (by simp [ha, hb])]
  simp only [twoV, hf, Option.map_some]
  split <;> rfl
section
variable (look : Bytes → Option Val)
mutual
/-- What a tree comes to. -/
def evX : Ex → Option Val
  | .mk k n v kids => if k = 1 then some v else if k = 2 then look n else (evL kids).map fun l => (doV n l).1
def evL : List Ex → Option (List Val)
  | [] => some []
  | x :: r => (evX x).bind fun v => (evL r).map fun l => v :: l
end
end
section
variable {look : Bytes → Option Val}
theorem ev_num (v : Val) : evX look (exN v) = some v := by simp [evX]
theorem ev_ref (n : Bytes) : evX look (exR n) = look n := by simp [evX]
theorem ev_call (n : Bytes) (l : List Ex) : evX look (exC n l) = (evL look l).map fun l => (doV n l).1 := by simp [evX]
theorem evL_nil : evL look [] = some [] := rfl
theorem evL_cons (x : Ex) (r : List Ex) : evL look (x :: r) = (evX look x).bind fun v => (evL look r).map fun l => v :: l := rfl
theorem ev_isV (hv : ∀ n v, look n = some v → isV v = true) {x : Ex} (h : Wf x) : ∀ {v : Val}, evX look x = some v → isV v = true ∧ ((x.kind = 3) → ∀ l, evL look x.kids = some l → (doV x.name l).2 = 0) := by
  induction h with
  | num h => intro v e; rw [ev_num] at e; cases e; exact ⟨numT_isV h, fun h => absurd h (by simp [Ex.kind])⟩
  | ref h => intro v e; rw [ev_ref] at e; exact ⟨hv _ _ e, fun h => absurd h (by simp [Ex.kind])⟩
  | @sign o x ho hx ih =>
    intro v e
    rw [ev_call, evL_cons, evL_nil] at e
    cases hw : evX look x with
    | none => rw [hw] at e; cases e
    | some w =>
      rw [hw] at e
      have h0 := doV_one (.inl ho) (ih hw).1
      injection e with e
      subst e
      refine ⟨isV_do h0, fun _ l hl => ?_⟩
      rw [show (exC o [x]).kids = [x] from rfl, evL_cons, evL_nil, hw] at hl
      injection hl with hl
      subst hl
      exact h0
  | @fn o x ho hx ih =>
    intro v e
    rw [ev_call, evL_cons, evL_nil] at e
    cases hw : evX look x with
    | none => rw [hw] at e; cases e
    | some w =>
      rw [hw] at e
      have h0 := doV_one (.inr ho) (ih hw).1
      injection e with e
      subst e
      refine ⟨isV_do h0, fun _ l hl => ?_⟩
      rw [show (exC o [x]).kids = [x] from rfl, evL_cons, evL_nil, hw] at hl
      injection hl with hl
      subst hl
      exact h0
  | @bin o x y m hm ho hx hy ihx ihy =>
    intro v e
    rw [ev_call, evL_cons, evL_cons, evL_nil] at e
    cases hw : evX look x with
    | none => rw [hw] at e; cases e
    | some w =>
      cases hz : evX look y with
      | none => rw [hw, hz] at e; cases e
      | some z =>
        rw [hw, hz] at e
        have h0 := doV_two hm ho (ihx hw).1 (ihy hz).1
        injection e with e
        subst e
        refine ⟨isV_do h0, fun _ l hl => ?_⟩
        rw [show (exC o [x, y]).kids = [x, y] from rfl, evL_cons, evL_cons, evL_nil, hw, hz] at hl
        injection hl with hl
        subst hl
        exact h0
theorem refs_kid {o : Bytes} {l : List Ex} {n : Bytes} (h : n ∈ refsL l) : n ∈ refsX (exC o l) := by
  rw [refsX_eq, if_neg (by simp [Ex.kind])]
  exact cmpB_mem.2 ((List.mergeSort_perm _ _).mem_iff.2 h)
theorem ev_some (hv : ∀ n v, look n = some v → isV v = true) {x : Ex} (h : Wf x) : (∀ n ∈ refsX x, ∃ v, look n = some v) → ∃ v, evX look x = some v := by
  have hr1 : ∀ {x : Ex} {n : Bytes}, n ∈ refsX x → n ∈ refsL [x] := fun {x n} h => by
    show n ∈ refsX x ++ []
    simpa using h
  induction h with
  | num h => intro _; exact ⟨_, ev_num _⟩
  | ref h =>
    intro hn
    obtain ⟨v, hv⟩ := hn _ (by rw [refsX_eq, if_pos (by simp [Ex.kind])]; exact .head _)
    exact ⟨v, (ev_ref _).trans hv⟩
  | sign ho hx ih =>
    intro hn
    obtain ⟨w, hw⟩ := ih (fun n h => hn n (refs_kid (hr1 h)))
    exact ⟨_, by rw [ev_call, evL_cons, evL_nil, hw]; rfl⟩
  | fn ho hx ih =>
    intro hn
    obtain ⟨w, hw⟩ := ih (fun n h => hn n (refs_kid (hr1 h)))
    exact ⟨_, by rw [ev_call, evL_cons, evL_nil, hw]; rfl⟩
  | @bin o x y m hm ho hx hy ihx ihy =>
    intro hn
    have hl : refsL [x, y] = refsX x ++ (refsX y ++ []) := rfl
    obtain ⟨w, hw⟩ := ihx (fun n h => hn n (refs_kid (by rw [hl]; simp [h])))
    obtain ⟨z, hz⟩ := ihy (fun n h => hn n (refs_kid (by rw [hl]; simp [h])))
    exact ⟨_, by rw [ev_call, evL_cons, evL_cons, evL_nil, hw, hz]; rfl⟩
end
/-- From the front. -/
def firstR : List (Bytes × Val) → Bytes → Option Val
  | [], _ => none
  | e :: r, n => if e.1 = n then some e.2 else firstR r n
/-- From the back. -/
def lastR (l : List (Bytes × Val)) (n : Bytes) : Option Val := firstR l.reverse n
theorem firstR_mem : ∀ {l : List (Bytes × Val)} {n : Bytes} {v : Val}, firstR l n = some v → (n, v) ∈ l
  | [], _, _, h => by cases h
  | (m, w) :: r, n, v, h => by
    unfold firstR at h
    split at h
    · rename_i e; simp only at e; subst e; cases h; exact .head _
    · exact .tail _ (firstR_mem h)
theorem firstR_nd : ∀ {l : List (Bytes × Val)} {n : Bytes} {v : Val}, (l.map (·.1)).Nodup → (n, v) ∈ l → firstR l n = some v
  | (m, w) :: r, n, v, hn, h => by
    simp only [List.map_cons, List.nodup_cons] at hn
    unfold firstR
    rcases List.mem_cons.1 h with h | h
    · injection h with h1 h2; subst h1; subst h2; rw [if_pos rfl]
    · rw [if_neg]
      · exact firstR_nd hn.2 h
      · intro e; simp only at e; subst e; exact hn.1 (List.mem_map.2 ⟨_, h, rfl⟩)
theorem firstR_none : ∀ {l : List (Bytes × Val)} {n : Bytes}, firstR l n = none → ∀ v, (n, v) ∉ l
  | [], _, _ => fun _ h => by cases h
  | (m, w) :: r, n, h => fun v hv => by
    unfold firstR at h
    split at h
    · cases h
    · rename_i e
      rcases List.mem_cons.1 hv with hv | hv
      · injection hv with h1 _; exact e h1.symm
      · exact firstR_none h v hv
theorem lastR_nd {l : List (Bytes × Val)} (hn : (l.map (·.1)).Nodup) (n : Bytes) : lastR l n = firstR l n := by
  unfold lastR
  have hr : (l.reverse.map (·.1)).Nodup := by rw [List.map_reverse]; exact List.pairwise_reverse.2 (hn.imp fun h => h.symm)
  cases h : firstR l n with
  | some v => exact firstR_nd hr (List.mem_reverse.2 (firstR_mem h))
  | none =>
    cases h2 : firstR l.reverse n with
    | none => rfl
    | some v => exact absurd (List.mem_reverse.1 (firstR_mem h2)) (firstR_none h v)
theorem firstR_some {l : List (Bytes × Val)} {n : Bytes} (h : n ∈ l.map (·.1)) : ∃ v, firstR l n = some v := by
  cases h2 : firstR l n with
  | some v => exact ⟨v, rfl⟩
  | none =>
    obtain ⟨⟨m, v⟩, h3, h4⟩ := List.mem_map.1 h
    simp only at h4
    subst h4
    exact absurd h3 (firstR_none h2 v)
/-- All refs of a tree have values: it comes to one, wherever they are looked for. -/
theorem values_ok {x : Ex} {l : List Val} (h : Wf x) (hl : ∀ v ∈ l, isV v = true) (hn : (refsX x).length ≤ l.length) : ∃ v, evX (lastR ((refsX x).zip l)) x = some v ∧ evX (firstR ((refsX x).zip l)) x = some v ∧ isV v = true := by
  have hm : ((refsX x).zip l).map (·.1) = refsX x := by
    have := List.map_fst_zip (l₁ := refsX x) (l₂ := l) hn
    exact this
  have hnd : (refsX x).Nodup := by
    rw [refsX_eq]
    split
    · exact List.nodup_cons.2 ⟨by simp, List.nodup_nil⟩
    · exact (cmp_rise _).nd
  have he : lastR ((refsX x).zip l) = firstR ((refsX x).zip l) := funext fun n => lastR_nd (by rw [hm]; exact hnd) n
  have hv : ∀ n v, firstR ((refsX x).zip l) n = some v → isV v = true := fun n v e => hl v (List.of_mem_zip (firstR_mem e)).2
  obtain ⟨v, hv2⟩ := ev_some hv h (fun n hn => firstR_some (by rw [hm]; exact hn))
  exact ⟨v, by rw [he]; exact hv2, hv2, (ev_isV hv h hv2).1⟩
end Go.KX
namespace Go.KX
abbrev rF (l : List (Bytes × Val)) : SV := .s 2 (l.map fun p => frF p.1 p.2)
/-- What Backward hands over. -/
def bkF (l : List (Bytes × Val)) : List (List SV) := (List.range l.length).map fun (j : Nat) => [nI ((l.length : Int) - 1 - j), .a (frF (l.getD (l.length - 1 - j) ([], zeroV)).1 (l.getD (l.length - 1 - j) ([], zeroV)).2)]
theorem bkF_len (l : List (Bytes × Val)) : (bkF l).length = l.length := by simp [bkF]
theorem bkF_get {l : List (Bytes × Val)} {j : Nat} (h : j < l.length) : (bkF l)[j]? = some [nI ((l.length : Int) - 1 - j), .a (frF (l[l.length - 1 - j]'(by omega)).1 (l[l.length - 1 - j]'(by omega)).2)] := by
  have h2 : l.length - 1 - j < l.length := by omega
  simp [bkF, h, h2]
theorem bkF_clo {l : List (Bytes × Val)} : ∀ a ∈ bkF l, cloL a = true ∧ a.length = 2 := fun a ha => by
  obtain ⟨j, hj, rfl⟩ := List.mem_map.1 ha
  exact ⟨rfl, rfl⟩
/-- Of the last j ones none bears a name. -/
def noneB (l : List (Bytes × Val)) (n : Bytes) (j : Nat) : Bool := (l.reverse.take j).all fun p => !decide (p.1 = n)
def msF (l : List (Bytes × Val)) (n : Bytes) (j : Nat) : SM := match noneB l n j with
  | true => [(5, .c 33 [nI 0]), (4, .c 32 [.s 0 []])]
  | false => [(5, .c 33 [nI 0]), (4, .c 32 [.s 0 [[]]])]
theorem msF_t {l : List (Bytes × Val)} {n : Bytes} {j : Nat} (h : noneB l n j = true) : msF l n j = [(5, .c 33 [nI 0]), (4, .c 32 [.s 0 []])] := by unfold msF; rw [h]
theorem msF_f {l : List (Bytes × Val)} {n : Bytes} {j : Nat} (h : noneB l n j = false) : msF l n j = [(5, .c 33 [nI 0]), (4, .c 32 [.s 0 [[]]])] := by unfold msF; rw [h]
theorem no_denF {a b T : Nat} {mb : MB} {g : GW} {ρ : Nat → Lc} {ms : List Res} : ¬ DenM g ρ [(a, mb), (b, .c T [.s 0 [[]]])] ms := by
  intro h
  cases h with
  | cons _ t => exact no_den _ _ _ t
theorem rev_at {l : List (Bytes × Val)} {j : Nat} (hj : j < l.length) : l.reverse[j]? = some (l[l.length - 1 - j]'(by omega)) := by
  rw [List.getElem?_reverse hj, List.getElem?_eq_getElem (by omega)]
theorem noneB_next {l : List (Bytes × Val)} {n : Bytes} {j : Nat} (hj : j < l.length) (h : noneB l n j = true) (hx : ¬ (l[l.length - 1 - j]'(by omega)).1 = n) : noneB l n (j + 1) = true := by
  unfold noneB at h ⊢
  rw [List.take_add_one, rev_at hj, List.all_append, h]
  simp [hx]
theorem first_at : ∀ {r : List (Bytes × Val)} {n : Bytes} {j : Nat} {x : Bytes × Val}, (r.take j).all (fun p => !decide (p.1 = n)) = true → r[j]? = some x → x.1 = n → firstR r n = some x.2
  | [], _, _, _, _, h, _ => by simp at h
  | p :: r, n, 0, x, _, h, hx => by
    simp only [List.getElem?_cons_zero, Option.some.injEq] at h
    subst h
    unfold firstR
    rw [if_pos hx]
  | p :: r, n, j + 1, x, h0, h, hx => by
    simp only [List.take_succ_cons, List.all_cons, Bool.and_eq_true] at h0
    unfold firstR
    rw [if_neg (by simpa using h0.1)]
    exact first_at h0.2 (by simpa using h) hx
theorem last_at {l : List (Bytes × Val)} {n : Bytes} {j : Nat} (hj : j < l.length) (h : noneB l n j = true) (hx : (l[l.length - 1 - j]'(by omega)).1 = n) : lastR l n = some (l[l.length - 1 - j]'(by omega)).2 := first_at h (rev_at hj) hx
theorem none_len {l : List (Bytes × Val)} {n : Bytes} {v : Val} (h : lastR l n = some v) : noneB l n l.length = false := by
  cases hb : noneB l n l.length with
  | false => rfl
  | true =>
    unfold noneB at hb
    rw [List.take_of_length_le (by simp)] at hb
    have key : ∀ (r : List (Bytes × Val)), r.all (fun p => !decide (p.1 = n)) = true → firstR r n = none := by
      intro r
      induction r with
      | nil => intro _; rfl
      | cons p r ih =>
        intro hr
        simp only [List.all_cons, Bool.and_eq_true] at hr
        unfold firstR
        rw [if_neg (by simpa using hr.1)]
        exact ih hr.2
    have := key _ hb
    unfold lastR at h
    rw [this] at h
    cases h
theorem row_atI {l : List (Bytes × Val)} {j : Nat} {z : Int} {hz : l.length - 1 - j < l.length} (h : z.toNat = l.length - 1 - j) : (l.map fun p => frF p.1 p.2)[z.toNat]? = some (frF (l[l.length - 1 - j]).1 (l[l.length - 1 - j]).2) := by
  rw [h, List.getElem?_map, List.getElem?_eq_getElem hz]
  rfl
theorem all_next {r : List (Bytes × Val)} {n : Bytes} {j : Nat} {x : Bytes × Val} (hx : r[j]? = some x) (h : (r.take j).all (fun p => !decide (p.1 = n)) = true) (hn : ¬ x.1 = n) : (r.take (j + 1)).all (fun p => !decide (p.1 = n)) = true := by
  rw [List.take_add_one, hx, List.all_append, h]
  simp [hn]
theorem zip_at {ns : List Bytes} {l : List Val} {j : Nat} (h1 : j < ns.length) (h2 : j < l.length) : (ns.zip l)[j]? = some (ns[j], l[j]) := by
  rw [List.getElem?_eq_getElem (by simp; omega), List.getElem_zip]
theorem firstR_nn : ∀ {r : List (Bytes × Val)} {n : Bytes}, r.all (fun p => !decide (p.1 = n)) = true → firstR r n = none
  | [], _, _ => rfl
  | p :: r, n, h => by
    simp only [List.all_cons, Bool.and_eq_true] at h
    unfold firstR
    rw [if_neg (by simpa using h.1)]
    exact firstR_nn h.2
theorem zip_next {ns : List Bytes} {l : List Val} {E : List (Bytes × Val)} (hE : E = ns.zip l) {j : Nat} (h1 : j < ns.length) (h2 : j < l.length) : E.take (j + 1) = E.take j ++ [(ns[j], l[j])] := by
  rw [hE, List.take_add_one, zip_at h1 h2]
  rfl
end Go.KX
namespace Go.Proofs.YtomkgfdigldhcaaGreatDoor
open Go.KX
theorem tk2 : TDok Tryz.prog 2 ⟨1, 8, .int .i64 0, .int .i64⟩ := ⟨TI_of (by kernel_rfl), Tryz.underlying2⟩
theorem tk3 : TDok Tryz.prog 3 ⟨1, 8, .int .i64 0, .int .i64⟩ := ⟨TI_of (by kernel_rfl), Tryz.underlying3⟩
theorem tk4 : TDok Tryz.prog 4 ⟨1, 1, .bool false, .bool⟩ := ⟨TI_of (by kernel_rfl), Tryz.underlying4⟩
theorem tk5 : TDok Tryz.prog 5 ⟨1, 1, .int .u8 0, .int .u8⟩ := ⟨TI_of (by kernel_rfl), Tryz.underlying5⟩
theorem tk9 : TDok Tryz.prog 9 ⟨1, 16, str [], .str⟩ := ⟨TI_of (by kernel_rfl), Tryz.underlying9⟩
theorem tk21 : TDok Tryz.prog 21 ⟨1, 4, .int .i32 0, .int .i32⟩ := ⟨TI_of (by kernel_rfl), Tryz.underlying21⟩
theorem tk22 : TDok Tryz.prog 22 ⟨1, 24, .slice none 0 0, .sl 52⟩ := ⟨TI_of (by kernel_rfl), Tryz.underlying22⟩
theorem tk26 : TDok Tryz.prog 26 ⟨2, 16, .agg #[.int .i64 0, .int .i64 0], .st [(0, 1, false), (1, 1, false)]⟩ := TDst (TI_of (by kernel_rfl)) Tryz.underlying26 (by kernel_rfl)
theorem tk27 : TDok Tryz.prog 27 ⟨1, 24, .slice none 0 0, .sl 29⟩ := ⟨TI_of (by kernel_rfl), Tryz.underlying27⟩
theorem tk29 : TDok Tryz.prog 29 ⟨5, 64, .agg #[.int .i64 0, str [], .int .i64 0, .int .i64 0, .slice none 0 0], .st [(0, 1, false), (1, 1, false), (2, 2, true), (4, 1, false)]⟩ := TDst (TI_of (by kernel_rfl)) Tryz.underlying29 (by kernel_rfl)
theorem tk32 : TDok Tryz.prog 32 ⟨1, 24, .slice none 0 0, .sl 98⟩ := ⟨TI_of (by kernel_rfl), Tryz.underlying32⟩
theorem tk33 : TDok Tryz.prog 33 ⟨1, 8, .int .i64 0, .int .i64⟩ := ⟨TI_of (by kernel_rfl), Tryz.underlying33⟩
theorem tk46 : TDok Tryz.prog 46 ⟨1, 24, .slice none 0 0, .sl 26⟩ := ⟨TI_of (by kernel_rfl), Tryz.underlying46⟩
theorem tk48 : TDok Tryz.prog 48 ⟨1, 24, .slice none 0 0, .sl 9⟩ := ⟨TI_of (by kernel_rfl), Tryz.underlying48⟩
theorem tk52 : TDok Tryz.prog 52 ⟨2, 40, .agg #[str [], .slice none 0 0], .st [(0, 1, false), (1, 1, false)]⟩ := TDst (TI_of (by kernel_rfl)) Tryz.underlying52 (by kernel_rfl)
theorem tk56 : TDok Tryz.prog 56 ⟨1, 24, .slice none 0 0, .sl 65⟩ := ⟨TI_of (by kernel_rfl), Tryz.underlying56⟩
theorem tk65 : TDok Tryz.prog 65 ⟨11, 128, .agg #[str [], .int .i64 0, str [], str [], str [], .bool false, .int .i64 0, .int .i64 0, .int .i64 0, .int .i64 0, str []], .st [(0, 1, false), (1, 1, false), (2, 1, false), (3, 1, false), (4, 1, false), (5, 1, false), (6, 2, true), (8, 2, true), (10, 1, false)]⟩ := TDst (TI_of (by kernel_rfl)) Tryz.underlying65 (by kernel_rfl)
theorem tk74 : TDok Tryz.prog 74 ⟨1, 24, .slice none 0 0, .sl 77⟩ := ⟨TI_of (by kernel_rfl), Tryz.underlying74⟩
theorem tk75 : TDok Tryz.prog 75 ⟨1, 24, .slice none 0 0, .sl 93⟩ := ⟨TI_of (by kernel_rfl), Tryz.underlying75⟩
theorem tk77 : TDok Tryz.prog 77 ⟨3, 48, .agg #[str [], .bool false, .slice none 0 0], .st [(0, 1, false), (1, 1, false), (2, 1, false)]⟩ := TDst (TI_of (by kernel_rfl)) Tryz.underlying77 (by kernel_rfl)
theorem tk79 : TDok Tryz.prog 79 ⟨1, 24, .slice none 0 0, .sl 95⟩ := ⟨TI_of (by kernel_rfl), Tryz.underlying79⟩
theorem tk87 : TDok Tryz.prog 87 ⟨1, 24, .slice none 0 0, .sl 90⟩ := ⟨TI_of (by kernel_rfl), Tryz.underlying87⟩
theorem tk90 : TDok Tryz.prog 90 ⟨3, 24, .agg #[.int .i64 0, .int .i64 0, .int .i64 0], .st [(0, 1, false), (1, 2, true)]⟩ := TDst (TI_of (by kernel_rfl)) Tryz.underlying90 (by kernel_rfl)
theorem tk91 : TDok Tryz.prog 91 ⟨1, 24, .slice none 0 0, .sl 138⟩ := ⟨TI_of (by kernel_rfl), Tryz.underlying91⟩
theorem tk93 : TDok Tryz.prog 93 ⟨2, 48, .agg #[.slice none 0 0, .slice none 0 0], .st [(0, 1, false), (1, 1, false)]⟩ := TDst (TI_of (by kernel_rfl)) Tryz.underlying93 (by kernel_rfl)
theorem tk95 : TDok Tryz.prog 95 ⟨4, 48, .agg #[.slice none 0 0, .int .i64 0, .int .i64 0, .int .i64 0], .st [(0, 1, false), (1, 1, false), (2, 2, true)]⟩ := TDst (TI_of (by kernel_rfl)) Tryz.underlying95 (by kernel_rfl)
theorem tk98 : TDok Tryz.prog 98 ⟨3, 40, .agg #[.slice none 0 0, .int .i64 0, .int .i64 0], .st [(0, 1, false), (1, 2, true)]⟩ := TDst (TI_of (by kernel_rfl)) Tryz.underlying98 (by kernel_rfl)
theorem tk101 : TDok Tryz.prog 101 ⟨4, 40, .agg #[str [], .int .i64 0, .int .i64 0, .int .i64 0], .st [(0, 1, false), (1, 1, false), (2, 1, false), (3, 1, false)]⟩ := TDst (TI_of (by kernel_rfl)) Tryz.underlying101 (by kernel_rfl)
theorem tk108 : TDok Tryz.prog 108 ⟨1, 24, .slice none 0 0, .sl 32⟩ := ⟨TI_of (by kernel_rfl), Tryz.underlying108⟩
theorem tk117 : TDok Tryz.prog 117 ⟨5, 48, .agg #[str [], .int .i64 0, .int .i64 0, .int .i64 0, .bool false], .st [(0, 1, false), (1, 1, false), (2, 1, false), (3, 1, false), (4, 1, false)]⟩ := TDst (TI_of (by kernel_rfl)) Tryz.underlying117 (by kernel_rfl)
theorem tk124 : TDok Tryz.prog 124 ⟨1, 8, .map none, .mp 9 65⟩ := ⟨TI_of (by kernel_rfl), Tryz.underlying124⟩
theorem tk127 : TDok Tryz.prog 127 ⟨1, 8, .map none, .mp 9 4⟩ := ⟨TI_of (by kernel_rfl), Tryz.underlying127⟩
theorem tk138 : TDok Tryz.prog 138 ⟨2, 32, .agg #[str [], str []], .st [(0, 1, false), (1, 1, false)]⟩ := TDst (TI_of (by kernel_rfl)) Tryz.underlying138 (by kernel_rfl)
theorem tk163 : TDok Tryz.prog 163 ⟨1, 8, .nilFunc, .oth⟩ := ⟨TI_of (by kernel_rfl), ⟨_, Tryz.underlying163, rfl⟩⟩
theorem tk167 : TDok Tryz.prog 167 ⟨6, 96, .agg #[str [], str [], str [], str [], str [], str []], .arr 6 9⟩ := ⟨TI_of (by kernel_rfl), Tryz.underlying167⟩
theorem tk172 : TDok Tryz.prog 172 ⟨1, 8, .int .u64 0, .int .u64⟩ := ⟨TI_of (by kernel_rfl), Tryz.underlying172⟩
theorem tk182 : TDok Tryz.prog 182 ⟨3, 56, .agg #[.map none, .slice none 0 0, .slice none 0 0], .st [(0, 1, false), (1, 1, false), (2, 1, false)]⟩ := TDst (TI_of (by kernel_rfl)) Tryz.underlying182 (by kernel_rfl)
theorem tk183 : TDok Tryz.prog 183 ⟨1, 8, .nilFunc, .oth⟩ := ⟨TI_of (by kernel_rfl), ⟨_, Tryz.underlying183, rfl⟩⟩
theorem tk185 : TDok Tryz.prog 185 ⟨1, 8, .map none, .mp 3 183⟩ := ⟨TI_of (by kernel_rfl), Tryz.underlying185⟩
theorem tk197 : TDok Tryz.prog 197 ⟨1, 8, .nilFunc, .oth⟩ := ⟨TI_of (by kernel_rfl), ⟨_, Tryz.underlying197, rfl⟩⟩
theorem tk199 : TDok Tryz.prog 199 ⟨1, 8, .map none, .mp 9 197⟩ := ⟨TI_of (by kernel_rfl), Tryz.underlying199⟩
theorem tk201 : TDok Tryz.prog 201 ⟨1, 8, .nilFunc, .oth⟩ := ⟨TI_of (by kernel_rfl), ⟨_, Tryz.underlying201, rfl⟩⟩
theorem tk203 : TDok Tryz.prog 203 ⟨1, 8, .map none, .mp 9 201⟩ := ⟨TI_of (by kernel_rfl), Tryz.underlying203⟩
theorem tk212 : TDok Tryz.prog 212 ⟨5, 120, .agg #[.slice none 0 0, .slice none 0 0, .slice none 0 0, .slice none 0 0, .slice none 0 0], .arr 5 48⟩ := ⟨TI_of (by kernel_rfl), Tryz.underlying212⟩
theorem tk217 : TDok Tryz.prog 217 ⟨256, 256, .agg #[.bool false, .bool false, .bool false, .bool false, .bool false, .bool false, .bool false, .bool false, .bool false, .bool false, .bool false, .bool false, .bool false, .bool false, .bool false, .bool false, .bool false, .bool false, .bool false, .bool false, .bool false, .bool false, .bool false, .bool false, .bool false, .bool false, .bool false, .bool false, .bool false, .bool false, .bool false, .bool false, .bool false, .bool false, .bool false, .bool false, .bool false, .bool false, .bool false, .bool false, .bool false, .bool false, .bool false, .bool false, .bool false, .bool false, .bool false, .bool false, .bool false, .bool false, .bool false, .bool false, .bool false, .bool false, .bool false, .bool false, .bool false, .bool false, .bool false, .bool false, .bool false, .bool false, .bool false, .bool false, .bool false, .bool false, .bool false, .bool false, .bool false, .bool false, .bool false, .bool false, .bool false, .bool false, .bool false, .bool false, .bool false, .bool false, .bool false, .bool false, .bool false, .bool false, .bool false, .bool false, .bool false, .bool false, .bool false, .bool false, .bool false, .bool false, .bool false, .bool false, .bool false, .bool false, .bool false, .bool false, .bool false, .bool false, .bool false, .bool false, .bool false, .bool false, .bool false, .bool false, .bool false, .bool false, .bool false, .bool false, .bool false, .bool false, .bool false, .bool false, .bool false, .bool false, .bool false, .bool false, .bool false, .bool false, .bool false, .bool false, .bool false, .bool false, .bool false, .bool false, .bool false, .bool false, .bool false, .bool false, .bool false, .bool false, .bool false, .bool false, .bool false, .bool false, .bool false, .bool false, .bool false, .bool false, .bool false, .bool false, .bool false, .bool false, .bool false, .bool false, .bool false, .bool false, .bool false, .bool false, .bool false, .bool false, .bool false, .bool false, .bool false, .bool false, .bool false, .bool false, .bool false, .bool false, .bool false, .bool false, .bool false, .bool false, .bool false, .bool false, .bool false, .bool false, .bool false, .bool false, .bool false, .bool false, .bool false, .bool false, .bool false, .bool false, .bool false, .bool false, .bool false, .bool false, .bool false, .bool false, .bool false, .bool false, .bool false, .bool false, .bool false, .bool false, .bool false, .bool false, .bool false, .bool false, .bool false, .bool false, .bool false, .bool false, .bool false, .bool false, .bool false, .bool false, .bool false, .bool false, .bool false, .bool false, .bool false, .bool false, .bool false, .bool false, .bool false, .bool false, .bool false, .bool false, .bool false, .bool false, .bool false, .bool false, .bool false, .bool false, .bool false, .bool false, .bool false, .bool false, .bool false, .bool false, .bool false, .bool false, .bool false, .bool false, .bool false, .bool false, .bool false, .bool false, .bool false, .bool false, .bool false, .bool false, .bool false, .bool false, .bool false, .bool false, .bool false, .bool false, .bool false, .bool false, .bool false, .bool false, .bool false, .bool false, .bool false, .bool false, .bool false, .bool false, .bool false, .bool false, .bool false, .bool false, .bool false, .bool false], .arr 256 4⟩ := ⟨TI_of (by kernel_rfl), Tryz.underlying217⟩
theorem tk223 : TDok Tryz.prog 223 ⟨1, 8, .int .i64 0, .int .i64⟩ := ⟨TI_of (by kernel_rfl), Tryz.underlying223⟩
theorem tk232 : TDok Tryz.prog 232 ⟨1, 4, .int .u32 0, .int .u32⟩ := ⟨TI_of (by kernel_rfl), Tryz.underlying232⟩
theorem tk234 : TDok Tryz.prog 234 ⟨1, 8, .int .u64 0, .int .u64⟩ := ⟨TI_of (by kernel_rfl), Tryz.underlying234⟩
theorem tk254 : TDok Tryz.prog 254 ⟨1, 8, .nilFunc, .oth⟩ := ⟨TI_of (by kernel_rfl), ⟨_, Tryz.underlying254, rfl⟩⟩
theorem tk259 : TDok Tryz.prog 259 ⟨1, 8, .nilFunc, .oth⟩ := ⟨TI_of (by kernel_rfl), ⟨_, Tryz.underlying259, rfl⟩⟩
theorem tk262 : TDok Tryz.prog 262 ⟨15, 240, .agg #[str [], str [], str [], str [], str [], str [], str [], str [], str [], str [], str [], str [], str [], str [], str []], .arr 15 9⟩ := ⟨TI_of (by kernel_rfl), Tryz.underlying262⟩
theorem tk264 : TDok Tryz.prog 264 ⟨24, 24, .agg #[.int .u8 0, .int .u8 0, .int .u8 0, .int .u8 0, .int .u8 0, .int .u8 0, .int .u8 0, .int .u8 0, .int .u8 0, .int .u8 0, .int .u8 0, .int .u8 0, .int .u8 0, .int .u8 0, .int .u8 0, .int .u8 0, .int .u8 0, .int .u8 0, .int .u8 0, .int .u8 0, .int .u8 0, .int .u8 0, .int .u8 0, .int .u8 0], .arr 24 5⟩ := ⟨TI_of (by kernel_rfl), Tryz.underlying264⟩
theorem tk266 : TDok Tryz.prog 266 ⟨1, 24, .slice none 0 0, .sl 5⟩ := ⟨TI_of (by kernel_rfl), Tryz.underlying266⟩
theorem tk272 : TDok Tryz.prog 272 ⟨1, 8, .int .u64 0, .int .u64⟩ := ⟨TI_of (by kernel_rfl), Tryz.underlying272⟩
theorem tk296 : TDok Tryz.prog 296 ⟨1, 24, .slice none 0 0, .sl 3⟩ := ⟨TI_of (by kernel_rfl), Tryz.underlying296⟩
theorem tk304 : TDok Tryz.prog 304 ⟨20, 160, .agg #[.int .u64 0, .int .u64 0, .int .u64 0, .int .u64 0, .int .u64 0, .int .u64 0, .int .u64 0, .int .u64 0, .int .u64 0, .int .u64 0, .int .u64 0, .int .u64 0, .int .u64 0, .int .u64 0, .int .u64 0, .int .u64 0, .int .u64 0, .int .u64 0, .int .u64 0, .int .u64 0], .arr 20 234⟩ := ⟨TI_of (by kernel_rfl), Tryz.underlying304⟩
theorem tk305 : TDok Tryz.prog 305 ⟨65, 65, .agg #[.int .u8 0, .int .u8 0, .int .u8 0, .int .u8 0, .int .u8 0, .int .u8 0, .int .u8 0, .int .u8 0, .int .u8 0, .int .u8 0, .int .u8 0, .int .u8 0, .int .u8 0, .int .u8 0, .int .u8 0, .int .u8 0, .int .u8 0, .int .u8 0, .int .u8 0, .int .u8 0, .int .u8 0, .int .u8 0, .int .u8 0, .int .u8 0, .int .u8 0, .int .u8 0, .int .u8 0, .int .u8 0, .int .u8 0, .int .u8 0, .int .u8 0, .int .u8 0, .int .u8 0, .int .u8 0, .int .u8 0, .int .u8 0, .int .u8 0, .int .u8 0, .int .u8 0, .int .u8 0, .int .u8 0, .int .u8 0, .int .u8 0, .int .u8 0, .int .u8 0, .int .u8 0, .int .u8 0, .int .u8 0, .int .u8 0, .int .u8 0, .int .u8 0, .int .u8 0, .int .u8 0, .int .u8 0, .int .u8 0, .int .u8 0, .int .u8 0, .int .u8 0, .int .u8 0, .int .u8 0, .int .u8 0, .int .u8 0, .int .u8 0, .int .u8 0, .int .u8 0], .arr 65 5⟩ := ⟨TI_of (by kernel_rfl), Tryz.underlying305⟩
theorem tk318 : TDok Tryz.prog 318 ⟨1, 16, .nilIface, .oth⟩ := ⟨TI_of (by kernel_rfl), ⟨_, Tryz.underlying318, rfl⟩⟩
theorem tk329 : TDok Tryz.prog 329 ⟨32, 32, .agg #[.int .u8 0, .int .u8 0, .int .u8 0, .int .u8 0, .int .u8 0, .int .u8 0, .int .u8 0, .int .u8 0, .int .u8 0, .int .u8 0, .int .u8 0, .int .u8 0, .int .u8 0, .int .u8 0, .int .u8 0, .int .u8 0, .int .u8 0, .int .u8 0, .int .u8 0, .int .u8 0, .int .u8 0, .int .u8 0, .int .u8 0, .int .u8 0, .int .u8 0, .int .u8 0, .int .u8 0, .int .u8 0, .int .u8 0, .int .u8 0, .int .u8 0, .int .u8 0], .arr 32 5⟩ := ⟨TI_of (by kernel_rfl), Tryz.underlying329⟩
theorem tk330 : TDok Tryz.prog 330 ⟨64, 64, .agg #[.int .u8 0, .int .u8 0, .int .u8 0, .int .u8 0, .int .u8 0, .int .u8 0, .int .u8 0, .int .u8 0, .int .u8 0, .int .u8 0, .int .u8 0, .int .u8 0, .int .u8 0, .int .u8 0, .int .u8 0, .int .u8 0, .int .u8 0, .int .u8 0, .int .u8 0, .int .u8 0, .int .u8 0, .int .u8 0, .int .u8 0, .int .u8 0, .int .u8 0, .int .u8 0, .int .u8 0, .int .u8 0, .int .u8 0, .int .u8 0, .int .u8 0, .int .u8 0, .int .u8 0, .int .u8 0, .int .u8 0, .int .u8 0, .int .u8 0, .int .u8 0, .int .u8 0, .int .u8 0, .int .u8 0, .int .u8 0, .int .u8 0, .int .u8 0, .int .u8 0, .int .u8 0, .int .u8 0, .int .u8 0, .int .u8 0, .int .u8 0, .int .u8 0, .int .u8 0, .int .u8 0, .int .u8 0, .int .u8 0, .int .u8 0, .int .u8 0, .int .u8 0, .int .u8 0, .int .u8 0, .int .u8 0, .int .u8 0, .int .u8 0, .int .u8 0], .arr 64 5⟩ := ⟨TI_of (by kernel_rfl), Tryz.underlying330⟩
theorem tk331 : TDok Tryz.prog 331 ⟨256, 256, .agg #[.int .u8 0, .int .u8 0, .int .u8 0, .int .u8 0, .int .u8 0, .int .u8 0, .int .u8 0, .int .u8 0, .int .u8 0, .int .u8 0, .int .u8 0, .int .u8 0, .int .u8 0, .int .u8 0, .int .u8 0, .int .u8 0, .int .u8 0, .int .u8 0, .int .u8 0, .int .u8 0, .int .u8 0, .int .u8 0, .int .u8 0, .int .u8 0, .int .u8 0, .int .u8 0, .int .u8 0, .int .u8 0, .int .u8 0, .int .u8 0, .int .u8 0, .int .u8 0, .int .u8 0, .int .u8 0, .int .u8 0, .int .u8 0, .int .u8 0, .int .u8 0, .int .u8 0, .int .u8 0, .int .u8 0, .int .u8 0, .int .u8 0, .int .u8 0, .int .u8 0, .int .u8 0, .int .u8 0, .int .u8 0, .int .u8 0, .int .u8 0, .int .u8 0, .int .u8 0, .int .u8 0, .int .u8 0, .int .u8 0, .int .u8 0, .int .u8 0, .int .u8 0, .int .u8 0, .int .u8 0, .int .u8 0, .int .u8 0, .int .u8 0, .int .u8 0, .int .u8 0, .int .u8 0, .int .u8 0, .int .u8 0, .int .u8 0, .int .u8 0, .int .u8 0, .int .u8 0, .int .u8 0, .int .u8 0, .int .u8 0, .int .u8 0, .int .u8 0, .int .u8 0, .int .u8 0, .int .u8 0, .int .u8 0, .int .u8 0, .int .u8 0, .int .u8 0, .int .u8 0, .int .u8 0, .int .u8 0, .int .u8 0, .int .u8 0, .int .u8 0, .int .u8 0, .int .u8 0, .int .u8 0, .int .u8 0, .int .u8 0, .int .u8 0, .int .u8 0, .int .u8 0, .int .u8 0, .int .u8 0, .int .u8 0, .int .u8 0, .int .u8 0, .int .u8 0, .int .u8 0, .int .u8 0, .int .u8 0, .int .u8 0, .int .u8 0, .int .u8 0, .int .u8 0, .int .u8 0, .int .u8 0, .int .u8 0, .int .u8 0, .int .u8 0, .int .u8 0, .int .u8 0, .int .u8 0, .int .u8 0, .int .u8 0, .int .u8 0, .int .u8 0, .int .u8 0, .int .u8 0, .int .u8 0, .int .u8 0, .int .u8 0, .int .u8 0, .int .u8 0, .int .u8 0, .int .u8 0, .int .u8 0, .int .u8 0, .int .u8 0, .int .u8 0, .int .u8 0, .int .u8 0, .int .u8 0, .int .u8 0, .int .u8 0, .int .u8 0, .int .u8 0, .int .u8 0, .int .u8 0, .int .u8 0, .int .u8 0, .int .u8 0, .int .u8 0, .int .u8 0, .int .u8 0, .int .u8 0, .int .u8 0, .int .u8 0, .int .u8 0, .int .u8 0, .int .u8 0, .int .u8 0, .int .u8 0, .int .u8 0, .int .u8 0, .int .u8 0, .int .u8 0, .int .u8 0, .int .u8 0, .int .u8 0, .int .u8 0, .int .u8 0, .int .u8 0, .int .u8 0, .int .u8 0, .int .u8 0, .int .u8 0, .int .u8 0, .int .u8 0, .int .u8 0, .int .u8 0, .int .u8 0, .int .u8 0, .int .u8 0, .int .u8 0, .int .u8 0, .int .u8 0, .int .u8 0, .int .u8 0, .int .u8 0, .int .u8 0, .int .u8 0, .int .u8 0, .int .u8 0, .int .u8 0, .int .u8 0, .int .u8 0, .int .u8 0, .int .u8 0, .int .u8 0, .int .u8 0, .int .u8 0, .int .u8 0, .int .u8 0, .int .u8 0, .int .u8 0, .int .u8 0, .int .u8 0, .int .u8 0, .int .u8 0, .int .u8 0, .int .u8 0, .int .u8 0, .int .u8 0, .int .u8 0, .int .u8 0, .int .u8 0, .int .u8 0, .int .u8 0, .int .u8 0, .int .u8 0, .int .u8 0, .int .u8 0, .int .u8 0, .int .u8 0, .int .u8 0, .int .u8 0, .int .u8 0, .int .u8 0, .int .u8 0, .int .u8 0, .int .u8 0, .int .u8 0, .int .u8 0, .int .u8 0, .int .u8 0, .int .u8 0, .int .u8 0, .int .u8 0, .int .u8 0, .int .u8 0, .int .u8 0, .int .u8 0, .int .u8 0, .int .u8 0, .int .u8 0, .int .u8 0, .int .u8 0, .int .u8 0, .int .u8 0, .int .u8 0, .int .u8 0, .int .u8 0, .int .u8 0, .int .u8 0, .int .u8 0, .int .u8 0, .int .u8 0, .int .u8 0, .int .u8 0], .arr 256 5⟩ := ⟨TI_of (by kernel_rfl), Tryz.underlying331⟩
theorem tk333 : TDok Tryz.prog 333 ⟨2, 2, .agg #[.int .u8 0, .int .u8 0], .st [(0, 1, false), (1, 1, false)]⟩ := TDst (TI_of (by kernel_rfl)) Tryz.underlying333 (by kernel_rfl)
theorem tk334 : TDok Tryz.prog 334 ⟨32, 32, .agg #[.int .u8 0, .int .u8 0, .int .u8 0, .int .u8 0, .int .u8 0, .int .u8 0, .int .u8 0, .int .u8 0, .int .u8 0, .int .u8 0, .int .u8 0, .int .u8 0, .int .u8 0, .int .u8 0, .int .u8 0, .int .u8 0, .int .u8 0, .int .u8 0, .int .u8 0, .int .u8 0, .int .u8 0, .int .u8 0, .int .u8 0, .int .u8 0, .int .u8 0, .int .u8 0, .int .u8 0, .int .u8 0, .int .u8 0, .int .u8 0, .int .u8 0, .int .u8 0], .arr 16 333⟩ := ⟨TI_of (by kernel_rfl), Tryz.underlying334⟩
theorem tk339 : TDok Tryz.prog 339 ⟨1, 8, .pointer none, .ptr 341⟩ := ⟨TI_of (by kernel_rfl), Tryz.underlying339⟩
theorem tk341 : TDok Tryz.prog 341 ⟨2, 32, .agg #[.pointer none, .slice none 0 0], .st [(0, 1, false), (1, 1, false)]⟩ := TDst (TI_of (by kernel_rfl)) Tryz.underlying341 (by kernel_rfl)
theorem tk345 : TDok Tryz.prog 345 ⟨1, 8, .int .i64 0, .int .i64⟩ := ⟨TI_of (by kernel_rfl), Tryz.underlying345⟩
theorem tk347 : TDok Tryz.prog 347 ⟨1, 8, .pointer none, .ptr 353⟩ := ⟨TI_of (by kernel_rfl), Tryz.underlying347⟩
theorem tk350 : TDok Tryz.prog 350 ⟨1, 8, .pointer none, .ptr 5⟩ := ⟨TI_of (by kernel_rfl), Tryz.underlying350⟩
theorem tk353 : TDok Tryz.prog 353 ⟨3, 48, .agg #[str [], str [], .nilIface], .st [(0, 1, false), (1, 1, false), (2, 1, false)]⟩ := TDst (TI_of (by kernel_rfl)) Tryz.underlying353 (by kernel_rfl)
theorem tk359 : TDok Tryz.prog 359 ⟨1, 8, .pointer none, .ptr 361⟩ := ⟨TI_of (by kernel_rfl), Tryz.underlying359⟩
theorem tk361 : TDok Tryz.prog 361 ⟨1, 16, .agg #[str []], .st [(0, 1, false)]⟩ := TDst (TI_of (by kernel_rfl)) Tryz.underlying361 (by kernel_rfl)
def tb : TT := .node (.node (.node (.node (.node (.node (.node (.nil) 2 ⟨1, 8, .int .i64 0, .int .i64⟩ (.nil)) 3 ⟨1, 8, .int .i64 0, .int .i64⟩ (.nil)) 4 ⟨1, 1, .bool false, .bool⟩ (.node (.nil) 5 ⟨1, 1, .int .u8 0, .int .u8⟩ (.nil))) 9 ⟨1, 16, str [], .str⟩ (.node (.node (.nil) 21 ⟨1, 4, .int .i32 0, .int .i32⟩ (.nil)) 22 ⟨1, 24, .slice none 0 0, .sl 52⟩ (.node (.nil) 26 ⟨2, 16, .agg #[.int .i64 0, .int .i64 0], .st [(0, 1, false), (1, 1, false)]⟩ (.nil)))) 27 ⟨1, 24, .slice none 0 0, .sl 29⟩ (.node (.node (.node (.node (.nil) 29 ⟨5, 64, .agg #[.int .i64 0, str [], .int .i64 0, .int .i64 0, .slice none 0 0], .st [(0, 1, false), (1, 1, false), (2, 2, true), (4, 1, false)]⟩ (.nil)) 32 ⟨1, 24, .slice none 0 0, .sl 98⟩ (.nil)) 33 ⟨1, 8, .int .i64 0, .int .i64⟩ (.node (.nil) 46 ⟨1, 24, .slice none 0 0, .sl 26⟩ (.nil))) 48 ⟨1, 24, .slice none 0 0, .sl 9⟩ (.node (.node (.nil) 52 ⟨2, 40, .agg #[str [], .slice none 0 0], .st [(0, 1, false), (1, 1, false)]⟩ (.nil)) 56 ⟨1, 24, .slice none 0 0, .sl 65⟩ (.node (.nil) 65 ⟨11, 128, .agg #[str [], .int .i64 0, str [], str [], str [], .bool false, .int .i64 0, .int .i64 0, .int .i64 0, .int .i64 0, str []], .st [(0, 1, false), (1, 1, false), (2, 1, false), (3, 1, false), (4, 1, false), (5, 1, false), (6, 2, true), (8, 2, true), (10, 1, false)]⟩ (.nil))))) 74 ⟨1, 24, .slice none 0 0, .sl 77⟩ (.node (.node (.node (.node (.node (.nil) 75 ⟨1, 24, .slice none 0 0, .sl 93⟩ (.nil)) 77 ⟨3, 48, .agg #[str [], .bool false, .slice none 0 0], .st [(0, 1, false), (1, 1, false), (2, 1, false)]⟩ (.nil)) 79 ⟨1, 24, .slice none 0 0, .sl 95⟩ (.node (.nil) 87 ⟨1, 24, .slice none 0 0, .sl 90⟩ (.nil))) 90 ⟨3, 24, .agg #[.int .i64 0, .int .i64 0, .int .i64 0], .st [(0, 1, false), (1, 2, true)]⟩ (.node (.node (.nil) 91 ⟨1, 24, .slice none 0 0, .sl 138⟩ (.nil)) 93 ⟨2, 48, .agg #[.slice none 0 0, .slice none 0 0], .st [(0, 1, false), (1, 1, false)]⟩ (.node (.nil) 95 ⟨4, 48, .agg #[.slice none 0 0, .int .i64 0, .int .i64 0, .int .i64 0], .st [(0, 1, false), (1, 1, false), (2, 2, true)]⟩ (.nil)))) 98 ⟨3, 40, .agg #[.slice none 0 0, .int .i64 0, .int .i64 0], .st [(0, 1, false), (1, 2, true)]⟩ (.node (.node (.node (.node (.nil) 101 ⟨4, 40, .agg #[str [], .int .i64 0, .int .i64 0, .int .i64 0], .st [(0, 1, false), (1, 1, false), (2, 1, false), (3, 1, false)]⟩ (.nil)) 108 ⟨1, 24, .slice none 0 0, .sl 32⟩ (.nil)) 117 ⟨5, 48, .agg #[str [], .int .i64 0, .int .i64 0, .int .i64 0, .bool false], .st [(0, 1, false), (1, 1, false), (2, 1, false), (3, 1, false), (4, 1, false)]⟩ (.node (.nil) 124 ⟨1, 8, .map none, .mp 9 65⟩ (.nil))) 127 ⟨1, 8, .map none, .mp 9 4⟩ (.node (.node (.nil) 138 ⟨2, 32, .agg #[str [], str []], .st [(0, 1, false), (1, 1, false)]⟩ (.nil)) 163 ⟨1, 8, .nilFunc, .oth⟩ (.node (.nil) 167 ⟨6, 96, .agg #[str [], str [], str [], str [], str [], str []], .arr 6 9⟩ (.nil)))))) 172 ⟨1, 8, .int .u64 0, .int .u64⟩ (.node (.node (.node (.node (.node (.node (.nil) 182 ⟨3, 56, .agg #[.map none, .slice none 0 0, .slice none 0 0], .st [(0, 1, false), (1, 1, false), (2, 1, false)]⟩ (.nil)) 183 ⟨1, 8, .nilFunc, .oth⟩ (.nil)) 185 ⟨1, 8, .map none, .mp 3 183⟩ (.node (.nil) 197 ⟨1, 8, .nilFunc, .oth⟩ (.nil))) 199 ⟨1, 8, .map none, .mp 9 197⟩ (.node (.node (.nil) 201 ⟨1, 8, .nilFunc, .oth⟩ (.nil)) 203 ⟨1, 8, .map none, .mp 9 201⟩ (.node (.nil) 212 ⟨5, 120, .agg #[.slice none 0 0, .slice none 0 0, .slice none 0 0, .slice none 0 0, .slice none 0 0], .arr 5 48⟩ (.nil)))) 217 ⟨256, 256, .agg #[.bool false, .bool false, .bool false, .bool false, .bool false, .bool false, .bool false, .bool false, .bool false, .bool false, .bool false, .bool false, .bool false, .bool false, .bool false, .bool false, .bool false, .bool false, .bool false, .bool false, .bool false, .bool false, .bool false, .bool false, .bool false, .bool false, .bool false, .bool false, .bool false, .bool false, .bool false, .bool false, .bool false, .bool false, .bool false, .bool false, .bool false, .bool false, .bool false, .bool false, .bool false, .bool false, .bool false, .bool false, .bool false, .bool false, .bool false, .bool false, .bool false, .bool false, .bool false, .bool false, .bool false, .bool false, .bool false, .bool false, .bool false, .bool false, .bool false, .bool false, .bool false, .bool false, .bool false, .bool false, .bool false, .bool false, .bool false, .bool false, .bool false, .bool false, .bool false, .bool false, .bool false, .bool false, .bool false, .bool false, .bool false, .bool false, .bool false, .bool false, .bool false, .bool false, .bool false, .bool false, .bool false, .bool false, .bool false, .bool false, .bool false, .bool false, .bool false, .bool false, .bool false, .bool false, .bool false, .bool false, .bool false, .bool false, .bool false, .bool false, .bool false, .bool false, .bool false, .bool false, .bool false, .bool false, .bool false, .bool false, .bool false, .bool false, .bool false, .bool false, .bool false, .bool false, .bool false, .bool false, .bool false, .bool false, .bool false, .bool false, .bool false, .bool false, .bool false, .bool false, .bool false, .bool false, .bool false, .bool false, .bool false, .bool false, .bool false, .bool false, .bool false, .bool false, .bool false, .bool false, .bool false, .bool false, .bool false, .bool false, .bool false, .bool false, .bool false, .bool false, .bool false, .bool false, .bool false, .bool false, .bool false, .bool false, .bool false, .bool false, .bool false, .bool false, .bool false, .bool false, .bool false, .bool false, .bool false, .bool false, .bool false, .bool false, .bool false, .bool false, .bool false, .bool false, .bool false, .bool false, .bool false, .bool false, .bool false, .bool false, .bool false, .bool false, .bool false, .bool false, .bool false, .bool false, .bool false, .bool false, .bool false, .bool false, .bool false, .bool false, .bool false, .bool false, .bool false, .bool false, .bool false, .bool false, .bool false, .bool false, .bool false, .bool false, .bool false, .bool false, .bool false, .bool false, .bool false, .bool false, .bool false, .bool false, .bool false, .bool false, .bool false, .bool false, .bool false, .bool false, .bool false, .bool false, .bool false, .bool false, .bool false, .bool false, .bool false, .bool false, .bool false, .bool false, .bool false, .bool false, .bool false, .bool false, .bool false, .bool false, .bool false, .bool false, .bool false, .bool false, .bool false, .bool false, .bool false, .bool false, .bool false, .bool false, .bool false, .bool false, .bool false, .bool false, .bool false, .bool false, .bool false, .bool false, .bool false, .bool false, .bool false, .bool false, .bool false, .bool false, .bool false, .bool false, .bool false, .bool false, .bool false, .bool false, .bool false, .bool false], .arr 256 4⟩ (.node (.node (.node (.node (.nil) 223 ⟨1, 8, .int .i64 0, .int .i64⟩ (.nil)) 232 ⟨1, 4, .int .u32 0, .int .u32⟩ (.nil)) 234 ⟨1, 8, .int .u64 0, .int .u64⟩ (.node (.nil) 254 ⟨1, 8, .nilFunc, .oth⟩ (.nil))) 259 ⟨1, 8, .nilFunc, .oth⟩ (.node (.node (.nil) 262 ⟨15, 240, .agg #[str [], str [], str [], str [], str [], str [], str [], str [], str [], str [], str [], str [], str [], str [], str []], .arr 15 9⟩ (.nil)) 264 ⟨24, 24, .agg #[.int .u8 0, .int .u8 0, .int .u8 0, .int .u8 0, .int .u8 0, .int .u8 0, .int .u8 0, .int .u8 0, .int .u8 0, .int .u8 0, .int .u8 0, .int .u8 0, .int .u8 0, .int .u8 0, .int .u8 0, .int .u8 0, .int .u8 0, .int .u8 0, .int .u8 0, .int .u8 0, .int .u8 0, .int .u8 0, .int .u8 0, .int .u8 0], .arr 24 5⟩ (.node (.nil) 266 ⟨1, 24, .slice none 0 0, .sl 5⟩ (.nil))))) 272 ⟨1, 8, .int .u64 0, .int .u64⟩ (.node (.node (.node (.node (.node (.nil) 296 ⟨1, 24, .slice none 0 0, .sl 3⟩ (.nil)) 304 ⟨20, 160, .agg #[.int .u64 0, .int .u64 0, .int .u64 0, .int .u64 0, .int .u64 0, .int .u64 0, .int .u64 0, .int .u64 0, .int .u64 0, .int .u64 0, .int .u64 0, .int .u64 0, .int .u64 0, .int .u64 0, .int .u64 0, .int .u64 0, .int .u64 0, .int .u64 0, .int .u64 0, .int .u64 0], .arr 20 234⟩ (.nil)) 305 ⟨65, 65, .agg #[.int .u8 0, .int .u8 0, .int .u8 0, .int .u8 0, .int .u8 0, .int .u8 0, .int .u8 0, .int .u8 0, .int .u8 0, .int .u8 0, .int .u8 0, .int .u8 0, .int .u8 0, .int .u8 0, .int .u8 0, .int .u8 0, .int .u8 0, .int .u8 0, .int .u8 0, .int .u8 0, .int .u8 0, .int .u8 0, .int .u8 0, .int .u8 0, .int .u8 0, .int .u8 0, .int .u8 0, .int .u8 0, .int .u8 0, .int .u8 0, .int .u8 0, .int .u8 0, .int .u8 0, .int .u8 0, .int .u8 0, .int .u8 0, .int .u8 0, .int .u8 0, .int .u8 0, .int .u8 0, .int .u8 0, .int .u8 0, .int .u8 0, .int .u8 0, .int .u8 0, .int .u8 0, .int .u8 0, .int .u8 0, .int .u8 0, .int .u8 0, .int .u8 0, .int .u8 0, .int .u8 0, .int .u8 0, .int .u8 0, .int .u8 0, .int .u8 0, .int .u8 0, .int .u8 0, .int .u8 0, .int .u8 0, .int .u8 0, .int .u8 0, .int .u8 0, .int .u8 0], .arr 65 5⟩ (.node (.nil) 318 ⟨1, 16, .nilIface, .oth⟩ (.nil))) 329 ⟨32, 32, .agg #[.int .u8 0, .int .u8 0, .int .u8 0, .int .u8 0, .int .u8 0, .int .u8 0, .int .u8 0, .int .u8 0, .int .u8 0, .int .u8 0, .int .u8 0, .int .u8 0, .int .u8 0, .int .u8 0, .int .u8 0, .int .u8 0, .int .u8 0, .int .u8 0, .int .u8 0, .int .u8 0, .int .u8 0, .int .u8 0, .int .u8 0, .int .u8 0, .int .u8 0, .int .u8 0, .int .u8 0, .int .u8 0, .int .u8 0, .int .u8 0, .int .u8 0, .int .u8 0], .arr 32 5⟩ (.node (.node (.nil) 330 ⟨64, 64, .agg #[.int .u8 0, .int .u8 0, .int .u8 0, .int .u8 0, .int .u8 0, .int .u8 0, .int .u8 0, .int .u8 0, .int .u8 0, .int .u8 0, .int .u8 0, .int .u8 0, .int .u8 0, .int .u8 0, .int .u8 0, .int .u8 0, .int .u8 0, .int .u8 0, .int .u8 0, .int .u8 0, .int .u8 0, .int .u8 0, .int .u8 0, .int .u8 0, .int .u8 0, .int .u8 0, .int .u8 0, .int .u8 0, .int .u8 0, .int .u8 0, .int .u8 0, .int .u8 0, .int .u8 0, .int .u8 0, .int .u8 0, .int .u8 0, .int .u8 0, .int .u8 0, .int .u8 0, .int .u8 0, .int .u8 0, .int .u8 0, .int .u8 0, .int .u8 0, .int .u8 0, .int .u8 0, .int .u8 0, .int .u8 0, .int .u8 0, .int .u8 0, .int .u8 0, .int .u8 0, .int .u8 0, .int .u8 0, .int .u8 0, .int .u8 0, .int .u8 0, .int .u8 0, .int .u8 0, .int .u8 0, .int .u8 0, .int .u8 0, .int .u8 0, .int .u8 0], .arr 64 5⟩ (.nil)) 331 ⟨256, 256, .agg #[.int .u8 0, .int .u8 0, .int .u8 0, .int .u8 0, .int .u8 0, .int .u8 0, .int .u8 0, .int .u8 0, .int .u8 0, .int .u8 0, .int .u8 0, .int .u8 0, .int .u8 0, .int .u8 0, .int .u8 0, .int .u8 0, .int .u8 0, .int .u8 0, .int .u8 0, .int .u8 0, .int .u8 0, .int .u8 0, .int .u8 0, .int .u8 0, .int .u8 0, .int .u8 0, .int .u8 0, .int .u8 0, .int .u8 0, .int .u8 0, .int .u8 0, .int .u8 0, .int .u8 0, .int .u8 0, .int .u8 0, .int .u8 0, .int .u8 0, .int .u8 0, .int .u8 0, .int .u8 0, .int .u8 0, .int .u8 0, .int .u8 0, .int .u8 0, .int .u8 0, .int .u8 0, .int .u8 0, .int .u8 0, .int .u8 0, .int .u8 0, .int .u8 0, .int .u8 0, .int .u8 0, .int .u8 0, .int .u8 0, .int .u8 0, .int .u8 0, .int .u8 0, .int .u8 0, .int .u8 0, .int .u8 0, .int .u8 0, .int .u8 0, .int .u8 0, .int .u8 0, .int .u8 0, .int .u8 0, .int .u8 0, .int .u8 0, .int .u8 0, .int .u8 0, .int .u8 0, .int .u8 0, .int .u8 0, .int .u8 0, .int .u8 0, .int .u8 0, .int .u8 0, .int .u8 0, .int .u8 0, .int .u8 0, .int .u8 0, .int .u8 0, .int .u8 0, .int .u8 0, .int .u8 0, .int .u8 0, .int .u8 0, .int .u8 0, .int .u8 0, .int .u8 0, .int .u8 0, .int .u8 0, .int .u8 0, .int .u8 0, .int .u8 0, .int .u8 0, .int .u8 0, .int .u8 0, .int .u8 0, .int .u8 0, .int .u8 0, .int .u8 0, .int .u8 0, .int .u8 0, .int .u8 0, .int .u8 0, .int .u8 0, .int .u8 0, .int .u8 0, .int .u8 0, .int .u8 0, .int .u8 0, .int .u8 0, .int .u8 0, .int .u8 0, .int .u8 0, .int .u8 0, .int .u8 0, .int .u8 0, .int .u8 0, .int .u8 0, .int .u8 0, .int .u8 0, .int .u8 0, .int .u8 0, .int .u8 0, .int .u8 0, .int .u8 0, .int .u8 0, .int .u8 0, .int .u8 0, .int .u8 0, .int .u8 0, .int .u8 0, .int .u8 0, .int .u8 0, .int .u8 0, .int .u8 0, .int .u8 0, .int .u8 0, .int .u8 0, .int .u8 0, .int .u8 0, .int .u8 0, .int .u8 0, .int .u8 0, .int .u8 0, .int .u8 0, .int .u8 0, .int .u8 0, .int .u8 0, .int .u8 0, .int .u8 0, .int .u8 0, .int .u8 0, .int .u8 0, .int .u8 0, .int .u8 0, .int .u8 0, .int .u8 0, .int .u8 0, .int .u8 0, .int .u8 0, .int .u8 0, .int .u8 0, .int .u8 0, .int .u8 0, .int .u8 0, .int .u8 0, .int .u8 0, .int .u8 0, .int .u8 0, .int .u8 0, .int .u8 0, .int .u8 0, .int .u8 0, .int .u8 0, .int .u8 0, .int .u8 0, .int .u8 0, .int .u8 0, .int .u8 0, .int .u8 0, .int .u8 0, .int .u8 0, .int .u8 0, .int .u8 0, .int .u8 0, .int .u8 0, .int .u8 0, .int .u8 0, .int .u8 0, .int .u8 0, .int .u8 0, .int .u8 0, .int .u8 0, .int .u8 0, .int .u8 0, .int .u8 0, .int .u8 0, .int .u8 0, .int .u8 0, .int .u8 0, .int .u8 0, .int .u8 0, .int .u8 0, .int .u8 0, .int .u8 0, .int .u8 0, .int .u8 0, .int .u8 0, .int .u8 0, .int .u8 0, .int .u8 0, .int .u8 0, .int .u8 0, .int .u8 0, .int .u8 0, .int .u8 0, .int .u8 0, .int .u8 0, .int .u8 0, .int .u8 0, .int .u8 0, .int .u8 0, .int .u8 0, .int .u8 0, .int .u8 0, .int .u8 0, .int .u8 0, .int .u8 0, .int .u8 0, .int .u8 0, .int .u8 0, .int .u8 0, .int .u8 0, .int .u8 0, .int .u8 0, .int .u8 0, .int .u8 0, .int .u8 0, .int .u8 0, .int .u8 0, .int .u8 0, .int .u8 0, .int .u8 0, .int .u8 0, .int .u8 0, .int .u8 0, .int .u8 0, .int .u8 0, .int .u8 0, .int .u8 0, .int .u8 0, .int .u8 0], .arr 256 5⟩ (.node (.nil) 333 ⟨2, 2, .agg #[.int .u8 0, .int .u8 0], .st [(0, 1, false), (1, 1, false)]⟩ (.nil)))) 334 ⟨32, 32, .agg #[.int .u8 0, .int .u8 0, .int .u8 0, .int .u8 0, .int .u8 0, .int .u8 0, .int .u8 0, .int .u8 0, .int .u8 0, .int .u8 0, .int .u8 0, .int .u8 0, .int .u8 0, .int .u8 0, .int .u8 0, .int .u8 0, .int .u8 0, .int .u8 0, .int .u8 0, .int .u8 0, .int .u8 0, .int .u8 0, .int .u8 0, .int .u8 0, .int .u8 0, .int .u8 0, .int .u8 0, .int .u8 0, .int .u8 0, .int .u8 0, .int .u8 0, .int .u8 0], .arr 16 333⟩ (.node (.node (.node (.node (.nil) 339 ⟨1, 8, .pointer none, .ptr 341⟩ (.nil)) 341 ⟨2, 32, .agg #[.pointer none, .slice none 0 0], .st [(0, 1, false), (1, 1, false)]⟩ (.nil)) 345 ⟨1, 8, .int .i64 0, .int .i64⟩ (.node (.nil) 347 ⟨1, 8, .pointer none, .ptr 353⟩ (.nil))) 350 ⟨1, 8, .pointer none, .ptr 5⟩ (.node (.node (.nil) 353 ⟨3, 48, .agg #[str [], str [], .nilIface], .st [(0, 1, false), (1, 1, false), (2, 1, false)]⟩ (.nil)) 359 ⟨1, 8, .pointer none, .ptr 361⟩ (.node (.nil) 361 ⟨1, 16, .agg #[str []], .st [(0, 1, false)]⟩ (.nil))))))
theorem tOK : tb.Ok Tryz.prog := ⟨⟨⟨⟨⟨⟨⟨trivial, tk2, trivial⟩, tk3, trivial⟩, tk4, ⟨trivial, tk5, trivial⟩⟩, tk9, ⟨⟨trivial, tk21, trivial⟩, tk22, ⟨trivial, tk26, trivial⟩⟩⟩, tk27, ⟨⟨⟨⟨trivial, tk29, trivial⟩, tk32, trivial⟩, tk33, ⟨trivial, tk46, trivial⟩⟩, tk48, ⟨⟨trivial, tk52, trivial⟩, tk56, ⟨trivial, tk65, trivial⟩⟩⟩⟩, tk74, ⟨⟨⟨⟨⟨trivial, tk75, trivial⟩, tk77, trivial⟩, tk79, ⟨trivial, tk87, trivial⟩⟩, tk90, ⟨⟨trivial, tk91, trivial⟩, tk93, ⟨trivial, tk95, trivial⟩⟩⟩, tk98, ⟨⟨⟨⟨trivial, tk101, trivial⟩, tk108, trivial⟩, tk117, ⟨trivial, tk124, trivial⟩⟩, tk127, ⟨⟨trivial, tk138, trivial⟩, tk163, ⟨trivial, tk167, trivial⟩⟩⟩⟩⟩, tk172, ⟨⟨⟨⟨⟨⟨trivial, tk182, trivial⟩, tk183, trivial⟩, tk185, ⟨trivial, tk197, trivial⟩⟩, tk199, ⟨⟨trivial, tk201, trivial⟩, tk203, ⟨trivial, tk212, trivial⟩⟩⟩, tk217, ⟨⟨⟨⟨trivial, tk223, trivial⟩, tk232, trivial⟩, tk234, ⟨trivial, tk254, trivial⟩⟩, tk259, ⟨⟨trivial, tk262, trivial⟩, tk264, ⟨trivial, tk266, trivial⟩⟩⟩⟩, tk272, ⟨⟨⟨⟨⟨trivial, tk296, trivial⟩, tk304, trivial⟩, tk305, ⟨trivial, tk318, trivial⟩⟩, tk329, ⟨⟨trivial, tk330, trivial⟩, tk331, ⟨trivial, tk333, trivial⟩⟩⟩, tk334, ⟨⟨⟨⟨trivial, tk339, trivial⟩, tk341, trivial⟩, tk345, ⟨trivial, tk347, trivial⟩⟩, tk350, ⟨⟨trivial, tk353, trivial⟩, tk359, ⟨trivial, tk361, trivial⟩⟩⟩⟩⟩⟩
end Go.Proofs.YtomkgfdigldhcaaGreatDoor
namespace Go.KX
section
variable {s : Bytes}
/-- The error's place lies within the text. -/
def In (s : Bytes) (p : Ps) : Prop := 0 ≤ p.at_ ∧ p.at_ ≤ s.length
end
theorem opd_ge (x : Ex) : (printX x).length ≤ (opdX x).length := by
  unfold opdX
  split
  · simp; omega
  · omega
theorem print_one_len (o : Bytes) (x : Ex) : (printX x).length ≤ (printX (exC o [x])).length := by
  have := opd_ge x
  rw [print_one]
  split
  · simp; omega
  · simp; omega
theorem print_two_len (o : Bytes) (x y : Ex) : (printX x).length ≤ (printX (exC o [x, y])).length ∧ (printX y).length ≤ (printX (exC o [x, y])).length := by
  have h1 := opd_ge x
  have h2 := opd_ge y
  rw [print_two]
  constructor <;> simp <;> omega
end Go.KX
namespace Go.KX
theorem div_k {N Q r : Nat} (h : N * 4194304 = 4194304000 * Q + r) (hr : r < 4194304000) : Q = N / 1000 := by omega
theorem div_two {hi lo u v q1 r1 w q0 r0 : Nat} (hlo : lo < 18446744073709551616) (h : hi < 1000) (hu : u = hi * 18014398509481984 + lo / 1024) (hv : v = lo % 1024 * 4194304) (h1 : u = 4194304000 * q1 + r1) (h2 : r1 < 4194304000) (hw : w = r1 * 4294967296 + v) (h3 : w = 4194304000 * q0 + r0) (h4 : r0 < 4194304000) :
    q1 < 4294967296 ∧ q0 < 4294967296 ∧ w < 18014398509481984000 ∧ q1 * 4294967296 + q0 = (hi * 18446744073709551616 + lo) / 1000 := by
  have hv2 : v < 4294967296 := by omega
  have hu2 : u < 18014398509481984000 := by omega
  have hq1 : q1 < 4294967296 := by omega
  have hw2 : w < 18014398509481984000 := by omega
  have hq0 : q0 < 4294967296 := by omega
  have hm : lo = lo / 1024 * 1024 + lo % 1024 := by omega
  have e1 : (hi * 18446744073709551616 + lo) * 4194304 = 4194304000 * (q1 * 4294967296 + q0) + r0 := by
    generalize lo / 1024 = x at hm hu
    generalize lo % 1024 = y at hm hv
    subst hm hv
    omega
  exact ⟨hq1, hq0, hw2, div_k e1 h4⟩
theorem or_add {a b : Nat} (ha : a < 1024) (hb : b < 18014398509481984) : bits .or .u64 ((a * 18014398509481984 : Nat) : Int) (b : Int) = ((a * 18014398509481984 + b : Nat) : Int) := by
  rw [bits_or_u64_nat _ _ (by omega) (by omega)]
  congr 1
  have := Nat.shiftLeft_add_eq_or_of_lt (i := 54) (b := b) (by omega) a
  rw [Nat.shiftLeft_eq] at this
  exact this.symm
theorem wrapN {a : Nat} (ha : a < 18446744073709551616) : IntKind.wrap .u64 (a : Int) = (a : Int) := by rw [IntKind.wrap_u64]; omega
theorem u_eq {hi lo : Nat} (hh : hi < 1000) (hl : lo < 18446744073709551616) : bits .or .u64 (IntKind.wrap .u64 ((hi : Int) * 2 ^ (54 : Int).toNat)) ((lo : Int) / 2 ^ (IntKind.wrap .u64 (64 - 54)).toNat) = ((hi * 18014398509481984 + lo / 1024 : Nat) : Int) := by
  rw [show (IntKind.wrap .u64 (64 - 54)).toNat = 10 from rfl, show (54 : Int).toNat = 54 from rfl, show (hi : Int) * 2 ^ 54 = ((hi * 18014398509481984 : Nat) : Int) by omega, wrapN (by omega), show (lo : Int) / 2 ^ 10 = ((lo / 1024 : Nat) : Int) by omega]
  exact or_add (by omega) (by omega)
theorem low_eq (lo : Nat) : IntKind.wrap .u64 ((lo : Int) * 2 ^ (54 : Int).toNat) = ((lo % 1024 * 18014398509481984 : Nat) : Int) := by
  rw [IntKind.wrap_u64, show (54 : Int).toNat = 54 from rfl]; omega
theorem mid_eq (lo : Nat) : ((lo % 1024 * 18014398509481984 : Nat) : Int) / 2 ^ (32 : Int).toNat = ((lo % 1024 * 4194304 : Nat) : Int) := by
  rw [show (32 : Int).toNat = 32 from rfl]; omega
theorem mask_eq (lo : Nat) : bits .and .u64 ((lo % 1024 * 18014398509481984 : Nat) : Int) 4294967295 = 0 := by
  have h := bits_and_u64_nat (lo % 1024 * 18014398509481984) 4294967295 (by omega) (by omega)
  have e : (lo % 1024 * 18014398509481984) &&& 4294967295 = 0 := by
    rw [show (4294967295 : Nat) = 2 ^ 32 - 1 from rfl, Nat.and_two_pow_sub_one_eq_mod]; omega
  rw [e] at h
  exact h
theorem quo_eq {u : Nat} (h : u < 18446744073709551616) : IntKind.wrap .u64 ((u : Int).tdiv 4194304000) = ((u / 4194304000 : Nat) : Int) := by
  rw [show (4194304000 : Int) = ((4194304000 : Nat) : Int) from rfl, ← Int.ofNat_tdiv, wrapN (by omega)]
theorem rem_eq {u : Nat} (h : u < 18446744073709551616) : IntKind.wrap .u64 ((u : Int) - IntKind.wrap .u64 (((u / 4194304000 : Nat) : Int) * 4194304000)) = ((u % 4194304000 : Nat) : Int) := by
  rw [show ((u / 4194304000 : Nat) : Int) * 4194304000 = ((u / 4194304000 * 4194304000 : Nat) : Int) by omega, wrapN (by omega), show (u : Int) - ((u / 4194304000 * 4194304000 : Nat) : Int) = ((u % 4194304000 : Nat) : Int) by omega, wrapN (by omega)]
theorem quo0_eq {lo : Nat} (hl : lo < 18446744073709551616) : IntKind.wrap .u64 ((lo : Int).tdiv 1000) = (((0 * 18446744073709551616 + lo) / 1000 : Nat) : Int) := by
  rw [show (1000 : Int) = ((1000 : Nat) : Int) from rfl, ← Int.ofNat_tdiv, wrapN (by omega)]
  congr 2
  omega
theorem low_w {u v q1 r1 w : Nat} (hu : u = 4194304000 * q1 + r1) (_hr : r1 < 4194304000) (hw : w = r1 * 4294967296 + v) (bw : w < 18014398509481984000) : IntKind.wrap .u64 (IntKind.wrap .u64 (IntKind.wrap .u64 ((u : Int) * 4294967296) + (v : Int)) - IntKind.wrap .u64 ((q1 : Int) * 18014398509481984000)) = (w : Int) := by
  simp only [IntKind.wrap_u64]
  omega
theorem fin1 {q1 q0 Q : Nat} (b1 : q1 < 4294967296) (b0 : q0 < 4294967296) (hQ : q1 * 4294967296 + q0 = Q) : IntKind.wrap .u64 (IntKind.wrap .u64 ((q1 : Int) * 4294967296) + (q0 : Int)) = (Q : Int) := by
  simp only [IntKind.wrap_u64]
  omega
theorem fin_r {w q0 r0 : Nat} (h : w = 4194304000 * q0 + r0) (hr : r0 < 4194304000) : IntKind.wrap .u64 (IntKind.wrap .u64 (IntKind.wrap .u64 ((w : Int) * 4294967296) + 0) - IntKind.wrap .u64 ((q0 : Int) * 18014398509481984000)) = ((r0 * 4294967296 : Nat) : Int) := by
  simp only [IntKind.wrap_u64]
  omega
theorem t_eq {x y x' y' : Int} (h : x = x') (h2 : y = y') : SV.t [.v (.int .u64 x), .v (.int .u64 y)] = SV.t [.v (.int .u64 x'), .v (.int .u64 y')] := by rw [h, h2]
def rem1000 (hi lo : Nat) : Int := if hi = 0 then (lo : Int).tmod 1000 else (((hi * 18014398509481984 + lo / 1024) % 4194304000 * 4294967296 + lo % 1024 * 4194304) % 4194304000 / 4194304 : Nat)
theorem fin2 {hi lo u v r1 w q0 r0 : Nat} (h0 : hi ≠ 0) (hu : u = hi * 18014398509481984 + lo / 1024) (hv : v = lo % 1024 * 4194304) (hr1 : r1 = u % 4194304000) (hw : w = r1 * 4294967296 + v) (hq0 : q0 = w / 4194304000) (hr0 : r0 = w % 4194304000) :
    IntKind.wrap .u64 (IntKind.wrap .u64 (IntKind.wrap .u64 ((w : Int) * 4294967296) + 0) - IntKind.wrap .u64 ((q0 : Int) * 18014398509481984000)) / 2 ^ (54 : Int).toNat = rem1000 hi lo := by
  rw [fin_r (r0 := r0) (by omega) (by omega), rem1000, if_neg h0, ← hu, ← hv, ← hr1, ← hw, ← hr0, show (54 : Int).toNat = 54 from rfl]
  omega
end Go.KX
namespace Go.Proofs.YtomkgfdigldhcaaGreatDoor
open Go.KX
set_option maxRecDepth 100000 in
theorem vnan_ok  : Fc Tryz.prog gT 205 [] (vS nanV) := by
 refine fb tOK (fn := Tryz.f205) 2 [.cell 0 26] Tryz.func205 Tryz.results205 (fun g0 B0 Q ρ0 R => ?_)
 refine en tOK 0 1 [] ?_
 refine sn tOK 0 2 [] ?_
 refine sr 0 R ?_
 rfl
set_option maxRecDepth 100000 in
theorem vplus_ok  : Fc Tryz.prog gT 226 [] (vS plusV) := by
 refine fb tOK (fn := Tryz.f226) 2 [.cell 0 26] Tryz.func226 Tryz.results226 (fun g0 B0 Q ρ0 R => ?_)
 refine en tOK 0 1 [] ?_
 refine sn tOK 0 2 [] ?_
 refine sr 0 R ?_
 rfl
set_option maxRecDepth 100000 in
theorem vminus_ok  : Fc Tryz.prog gT 227 [] (vS minusV) := by
 refine fb tOK (fn := Tryz.f227) 2 [.cell 0 26] Tryz.func227 Tryz.results227 (fun g0 B0 Q ρ0 R => ?_)
 refine en tOK 0 1 [] ?_
 refine sn tOK 0 2 [] ?_
 refine sr 0 R ?_
 rfl
set_option maxRecDepth 100000 in
theorem vnull_ok  : Fc Tryz.prog gT 87 [] (vS nullV) := by
 refine fb tOK (fn := Tryz.f87) 2 [.cell 0 26] Tryz.func87 Tryz.results87 (fun g0 B0 Q ρ0 R => ?_)
 refine en tOK 0 1 [] ?_
 refine sn tOK 0 2 [] ?_
 refine sr 0 R ?_
 rfl
set_option maxRecDepth 100000 in
theorem vnum_ok {n : Int} : Fc Tryz.prog gT 156 [nI n] (vS (numV n)) := by
 refine fb tOK (fn := Tryz.f156) 13 [.cell 2 26] Tryz.func156 Tryz.results156 (fun g0 B0 Q ρ0 R => ?_)
 refine en tOK 0 1 [] ?_
 refine sn tOK 0 3 [] ?_
 refine si 0 rfl rfl (fun h3 => ?_) (fun h3 => ?_)
 ·have e : numV n = plusV := by unfold numV; rw [if_pos h3]
  refine en tOK 0 0 [] ?_
  refine fc tOK 1 [] (vplus_ok) ?_
  refine sr 0 R ?_
  rw [e]; rfl
 ·refine en tOK 0 3 [] ?_
  refine si 0 rfl rfl (fun h7 => ?_) (fun h7 => ?_)
  ·have e : numV n = minusV := by unfold numV; rw [if_neg h3, if_pos h7]
   refine en tOK 0 0 [] ?_
   refine fc tOK 1 [] (vminus_ok) ?_
   refine sr 0 R ?_
   rw [e]; rfl
  ·have e : numV n = ⟨1, n⟩ := by unfold numV; rw [if_neg h3, if_neg h7]
   refine en tOK 0 3 [] ?_
   refine sr 0 R ?_
   rw [e]; rfl
set_option maxRecDepth 100000 in
theorem vtruth_ok {b : Bool} : Fc Tryz.prog gT 234 [.v (.bool b)] (vS (truthV b)) := by
 refine fb tOK (fn := Tryz.f234) 6 [.cell 2 26] Tryz.func234 Tryz.results234 (fun g0 B0 Q ρ0 R => ?_)
 refine en tOK 0 1 [] ?_
 refine sn tOK 0 1 [] ?_
 refine sib 0 rfl rfl (fun h3 => ?_) (fun h3 => ?_)
 ·refine en tOK 0 0 [] ?_
  refine fc tOK 1 [] (vnum_ok) ?_
  refine sr 0 R ?_
  rw [h3]; rfl
 ·refine en tOK 0 0 [] ?_
  refine fc tOK 1 [] (vnum_ok) ?_
  refine sr 0 R ?_
  rw [h3]; rfl
set_option maxRecDepth 100000 in
theorem vback_ok {n : Int} : Fc Tryz.prog gT 239 [nI n] (vS (numV n)) := by
 refine fb tOK (fn := Tryz.f239) 5 [.cell 2 26] Tryz.func239 Tryz.results239 (fun g0 B0 Q ρ0 R => ?_)
 refine en tOK 0 1 [] ?_
 refine sn tOK 0 1 [] ?_
 refine fc tOK 1 [] (vnum_ok) ?_
 refine sr 0 R ?_
 rfl
set_option maxRecDepth 100000 in
theorem vrank_ok {v : Val} : Fc Tryz.prog gT 240 [vS v] (nI (rankV v)) := by
 refine fb tOK (fn := Tryz.f240) 11 [.tmp 2] Tryz.func240 Tryz.results240 (fun g0 B0 Q ρ0 R => ?_)
 refine en tOK 0 2 [] ?_
 refine sn tOK 0 2 [] ?_
 refine sn tOK 0 2 [] ?_
 refine si 0 rfl rfl (fun h5 => ?_) (fun h5 => ?_)
 ·refine en tOK 0 1 [] ?_
  refine sr 0 R ?_
  simp [resVS, rankV, *]
 ·refine en tOK 0 2 [] ?_
  refine si 0 rfl rfl (fun h7 => ?_) (fun h7 => ?_)
  ·refine en tOK 0 1 [] ?_
   refine sr 0 R ?_
   simp [resVS, rankV, *]
  ·refine en tOK 0 3 [] ?_
   refine sr 0 R ?_
   simp [resVS, rankV, *]
set_option maxRecDepth 100000 in
theorem vsign_ok {v : Val} : Fc Tryz.prog gT 293 [vS v] (nI (signV v)) := by
 refine fb tOK (fn := Tryz.f293) 7 [.tmp 2] Tryz.func293 Tryz.results293 (fun g0 B0 Q ρ0 R => ?_)
 refine en tOK 0 2 [] ?_
 refine sn tOK 0 1 [] ?_
 refine fc tOK 3 [] (vrank_ok) ?_
 refine sr 0 R ?_
 simp only [resVS]; rw [sgn_mm]; rfl
set_option maxRecDepth 100000 in
theorem vinf_ok {n : Int} : Fc Tryz.prog gT 294 [nI n] (vS (infV n)) := by
 refine fb tOK (fn := Tryz.f294) 11 [.cell 2 26] Tryz.func294 Tryz.results294 (fun g0 B0 Q ρ0 R => ?_)
 refine en tOK 0 1 [] ?_
 refine sn tOK 0 2 [] ?_
 refine si 0 rfl rfl (fun h4 => ?_) (fun h4 => ?_)
 ·have e : infV n = nanV := by unfold infV; rw [if_pos h4]
  refine en tOK 0 0 [] ?_
  refine fc tOK 1 [] (vnan_ok) ?_
  refine sr 0 R ?_
  rw [← e]; rfl
 ·have e : numV (min (max n (-1)) 1 * 1000000000000001) = infV n := inf_mm h4
  refine en tOK 0 4 [] ?_
  refine fc tOK 1 [] (vback_ok) ?_
  refine sr 0 R ?_
  rw [← e]; rfl
set_option maxRecDepth 100000 in
theorem vfin_ok {v : Val} : Fc Tryz.prog gT 232 [vS v] (SV.v (.bool (finV v))) := by
 refine fb tOK (fn := Tryz.f232) 6 [.tmp 2] Tryz.func232 Tryz.results232 (fun g0 B0 Q ρ0 R => ?_)
 refine en tOK 0 2 [] ?_
 refine sn tOK 0 4 [] ?_
 refine sr 0 R ?_
 rfl
set_option maxRecDepth 100000 in
theorem vtrue_ok {v : Val} : Fc Tryz.prog gT 89 [vS v] (SV.v (.bool (trueV v))) := by
 refine fb tOK (fn := Tryz.f89) 21 [.tmp 2] Tryz.func89 Tryz.results89 (fun g0 B0 Q ρ0 R => ?_)
 refine en tOK 0 2 [] ?_
 refine sn tOK 0 19 [] ?_
 refine sr 0 R ?_
 simp [resVS, trueV, Bool.and_assoc]
set_option maxRecDepth 100000 in
theorem vis_ok {v : Val} : Fc Tryz.prog gT 117 [vS v] (SV.v (.bool (isV v))) := by
 refine fb tOK (fn := Tryz.f117) 23 [.tmp 2] Tryz.func117 Tryz.results117 (fun g0 B0 Q ρ0 R => ?_)
 refine en tOK 0 2 [] ?_
 refine sn tOK 0 2 [] ?_
 refine sn tOK 0 2 [] ?_
 refine si 0 rfl rfl (fun h5 => ?_) (fun h5 => ?_)
 ·refine en tOK 0 9 [] ?_
  refine sr 0 R ?_
  simp [resVS, isV, *] <;> omega
 ·refine en tOK 0 2 [] ?_
  refine si 0 rfl rfl (fun h15 => ?_) (fun h15 => ?_)
  ·refine ei 0 rfl rfl (fun h15 => ?_) (fun h15 => ?_)
   ·refine en tOK 0 4 [] ?_
    refine sr 0 R ?_
    simp [resVS, isV, *] <;> omega
   ·refine en tOK 0 1 [] ?_
    refine sr 0 R ?_
    simp [resVS, isV, *] <;> omega
  ·refine en tOK 0 2 [] ?_
   refine si 0 rfl rfl (fun h15 => ?_) (fun h15 => ?_)
   ·refine ei 0 rfl rfl (fun h15 => ?_) (fun h15 => ?_)
    ·refine en tOK 0 4 [] ?_
     refine sr 0 R ?_
     simp [resVS, isV, *] <;> omega
    ·refine en tOK 0 1 [] ?_
     refine sr 0 R ?_
     simp [resVS, isV, *] <;> omega
   ·refine en tOK 0 2 [] ?_
    refine si 0 rfl rfl (fun h15 => ?_) (fun h15 => ?_)
    ·refine ei 0 rfl rfl (fun h15 => ?_) (fun h15 => ?_)
     ·refine en tOK 0 4 [] ?_
      refine sr 0 R ?_
      simp [resVS, isV, *] <;> omega
     ·refine en tOK 0 1 [] ?_
      refine sr 0 R ?_
      simp [resVS, isV, *] <;> omega
    ·refine en tOK 0 2 [] ?_
     refine si 0 rfl rfl (fun h15 => ?_) (fun h15 => ?_)
     ·refine en tOK 0 4 [] ?_
      refine sr 0 R ?_
      simp [resVS, isV, *] <;> omega
     ·refine en tOK 0 1 [] ?_
      refine sr 0 R ?_
      simp [resVS, isV, *] <;> omega
end Go.Proofs.YtomkgfdigldhcaaGreatDoor
