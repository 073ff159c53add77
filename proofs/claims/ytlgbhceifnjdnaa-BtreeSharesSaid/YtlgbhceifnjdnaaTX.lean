/- TA TB TC TD TE TF TG TH TI TJ TK. -/
import Derived.Test.YtlgbhceifnjdnaaPY
/- Plain: what is laid is read back. No program in sight. -/
namespace Go.KX
/-! ### Numbers -/
theorem numR_stop (f : Bool) (a c : Nat) (r : Bytes) (hc : c < 128) (ha : a < 144115188075855872) : numR f a (UInt8.ofNat c :: r) = ⟨a * 128 + c, r, 0⟩ := by
  have hu : (UInt8.ofNat c).toNat = c := by rw [UInt8.toNat_ofNat']; omega
  unfold numR
  rw [hu, if_neg (by omega), if_neg (by omega), if_pos hc, Nat.mod_eq_of_lt hc]
theorem numR_go (f : Bool) (a c : Nat) (r : Bytes) (hc : c < 128) (ha : a < 144115188075855872) (hf : f = true → c ≠ 0) : numR f a (UInt8.ofNat (128 + c) :: r) = numR false (a * 128 + c) r := by
  have hu : (UInt8.ofNat (128 + c)).toNat = 128 + c := by rw [UInt8.toNat_ofNat']; omega
  conv => lhs; unfold numR
  rw [hu, if_neg (by rintro ⟨h1, h2⟩; exact hf h1 (by omega)), if_neg (by omega), if_neg (by omega), show (128 + c) % 128 = c by omega]
theorem numR_dgH : ∀ (k n : Nat) (s : Bytes), 0 < n → n < 128 ^ k → n < 144115188075855872 → numR true 0 (dgH k n ++ s) = numR false n s
  | 0, n, s, h0, h1, _ => by simp at h1; omega
  | k + 1, n, s, h0, h1, h2 => by
    unfold dgH
    rw [if_neg (by omega), List.append_assoc]
    by_cases hz : n / 128 = 0
    · rw [hz, dgH_zero, List.nil_append]
      show numR true 0 (UInt8.ofNat (128 + n % 128) :: s) = _
      rw [numR_go true 0 (n % 128) s (by omega) (by omega) (fun _ => by omega)]
      congr 1; omega
    · rw [numR_dgH k (n / 128) _ (by omega) (by rw [Nat.pow_succ] at h1; omega) (by omega)]
      show numR false (n / 128) (UInt8.ofNat (128 + n % 128) :: s) = _
      rw [numR_go false (n / 128) (n % 128) s (by omega) (by omega) (fun h => by cases h)]
      congr 1; omega
theorem numR_dg (n : Nat) (r : Bytes) (hn : n < 144115188075855872) : numR true 0 (dg n ++ r) = ⟨n, r, 0⟩ := by
  unfold dg
  rw [List.append_assoc]
  by_cases hz : n / 128 = 0
  · rw [hz, dgH_zero, List.nil_append]
    show numR true 0 (UInt8.ofNat (n % 128) :: r) = _
    rw [numR_stop true 0 (n % 128) r (by omega) (by omega)]
    congr 1; omega
  · rw [numR_dgH 9 (n / 128) _ (by omega) (by omega) (by omega)]
    show numR false (n / 128) (UInt8.ofNat (n % 128) :: r) = _
    rw [numR_stop false (n / 128) (n % 128) r (by omega) (by omega)]
    congr 1; omega
/-! ### Texts -/
theorem txtR_txt {most : Nat} {s r : Bytes} (h : s.length ≤ most) (h2 : s.length < 144115188075855872) : txtR most (txt s ++ r) = (⟨s.length, r, 0⟩, s) := by
  have hn : numR true 0 (txt s ++ r) = ⟨s.length, s ++ r, 0⟩ := by
    unfold txt; rw [List.append_assoc]; exact numR_dg _ _ h2
  unfold txtR
  rw [hn]
  dsimp only
  rw [if_neg (by decide), if_neg (by omega), if_neg (by simp)]
  simp
theorem readT_txt {most sz : Nat} {s r : Bytes} (h : s.length ≤ most) (h2 : s.length < 144115188075855872) (sp : Nat) : readT ⟨txt s ++ r, sz, 0, sp⟩ most = (⟨r, sz, 0, sp⟩, s) := by
  unfold readT
  rw [if_neg (by simp)]
  dsimp only
  rw [txtR_txt h h2]
  simp [readS]
theorem readS_dg {sz n : Nat} {r : Bytes} (h : n < 144115188075855872) (sp : Nat) : readS ⟨dg n ++ r, sz, 0, sp⟩ (numR true 0 (dg n ++ r)) = (⟨r, sz, 0, sp⟩, n) := by
  rw [numR_dg _ _ h]; simp [readS]
/-! ### Cells -/
/-- A cell as it may lie in a leaf, of a page with so much room. -/
structure FitL (room : Int) (c : Cell) : Prop where
  k0 : c.key ≠ []
  k1 : c.key.length ≤ 64
  v0 : c.page = 0 → c.size = 0 ∧ c.value.length ≤ 16384 ∧ (c.value.length : Int) ≤ room.tdiv 8
  v1 : c.page ≠ 0 → c.value = [] ∧ c.size ≤ 16384
  pg : c.page ≤ 1073741824
structure FitB (c : Cell) : Prop where
  k0 : c.key ≠ []
  k1 : c.key.length ≤ 64
  v : c.value = []
  s : c.size = 0
  p0 : 0 < c.page
  pg : c.page ≤ 1073741824
def Fit (room : Int) (leaf : Bool) (c : Cell) : Prop := if leaf = true then FitL room c else FitB c
theorem Fit.k0 {room leaf c} (h : Fit room leaf c) : c.key ≠ [] := by
  cases leaf with
  | true => exact FitL.k0 (room := room) h
  | false => exact FitB.k0 h
theorem Fit.k1 {room leaf c} (h : Fit room leaf c) : c.key.length ≤ 64 := by
  cases leaf with
  | true => exact FitL.k1 (room := room) h
  | false => exact FitB.k1 h
theorem dg_small {n : Nat} (h : n < 128) : (dg n).length = 1 := by
  unfold dg
  rw [show n / 128 = 0 by omega, dgH_zero]; rfl
theorem dg_two {n : Nat} (h : n < 16384) : (dg n).length ≤ 2 := by
  unfold dg dgH
  by_cases h0 : n / 128 = 0
  · rw [if_pos h0]; simp
  · rw [if_neg h0, show n / 128 / 128 = 0 by omega, dgH_zero]; simp
theorem dg_five {n : Nat} (h : n ≤ 1073741824) : (dg n).length ≤ 5 := by
  have key : ∀ (k f n : Nat), n < 128 ^ k → (dgH f n).length ≤ k := by
    intro k
    induction k with
    | zero => intro f n h; simp at h; subst h; rw [dgH_zero]; simp
    | succ k ih =>
      intro f n h
      cases f with
      | zero => simp [dgH]
      | succ f =>
        unfold dgH
        split
        · simp
        · have := ih f (n / 128) (by rw [Nat.pow_succ] at h; omega)
          simp; omega
  have := key 4 9 (n / 128) (by omega)
  unfold dg; simp; omega
theorem dg_three {n : Nat} (h : n ≤ 16384) : (dg n).length ≤ 3 := by
  unfold dg
  have key : (dgH 9 (n / 128)).length ≤ 2 := by
    unfold dgH
    split
    · simp
    · unfold dgH
      split
      · simp
      · rw [show n / 128 / 128 / 128 = 0 by omega, dgH_zero]; simp
  simp; omega
theorem dg_pos (n : Nat) : 1 ≤ (dg n).length := by unfold dg; simp
/-- How many bytes a cell has at most. -/
def cmax (room : Int) (leaf : Bool) : Int := if leaf = true then 73 + room.tdiv 8 else 70
theorem fit_len {room : Int} (hr : 472 ≤ room) {leaf : Bool} {c : Cell} (h : Fit room leaf c) : ((cellB c leaf).length : Int) ≤ cmax room leaf := by
  have hq : 59 ≤ room.tdiv 8 := by
    rw [Int.tdiv_eq_ediv_of_nonneg (by omega)]; omega
  have h1 := dg_small (n := c.key.length) (by have := h.k1; omega)
  have hk := h.k1
  cases leaf with
  | true =>
    have h2 := dg_five h.pg
    unfold cellB cmax txt
    simp only [if_true, List.length_append]
    by_cases hp : c.page = 0
    · have h3 := h.v0 hp
      have h4 := dg_three h3.2.1
      have h5 := dg_small (n := c.page) (by omega)
      rw [if_pos hp, List.length_append]
      push_cast
      omega
    · have h3 := h.v1 hp
      have h4 := dg_three h3.2
      rw [if_neg hp]
      push_cast
      omega
  | false =>
    have h2 := dg_five h.pg
    unfold cellB cmax txt
    simp only [Bool.false_eq_true, if_false, List.length_append]
    push_cast
    omega
theorem cell_pos (c : Cell) (leaf : Bool) : 2 ≤ (cellB c leaf).length := by
  have h1 := dg_pos c.key.length
  have h2 := dg_pos c.page
  unfold cellB txt
  split
  · simp; omega
  · simp; omega
/-- A cell is read back. -/
theorem stepC_cell {room : Int} {leaf : Bool} {c : Cell} (h : Fit room leaf c) {acc : List Cell} {r : Bytes} {sz : Nat} (hlt : acc.length = 0 ∨ blt (lastKey acc) c.key = true) : stepC leaf acc ⟨cellB c leaf ++ r, sz, 0, 0⟩ = (⟨r, sz, 0, 0⟩, true, c) := by
  have hk := h.k1
  have hk0 := h.k0
  have htl : ∀ leaf, tailOK leaf acc c.key 0 = true := fun leaf => by
    unfold tailOK; exact decide_eq_true ⟨rfl, .inl hk0, hlt⟩
  cases leaf with
  | true =>
    have hpg := h.pg
    unfold stepC stepT
    rw [if_pos rfl]
    have e1 : ∀ tl : Bytes, readT ⟨(txt c.key ++ tl), sz, 0, 0⟩ 64 = (⟨tl, sz, 0, 0⟩, c.key) := fun tl => readT_txt hk (by omega) 0
    by_cases hp : c.page = 0
    · obtain ⟨hs0, hv1, _⟩ := h.v0 hp
      have e0 : cellB c true ++ r = txt c.key ++ (dg c.page ++ (txt c.value ++ r)) := by unfold cellB; rw [if_pos rfl, if_pos hp]; simp only [List.append_assoc]
      rw [e0, e1]
      dsimp only
      rw [readS_dg (by omega)]
      dsimp only
      rw [if_pos (by omega), readT_txt hv1 (by omega)]
      dsimp only
      rw [htl true]
      simp only [Bool.and_true, Prod.mk.injEq, decide_eq_true_eq]
      refine ⟨trivial, by omega, ?_⟩
      cases c
      simp at hp hs0 ⊢
      omega
    · obtain ⟨hv0, hs1⟩ := h.v1 hp
      have e0 : cellB c true ++ r = txt c.key ++ (dg c.page ++ (dg c.size ++ r)) := by unfold cellB; rw [if_pos rfl, if_neg hp]; simp only [List.append_assoc]
      rw [e0, e1]
      dsimp only
      rw [readS_dg (by omega)]
      dsimp only
      rw [if_neg (by omega), readS_dg (by omega)]
      dsimp only
      rw [htl true]
      simp only [Bool.and_true, Prod.mk.injEq, decide_eq_true_eq]
      refine ⟨trivial, by omega, ?_⟩
      cases c
      simp at hv0 hs1 hpg ⊢
      exact ⟨hv0, by omega, by omega⟩
  | false =>
    have hpg := h.pg
    have hp0 := h.p0
    unfold stepC stepF
    rw [if_neg (by decide)]
    have e0 : cellB c false ++ r = txt c.key ++ (dg c.page ++ r) := by unfold cellB; rw [if_neg (by decide)]; simp only [List.append_assoc]
    rw [e0, readT_txt hk (by omega)]
    dsimp only
    rw [readS_dg (by omega)]
    dsimp only
    rw [htl false]
    simp only [Bool.and_true, Prod.mk.injEq, decide_eq_true_eq]
    refine ⟨trivial, by omega, ?_⟩
    have hv := h.v
    have hs := h.s
    cases c
    simp at hv hs hpg ⊢
    exact ⟨hv, by omega, hs.symm⟩
/-- Keys rise. -/
def Asc : List Cell → Prop
  | [] => True
  | [_] => True
  | a :: b :: r => blt a.key b.key = true ∧ Asc (b :: r)
theorem Asc.tail {a : Cell} {r : List Cell} (h : Asc (a :: r)) : Asc r := by
  cases r with
  | nil => trivial
  | cons b r => exact h.2
theorem loadL_cells2 {room : Int} {leaf : Bool} : ∀ (l : List Cell) (fu : Nat) (acc : List Cell) (sz : Nat), (∀ c ∈ l, Fit room leaf c) → Asc l → (∀ c, l.head? = some c → acc.length = 0 ∨ blt (lastKey acc) c.key = true) → l.length < fu →
    loadL leaf fu ⟨l.flatMap fun c => cellB c leaf, sz, 0, 0⟩ true acc = (true, acc ++ l)
  | [], fu, acc, sz, _, _, _, _ => by
    rw [List.flatMap_nil, loadL_end (by simp), List.append_nil]
  | c :: r, 0, acc, sz, _, _, _, h => by omega
  | c :: r, fu + 1, acc, sz, hf, ha, hh, hl => by
    have hc := hf c (.head _)
    have hst := stepC_cell hc (acc := acc) (r := r.flatMap fun c => cellB c leaf) (sz := sz) (hh c rfl)
    rw [List.flatMap_cons, loadL, if_pos ⟨by have := cell_pos c leaf; simp only [List.length_append]; omega, rfl⟩, hst]
    dsimp only
    rw [loadL_cells2 r fu (acc ++ [c]) sz (fun c hc => hf c (.tail _ hc)) ha.tail (fun d hd => ?_) (by simp at hl; omega), List.append_assoc]
    · rfl
    · right
      unfold lastKey
      rw [List.length_append, show acc.length + [c].length - 1 = acc.length by simp, List.getElem?_append_right (Nat.le_refl _), Nat.sub_self]
      cases r with
      | nil => simp at hd
      | cons b r => simp at hd; subst hd; exact ha.1
/-- A node that was laid is read back. -/
theorem loadN_laid {room : Int} {leaf : Bool} {m : Mem} {n : Int} {l : List Cell} (hp : loadM m n = (0, kindB leaf :: l.flatMap fun c => cellB c leaf)) (hf : ∀ c ∈ l, Fit room leaf c) (ha : Asc l) (h0 : l ≠ []) : loadN m n leaf = (0, l) := by
  have hpg : pageM m n (kindOf leaf) = (0, l.flatMap fun c => cellB c leaf) := by
    unfold pageM
    rw [hp]
    dsimp only
    rw [if_neg (by decide)]
    cases leaf <;> rfl
  have hlen : l.length ≤ (l.flatMap fun c => cellB c leaf).length := by
    clear hp hf ha h0 hpg
    induction l with
    | nil => simp
    | cons c l ih => have := cell_pos c leaf; simp only [List.flatMap_cons, List.length_append, List.length_cons]; omega
  unfold loadN
  rw [hpg]
  dsimp only
  rw [if_neg (by decide), loadL_cells2 l _ [] _ hf ha (fun c _ => .inl rfl) (by omega)]
  dsimp only
  rw [if_neg (by rintro (h | h); cases h; simp at h; exact h0 h)]
  simp
end Go.KX

/- Plain: lists of pairs by rising keys. No program in sight. -/
namespace Go.KX
/-! ### Lists by rising keys -/
def Srt (L : List KV) : Prop := L.Pairwise fun p q => blt p.key q.key = true
def Below (A : List KV) (key : Bytes) : Prop := ∀ p ∈ A, blt p.key key = true
def Above (B : List KV) (key : Bytes) : Prop := ∀ p ∈ B, blt key p.key = true
theorem Srt.left {A B : List KV} (h : Srt (A ++ B)) : Srt A := (List.pairwise_append.1 h).1
theorem Srt.right {A B : List KV} (h : Srt (A ++ B)) : Srt B := (List.pairwise_append.1 h).2.1
theorem Srt.cross {A B : List KV} (h : Srt (A ++ B)) {p q : KV} (hp : p ∈ A) (hq : q ∈ B) : blt p.key q.key = true := (List.pairwise_append.1 h).2.2 p hp q hq
theorem findK_below {A : List KV} {key : Bytes} (h : Below A key) (R : List KV) : findK (A ++ R) key = A.length + findK R key := by
  induction A with
  | nil => simp
  | cons p A ih =>
    rw [List.cons_append, findK, if_pos (h p (.head _)), ih (fun q hq => h q (.tail _ hq))]
    simp; omega
theorem findK_above {B : List KV} {key : Bytes} (h : Above B key) (M : List KV) : findK (M ++ B) key = findK M key := by
  induction M with
  | nil =>
    cases B with
    | nil => rfl
    | cons p B => simp [findK, blt_asymm (h p (.head _))]
  | cons p M ih => simp only [List.cons_append, findK, ih]
theorem isAt_below {A : List KV} {key : Bytes} (h : Below A key) (R : List KV) : isAt (A ++ R) key = isAt R key := by
  unfold isAt
  rw [findK_below h, List.getElem?_append_right (by omega), show A.length + findK R key - A.length = findK R key by omega]
theorem isAt_above {B : List KV} {key : Bytes} (h : Above B key) (M : List KV) : isAt (M ++ B) key = isAt M key := by
  unfold isAt
  rw [findK_above h]
  rcases Nat.lt_or_ge (findK M key) M.length with hl | hl
  · rw [List.getElem?_append_left hl]
  · have he : findK M key = M.length := Nat.le_antisymm (findK_le M key) hl
    rw [List.getElem?_append_right (by omega), he, Nat.sub_self, List.getElem?_eq_none (Nat.le_refl _)]
    cases B with
    | nil => rfl
    | cons p B => simp; exact fun e => blt_ne (h p (.head _)) e.symm
theorem getK_below {A : List KV} {key : Bytes} (h : Below A key) (R : List KV) : getK (A ++ R) key = getK R key := by
  unfold getK
  rw [findK_below h, List.getElem?_append_right (by omega), show A.length + findK R key - A.length = findK R key by omega]
theorem getK_above {B : List KV} {key : Bytes} (h : Above B key) (M : List KV) : getK (M ++ B) key = getK M key := by
  unfold getK
  rw [findK_above h]
  rcases Nat.lt_or_ge (findK M key) M.length with hl | hl
  · rw [List.getElem?_append_left hl]
  · have he : findK M key = M.length := Nat.le_antisymm (findK_le M key) hl
    rw [List.getElem?_append_right (by omega), he, Nat.sub_self, List.getElem?_eq_none (Nat.le_refl _)]
    cases B with
    | nil => rfl
    | cons p B =>
      have : p.key ≠ key := fun e => blt_ne (h p (.head _)) e.symm
      simp [this]
theorem take_below {A R : List KV} {n : Nat} : (A ++ R).take (A.length + n) = A ++ R.take n := by
  rw [List.take_append, List.take_of_length_le (by omega)]; congr 2; omega
theorem drop_below {A R : List KV} {n : Nat} : (A ++ R).drop (A.length + n) = R.drop n := by
  rw [List.drop_append, List.drop_eq_nil_of_le (by omega), List.nil_append]; congr 1; omega
theorem putK_below {A : List KV} {key : Bytes} (h : Below A key) (R : List KV) (v : Bytes) : putK (A ++ R) key v = A ++ putK R key v := by
  unfold putK
  rw [findK_below h, isAt_below h, take_below, drop_below, Nat.add_assoc, drop_below]
  simp only [List.append_assoc]
theorem delK_below {A : List KV} {key : Bytes} (h : Below A key) (R : List KV) : delK (A ++ R) key = A ++ delK R key := by
  unfold delK
  rw [findK_below h, isAt_below h, take_below, Nat.add_assoc, drop_below]
  split
  · simp only [List.append_assoc]
  · rfl
theorem isAt_lt {M : List KV} {key : Bytes} (h : isAt M key = true) : findK M key < M.length := by
  unfold isAt at h
  rcases Nat.lt_or_ge (findK M key) M.length with hl | hl
  · exact hl
  · rw [List.getElem?_eq_none hl] at h; cases h
theorem putK_above {B : List KV} {key : Bytes} (h : Above B key) (M : List KV) (v : Bytes) : putK (M ++ B) key v = putK M key v ++ B := by
  have hle := findK_le M key
  unfold putK
  rw [findK_above h, isAt_above h, List.take_append, show findK M key - M.length = 0 by omega, List.take_zero, List.append_nil]
  split
  · rename_i hi
    have := isAt_lt hi
    rw [List.drop_append, show findK M key + 1 - M.length = 0 by omega, List.drop_zero]
    simp only [List.append_assoc]
  · rw [List.drop_append, show findK M key - M.length = 0 by omega, List.drop_zero]
    simp only [List.append_assoc]
theorem delK_above {B : List KV} {key : Bytes} (h : Above B key) (M : List KV) : delK (M ++ B) key = delK M key ++ B := by
  unfold delK
  rw [findK_above h, isAt_above h]
  split
  · rename_i hi
    have := isAt_lt hi
    rw [List.take_append, show findK M key - M.length = 0 by omega, List.take_zero, List.append_nil, List.drop_append, show findK M key + 1 - M.length = 0 by omega, List.drop_zero]
    simp only [List.append_assoc]
  · rfl
theorem Below.nil (key : Bytes) : Below [] key := fun p hp => by cases hp
theorem Above.nil (key : Bytes) : Above [] key := fun p hp => by cases hp
/-- A list, cut at a key. -/
theorem cutK (L : List KV) (key : Bytes) (h : Srt L) : ∃ A B, Below A key ∧ Above B key ∧ findK L key = A.length ∧ ((isAt L key = false ∧ L = A ++ B) ∨ (∃ v, isAt L key = true ∧ L = A ++ ⟨key, v⟩ :: B)) := by
  induction L with
  | nil => exact ⟨[], [], .nil _, .nil _, rfl, .inl ⟨rfl, rfl⟩⟩
  | cons p L ih =>
    have hp := List.pairwise_cons.1 h
    by_cases hb : blt p.key key = true
    · obtain ⟨A, B, h1, h2, h3, h4⟩ := ih hp.2
      have hbl : Below [p] key := fun q hq => by rcases List.mem_singleton.1 hq with rfl; exact hb
      have hi : isAt (p :: L) key = isAt L key := isAt_below hbl L
      refine ⟨p :: A, B, fun q hq => ?_, h2, ?_, ?_⟩
      · rcases List.mem_cons.1 hq with rfl | hq
        · exact hb
        · exact h1 q hq
      · rw [findK, if_pos hb, h3]; rfl
      · rw [hi]
        rcases h4 with ⟨a, b⟩ | ⟨v, a, b⟩
        · exact .inl ⟨a, by rw [b]; rfl⟩
        · exact .inr ⟨v, a, by rw [b]; rfl⟩
    · have hf : findK (p :: L) key = 0 := by rw [findK, if_neg hb]
      rcases blt_total p.key key with hq | hq | hq
      · exact absurd hq hb
      · refine ⟨[], L, .nil _, fun q hm => (by rw [← hq]; exact hp.1 q hm), hf, .inr ⟨p.value, ?_, ?_⟩⟩
        · unfold isAt; rw [hf]; simp [hq]
        · cases p; simp at hq; simp [hq]
      · refine ⟨[], p :: L, .nil _, fun q hm => ?_, hf, .inl ⟨?_, rfl⟩⟩
        · rcases List.mem_cons.1 hm with rfl | hm
          · exact hq
          · exact blt_trans hq (hp.1 q hm)
        · unfold isAt; rw [hf]; simp; exact fun e => blt_ne hq e.symm
theorem putK_new {A B : List KV} {key v : Bytes} (h1 : Below A key) (h2 : Above B key) : putK (A ++ B) key v = A ++ ⟨key, v⟩ :: B := by
  rw [putK_below h1]
  have := putK_above h2 [] v
  rw [List.nil_append] at this
  rw [this]
  rfl
theorem above_hit {B : List KV} {key v0 : Bytes} : findK (⟨key, v0⟩ :: B) key = 0 ∧ isAt (⟨key, v0⟩ :: B) key = true := by
  have hf : findK (⟨key, v0⟩ :: B) key = 0 := by rw [findK, if_neg (by rw [blt_irrefl]; decide)]
  exact ⟨hf, by unfold isAt; rw [hf]; simp⟩
theorem putK_hit {A B : List KV} {key v v0 : Bytes} (h1 : Below A key) : putK (A ++ ⟨key, v0⟩ :: B) key v = A ++ ⟨key, v⟩ :: B := by
  rw [putK_below h1]
  unfold putK
  rw [above_hit.1, above_hit.2]
  rfl
theorem delK_hit {A B : List KV} {key v0 : Bytes} (h1 : Below A key) : delK (A ++ ⟨key, v0⟩ :: B) key = A ++ B := by
  rw [delK_below h1]
  unfold delK
  rw [above_hit.1, above_hit.2]
  rfl
theorem delK_none {L : List KV} {key : Bytes} (h : isAt L key = false) : delK L key = L := by unfold delK; rw [h]; rfl
theorem getK_hit {A B : List KV} {key v0 : Bytes} (h1 : Below A key) : getK (A ++ ⟨key, v0⟩ :: B) key = (v0, true) := by
  rw [getK_below h1]
  unfold getK
  rw [above_hit.1]
  simp
theorem getK_none {A B : List KV} {key : Bytes} (h1 : Below A key) (h2 : Above B key) : getK (A ++ B) key = ([], false) := by
  rw [getK_below h1]
  have := getK_above h2 []
  rw [List.nil_append] at this
  rw [this]; rfl
theorem srt_mid {A B : List KV} {p : KV} (ha : Srt A) (hb : Srt B) (h1 : Below A p.key) (h2 : Above B p.key) : Srt (A ++ p :: B) := by
  refine List.pairwise_append.2 ⟨ha, List.pairwise_cons.2 ⟨fun q hq => h2 q hq, hb⟩, fun a hm b hb' => ?_⟩
  rcases List.mem_cons.1 hb' with rfl | hb'
  · exact h1 a hm
  · exact blt_trans (h1 a hm) (h2 b hb')
theorem putK_srt {L : List KV} {key v : Bytes} (h : Srt L) : Srt (putK L key v) := by
  obtain ⟨A, B, h1, h2, _, h4⟩ := cutK L key h
  rcases h4 with ⟨_, rfl⟩ | ⟨v0, _, rfl⟩
  · rw [putK_new h1 h2]; exact srt_mid h.left h.right h1 h2
  · rw [putK_hit h1]; exact srt_mid h.left (List.pairwise_cons.1 h.right).2 h1 h2
theorem delK_srt {L : List KV} {key : Bytes} (h : Srt L) : Srt (delK L key) := by
  obtain ⟨A, B, h1, h2, _, h4⟩ := cutK L key h
  rcases h4 with ⟨h5, rfl⟩ | ⟨v0, _, rfl⟩
  · rw [delK_none h5]; exact h
  · rw [delK_hit h1]
    refine List.pairwise_append.2 ⟨h.left, (List.pairwise_cons.1 h.right).2, fun a hm b hb => blt_trans (h1 a hm) (h2 b hb)⟩
end Go.KX

/- Plain: what is laid stays; values in pages of their own; what stands for what. No program in sight. -/
namespace Go.KX
/-! ### What is laid stays -/
structure Gr (m m' : Mem) : Prop where
  size : m'.size = m.size
  most : m'.most = m.most
  more : ∃ x, m'.pages = m.pages ++ x
theorem Gr.refl (m : Mem) : Gr m m := ⟨rfl, rfl, [], by simp⟩
theorem Gr.trans {a b c : Mem} (h : Gr a b) (h' : Gr b c) : Gr a c := by
  obtain ⟨x, hx⟩ := h.more
  obtain ⟨y, hy⟩ := h'.more
  exact ⟨h'.size.trans h.size, h'.most.trans h.most, x ++ y, by rw [hy, hx, List.append_assoc]⟩
theorem Gr.len {a b : Mem} (h : Gr a b) : a.pages.length ≤ b.pages.length := by
  obtain ⟨x, hx⟩ := h.more
  rw [hx]; simp
theorem Gr.loadM {m m' : Mem} (h : Gr m m') {n : Int} (h0 : (loadM m n).1 = 0) : Go.KX.loadM m' n = Go.KX.loadM m n := by
  have hin := loadM_in h0
  have hl := h.len
  obtain ⟨x, hx⟩ := h.more
  unfold Go.KX.loadM
  rw [if_neg (by omega), if_neg (by omega), hx, List.getElem?_append_left (by omega)]
theorem Gr.loadM' {m m' : Mem} (h : Gr m m') {n : Int} {p : Bytes} (h0 : Go.KX.loadM m n = (0, p)) : Go.KX.loadM m' n = (0, p) := by
  rw [h.loadM (by rw [h0]), h0]
theorem pageM_load0 {m : Mem} {n k : Int} (h : (pageM m n k).1 = 0) : (loadM m n).1 = 0 := pageM_in h
theorem Gr.loadN {m m' : Mem} (h : Gr m m') {n : Int} {leaf : Bool} {l : List Cell} (h0 : Go.KX.loadN m n leaf = (0, l)) : Go.KX.loadN m' n leaf = (0, l) := by
  have h1 : (pageM m n (kindOf leaf)).1 = 0 := by
    unfold Go.KX.loadN at h0
    by_cases hp : (pageM m n (kindOf leaf)).1 ≠ 0
    · rw [if_pos hp] at h0; simp only [Prod.mk.injEq] at h0; exact absurd h0.1 hp
    · omega
  have h2 := h.loadM (pageM_in h1)
  have h3 : pageM m' n (kindOf leaf) = pageM m n (kindOf leaf) := by unfold pageM; rw [h2]
  unfold Go.KX.loadN at h0 ⊢
  rw [h3]
  exact h0
theorem layM_new {m : Mem} {p : Bytes} (h : (layM m p).2.2 = 0) : Gr m (layM m p).1 ∧ (layM m p).2.1 = m.pages.length + 1 ∧ loadM (layM m p).1 ((m.pages.length + 1 : Nat) : Int) = (0, p) ∧ (layM m p).1.pages.length = m.pages.length + 1 ∧ ((m.pages.length : Int) < m.most) := by
  have hz := layM_zero h
  unfold layM at h ⊢
  by_cases h1 : m.size < p.length
  · rw [if_pos h1] at h; cases h
  · rw [if_neg h1] at h ⊢
    by_cases h2 : m.most ≤ m.pages.length
    · rw [if_pos h2] at h; cases h
    · rw [if_neg h2]
      refine ⟨⟨rfl, rfl, [p], rfl⟩, rfl, ?_, by simp, by omega⟩
      unfold loadM
      rw [if_neg (by simp; omega)]
      dsimp only
      rw [List.getElem?_append_right (by omega), show ((((m.pages.length + 1 : Nat) : Int) - 1).toNat - m.pages.length) = 0 by omega]
      rfl
theorem layM_err {m : Mem} {p : Bytes} (h : (layM m p).2.2 ≠ 0) (hp : (p.length : Int) ≤ m.size) : (layM m p).1 = m ∧ (layM m p).2.2 = 5 ∧ m.most ≤ m.pages.length := by
  unfold layM at h ⊢
  rw [if_neg (by omega)] at h ⊢
  by_cases h2 : m.most ≤ m.pages.length
  · rw [if_pos h2]; exact ⟨rfl, rfl, h2⟩
  · rw [if_neg h2] at h; exact absurd rfl h
/-! ### Long values -/
def Chain (m : Mem) : List Nat → Nat → Bytes → Prop
  | [], n, v => n = 0 ∧ v = []
  | p :: ps, n, v => n = p ∧ 0 < n ∧ ∃ next chunk v', loadM m (n : Int) = (0, 3 :: (dg next ++ chunk)) ∧ chunk ≠ [] ∧ next ≤ 1073741824 ∧ v = chunk ++ v' ∧ Chain m ps next v'
theorem Chain.gr {m m' : Mem} (h : Gr m m') : ∀ {ps : List Nat} {n : Nat} {v : Bytes}, Chain m ps n v → Chain m' ps n v
  | [], _, _, hc => hc
  | p :: ps, n, v, hc => by
    obtain ⟨h1, h2, next, chunk, v', h3, h4, h5, h6, h7⟩ := hc
    exact ⟨h1, h2, next, chunk, v', h.loadM' h3, h4, h5, h6, h7.gr h⟩
theorem Chain.len {m : Mem} : ∀ {ps : List Nat} {n : Nat} {v : Bytes}, Chain m ps n v → ps.length ≤ v.length
  | [], _, _, _ => by simp
  | p :: ps, n, v, hc => by
    obtain ⟨h1, h2, next, chunk, v', h3, h4, h5, rfl, h7⟩ := hc
    have := h7.len
    have : 0 < chunk.length := List.length_pos_iff.2 h4
    simp; omega
theorem Chain.in_ {m : Mem} : ∀ {ps : List Nat} {n : Nat} {v : Bytes}, Chain m ps n v → ∀ p ∈ ps, 1 ≤ p ∧ p ≤ m.pages.length
  | [], _, _, _, p, hp => by cases hp
  | q :: ps, n, v, hc, p, hp => by
    obtain ⟨rfl, h2, next, chunk, v', h3, h4, h5, rfl, h7⟩ := hc
    rcases List.mem_cons.1 hp with rfl | hp
    · have := loadM_in (m := m) (n := (p : Int)) (by rw [h3]); omega
    · exact h7.in_ p hp
/-- Each page may be met. -/
def MetOK (mt : Met) : List Nat → Gone → Gone → Prop
  | [], g, g' => g' = g
  | p :: ps, g, g' => (mt g p).1 = 0 ∧ MetOK mt ps (mt g p).2 g'
theorem tellS_chain {mt : Met} {m : Mem} {size : Nat} {g : Gone} {n next : Nat} {b chunk : Bytes} (hl : loadM m (n : Int) = (0, 3 :: (dg next ++ chunk))) (hc : chunk ≠ []) (hn : next ≤ 1073741824) (hm : (mt g n).1 = 0) (hs : b.length + chunk.length ≤ size) :
    tellS mt m size g n b = ((mt g n).2, 0, next, b ++ chunk) := by
  have hpos : 0 < chunk.length := List.length_pos_iff.2 hc
  unfold tellS
  rw [if_neg (by omega), hl, if_neg (by simp), if_neg (by simp)]
  have hd : List.drop 1 ((3 : UInt8) :: (dg next ++ chunk)) = dg next ++ chunk := rfl
  dsimp only
  rw [hd, readS_dg (by omega)]
  dsimp only
  rw [if_neg (by omega), show 1 + ((dg next ++ chunk).length - chunk.length) = (dg next).length + 1 by simp; omega]
  rw [List.drop_succ_cons, List.drop_left, if_neg (by simp; omega), Nat.min_eq_left hn]
theorem tellL_chain {mt : Met} {m : Mem} {size : Nat} : ∀ {ps : List Nat} {n : Nat} {v b : Bytes} {g g' : Gone} {fu : Nat}, Chain m ps n v → MetOK mt ps g g' → b.length + v.length = size → ps.length < fu → tellL mt m size fu g n b = (g', 0, b ++ v)
  | [], n, v, b, g, g', 0, hc, hm, hs, hf => by omega
  | [], n, v, b, g, g', fu + 1, hc, hm, hs, hf => by
    obtain ⟨rfl, rfl⟩ := hc
    obtain rfl : g' = g := hm
    unfold tellL
    rw [if_pos rfl, if_neg (by simp at hs; omega), List.append_nil]
  | p :: ps, n, v, b, g, g', 0, hc, hm, hs, hf => by omega
  | p :: ps, n, v, b, g, g', fu + 1, hc, hm, hs, hf => by
    obtain ⟨rfl, h2, next, chunk, v', h3, h4, h5, rfl, h7⟩ := hc
    obtain ⟨m1, m2⟩ := hm
    unfold tellL
    rw [if_neg (by omega), tellS_chain h3 h4 h5 m1 (by simp at hs; omega)]
    dsimp only
    rw [if_neg (by omega), tellL_chain h7 m2 (by simp at hs ⊢; omega) (by simp at hf; omega), List.append_assoc]
theorem metOK_get : ∀ (ps : List Nat) (g : Gone), MetOK getF ps g g
  | [], _ => rfl
  | _ :: ps, g => ⟨rfl, metOK_get ps g⟩
def Fresh (g : Gone) (ps : List Nat) : Prop := ∀ p ∈ ps, mget g (p : Int) = none
def noted (g : Gone) (ps : List Nat) : Gone := g ++ ps.map fun p : Nat => ((p : Int), ())
theorem mget_noted {g : Gone} {ps : List Nat} {x : Int} (h : mget g x = none) (h2 : ∀ p ∈ ps, (p : Int) ≠ x) : mget (noted g ps) x = none := by
  unfold noted
  induction g with
  | nil =>
    rw [List.nil_append]
    induction ps with
    | nil => rfl
    | cons p ps ih =>
      rw [List.map_cons, mget, if_neg (fun e => h2 p (.head _) e.symm)]
      exact ih (fun q hq => h2 q (.tail _ hq))
  | cons q g ih =>
    unfold mget at h
    by_cases hk : x = q.1
    · rw [if_pos hk] at h; cases h
    · rw [if_neg hk] at h
      rw [List.cons_append, mget, if_neg hk]
      exact ih h
theorem noted_app (g : Gone) (a b : List Nat) : noted (noted g a) b = noted g (a ++ b) := by simp [noted]
theorem mset_noted {g : Gone} {n : Nat} (h : mget g (n : Int) = none) : mset g (n : Int) () = noted g [n] := mset_new h
theorem Fresh.rest {g : Gone} {a b : List Nat} (h : Fresh g (a ++ b)) (hn : (a ++ b).Nodup) : Fresh (noted g a) b := fun p hp =>
  mget_noted (h p (List.mem_append.2 (.inr hp))) (fun q hq e => (List.nodup_append.1 hn).2.2 q hq p hp (by omega))
theorem Fresh.left {g : Gone} {a b : List Nat} (h : Fresh g (a ++ b)) : Fresh g a := fun p hp => h p (List.mem_append.2 (.inl hp))
theorem metOK_met : ∀ (ps : List Nat) (g : Gone), ps.Nodup → Fresh g ps → MetOK metF ps g (noted g ps)
  | [], g, _, _ => by simp [MetOK, noted]
  | p :: ps, g, hn, hf => by
    have h0 := hf p (.head _)
    have h1 : metF g p = (0, noted g [p]) := by unfold metF; rw [h0, ← mset_noted h0]; rfl
    have hr : Fresh (noted g [p]) ps := Fresh.rest (a := [p]) (b := ps) hf hn
    refine ⟨by rw [h1], ?_⟩
    rw [h1]
    have := metOK_met ps _ (List.nodup_cons.1 hn).2 hr
    rw [noted_app] at this
    exact this
theorem mset_mem {g : Gone} {n x : Int} : x ∈ keysG (mset g n ()) ↔ x = n ∨ x ∈ keysG g := by
  induction g with
  | nil => simp [mset, keysG]
  | cons p g ih =>
    unfold mset
    by_cases hk : n = p.1
    · rw [if_pos hk]; simp [keysG, hk]
    · rw [if_neg hk]
      simp only [keysG, List.map_cons, List.mem_cons] at ih ⊢
      rw [ih]
      constructor
      · rintro (h | h | h) <;> simp [h]
      · rintro (h | h | h) <;> simp [h]
theorem metOK_drop : ∀ (ps : List Nat) (g : Gone), ∃ g', MetOK dropF ps g g' ∧ ∀ x, x ∈ keysG g' ↔ x ∈ keysG g ∨ ∃ p ∈ ps, (p : Int) = x
  | [], g => ⟨g, rfl, fun x => by simp⟩
  | p :: ps, g => by
    obtain ⟨g', h1, h2⟩ := metOK_drop ps (mset g (p : Int) ())
    refine ⟨g', ⟨rfl, h1⟩, fun x => ?_⟩
    rw [h2, mset_mem]
    simp only [List.mem_cons, exists_eq_or_imp]
    constructor
    · rintro ((h | h) | h)
      · exact .inr (.inl h.symm)
      · exact .inl h
      · exact .inr (.inr h)
    · rintro (h | h | h)
      · exact .inl (.inr h)
      · exact .inl (.inl h.symm)
      · exact .inr h
/-- What a leaf's cell stands for: its value, the pages of that. -/
def ValOf (m : Mem) (c : Cell) (v : Bytes) (q : List Nat) : Prop := if c.page = 0 then v = c.value ∧ q = [] else v.length = c.size ∧ (q.length : Int) ≤ mostI m.size v.length ∧ Chain m q c.page v
theorem ValOf.gr {m m' : Mem} (h : Gr m m') {c : Cell} {v : Bytes} {q : List Nat} (hv : ValOf m c v q) : ValOf m' c v q := by
  unfold ValOf at *
  split
  · rename_i hp; rw [if_pos hp] at hv; exact hv
  · rename_i hp; rw [if_neg hp] at hv; exact ⟨hv.1, by rw [h.size]; exact hv.2.1, hv.2.2.gr h⟩
theorem tellN_val {mt : Met} {m : Mem} {c : Cell} {v : Bytes} {q : List Nat} {g g' : Gone} (hv : ValOf m c v q) (hm : MetOK mt q g g') : tellN mt m g c = (g', 0, v) := by
  unfold ValOf at hv
  unfold tellN
  split
  · rename_i hp
    rw [if_pos hp] at hv
    obtain ⟨rfl, rfl⟩ := hv
    obtain rfl : g' = g := hm
    rfl
  · rename_i hp
    rw [if_neg hp] at hv
    have := hv.2.2.len
    have hs := hv.1
    have e := tellL_chain (b := []) (size := c.size) (fu := c.size + 1) hv.2.2 hm (by simp; omega) (by omega)
    rw [e]; rfl
theorem ValOf.in_ {m : Mem} {c : Cell} {v : Bytes} {q : List Nat} (hv : ValOf m c v q) : ∀ p ∈ q, 1 ≤ p ∧ p ≤ m.pages.length := by
  unfold ValOf at hv
  split at hv
  · rw [hv.2]; intro p hp; cases hp
  · exact hv.2.2.in_
/-! ### Pages that are new -/
/-- These pages were laid between. -/
structure New (m m' : Mem) (q : List Nat) : Prop where
  nd : q.Nodup
  lo : ∀ p ∈ q, m.pages.length < p ∧ p ≤ m'.pages.length
/-- What laying a long value comes to. -/
theorem longL_ok {room : Int} {value : Bytes} (hr : 472 ≤ room) : ∀ (k fu : Nat) (m : Mem) (first : Nat) (qs : List Nat), m.size = room + 8 → m.most ≤ 1073741824 → (∀ q ∈ qs, q ≤ m.pages.length) → qs.Nodup → Chain m qs first (value.drop (k * room.toNat)) → first ≤ 1073741824 → k < fu → (0 < k → (k - 1) * room.toNat < value.length) →
    Gr m (longL room value fu m first ((k : Int) * room - room)).1 ∧
    ((longL room value fu m first ((k : Int) * room - room)).2.2 = 0 → (longL room value fu m first ((k : Int) * room - room)).1.pages.length = m.pages.length + k ∧
      ∃ new, Chain (longL room value fu m first ((k : Int) * room - room)).1 (new ++ qs) (longL room value fu m first ((k : Int) * room - room)).2.1 value ∧ new.length = k ∧ New m (longL room value fu m first ((k : Int) * room - room)).1 new) ∧
    ((longL room value fu m first ((k : Int) * room - room)).2.2 ≠ 0 → (longL room value fu m first ((k : Int) * room - room)).2.2 = 5 ∧ m.most < m.pages.length + k)
  | 0, 0, m, first, qs, hsz, hmo, hq, hnd, hc, hf, hk, hv => by omega
  | 0, fu + 1, m, first, qs, hsz, hmo, hq, hnd, hc, hf, hk, hv => by
    unfold longL
    rw [if_pos (by omega)]
    refine ⟨.refl m, fun _ => ⟨rfl, [], ?_, rfl, List.nodup_nil, fun p hp => by cases hp⟩, fun h => absurd rfl h⟩
    simpa using hc
  | k + 1, 0, m, first, qs, hsz, hmo, hq, hnd, hc, hf, hk, hv => by omega
  | k + 1, fu + 1, m, first, qs, hsz, hmo, hq, hnd, hc, hf, hk, hv => by
    obtain ⟨r, rfl⟩ : ∃ r : Nat, room = (r : Int) := ⟨room.toNat, by omega⟩
    have hv' := hv (by omega)
    simp only [Int.toNat_natCast, Nat.add_sub_cancel] at hv' hc
    have ea : ((k + 1 : Nat) : Int) * (r : Int) - (r : Int) = ((k * r : Nat) : Int) := by push_cast; rw [Int.add_mul]; omega
    unfold longL
    rw [ea, if_neg (by omega)]
    dsimp only
    rw [Int.toNat_natCast, Int.toNat_natCast]
    have hch : ((value.drop (k * r)).take r).length ≤ r := by rw [List.length_take]; omega
    have hne : (value.drop (k * r)).take r ≠ [] := by
      intro e
      have := congrArg List.length e
      simp only [List.length_take, List.length_drop, List.length_nil] at this
      omega
    have hd5 := dg_five hf
    have hfl : [first].flatMap dg = dg first := by simp
    rw [hfl]
    generalize hp : (3 :: (dg first ++ (value.drop (k * r)).take r) : Bytes) = p
    have hpl : (p.length : Int) ≤ m.size := by rw [← hp]; simp only [List.length_cons, List.length_append]; omega
    by_cases he : (layM m p).2.2 = 0
    · rw [if_neg (by omega)]
      obtain ⟨n1, n2, n3, n4, n5⟩ := layM_new he
      have hc2 : Chain (layM m p).1 ((m.pages.length + 1) :: qs) (layM m p).2.1 (value.drop (k * r)) := by
        refine ⟨n2, by omega, first, (value.drop (k * r)).take r, value.drop ((k + 1) * r), ?_, hne, hf, ?_, hc.gr n1⟩
        · rw [n2, n3, hp]
        · rw [show (k + 1) * r = k * r + r by rw [Nat.add_mul]; omega, ← List.drop_drop, List.take_append_drop]
      have ih := longL_ok (room := (r : Int)) (value := value) hr k fu (layM m p).1 (layM m p).2.1 ((m.pages.length + 1) :: qs) (by rw [n1.size]; exact hsz) (by rw [n1.most]; exact hmo) (fun q hq' => by
        rcases List.mem_cons.1 hq' with rfl | hq'
        · omega
        · have := hq q hq'; omega) (List.nodup_cons.2 ⟨fun h => by have := hq _ h; omega, hnd⟩) (by rw [Int.toNat_natCast]; exact hc2) (by omega) (by omega) (fun h => by
        rw [Int.toNat_natCast]
        obtain ⟨j, rfl⟩ : ∃ j, k = j + 1 := ⟨k - 1, by omega⟩
        rw [Nat.add_sub_cancel]
        have : (j + 1) * r = j * r + r := by rw [Nat.add_mul]; omega
        omega)
      rw [show ((k : Nat) : Int) * (r : Int) - (r : Int) = ((k * r : Nat) : Int) - (r : Int) by push_cast; rfl] at ih
      obtain ⟨i1, i2, i3⟩ := ih
      refine ⟨n1.trans i1, fun h => ?_, fun h => ?_⟩
      · obtain ⟨j1, new, j2, j3, j4⟩ := i2 h
        have := i1.len
        refine ⟨by omega, new ++ [m.pages.length + 1], by rw [List.append_assoc]; exact j2, by simp; omega, ?_, fun p hp => ?_⟩
        · refine List.nodup_append.2 ⟨j4.nd, by simp, fun a ha b hb => ?_⟩
          have := j4.lo a ha
          simp at hb; omega
        · rcases List.mem_append.1 hp with hp | hp
          · have := j4.lo p hp; omega
          · simp at hp; omega
      · obtain ⟨j1, j2⟩ := i3 h
        rw [n1.most] at j2
        exact ⟨j1, by omega⟩
    · rw [if_pos he]
      obtain ⟨e1, e2, e3⟩ := layM_err he hpl
      rw [e1]
      exact ⟨.refl m, fun h => absurd h he, fun _ => ⟨e2, by omega⟩⟩
end Go.KX

/- Plain: what stands for which list; a key is found; a scan tells what there is. No program in sight. -/
namespace Go.KX
/-! ### Cells one behind the other -/
def Cat (R : Cell → List KV → List Nat → Prop) : List Cell → List KV → List Nat → Prop
  | [], L, q => L = [] ∧ q = []
  | c :: r, L, q => ∃ L1 L2 q1 q2, L = L1 ++ L2 ∧ q = q1 ++ q2 ∧ R c L1 q1 ∧ Cat R r L2 q2
theorem Cat.mono {R R' : Cell → List KV → List Nat → Prop} (h : ∀ c L q, R c L q → R' c L q) : ∀ {l : List Cell} {L : List KV} {q : List Nat}, Cat R l L q → Cat R' l L q
  | [], _, _, hc => hc
  | c :: r, L, q, hc => by
    obtain ⟨L1, L2, q1, q2, h1, h2, h3, h4⟩ := hc
    exact ⟨L1, L2, q1, q2, h1, h2, h _ _ _ h3, h4.mono h⟩
theorem Cat.app {R : Cell → List KV → List Nat → Prop} : ∀ {a b : List Cell} {L1 L2 : List KV} {q1 q2 : List Nat}, Cat R a L1 q1 → Cat R b L2 q2 → Cat R (a ++ b) (L1 ++ L2) (q1 ++ q2)
  | [], b, _, _, _, _, ⟨rfl, rfl⟩, hb => hb
  | c :: a, b, _, L2, _, q2, ⟨L3, L4, q3, q4, rfl, rfl, h3, h4⟩, hb => ⟨L3, L4 ++ L2, q3, q4 ++ q2, by simp, by simp, h3, h4.app hb⟩
theorem Cat.cut {R : Cell → List KV → List Nat → Prop} : ∀ {a b : List Cell} {L : List KV} {q : List Nat}, Cat R (a ++ b) L q → ∃ L1 L2 q1 q2, L = L1 ++ L2 ∧ q = q1 ++ q2 ∧ Cat R a L1 q1 ∧ Cat R b L2 q2
  | [], b, L, q, h => ⟨[], L, [], q, rfl, rfl, ⟨rfl, rfl⟩, h⟩
  | c :: a, b, L, q, h => by
    obtain ⟨L1, L2, q1, q2, rfl, rfl, h3, h4⟩ := h
    obtain ⟨L3, L4, q3, q4, rfl, rfl, h5, h6⟩ := h4.cut
    exact ⟨L1 ++ L3, L4, q1 ++ q3, q4, by simp, by simp, ⟨L1, L3, q1, q3, rfl, rfl, h3, h5⟩, h6⟩
theorem Cat.one {R : Cell → List KV → List Nat → Prop} {c : Cell} {L : List KV} {q : List Nat} (h : R c L q) : Cat R [c] L q := ⟨L, [], q, [], by simp, by simp, h, rfl, rfl⟩
theorem Cat.all {R : Cell → List KV → List Nat → Prop} : ∀ {l : List Cell} {L : List KV} {q : List Nat}, Cat R l L q → ∀ c ∈ l, ∃ L1 q1, R c L1 q1
  | [], _, _, _, c, h => by cases h
  | d :: r, _, _, ⟨L1, _, q1, _, _, _, h3, h4⟩, c, h => by
    rcases List.mem_cons.1 h with rfl | h
    · exact ⟨L1, q1, h3⟩
    · exact h4.all c h
/-! ### What stands for which list -/
def keyK : List KV → Bytes
  | [] => []
  | p :: _ => p.key
/-- A page with a node, of these cells. -/
def RepOf (R : Cell → List KV → List Nat → Prop) (m : Mem) (leaf : Bool) (n : Nat) (L : List KV) (q : List Nat) : Prop :=
  ∃ cs qs, loadN m (n : Int) leaf = (0, cs) ∧ q = n :: qs ∧ Cat R cs L qs ∧ (sumC cs leaf : Int) ≤ m.size - 8 ∧ (leaf = false → 2 ≤ cs.length)
/-- A cell of a node, of which so many nodes hang below. -/
def Item (m : Mem) : Nat → Cell → List KV → List Nat → Prop
  | 0 => fun c L q => FitL (m.size - 8) c ∧ ∃ v, L = [⟨c.key, v⟩] ∧ v.length ≤ 16384 ∧ ValOf m c v q
  | d + 1 => fun c L q => FitB c ∧ L ≠ [] ∧ c.key = keyK L ∧ RepOf (Item m d) m (decide (d = 0)) c.page L q
abbrev Rep (m : Mem) (d n : Nat) (L : List KV) (q : List Nat) : Prop := RepOf (Item m d) m (decide (d = 0)) n L q
theorem RepOf.gr {R R' : Cell → List KV → List Nat → Prop} {m m' : Mem} (h : Gr m m') (hR : ∀ c L q, R c L q → R' c L q) {leaf : Bool} {n : Nat} {L : List KV} {q : List Nat} (hr : RepOf R m leaf n L q) : RepOf R' m' leaf n L q := by
  obtain ⟨cs, qs, h1, h2, h3, h4, h5⟩ := hr
  exact ⟨cs, qs, h.loadN h1, h2, h3.mono hR, by rw [h.size]; exact h4, h5⟩
theorem Item.gr {m m' : Mem} (h : Gr m m') : ∀ {d : Nat} (c : Cell) (L : List KV) (q : List Nat), Item m d c L q → Item m' d c L q
  | 0, c, L, q, hi => by
    obtain ⟨h1, v, h2, h3, h4⟩ := hi
    exact ⟨by rw [h.size]; exact h1, v, h2, h3, h4.gr h⟩
  | d + 1, c, L, q, hi => by
    obtain ⟨h1, h2, h3, h4⟩ := hi
    exact ⟨h1, h2, h3, h4.gr h (fun c L q => Item.gr h c L q)⟩
theorem Rep.gr {m m' : Mem} (h : Gr m m') {d n : Nat} {L : List KV} {q : List Nat} (hr : Rep m d n L q) : Rep m' d n L q := RepOf.gr h (fun c L q => Item.gr h c L q) hr
theorem Item.ne {m : Mem} : ∀ {d : Nat} {c : Cell} {L : List KV} {q : List Nat}, Item m d c L q → L ≠ []
  | 0, c, L, q, ⟨_, v, h, _⟩ => by rw [h]; simp
  | d + 1, c, L, q, ⟨_, h, _⟩ => h
theorem Item.key {m : Mem} : ∀ {d : Nat} {c : Cell} {L : List KV} {q : List Nat}, Item m d c L q → c.key = keyK L
  | 0, c, L, q, ⟨_, v, h, _⟩ => by rw [h]; rfl
  | d + 1, c, L, q, ⟨_, _, h, _⟩ => h
theorem Item.fit {m : Mem} : ∀ {d : Nat} {c : Cell} {L : List KV} {q : List Nat}, Item m d c L q → Fit (m.size - 8) (decide (d = 0)) c
  | 0, c, L, q, ⟨h, _⟩ => h
  | d + 1, c, L, q, ⟨h, _⟩ => by simpa [Fit] using h
theorem Cat.fit {m : Mem} {d : Nat} {l : List Cell} {L : List KV} {q : List Nat} (h : Cat (Item m d) l L q) : ∀ c ∈ l, Fit (m.size - 8) (decide (d = 0)) c := fun c hc => by
  obtain ⟨L1, q1, h1⟩ := h.all c hc
  exact h1.fit
theorem Cat.in_ {R : Cell → List KV → List Nat → Prop} {n : Nat} (hR : ∀ c L q, R c L q → ∀ p ∈ q, 1 ≤ p ∧ p ≤ n) : ∀ {l : List Cell} {L : List KV} {q : List Nat}, Cat R l L q → ∀ p ∈ q, 1 ≤ p ∧ p ≤ n
  | [], _, _, ⟨_, rfl⟩, p, hp => by cases hp
  | c :: r, _, _, ⟨L1, L2, q1, q2, _, rfl, h3, h4⟩, p, hp => by
    rcases List.mem_append.1 hp with hp | hp
    · exact hR _ _ _ h3 p hp
    · exact h4.in_ hR p hp
theorem RepOf.in_ {R : Cell → List KV → List Nat → Prop} {m : Mem} (hR : ∀ c L q, R c L q → ∀ p ∈ q, 1 ≤ p ∧ p ≤ m.pages.length) {leaf : Bool} {n : Nat} {L : List KV} {q : List Nat} (hr : RepOf R m leaf n L q) : ∀ p ∈ q, 1 ≤ p ∧ p ≤ m.pages.length := by
  obtain ⟨cs, qs, h1, rfl, h3, h4, h5⟩ := hr
  intro p hp
  rcases List.mem_cons.1 hp with rfl | hp
  · have := loadN_in (m := m) (n := (p : Int)) (leaf := leaf) (by rw [h1]); omega
  · exact h3.in_ hR p hp
theorem Item.in_ {m : Mem} : ∀ {d : Nat} (c : Cell) (L : List KV) (q : List Nat), Item m d c L q → ∀ p ∈ q, 1 ≤ p ∧ p ≤ m.pages.length
  | 0, _, _, _, ⟨_, _, _, _, h⟩ => h.in_
  | _ + 1, _, _, _, ⟨_, _, _, h⟩ => RepOf.in_ (fun c L q h => Item.in_ c L q h) h
theorem Rep.in_ {m : Mem} {d n : Nat} {L : List KV} {q : List Nat} (hr : Rep m d n L q) : ∀ p ∈ q, 1 ≤ p ∧ p ≤ m.pages.length := RepOf.in_ (fun c L q h => Item.in_ c L q h) hr
/-! ### Keys rise -/
def Up (l : List Cell) : Prop := l.Pairwise fun a b => blt a.key b.key = true
theorem Up.asc : ∀ {l : List Cell}, Up l → Asc l
  | [], _ => trivial
  | [_], _ => trivial
  | _ :: b :: _, h => ⟨(List.pairwise_cons.1 h).1 b (.head _), Up.asc (List.pairwise_cons.1 h).2⟩
theorem keyK_le {L : List KV} (h : Srt L) {p : KV} (hp : p ∈ L) : keyK L = p.key ∨ blt (keyK L) p.key = true := by
  cases L with
  | nil => cases hp
  | cons a L =>
    rcases List.mem_cons.1 hp with rfl | hp
    · exact .inl rfl
    · exact .inr ((List.pairwise_cons.1 h).1 p hp)
theorem keyK_mem {L : List KV} (h : L ≠ []) : ∃ p ∈ L, p.key = keyK L := by
  cases L with
  | nil => exact absurd rfl h
  | cons a L => exact ⟨a, .head _, rfl⟩
theorem Cat.mem_key {m : Mem} {d : Nat} : ∀ {l : List Cell} {L : List KV} {q : List Nat}, Cat (Item m d) l L q → ∀ c ∈ l, ∃ p ∈ L, p.key = c.key
  | [], _, _, _, c, h => by cases h
  | e :: r, _, _, ⟨L1, L2, q1, q2, rfl, _, h3, h4⟩, c, h => by
    rcases List.mem_cons.1 h with rfl | h
    · obtain ⟨p, hp, e⟩ := keyK_mem h3.ne
      exact ⟨p, List.mem_append.2 (.inl hp), e.trans h3.key.symm⟩
    · obtain ⟨p, hp, e⟩ := h4.mem_key c h
      exact ⟨p, List.mem_append.2 (.inr hp), e⟩
theorem Cat.up {m : Mem} {d : Nat} : ∀ {l : List Cell} {L : List KV} {q : List Nat}, Cat (Item m d) l L q → Srt L → Up l
  | [], _, _, _, _ => List.Pairwise.nil
  | e :: r, _, _, ⟨L1, L2, q1, q2, rfl, _, h3, h4⟩, hs => by
    refine List.pairwise_cons.2 ⟨fun c hc => ?_, h4.up hs.right⟩
    obtain ⟨p, hp, e1⟩ := h4.mem_key c hc
    obtain ⟨p0, hp0, e0⟩ := keyK_mem h3.ne
    rw [h3.key, ← e0, ← e1]
    exact hs.cross hp0 hp
theorem searchN_eq {n r : Nat} {f : Nat → Bool} (hr : r ≤ n) (h1 : ∀ x, x < r → f x = false) (h2 : ∀ x, r ≤ x → x < n → f x = true) : searchN n f = r := by
  have key : ∀ (k i j : Nat), i ≤ r → r ≤ j → j ≤ n → j - i ≤ k → bs k f i j = r := by
    intro k
    induction k with
    | zero => intro i j _ _ _ _; show i = r; omega
    | succ k ih =>
      intro i j a b c e
      unfold bs
      by_cases hij : i < j
      · rw [if_pos hij]
        by_cases hf : f ((i + j) / 2) = true
        · rw [if_pos hf]
          have : r ≤ (i + j) / 2 := Nat.le_of_not_lt fun h => by rw [h1 _ h] at hf; cases hf
          exact ih _ _ a this (by omega) (by omega)
        · rw [if_neg hf]
          have : (i + j) / 2 < r := Nat.lt_of_not_le fun h => hf (h2 _ h (by omega))
          exact ih _ _ (by omega) b c (by omega)
      · rw [if_neg hij]; omega
  exact key n 0 n (Nat.zero_le _) hr (Nat.le_refl _) (by omega)
/-- Cells, cut at a key: those that are not greater, those that are. -/
theorem cutC (key : Bytes) : ∀ {l : List Cell}, Up l → ∃ a b, l = a ++ b ∧ (∀ c ∈ a, c.key = key ∨ blt c.key key = true) ∧ (∀ c ∈ b, blt key c.key = true)
  | [], _ => ⟨[], [], rfl, fun c h => (by cases h), fun c h => (by cases h)⟩
  | e :: r, h => by
    have hp := List.pairwise_cons.1 h
    rcases blt_total e.key key with hq | hq | hq
    · obtain ⟨a, b, rfl, h1, h2⟩ := cutC key hp.2
      refine ⟨e :: a, b, rfl, fun c hc => ?_, h2⟩
      rcases List.mem_cons.1 hc with rfl | hc
      · exact .inr hq
      · exact h1 c hc
    · obtain ⟨a, b, rfl, h1, h2⟩ := cutC key hp.2
      refine ⟨e :: a, b, rfl, fun c hc => ?_, h2⟩
      rcases List.mem_cons.1 hc with rfl | hc
      · exact .inl hq
      · exact h1 c hc
    · refine ⟨[], e :: r, rfl, fun c h => (by cases h), fun c hc => ?_⟩
      rcases List.mem_cons.1 hc with rfl | hc
      · exact hq
      · exact blt_trans hq (hp.1 c hc)
theorem childI_cut {a b : List Cell} {key : Bytes} (h1 : ∀ c ∈ a, c.key = key ∨ blt c.key key = true) (h2 : ∀ c ∈ b, blt key c.key = true) : childI (a ++ b) key = a.length - 1 := by
  unfold childI
  rw [searchN_eq (r := a.length) (by simp) (fun x hx => ?_) (fun x hx hl => ?_)]
  · unfold gtAt
    rw [List.getElem?_append_left hx, List.getElem?_eq_getElem hx]
    dsimp only
    rcases h1 _ (List.getElem_mem hx) with h | h <;> simp [h]
  · unfold gtAt
    simp only [List.length_append] at hl
    rw [List.getElem?_append_right hx, List.getElem?_eq_getElem (by omega)]
    dsimp only
    have := h2 _ (List.getElem_mem (l := b) (n := x - a.length) (by omega))
    simp [blt_asymm this, (blt_ne this).symm]
/-- The child under which a key lies, and what lies ahead of it and behind it. -/
theorem childI_ok {m : Mem} {d : Nat} {l : List Cell} {L : List KV} {q : List Nat} (h : Cat (Item m d) l L q) (hs : Srt L) (h0 : l ≠ []) (key : Bytes) :
    ∃ a c b A M B qa qm qb, l = a ++ c :: b ∧ L = A ++ (M ++ B) ∧ q = qa ++ (qm ++ qb) ∧ childI l key = a.length ∧ Cat (Item m d) a A qa ∧ Item m d c M qm ∧ Cat (Item m d) b B qb ∧ Below A key ∧ Above B key := by
  obtain ⟨x, y, hxy, h1, h2⟩ := cutC key (h.up hs)
  have hci : childI l key = x.length - 1 := by rw [hxy]; exact childI_cut h1 h2
  have hab : ∀ {b : List Cell} {B : List KV} {qb : List Nat}, Cat (Item m d) b B qb → Srt B → (∀ c ∈ b, blt key c.key = true) → Above B key := by
    intro b B qb hb hsb hk p hp
    cases b with
    | nil => rw [hb.1] at hp; cases hp
    | cons c b =>
      obtain ⟨L1, L2, q1, q2, rfl, _, h3, h4⟩ := hb
      have e := hk c (.head _)
      have : keyK (L1 ++ L2) = c.key := by
        rw [h3.key]
        cases L1 with
        | nil => exact absurd rfl h3.ne
        | cons _ _ => rfl
      rcases keyK_le hsb hp with h | h
      · rw [← h, this]; exact e
      · rw [this] at h; exact blt_trans e h
  rcases List.eq_nil_or_concat x with rfl | ⟨a, c, rfl⟩
  · cases y with
    | nil => exact absurd hxy h0
    | cons c b =>
      subst hxy
      obtain ⟨M, B, qm, qb, rfl, rfl, h3, h4⟩ := h
      exact ⟨[], c, b, [], M, B, [], qm, qb, rfl, rfl, rfl, hci, ⟨rfl, rfl⟩, h3, h4, .nil _, hab h4 hs.right (fun e he => h2 e (.tail _ he))⟩
  · have hl : l = a ++ c :: y := by rw [hxy]; simp
    subst hl
    obtain ⟨A, R, qa, qr, rfl, rfl, h3, h4⟩ := h.cut
    obtain ⟨M, B, qm, qb, rfl, rfl, h5, h6⟩ := h4
    refine ⟨a, c, y, A, M, B, qa, qm, qb, rfl, rfl, rfl, by rw [hci]; simp, h3, h5, h6, fun p hp => ?_, hab h6 hs.right.right h2⟩
    obtain ⟨p0, hp0, e0⟩ := keyK_mem h5.ne
    have hlt := hs.cross hp (List.mem_append.2 (.inl hp0))
    rw [e0, ← h5.key] at hlt
    rcases h1 c (by simp) with e | e
    · rw [← e]; exact hlt
    · exact blt_trans hlt e
theorem pageAt_mid (a : List Cell) (c : Cell) (b : List Cell) : pageAt (a ++ c :: b) a.length = c.page := pageAt_of (by simp)
/-! ### A key is found -/
theorem loadN_ne {m : Mem} {n : Int} {leaf : Bool} {cs : List Cell} (h : loadN m n leaf = (0, cs)) : cs ≠ [] := by
  have := loadN_pos (m := m) (n := n) (leaf := leaf) (by rw [h])
  rw [h] at this
  intro e; subst e; cases this
theorem descN_ok {m : Mem} (key : Bytes) : ∀ {d n : Nat} {L : List KV} {q : List Nat}, Rep m d n L q → Srt L → ∃ n' : Nat, ∃ L' q', descN key m d n = (0, (n' : Int)) ∧ Rep m 0 n' L' q' ∧ Srt L' ∧ getK L key = getK L' key
  | 0, n, L, q, hr, hs => ⟨n, L, q, rfl, hr, hs, rfl⟩
  | d + 1, n, L, q, hr, hs => by
    obtain ⟨cs, qs, h1, h2, h3, h4, h5⟩ := hr
    have hf : decide (d + 1 = 0) = false := by simp
    rw [hf] at h1
    obtain ⟨a, c, b, A, M, B, qa, qm, qb, rfl, rfl, rfl, hi, ha, hc, hb, hA, hB⟩ := childI_ok h3 hs (loadN_ne h1) key
    obtain ⟨n', L', q', e1, e2, e3, e4⟩ := descN_ok key hc.2.2.2 hs.right.left
    refine ⟨n', L', q', ?_, e2, e3, ?_⟩
    · unfold descN
      rw [h1, if_neg (by simp), hi]
      dsimp only
      rw [pageAt_mid]; exact e1
    · rw [getK_below hA, getK_above hB]; exact e4
/-- The tree that stands for a list, and its pages. -/
inductive Stands (m : Mem) (t : Tree) (L : List KV) (q : List Nat) : Prop
  | none (ht : t = tree0) (hL : L = []) (hq : q = []) : Stands m t L q
  | some (d n : Nat) (hr : t.root = (n : Int)) (hd : t.deep = (d + 1 : Nat)) (hk : t.keys = (L.length : Int)) (hn : 0 < n) (h0 : 0 < L.length) (hd64 : d + 1 ≤ 64) (h : Rep m d n L q) : Stands m t L q
theorem rightT_some {t : Tree} {d n k : Nat} (hr : t.root = (n : Int)) (hd : t.deep = (d + 1 : Nat)) (hk : t.keys = (k : Int)) (hn : 0 < n) (h0 : 0 < k) (hd64 : d + 1 ≤ 64) : rightT t = true := by
  unfold rightT
  exact decide_eq_true (.inr ⟨by omega, by omega, by omega, by omega⟩)
theorem getN_ok {m : Mem} {t : Tree} {L : List KV} {q : List Nat} (h : Stands m t L q) (hs : Srt L) (hm : 480 ≤ m.size) {key : Bytes} (h1 : key ≠ []) (h2 : key.length ≤ 64) : getN m t key = ((getK L key).1, (getK L key).2, 0) := by
  unfold getN
  rw [if_neg (by omega), if_neg (fun hn => hn ⟨h1, h2⟩)]
  cases h with
  | none ht hL hq =>
    subst ht; subst hL
    rw [if_neg (by decide), if_pos (show tree0.root = 0 from rfl)]
    rfl
  | some d n hr hd hk hn h0 hd64 h =>
    rw [if_neg (by rw [rightT_some hr hd hk hn h0 hd64]; decide), if_neg (by omega)]
    have e : (t.deep - 1).toNat = d := by omega
    rw [e, hr]
    obtain ⟨n', L', q', e1, e2, e3, e4⟩ := descN_ok key h hs
    obtain ⟨cs, qs, g1, g2, g3, g4, g5⟩ := e2
    rw [decide_eq_true rfl] at g1
    dsimp only
    rw [e1]
    dsimp only
    rw [if_neg (by omega), g1]
    dsimp only
    rw [if_neg (by omega), e4]
    obtain ⟨a, c, b, A, M, B, qa, qm, qb, rfl, rfl, rfl, hi, ha, hc, hb, hA, hB⟩ := childI_ok g3 e3 (loadN_ne g1) key
    rw [hi, getK_below hA, getK_above hB]
    obtain ⟨hf, v, rfl, hvl, hv⟩ := hc
    simp only [List.getElem?_append_right (Nat.le_refl _), Nat.sub_self, List.getElem?_cons_zero]
    by_cases hk : c.key = key
    · subst hk
      rw [if_neg (by simp), tellN_val hv (metOK_get _ _)]
      simp [getK, findK, blt_irrefl]
    · rw [if_pos hk]
      unfold getK findK
      by_cases hb : blt c.key key = true
      · simp [hb, findK]
      · simp [hb, hk]
end Go.KX

/- Plain: going over a tree tells what there is, and its pages. No program in sight. -/
namespace Go.KX
section
variable {τ : Type}
/-- What is asked of who is handed the cells. -/
def EaSpec (m : Mem) (F : EaF τ) (nxt : τ → KV → τ) (Good : τ → KV → Prop) : Prop :=
  ∀ g t c v q, ValOf m c v q → q.Nodup → Fresh g q → Good t ⟨c.key, v⟩ → F g t c = ⟨noted g q, nxt t ⟨c.key, v⟩, 0⟩
def AllGood (nxt : τ → KV → τ) (Good : τ → KV → Prop) : τ → List KV → Prop
  | _, [] => True
  | t, p :: r => Good t p ∧ AllGood nxt Good (nxt t p) r
theorem AllGood.app {nxt : τ → KV → τ} {Good : τ → KV → Prop} : ∀ {A B : List KV} {t : τ}, AllGood nxt Good t (A ++ B) → AllGood nxt Good t A ∧ AllGood nxt Good (A.foldl nxt t) B
  | [], _, _, h => ⟨trivial, h⟩
  | p :: A, B, t, h => by
    obtain ⟨h1, h2⟩ := h
    obtain ⟨h3, h4⟩ := AllGood.app (A := A) h2
    exact ⟨⟨h1, h3⟩, h4⟩
theorem scanK_app (A B : List KV) (f t : Bytes) : scanK (A ++ B) f t = scanK A f t ++ scanK B f t := List.filter_append _ _
theorem scanK_all (L : List KV) : scanK L [] [] = L := by
  unfold scanK
  rw [List.filter_eq_self]
  intro p _
  unfold inK
  cases hk : p.key <;> simp [blt, Op.bytesLess]
theorem scanK_none {L : List KV} {f t : Bytes} (h : ∀ p ∈ L, inK f t p = false) : scanK L f t = [] := by
  unfold scanK
  rw [List.filter_eq_nil_iff]
  intro p hp
  rw [h p hp]; decide
theorem outTo_in {to_ f : Bytes} {c : Cell} (h : outTo to_ c = true) {p : KV} (hp : c.key = p.key ∨ blt c.key p.key = true) : inK f to_ p = false := by
  unfold outTo at h
  simp only [Bool.and_eq_true, decide_eq_true_eq, Bool.not_eq_true'] at h
  have hb : blt p.key to_ = false := by
    cases hq : blt p.key to_ with
    | false => rfl
    | true =>
      have := h.2
      rcases hp with e | e
      · rw [e, hq] at this; cases this
      · rw [blt_trans e hq] at this; cases this
  unfold inK
  simp [hb, h.1]
theorem keyK_app {A B : List KV} (h : A ≠ []) : keyK (A ++ B) = keyK A := by
  cases A with
  | nil => exact absurd rfl h
  | cons _ _ => rfl
theorem notIn_from {f t : Bytes} {p : KV} (h : blt p.key f = true) : inK f t p = false := by unfold inK; rw [h]; rfl
/-- What going over cells comes to. -/
def Went (nxt : τ → KV → τ) (from_ to_ : Bytes) (g : Gone) (t : τ) (L : List KV) (q : List Nat) (r : Ea τ) : Prop :=
  ∃ q', r = ⟨noted g q', (scanK L from_ to_).foldl nxt t, 0⟩ ∧ q'.Sublist q ∧ (from_ = [] → to_ = [] → q' = q)
theorem noted_nil (g : Gone) : noted g [] = g := by simp [noted]
theorem Went.nothing {nxt : τ → KV → τ} {from_ to_ : Bytes} {g : Gone} {t : τ} {L : List KV} {q : List Nat} (h : ∀ p ∈ L, inK from_ to_ p = false) (hne : L ≠ [] ∨ q = []) : Went nxt from_ to_ g t L q ⟨g, t, 0⟩ := by
  refine ⟨[], by rw [noted_nil, scanK_none h]; rfl, List.nil_sublist _, fun a b => ?_⟩
  rcases hne with h1 | h1
  · subst a; subst b
    obtain ⟨p, hp, _⟩ := keyK_mem h1
    have := h p hp
    unfold inK at this
    cases hk : p.key <;> simp [hk, blt, Op.bytesLess] at this
  · rw [h1]
theorem Fresh.sub {g : Gone} {q' q r : List Nat} (hs : q'.Sublist q) (hn : (q ++ r).Nodup) (hf : Fresh g (q ++ r)) : Fresh (noted g q') r := fun p hp =>
  mget_noted (hf p (List.mem_append.2 (.inr hp))) (fun x hx e => (List.nodup_append.1 hn).2.2 x (hs.subset hx) p hp (by omega))
theorem Went.then {nxt : τ → KV → τ} {from_ to_ : Bytes} {g : Gone} {t : τ} {L1 L2 : List KV} {q1 q2 q' : List Nat} {r : Ea τ} (hs : q'.Sublist q1) (ha : from_ = [] → to_ = [] → q' = q1)
    (h : Went nxt from_ to_ (noted g q') ((scanK L1 from_ to_).foldl nxt t) L2 q2 r) : Went nxt from_ to_ g t (L1 ++ L2) (q1 ++ q2) r := by
  obtain ⟨q'', rfl, h2, h3⟩ := h
  refine ⟨q' ++ q'', by rw [noted_app, scanK_app, List.foldl_append], hs.append h2, fun a b => ?_⟩
  rw [ha a b, h3 a b]
theorem eachL_leafW {m : Mem} {F : EaF τ} {nxt : τ → KV → τ} {Good : τ → KV → Prop} (hF : EaSpec m F nxt Good) {rec_ : Gone → τ → Int → Ea τ} {from_ to_ : Bytes} : ∀ (l : List Cell) (i : Nat) (g : Gone) (t : τ) (L : List KV) (q : List Nat),
    Cat (Item m 0) l L q → Srt L → q.Nodup → Fresh g q → AllGood nxt Good t (scanK L from_ to_) → Went nxt from_ to_ g t L q (eachL F rec_ true from_ to_ i l g t)
  | [], i, g, t, _, _, ⟨rfl, rfl⟩, _, _, _, _ => by
    unfold eachL
    exact .nothing (fun p hp => by cases hp) (.inr rfl)
  | c :: r, i, g, t, _, _, ⟨L1, L2, q1, q2, rfl, rfl, h3, h4⟩, hs, hn, hf, hg => by
    obtain ⟨hfit, v, rfl, hvl, hv⟩ := h3
    have hle : ∀ p ∈ ([⟨c.key, v⟩] ++ L2 : List KV), c.key = p.key ∨ blt c.key p.key = true := fun p hp => keyK_le hs hp
    have hskip : ∀ i', inK from_ to_ ⟨c.key, v⟩ = false → Went nxt from_ to_ g t ([⟨c.key, v⟩] ++ L2) (q1 ++ q2) (eachL F rec_ true from_ to_ i' r g t) := fun i' hin => by
      have e0 : scanK [⟨c.key, v⟩] from_ to_ = [] := scanK_none (fun p hp => by rcases List.mem_singleton.1 hp with rfl; exact hin)
      have ih := eachL_leafW hF (rec_ := rec_) (from_ := from_) (to_ := to_) r i' g t L2 q2 h4 hs.right (List.nodup_append.1 hn).2.1 (fun p hp => hf p (List.mem_append.2 (.inr hp))) (by rw [scanK_app, e0] at hg; exact hg)
      refine Went.then (q' := []) (List.nil_sublist _) (fun a b => ?_) (by rw [noted_nil, e0]; exact ih)
      subst a; subst b
      unfold inK at hin
      cases hk : c.key <;> simp [hk, blt, Op.bytesLess] at hin
    unfold eachL
    by_cases c1 : outTo to_ c = true ∧ 0 < i
    · rw [if_pos c1]
      exact .nothing (fun p hp => outTo_in c1.1 (hle p hp)) (.inl (by simp))
    · rw [if_neg c1, if_pos rfl]
      by_cases c2 : blt c.key from_ = true ∨ outTo to_ c = true
      · rw [if_pos c2]
        refine hskip _ ?_
        rcases c2 with c2 | c2
        · exact notIn_from c2
        · exact outTo_in c2 (.inl rfl)
      · rw [if_neg c2]
        have hin : inK from_ to_ ⟨c.key, v⟩ = true := by
          simp only [not_or] at c2
          unfold inK
          unfold outTo at c2
          have h2 := c2.2
          have h1 : blt c.key from_ = false := by simpa using c2.1
          simp only [Bool.and_eq_true, decide_eq_true_eq, Bool.not_eq_true', not_and, Bool.not_eq_false] at h2
          simp only [h1, Bool.not_false, Bool.true_and, Bool.or_eq_true, decide_eq_true_eq]
          by_cases ht : to_ = []
          · exact .inl ht
          · exact .inr (h2 ht)
        have e1 : scanK [⟨c.key, v⟩] from_ to_ = [⟨c.key, v⟩] := by unfold scanK; simp [hin]
        rw [scanK_app, e1] at hg
        have hn1 := List.nodup_append.1 hn
        rw [hF g t c v q1 hv hn1.1 hf.left hg.1]
        dsimp only
        rw [if_neg (by simp)]
        exact Went.then (q' := q1) (List.Sublist.refl _) (fun _ _ => rfl) (by
          rw [e1]
          exact eachL_leafW hF r (i + 1) _ _ L2 q2 h4 hs.right hn1.2.1 (hf.rest hn) hg.2)
theorem eachL_branchW {m : Mem} {d : Nat} {F : EaF τ} {nxt : τ → KV → τ} {Good : τ → KV → Prop} {rec_ : Gone → τ → Int → Ea τ} {from_ to_ : Bytes}
    (hrec : ∀ (n : Nat) L q g t, Rep m d n L q → Srt L → q.Nodup → Fresh g q → AllGood nxt Good t (scanK L from_ to_) → Went nxt from_ to_ g t L q (rec_ g t n)) : ∀ (l : List Cell) (i : Nat) (g : Gone) (t : τ) (L : List KV) (q : List Nat),
    Cat (Item m (d + 1)) l L q → Srt L → q.Nodup → Fresh g q → AllGood nxt Good t (scanK L from_ to_) → Went nxt from_ to_ g t L q (eachL F rec_ false from_ to_ i l g t)
  | [], i, g, t, _, _, ⟨rfl, rfl⟩, _, _, _, _ => by
    unfold eachL
    exact .nothing (fun p hp => by cases hp) (.inr rfl)
  | c :: r, i, g, t, _, _, ⟨L1, L2, q1, q2, rfl, rfl, h3, h4⟩, hs, hn, hf, hg => by
    have hne := h3.ne
    have hn1 := List.nodup_append.1 hn
    have hle : ∀ p ∈ L1 ++ L2, c.key = p.key ∨ blt c.key p.key = true := fun p hp => by
      have := keyK_le hs hp
      rw [keyK_app hne, ← h3.key] at this
      exact this
    rw [scanK_app] at hg
    have hg2 := hg.app
    unfold eachL
    by_cases c1 : outTo to_ c = true ∧ 0 < i
    · rw [if_pos c1]
      exact .nothing (fun p hp => outTo_in c1.1 (hle p hp)) (.inl (by simp [hne]))
    · rw [if_neg c1, if_neg (by decide)]
      by_cases c2 : nextLE from_ r = true
      · rw [if_pos c2]
        have hout : ∀ p ∈ L1, inK from_ to_ p = false := fun p hp => by
          refine notIn_from ?_
          cases r with
          | nil => cases c2
          | cons e r =>
            obtain ⟨p0, hp0, e0⟩ := h4.mem_key e (.head _)
            have h5 := hs.cross hp hp0
            rw [e0] at h5
            unfold nextLE at c2
            simp only [List.getElem?_cons_zero, Bool.or_eq_true, decide_eq_true_eq] at c2
            rcases c2 with c2 | c2
            · exact blt_trans h5 c2
            · rw [← c2]; exact h5
        have e0 := scanK_none hout
        refine Went.then (q' := []) (List.nil_sublist _) (fun a b => ?_) ?_
        · subst a; subst b
          obtain ⟨p, hp, _⟩ := keyK_mem hne
          have := hout p hp
          unfold inK at this
          cases hk : p.key <;> simp [hk, blt, Op.bytesLess] at this
        · rw [noted_nil]
          rw [e0] at hg2 ⊢
          exact eachL_branchW hrec r (i + 1) g t L2 q2 h4 hs.right hn1.2.1 (fun p hp => hf p (List.mem_append.2 (.inr hp))) hg2.2
      · rw [if_neg c2]
        obtain ⟨q', he, hsub, hall⟩ := hrec c.page L1 q1 g t h3.2.2.2 hs.left hn1.1 hf.left hg2.1
        rw [he]
        dsimp only
        rw [if_neg (by simp)]
        exact Went.then hsub hall (eachL_branchW hrec r (i + 1) _ _ L2 q2 h4 hs.right hn1.2.1 (hf.sub hsub hn) hg2.2)
theorem eachN_ok {m : Mem} {F : EaF τ} {nxt : τ → KV → τ} {Good : τ → KV → Prop} (hF : EaSpec m F nxt Good) {from_ to_ : Bytes} : ∀ (d n : Nat) (L : List KV) (q : List Nat) (g : Gone) (t : τ),
    Rep m d n L q → Srt L → q.Nodup → Fresh g q → AllGood nxt Good t (scanK L from_ to_) → Went nxt from_ to_ g t L q (eachN F m from_ to_ d g t n)
  | d, n, L, _, g, t, ⟨cs, qs, h1, rfl, h3, h4, h5⟩, hs, hn, hf, hg => by
    have h0 := hf n (.head _)
    have hfr : Fresh (noted g [n]) qs := Fresh.rest (a := [n]) (b := qs) hf hn
    have key : ∀ r, Went nxt from_ to_ (noted g [n]) t L qs r → Went nxt from_ to_ g t L (n :: qs) r := fun r ⟨q', a1, a2, a3⟩ => ⟨n :: q', by rw [a1, noted_app]; rfl, a2.cons_cons _, fun a b => by rw [a3 a b]⟩
    cases d with
    | zero =>
      rw [decide_eq_true rfl] at h1
      unfold eachN
      rw [h0, h1, if_neg (by simp), if_neg (by simp), mset_noted h0]
      exact key _ (eachL_leafW hF cs 0 _ t L qs h3 hs (List.nodup_cons.1 hn).2 hfr hg)
    | succ d =>
      have hz : decide (d + 1 = 0) = false := by simp
      rw [hz] at h1
      unfold eachN
      rw [h0, h1, if_neg (by simp), if_neg (by simp), mset_noted h0]
      exact key _ (eachL_branchW (fun n L q g t a b c e f => eachN_ok hF d n L q g t a b c e f) cs 0 _ t L qs h3 hs (List.nodup_cons.1 hn).2 hfr hg)
end
/-! ### Scan, Pages -/
def scanGood (out : List KV) (p : KV) : Prop := 0 < out.length → blt (lastK out) p.key = true
theorem scanF_spec (m : Mem) : EaSpec m (scanF m) (fun out p => out ++ [p]) scanGood := by
  intro g t c v q hv hn hf hg
  unfold scanF
  rw [tellN_val hv (metOK_met q g hn hf)]
  dsimp only
  rw [if_neg (fun h => by have := hg h.2.1; rw [h.2.2] at this; cases this)]
theorem pagesF_spec (m : Mem) : EaSpec m (pagesF m) (fun n _ => n + 1) (fun _ _ => True) := by
  intro g t c v q hv hn hf _
  unfold pagesF
  rw [tellN_val hv (metOK_met q g hn hf)]
theorem lastK_snoc (A : List KV) (p : KV) : lastK (A ++ [p]) = p.key := by unfold lastK; simp
theorem scan_good : ∀ (A B : List KV), Srt (A ++ B) → AllGood (fun out p => out ++ [p]) scanGood A B
  | A, [], _ => trivial
  | A, p :: B, h => by
    refine ⟨fun hl => ?_, scan_good (A ++ [p]) B (by simpa using h)⟩
    rcases List.eq_nil_or_concat A with rfl | ⟨A', a, rfl⟩
    · cases hl
    · rw [List.concat_eq_append] at h ⊢
      rw [lastK_snoc]
      exact h.cross (by simp) (.head _)
theorem foldl_snoc : ∀ (B A : List KV), B.foldl (fun out p => out ++ [p]) A = A ++ B
  | [], A => by simp
  | p :: B, A => by rw [List.foldl_cons, foldl_snoc B]; simp
theorem foldl_count : ∀ (B : List KV) (n : Nat), B.foldl (fun n _ => n + 1) n = n + B.length
  | [], n => by simp
  | p :: B, n => by rw [List.foldl_cons, foldl_count B]; simp; omega
theorem pages_good : ∀ (B : List KV) (n : Nat), AllGood (fun n _ => n + 1) (fun (_ : Nat) (_ : KV) => True) n B
  | [], _ => trivial
  | _ :: B, n => ⟨trivial, pages_good B (n + 1)⟩
theorem scanK_srt {L : List KV} (h : Srt L) (f t : Bytes) : Srt (scanK L f t) := List.Pairwise.filter _ h
theorem scanN_ok {m : Mem} {t : Tree} {L : List KV} {q : List Nat} (h : Stands m t L q) (hs : Srt L) (hn : q.Nodup) (hm : 480 ≤ m.size) (f to_ : Bytes) : scanN m t f to_ = (scanK L f to_, 0) := by
  unfold scanN
  rw [if_neg (by omega)]
  cases h with
  | none ht hL hq =>
    subst ht; subst hL
    rw [if_neg (by decide), if_pos (show tree0.root = 0 from rfl)]
    rfl
  | some d n hr hd hk hnp h0 hd64 h =>
    rw [if_neg (by rw [rightT_some hr hd hk hnp h0 hd64]; decide), if_neg (by omega)]
    rw [show (t.deep - 1).toNat = d by omega, hr]
    obtain ⟨q', he, _, _⟩ := eachN_ok (scanF_spec m) (from_ := f) (to_ := to_) d n L q [] [] h hs hn (fun p _ => rfl) (scan_good [] _ (scanK_srt hs f to_))
    dsimp only
    rw [he, if_neg (by simp), foldl_snoc]
    rfl
def intsQ (q : List Nat) : List Int := q.map fun n : Nat => (n : Int)
theorem keysG_noted (g : Gone) (q : List Nat) : keysG (noted g q) = keysG g ++ intsQ q := by simp [keysG, noted, intsQ]
theorem pagesN_ok {m : Mem} {t : Tree} {L : List KV} {q : List Nat} (h : Stands m t L q) (hs : Srt L) (hn : q.Nodup) (hm : 480 ≤ m.size) : pagesN m t = (sortI (intsQ q), 0) := by
  unfold pagesN
  rw [if_neg (by omega)]
  cases h with
  | none ht hL hq =>
    subst ht; subst hq
    rw [if_neg (by decide), if_pos (show tree0.root = 0 from rfl)]
    rfl
  | some d n hr hd hk hnp h0 hd64 h =>
    rw [if_neg (by rw [rightT_some hr hd hk hnp h0 hd64]; decide), if_neg (by omega)]
    rw [show (t.deep - 1).toNat = d by omega, hr]
    obtain ⟨q', he, _, ha⟩ := eachN_ok (pagesF_spec m) (from_ := []) (to_ := []) d n L q [] 0 h hs hn (fun p _ => rfl) (pages_good _ _)
    dsimp only
    rw [he, foldl_count, scanK_all]
    dsimp only
    rw [Nat.zero_add, if_neg (by rw [hk]; simp), ha rfl rfl, keysG_noted]
    rfl
end Go.KX

/- Plain: cells laid into one node, or two. No program in sight. -/
namespace Go.KX
theorem sumC_app (a b : List Cell) (leaf : Bool) : sumC (a ++ b) leaf = sumC a leaf + sumC b leaf := by simp [sumC]
theorem sumC_cons (c : Cell) (b : List Cell) (leaf : Bool) : sumC (c :: b) leaf = (cellB c leaf).length + sumC b leaf := by simp [sumC]
theorem sumC_pos {l : List Cell} (h : l ≠ []) (leaf : Bool) : 2 ≤ sumC l leaf := by
  cases l with
  | nil => exact absurd rfl h
  | cons c l => have := cell_pos c leaf; rw [sumC_cons]; omega
theorem sumC_most {l : List Cell} {leaf : Bool} {k : Nat} (h : ∀ c ∈ l, (cellB c leaf).length ≤ k) : sumC l leaf ≤ k * l.length := by
  induction l with
  | nil => simp [sumC]
  | cons c l ih =>
    have h1 := h c (.head _)
    have h2 := ih (fun c hc => h c (.tail _ hc))
    rw [sumC_cons, List.length_cons, Nat.mul_add]
    omega
theorem takeL_one {leaf : Bool} {room : Int} {want : Nat} : ∀ (l : List Cell) (n : Nat), ((n + sumC l leaf : Nat) : Int) ≤ room → takeL leaf room want 1 l n = (l.length, n + sumC l leaf)
  | [], n, _ => by simp [takeL, sumC]
  | c :: r, n, h => by
    rw [sumC_cons] at h
    unfold takeL
    rw [if_pos ⟨by omega, .inr rfl⟩, takeL_one r _ (by omega), sumC_cons]
    simp; omega
theorem takeL_two {leaf : Bool} {room : Int} {want cm : Nat} (hw : ((want + cm : Nat) : Int) ≤ room) : ∀ (l : List Cell) (n : Nat), (∀ c ∈ l, (cellB c leaf).length ≤ cm) → n < want + cm →
    (takeL leaf room want 2 l n).1 ≤ l.length ∧ n + sumC (l.take (takeL leaf room want 2 l n).1) leaf < want + cm ∧ ((takeL leaf room want 2 l n).1 = l.length ∨ want ≤ n + sumC (l.take (takeL leaf room want 2 l n).1) leaf)
  | [], n, _, hn => by simp [takeL, sumC]; exact hn
  | c :: r, n, hc, hn => by
    have h1 := hc c (.head _)
    unfold takeL
    by_cases hcond : ((n + (cellB c leaf).length : Nat) : Int) ≤ room ∧ (n < want ∨ 2 = 1)
    · rw [if_pos hcond]
      have hlt : n < want := by rcases hcond.2 with h | h; exact h; omega
      obtain ⟨i1, i2, i3⟩ := takeL_two hw r (n + (cellB c leaf).length) (fun c hc' => hc c (.tail _ hc')) (by omega)
      dsimp only
      rw [List.take_succ_cons, sumC_cons]
      refine ⟨by simp; exact i1, by omega, ?_⟩
      rcases i3 with h | h
      · left; simp [h]
      · right; omega
    · rw [if_neg hcond]
      simp only [List.take_zero]
      have hs : sumC ([] : List Cell) leaf = 0 := rfl
      rw [hs]
      refine ⟨Nat.zero_le _, by omega, .inr ?_⟩
      refine Nat.le_of_not_lt fun h => hcond ⟨by omega, .inl (by omega)⟩
theorem New.app {m m1 m2 : Mem} {a b : List Nat} (h1 : New m m1 a) (h2 : New m1 m2 b) (g1 : m.pages.length ≤ m1.pages.length) (g2 : m1.pages.length ≤ m2.pages.length) : New m m2 (a ++ b) := by
  refine ⟨List.nodup_append.2 ⟨h1.nd, h2.nd, fun x hx y hy => ?_⟩, fun p hp => ?_⟩
  · have := h1.lo x hx; have := h2.lo y hy; omega
  · rcases List.mem_append.1 hp with hp | hp
    · have := h1.lo p hp; omega
    · have := h2.lo p hp; omega
/-- One node is laid. -/
theorem lay_one {m : Mem} {d : Nat} {a : List Cell} {L : List KV} {q : List Nat} (_hm : 480 ≤ m.size) (hmo : m.most ≤ 1073741824) (h : Cat (Item m d) a L q) (hs : Srt L) (h0 : a ≠ []) (hr : (sumC a (decide (d = 0)) : Int) ≤ m.size - 8) (h2 : d ≠ 0 → 2 ≤ a.length)
    {p : Bytes} (hp : p = kindB (decide (d = 0)) :: a.flatMap fun c => cellB c (decide (d = 0))) :
    ((layM m p).2.2 = 0 → Gr m (layM m p).1 ∧ (layM m p).1.pages.length = m.pages.length + 1 ∧ (layM m p).2.1 = m.pages.length + 1 ∧ (m.pages.length : Int) < m.most ∧ Item (layM m p).1 (d + 1) ⟨headK a, [], (layM m p).2.1, 0⟩ L ((m.pages.length + 1) :: q)) ∧
    ((layM m p).2.2 ≠ 0 → (layM m p).1 = m ∧ (layM m p).2.2 = 5 ∧ m.most ≤ m.pages.length) := by
  refine ⟨fun he => ?_, fun he => layM_err he (by rw [hp, List.length_cons, flatC_len]; omega)⟩
  obtain ⟨n1, n2, n3, n4, n5⟩ := layM_new he
  refine ⟨n1, n4, n2, n5, ?_⟩
  have hL : L ≠ [] ∧ headK a = keyK L ∧ headK a ≠ [] ∧ (headK a).length ≤ 64 := by
    cases a with
    | nil => exact absurd rfl h0
    | cons c a =>
      obtain ⟨L1, L2, q1, q2, rfl, _, h3, h4⟩ := h
      exact ⟨by simp [h3.ne], by rw [keyK_app h3.ne]; exact h3.key, h3.fit.k0, h3.fit.k1⟩
  have hgr : Cat (Item (layM m p).1 d) a L q := h.mono (fun c L q => Item.gr n1 c L q)
  refine ⟨⟨hL.2.2.1, hL.2.2.2, rfl, rfl, by show 0 < (layM m p).2.1; omega, by show (layM m p).2.1 ≤ _; omega⟩, hL.1, hL.2.1, a, q, ?_, by rw [n2], hgr, by rw [n1.size]; exact hr, fun hd => h2 (by simpa using hd)⟩
  dsimp only
  rw [n2]
  rw [hp] at n3 ⊢
  exact loadN_laid (room := m.size - 8) n3 h.fit (h.up hs).asc h0
/-- What laying cells comes to. -/
structure Laid (m : Mem) (d : Nat) (L : List KV) (q : List Nat) (r : Mem × Nat × List Cell) : Prop where
  gr : Gr m r.1
  ok : r.2.1 = 0 → (∃ q' new, Cat (Item r.1 (d + 1)) r.2.2 L q' ∧ New m r.1 new ∧ ∀ a, q'.count a = q.count a + new.count a) ∧ 1 ≤ r.2.2.length ∧ r.2.2.length ≤ 2 ∧ r.1.pages.length = m.pages.length + r.2.2.length
  err : r.2.1 ≠ 0 → r.2.1 = 5 ∧ m.most < m.pages.length + 2
theorem cell_cmax {m : Mem} (hm : 480 ≤ m.size) {d : Nat} {l : List Cell} {L : List KV} {q : List Nat} (h : Cat (Item m d) l L q) : ∀ c ∈ l, (cellB c (decide (d = 0))).length ≤ (cmax (m.size - 8) (decide (d = 0))).toNat := fun c hc => by
  have := fit_len (room := m.size - 8) (by omega) (h.fit c hc)
  omega
theorem layN_laid {m : Mem} {d : Nat} {l : List Cell} {L : List KV} {q : List Nat} (hm : 480 ≤ m.size) (hmo : m.most ≤ 1073741824) (h : Cat (Item m d) l L q) (hs : Srt L) (h0 : l ≠ []) (hr : 4 * (sumC l (decide (d = 0)) : Int) ≤ 7 * (m.size - 8) - 584) (h2 : d ≠ 0 → 2 ≤ l.length) :
    Laid m d L q (layN m l (decide (d = 0))) := by
  obtain ⟨room, hroom⟩ : ∃ room : Nat, m.size - 8 = (room : Int) := ⟨(m.size - 8).toNat, by omega⟩
  have hpos := sumC_pos h0 (decide (d = 0))
  have hcm := cell_cmax hm h
  have hcm0 : (cmax (m.size - 8) (decide (d = 0))).toNat ≤ 73 + room / 8 := by
    unfold cmax
    rw [hroom, Int.tdiv_eq_ediv_of_nonneg (by omega)]
    split <;> omega
  have hcmb : d ≠ 0 → (cmax (m.size - 8) (decide (d = 0))).toNat = 70 := fun hd => by
    unfold cmax; simp [hd]
  generalize hcmg : (cmax (m.size - 8) (decide (d = 0))).toNat = cm at hcm hcm0 hcmb
  rw [hroom] at hr
  have hlay : ∀ fu nodes out l, layL (decide (d = 0)) (room : Int) (fu + 1) m l nodes out = layL (decide (d = 0)) (room : Int) (fu + 1) m l nodes out := fun _ _ _ _ => rfl
  clear hlay
  unfold layN
  rw [hroom, Int.toNat_natCast]
  by_cases hone : sumC l (decide (d = 0)) ≤ room
  · have hn : (sumC l (decide (d = 0)) - 1) / room + 1 = 1 := by rw [Nat.div_eq_of_lt (by omega)]
    rw [hn]
    unfold layL
    rw [if_neg (by rw [List.length_eq_zero_iff]; exact h0)]
    dsimp only
    rw [takeL_one l 0 (by omega), List.take_length, List.drop_length]
    obtain ⟨s1, s2⟩ := lay_one hm hmo h hs h0 (by omega) h2 rfl
    revert s1 s2
    generalize layM m (kindB (decide (d = 0)) :: l.flatMap fun c => cellB c (decide (d = 0))) = r
    intro s1 s2
    by_cases he : r.2.2 = 0
    · rw [if_neg (by omega)]
      obtain ⟨t1, t2, t3, t4, t5⟩ := s1 he
      obtain ⟨fu, hfu⟩ : ∃ fu, (m.most - m.pages.length).toNat = fu + 1 := ⟨(m.most - m.pages.length).toNat - 1, by omega⟩
      rw [hfu]
      unfold layL
      rw [if_pos (show ([] : List Cell).length = 0 from rfl)]
      refine ⟨t1, fun _ => ⟨⟨_, [m.pages.length + 1], .one t5, ⟨by simp, fun p hp => by simp at hp; dsimp only; omega⟩, fun a => ?_⟩, by simp, by simp, by simp; omega⟩, fun hx => absurd rfl hx⟩
      simp [List.count_cons]
    · rw [if_pos he]
      obtain ⟨t1, t2, t3⟩ := s2 he
      exact ⟨by dsimp only; rw [t1]; exact .refl m, fun hx => absurd hx he, fun _ => ⟨t2, by omega⟩⟩
  · have hn : (sumC l (decide (d = 0)) - 1) / room + 1 = 2 := by
      have : (sumC l (decide (d = 0)) - 1) / room = 1 := by
        rw [Nat.div_eq_iff (by omega)]; omega
      omega
    rw [hn]
    unfold layL
    rw [if_neg (by rw [List.length_eq_zero_iff]; exact h0)]
    dsimp only
    generalize hW : sumC l (decide (d = 0)) / 2 = want
    have hw : ((want + cm : Nat) : Int) ≤ (room : Int) := by omega
    obtain ⟨k1, k2, k3⟩ := takeL_two hw l 0 hcm (by omega)
    generalize hT : (takeL (decide (d = 0)) (room : Int) want 2 l 0).1 = k at k1 k2 k3
    have hsp := sumC_split l (decide (d = 0)) k
    have hk3 : want ≤ sumC (l.take k) (decide (d = 0)) := by
      rcases k3 with e | e
      · rw [e, List.take_length]; omega
      · omega
    have hcl : l.take k ++ l.drop k = l := List.take_append_drop k l
    rw [← hcl] at h
    obtain ⟨L1, L2, q1, q2, rfl, rfl, ha, hb⟩ := h.cut
    have ha0 : l.take k ≠ [] := fun e => by rw [e] at hk3; simp [sumC] at hk3; omega
    have hb0 : l.drop k ≠ [] := fun e => by
      have e' : sumC (l.drop k) (decide (d = 0)) = 0 := by rw [e]; rfl
      omega
    have hbig : ∀ x : List Cell, (∀ c ∈ x, (cellB c (decide (d = 0))).length ≤ cm) → d ≠ 0 → 70 < sumC x (decide (d = 0)) → 2 ≤ x.length := fun x hx hd hl => by
      have := sumC_most hx
      rw [hcmb hd] at this
      omega
    have ha2 : d ≠ 0 → 2 ≤ (l.take k).length := fun hd => hbig _ (fun c hc => hcm c (List.mem_of_mem_take hc)) hd (by omega)
    have hb2 : d ≠ 0 → 2 ≤ (l.drop k).length := fun hd => hbig _ (fun c hc => hcm c (List.mem_of_mem_drop hc)) hd (by have := hcmb hd; omega)
    obtain ⟨s1, s2⟩ := lay_one hm hmo ha hs.left ha0 (by omega) ha2 rfl
    revert s1 s2
    generalize layM m (kindB (decide (d = 0)) :: (l.take k).flatMap fun c => cellB c (decide (d = 0))) = r
    intro s1 s2
    by_cases he : r.2.2 = 0
    · rw [if_neg (by omega)]
      obtain ⟨t1, t2, t3, t4, t5⟩ := s1 he
      obtain ⟨fu, hfu⟩ : ∃ fu, (m.most - m.pages.length).toNat = fu + 1 := ⟨(m.most - m.pages.length).toNat - 1, by omega⟩
      rw [hfu]
      unfold layL
      rw [if_neg (by rw [List.length_eq_zero_iff]; exact hb0)]
      have hmx : max (2 - 1) 1 = 1 := rfl
      dsimp only
      rw [hmx, takeL_one (l.drop k) 0 (by omega), List.take_length, List.drop_length]
      have hb' : Cat (Item r.1 d) (l.drop k) L2 q2 := hb.mono (fun c L q => Item.gr t1 c L q)
      obtain ⟨u1, u2⟩ := lay_one (m := r.1) (by rw [t1.size]; exact hm) (by rw [t1.most]; exact hmo) hb' hs.right hb0 (by rw [t1.size]; omega) hb2 rfl
      revert u1 u2
      generalize layM r.1 (kindB (decide (d = 0)) :: (l.drop k).flatMap fun c => cellB c (decide (d = 0))) = s
      intro u1 u2
      by_cases he2 : s.2.2 = 0
      · rw [if_neg (by omega)]
        obtain ⟨v1, v2, v3, v4, v5⟩ := u1 he2
        rw [t1.most] at v4
        obtain ⟨fv, hfv⟩ : ∃ fv, fu = fv + 1 := ⟨fu - 1, by omega⟩
        rw [hfv]
        unfold layL
        rw [if_pos (show ([] : List Cell).length = 0 from rfl)]
        have hhead : headK (l.take k) = headK l := by
          cases l with
          | nil => exact absurd rfl h0
          | cons c l =>
            cases k with
            | zero => exact absurd rfl ha0
            | succ k => rfl
        rw [hhead] at t5
        refine ⟨t1.trans v1, fun _ => ⟨⟨_, [m.pages.length + 1, r.1.pages.length + 1], Cat.app (Cat.one (Item.gr v1 _ _ _ t5)) (.one v5), ⟨by simp; omega, fun p hp => by simp at hp; dsimp only; omega⟩, fun a => ?_⟩, by simp, by simp, by simp; omega⟩, fun hx => absurd rfl hx⟩
        simp only [List.count_append, List.count_cons, List.count_nil]
        omega
      · rw [if_pos he2]
        obtain ⟨v1, v2, v3⟩ := u2 he2
        rw [t1.most] at v3
        exact ⟨by dsimp only; rw [v1]; exact t1, fun hx => absurd hx he2, fun _ => ⟨v2, by omega⟩⟩
    · rw [if_pos he]
      obtain ⟨t1, t2, t3⟩ := s2 he
      exact ⟨by dsimp only; rw [t1]; exact .refl m, fun hx => absurd hx he, fun _ => ⟨t2, by omega⟩⟩
end Go.KX

/- Plain: a change in the tree gives the list's change. No program in sight. -/
namespace Go.KX
def OldRel (m : Mem) (o : Option Cell) (q : List Nat) : Prop := match o with
  | none => q = []
  | some c => ∃ v, ValOf m c v q
theorem OldRel.gr {m m' : Mem} (h : Gr m m') {o : Option Cell} {q : List Nat} (ho : OldRel m o q) : OldRel m' o q := by
  cases o with
  | none => exact ho
  | some c => obtain ⟨v, hv⟩ := ho; exact ⟨v, hv.gr h⟩
/-- A change of a list that has to do with one key only. -/
structure Loc (f : List KV → List KV) (key : Bytes) : Prop where
  mid : ∀ A M B, Below A key → Above B key → f (A ++ (M ++ B)) = A ++ (f M ++ B)
  srt : ∀ L, Srt L → Srt (f L)
/-- What an edit of a leaf's cells does. -/
def EdSpec (m : Mem) (E : Edit) (f : List KV → List KV) (qv : List Nat) (w : Prop) : Prop := ∀ cs L q, Cat (Item m 0) cs L q → Srt L →
  ((E cs).2.2.1 = -1 ∧ f L = L ∧ (E cs).2.2.2 = none) ∨
  ((E cs).2.2.1 = 0 ∧ (w → f L ≠ L ∧ (E cs).2.2.2 ≠ none) ∧ (sumC (E cs).1 true : Int) ≤ sumC cs true + (73 + (m.size - 8).tdiv 8) ∧ (E cs).2.1 = ((f L).length : Int) - L.length ∧
    ∃ qo q', Cat (Item m 0) (E cs).1 (f L) q' ∧ (∀ a, q'.count a + qo.count a = q.count a + qv.count a) ∧ (∀ a, qo.count a ≤ q.count a) ∧ OldRel m (E cs).2.2.2 qo)
inductive ChRes (m : Mem) (g : Gone) (d : Nat) (L : List KV) (q : List Nat) (fL : List KV) (qv : List Nat) (w : Prop) (r : Chg) : Prop
  | same (he : r.e = -1) (hL : fL = L) (ho : r.old = none) (gr : r.m = m) : ChRes m g d L q fL qv w r
  | full (he : r.e = 5) (gr : Gr m r.m) (hm : m.most < m.pages.length + 2 * d) : ChRes m g d L q fL qv w r
  | done (he : r.e = 0) (hx : w → fL ≠ L ∧ r.old ≠ none) (gr : Gr m r.m) (hp : r.m.pages.length ≤ m.pages.length + 2 * d) (hmore : r.more = (fL.length : Int) - L.length) (left new qo q' : List Nat) (hg : r.g = noted g left) (hc : Cat (Item r.m d) r.l fL q') (hn : New m r.m new)
      (hcnt : ∀ a, q'.count a + qo.count a + left.count a = q.count a + qv.count a + new.count a) (hle : ∀ a, left.count a + qo.count a ≤ q.count a) (ho : OldRel r.m r.old qo)
      (hs : 4 * (sumC r.l (decide (d = 0)) : Int) ≤ 7 * (m.size - 8) - 584) (h0 : d ≠ 0 → r.l ≠ []) : ChRes m g d L q fL qv w r
theorem mem_count {q : List Nat} {a : Nat} : a ∈ q ↔ 0 < q.count a := List.count_pos_iff.symm
/-- What lies in a small part is joined with a neighbour. -/
theorem joinN_done {m : Mem} {g : Gone} {d : Nat} {a b : List Cell} {c : Cell} {sub : List Cell} {A fM B : List KV} {qa qb q' left : List Nat} (hm : 480 ≤ m.size)
    (ha : Cat (Item m (d + 1)) a A qa) (hb : Cat (Item m (d + 1)) b B qb) (hsub : Cat (Item m d) sub fM q') (hl : 2 ≤ (a ++ c :: b).length)
    (hs : 4 * (sumC sub (decide (d = 0)) : Int) ≤ 7 * (m.size - 8) - 584) (hfr : ∀ p, p ∈ qa ∨ p ∈ qb → mget g (p : Int) = none ∧ p ∉ left) :
    ∃ x y su A' M' B' qx qs qy left2 n, joinN m (noted g left) (a ++ c :: b) a.length sub (decide (d = 0)) = ⟨0, noted (noted g left) left2, su, x.length, x.length + n⟩ ∧ (a ++ c :: b).take x.length = x ∧ (a ++ c :: b).drop (x.length + n) = y ∧
      A ++ (fM ++ B) = A' ++ (M' ++ B') ∧ Cat (Item m (d + 1)) x A' qx ∧ Cat (Item m d) su M' qs ∧ Cat (Item m (d + 1)) y B' qy ∧ (∀ a, qx.count a + qs.count a + qy.count a + left2.count a = qa.count a + q'.count a + qb.count a) ∧
      (∀ a, left2.count a ≤ qa.count a + qb.count a) ∧ 4 * (sumC su (decide (d = 0)) : Int) ≤ 7 * (m.size - 8) - 584 ∧ su ≠ [] ∧ (d ≠ 0 → 2 ≤ su.length) ∧ sumC x false + sumC y false ≤ sumC (a ++ c :: b) false := by
  have hq4 : (m.size.tdiv 4 : Int) = m.size / 4 := Int.tdiv_eq_ediv_of_nonneg (by omega)
  have hgone : ∀ p, p ∈ qa ∨ p ∈ qb → mget (noted g left) (p : Int) = none := fun p hp => by
    obtain ⟨h1, h2⟩ := hfr p hp
    exact mget_noted h1 (fun x hx e => h2 (by have : x = p := by omega
                                              rwa [this] at hx))
  unfold joinN
  by_cases hsm : (sumC sub (decide (d = 0)) : Int) < m.size.tdiv 4 ∧ 1 < (a ++ c :: b).length
  · rw [if_pos hsm]
    rw [hq4] at hsm
    rcases b with _ | ⟨e, b'⟩
    · -- the last one
      rcases List.eq_nil_or_concat a with rfl | ⟨a', e, rfl⟩
      · simp at hl
      · rw [List.concat_eq_append] at ha hl ⊢
        obtain ⟨A2, E, qa2, qe, rfl, rfl, ha2, hE⟩ := ha.cut
        obtain ⟨E1, E2, qe1, qe2, rfl, rfl, hE1, rfl, rfl⟩ := hE
        obtain ⟨rfl, rfl⟩ := hb
        obtain ⟨cs, qs, h1, rfl, h3, h4, h5⟩ := hE1.2.2.2
        have hk : joinK (a' ++ [e] ++ [c]) (a' ++ [e]).length = a'.length := by
          unfold joinK; rw [if_pos (by simp)]; simp
        have hpg : pageAt (a' ++ [e] ++ [c]) a'.length = e.page := pageAt_of (by simp)
        rw [hk, hpg, h1]
        dsimp only
        rw [if_neg (by simp), hgone e.page (.inl (by simp)), if_neg (by simp), if_neg (by simp), mset_noted (hgone e.page (.inl (by simp)))]
        refine ⟨a', [], cs ++ sub, A2, E1 ++ fM, [], qa2, qs ++ q', [], [e.page], 2, by simp, by simp, ?_, by simp, ha2, h3.app hsub, ⟨rfl, rfl⟩, fun z => ?_, fun z => ?_, ?_, ?_, fun hd => ?_, ?_⟩
        · rw [List.drop_eq_nil_of_le (by simp)]
        · simp only [List.count_append, List.count_cons, List.count_nil]; omega
        · simp only [List.count_append, List.count_cons, List.count_nil]; omega
        · rw [sumC_app]; omega
        · have := loadN_ne h1; simp [this]
        · have := h5 (by simp [hd]); rw [List.length_append]; omega
        · simp only [sumC_app]; simp [sumC]; omega
    · obtain ⟨E1, B2, qe1, qb2, rfl, rfl, hE1, hb2⟩ := hb
      obtain ⟨cs, qs, h1, rfl, h3, h4, h5⟩ := hE1.2.2.2
      have hk : joinK (a ++ c :: e :: b') a.length = a.length + 1 := by
        unfold joinK; rw [if_neg (by simp)]
      have hpg : pageAt (a ++ c :: e :: b') (a.length + 1) = e.page := pageAt_of (by rw [List.getElem?_append_right (by omega)]; simp)
      rw [hk, hpg, h1]
      dsimp only
      rw [if_neg (by simp), hgone e.page (.inr (by simp)), if_neg (by simp), if_pos (by omega), mset_noted (hgone e.page (.inr (by simp)))]
      refine ⟨a, b', sub ++ cs, A, fM ++ E1, B2, qa, q' ++ qs, qb2, [e.page], 2, rfl, by simp, ?_, by simp, ha, hsub.app h3, hb2, fun z => ?_, fun z => ?_, ?_, ?_, fun hd => ?_, ?_⟩
      · rw [List.drop_append]; simp
      · simp only [List.count_append, List.count_cons, List.count_nil]; omega
      · simp only [List.count_append, List.count_cons, List.count_nil]; omega
      · rw [sumC_app]; omega
      · have := loadN_ne h1; simp [this]
      · have := h5 (by simp [hd]); rw [List.length_append]; omega
      · simp only [sumC_app, sumC_cons]; omega
  · rw [if_neg hsm]
    rw [hq4] at hsm
    have hbig : m.size / 4 ≤ (sumC sub (decide (d = 0)) : Int) := by omega
    refine ⟨a, b, sub, A, fM, B, qa, q', qb, [], 1, by rw [noted_nil], by simp, by rw [List.drop_append]; simp, rfl, ha, hsub, hb, fun z => ?_, fun z => ?_, hs, fun e => ?_, fun hd => ?_, ?_⟩
    · simp only [List.count_nil]; omega
    · simp
    · rw [e] at hbig; simp [sumC] at hbig; omega
    · have h1 := sumC_most (cell_cmax hm hsub)
      have h2 : (cmax (m.size - 8) (decide (d = 0))).toNat = 70 := by unfold cmax; simp [hd]
      rw [h2] at h1
      omega
    · simp only [sumC_app, sumC_cons]; omega
theorem upN_done {m : Mem} {g : Gone} {d : Nat} {a b : List Cell} {c : Cell} {A M fM B : List KV} {qa qm qb qv : List Nat} {w : Prop} {r : Chg} (hm : 480 ≤ m.size) (hmo : m.most ≤ 1073741824)
    (ha : Cat (Item m (d + 1)) a A qa) (hb : Cat (Item m (d + 1)) b B qb) (hl : 2 ≤ (a ++ c :: b).length) (hsum : (sumC (a ++ c :: b) false : Int) ≤ m.size - 8)
    (hnd : (qa ++ (qm ++ qb)).Nodup) (hfr : Fresh g (qa ++ (qm ++ qb))) (hs : Srt (A ++ (fM ++ B))) (h : ChRes m g d M qm fM qv w r) :
    ChRes m g (d + 1) (A ++ (M ++ B)) (qa ++ (qm ++ qb)) (A ++ (fM ++ B)) qv w (upN (a ++ c :: b) a.length (decide (d = 0)) r) := by
  unfold upN
  cases h with
  | same he hL ho gr => rw [if_pos (by omega)]; exact .same he (by rw [hL]) ho gr
  | full he gr hmost => rw [if_pos (by omega)]; exact .full he gr (by omega)
  | done he hxx gr hp hmore left new qo q' hg hc hn hcnt hle ho hss h0 =>
    rw [if_neg (by omega)]
    dsimp only
    have hcn := fun z => (List.nodup_iff_count.1 hnd) z
    simp only [List.count_append] at hcn
    obtain ⟨x, y, su, A', M', B', qx, qs, qy, left2, n, hj, hx, hy, hL', cx, cs, cy, hcnt2, hle2, hs2, hsu0, hsu2, hsl⟩ := joinN_done (g := g) (left := left) (c := c) (by rw [gr.size]; exact hm) (ha.mono fun c L q => Item.gr gr c L q) (hb.mono fun c L q => Item.gr gr c L q) hc hl (by rw [gr.size]; exact hss) (fun p hp => by
      refine ⟨hfr p ?_, fun hpl => ?_⟩
      · rcases hp with hp | hp <;> simp [hp]
      · have h1 := hcn p
        have h2 := hle p
        have h3 := mem_count.1 hpl
        rcases hp with hp | hp
        · have := mem_count.1 hp; omega
        · have := mem_count.1 hp; omega)
    rw [hg, hj]
    dsimp only
    rw [if_neg (by simp)]
    rw [hL'] at hs ⊢
    have hlay := layN_laid (m := r.m) (by rw [gr.size]; exact hm) (by rw [gr.most]; exact hmo) cs hs.right.left hsu0 hs2 hsu2
    revert hlay
    generalize layN r.m su (decide (d = 0)) = z
    intro hlay
    by_cases hw : z.2.1 = 0
    · rw [if_neg (by omega), hx, hy]
      obtain ⟨⟨qz, new2, cz, nz, hz⟩, z1, z2, z3⟩ := hlay.ok hw
      refine .done rfl (fun hw' => ⟨fun e => (hxx hw').1 (by rw [← hL'] at e; exact List.append_cancel_right (List.append_cancel_left e)), (hxx hw').2⟩) (gr.trans hlay.gr) (by dsimp only; omega) ?_ (left ++ left2) (new ++ new2) qo (qx ++ (qz ++ qy)) (by rw [noted_app]) ((cx.mono fun c L q => Item.gr hlay.gr c L q).app (cz.app (cy.mono fun c L q => Item.gr hlay.gr c L q))) (hn.app nz gr.len hlay.gr.len) (fun x0 => ?_) (fun x0 => ?_) (ho.gr hlay.gr) ?_ (fun _ e => ?_)
      · have e1 := congrArg List.length hL'
        simp only [List.length_append] at e1 ⊢
        rw [hmore]; omega
      · have a1 := hcnt x0
        have a2 := hcnt2 x0
        have a3 := hz x0
        simp only [List.count_append]; omega
      · have a1 := hle x0
        have a2 := hle2 x0
        have a3 := hcnt2 x0
        have a4 := hcn x0
        simp only [List.count_append]; omega
      · have hd0 : decide (d + 1 = 0) = false := by simp
        have h70 : ∀ e ∈ z.2.2, (cellB e false).length ≤ 70 := fun e he => by
          have := cell_cmax (by rw [hlay.gr.size, gr.size]; exact hm) cz e he
          rw [hd0] at this
          have h2 : (cmax (z.1.size - 8) false).toNat = 70 := by unfold cmax; simp
          rw [h2] at this; exact this
        have h140 := sumC_most h70
        rw [hd0]
        dsimp only
        simp only [sumC_app]
        omega
      · dsimp only at e
        have := congrArg List.length e
        simp only [List.length_append, List.length_nil] at this
        omega
    · rw [if_pos hw]
      obtain ⟨e1, e2⟩ := hlay.err hw
      rw [gr.most] at e2
      exact .full (by dsimp only; omega) (gr.trans hlay.gr) (by omega)
theorem changeN_done {E : Edit} {key : Bytes} {f : List KV → List KV} {qv : List Nat} {w : Prop} (hf : Loc f key) {m : Mem} (hm : 480 ≤ m.size) (hmo : m.most ≤ 1073741824) (hE : EdSpec m E f qv w) : ∀ (d n : Nat) (L : List KV) (q : List Nat) (g : Gone),
    Rep m d n L q → Srt L → q.Nodup → Fresh g q → ChRes m g d L q (f L) qv w (changeN E key d m g n)
  | 0, n, L, _, g, ⟨cs, qs, h1, rfl, h3, h4, h5⟩, hs, hnd, hfr => by
    have h0 := hfr n (.head _)
    rw [decide_eq_true rfl] at h1 h4
    unfold changeN
    rw [h0, h1, if_neg (by simp), if_neg (by simp), mset_noted h0]
    rcases hE cs L qs h3 hs with ⟨e1, e2, e3⟩ | ⟨e1, e0, e2, e3, qo, q', e4, e5, e6, e7⟩
    · exact .same e1 e2 e3 rfl
    · have ht : (m.size - 8).tdiv 8 = (m.size - 8) / 8 := Int.tdiv_eq_ediv_of_nonneg (by omega)
      refine .done e1 e0 (.refl m) (Nat.le_refl _) e3 [n] [] qo q' rfl e4 ⟨List.nodup_nil, fun p hp => by cases hp⟩ (fun a => ?_) (fun a => ?_) e7 ?_ (fun h => absurd rfl h)
      · have := e5 a
        simp only [List.count_cons, List.count_nil]; omega
      · have := e6 a
        simp only [List.count_cons, List.count_nil]; omega
      · rw [decide_eq_true rfl]
        dsimp only
        omega
  | d + 1, n, L, _, g, ⟨cs, qs, h1, rfl, h3, h4, h5⟩, hs, hnd, hfr => by
    have h0 := hfr n (.head _)
    have hz : decide (d + 1 = 0) = false := by simp
    rw [hz] at h1 h4 h5
    unfold changeN
    rw [h0, h1, if_neg (by simp), if_neg (by simp), mset_noted h0]
    obtain ⟨a, c, b, A, M, B, qa, qm, qb, rfl, rfl, rfl, hi, ha, hc, hb, hA, hB⟩ := childI_ok h3 hs (loadN_ne h1) key
    rw [hi]
    dsimp only
    rw [pageAt_mid, hf.mid A M B hA hB]
    have hnd1 := List.nodup_cons.1 hnd
    have hfr1 : Fresh (noted g [n]) (qa ++ (qm ++ qb)) := Fresh.rest (a := [n]) (b := qa ++ (qm ++ qb)) hfr hnd
    have ih := changeN_done hf hm hmo hE d c.page M qm (noted g [n]) hc.2.2.2 hs.right.left (List.nodup_append.1 (List.nodup_append.1 hnd1.2).2.1).1 (fun p hp => hfr1 p (by simp [hp]))
    have hsf : Srt (A ++ (f M ++ B)) := by rw [← hf.mid A M B hA hB]; exact hf.srt _ hs
    have hup := upN_done (c := c) hm hmo ha hb (h5 rfl) h4 hnd1.2 hfr1 hsf ih
    cases hup with
    | same he hL ho gr => exact .same he hL ho gr
    | full he gr hmost => exact .full he gr hmost
    | done he hx gr hp hmore left new qo q' hg hc hn hcnt hle ho hss h0' =>
      refine .done he hx gr hp hmore (n :: left) new qo q' (by rw [hg, noted_app]; rfl) hc hn (fun z => ?_) (fun z => ?_) ho hss h0'
      · have := hcnt z
        simp only [List.count_cons]; omega
      · have := hle z
        simp only [List.count_cons]; omega
end Go.KX

/- Plain: the root; the edits; what Put and Delete come to. No program in sight. -/
namespace Go.KX
theorem layN_one {m : Mem} {l : List Cell} {leaf : Bool} (hm : 480 ≤ m.size) (h0 : l ≠ []) (hs : (sumC l leaf : Int) ≤ m.size - 8) (he : (layN m l leaf).2.1 = 0) : (layN m l leaf).2.2.length = 1 := by
  obtain ⟨room, hroom⟩ : ∃ room : Nat, m.size - 8 = (room : Int) := ⟨(m.size - 8).toNat, by omega⟩
  have hpos := sumC_pos h0 leaf
  unfold layN at he ⊢
  rw [hroom, Int.toNat_natCast] at he ⊢
  have hn : (sumC l leaf - 1) / room + 1 = 1 := by rw [Nat.div_eq_of_lt (by omega)]
  rw [hn] at he ⊢
  unfold layL at he ⊢
  rw [if_neg (by rw [List.length_eq_zero_iff]; exact h0)] at he ⊢
  dsimp only at he ⊢
  rw [takeL_one l 0 (by omega), List.take_length, List.drop_length] at he ⊢
  revert he
  generalize layM m (kindB leaf :: l.flatMap fun c => cellB c leaf) = r
  intro he
  by_cases hr : r.2.2 = 0
  · rw [if_neg (by omega)] at he ⊢
    generalize (m.most - m.pages.length).toNat = fu at he ⊢
    cases fu with
    | zero => unfold layL at he; cases he
    | succ fu =>
      unfold layL
      rw [if_pos (show ([] : List Cell).length = 0 from rfl)]
      rfl
  · rw [if_pos hr] at he; exact absurd he hr
/-! ### How many keys there are at least -/
theorem Rep.pow {m : Mem} : ∀ {d n : Nat} {L : List KV} {q : List Nat}, Rep m d n L q → 2 ^ d ≤ L.length
  | 0, n, L, q, ⟨cs, qs, h1, h2, h3, h4, h5⟩ => by
    have := loadN_ne h1
    cases cs with
    | nil => exact absurd rfl this
    | cons c r =>
      obtain ⟨L1, L2, q1, q2, rfl, _, h6, _⟩ := h3
      have := List.length_pos_iff.2 h6.ne
      simp; omega
  | d + 1, n, L, q, ⟨cs, qs, h1, h2, h3, h4, h5⟩ => by
    have h2' := h5 (by simp)
    obtain ⟨c, r, rfl⟩ : ∃ c r, cs = c :: r := by
      cases cs with
      | nil => simp at h2'
      | cons c r => exact ⟨c, r, rfl⟩
    obtain ⟨e, r, rfl⟩ : ∃ e r', r = e :: r' := by
      cases r with
      | nil => simp at h2'
      | cons c r => exact ⟨c, r, rfl⟩
    obtain ⟨L1, R1, q1, _, rfl, _, h6, h8⟩ := h3
    obtain ⟨L2, L3, q2, q3, rfl, _, h7, _⟩ := h8
    have a := Rep.pow h6.2.2.2
    have b := Rep.pow h7.2.2.2
    rw [Nat.pow_succ]
    simp only [List.length_append]
    omega
/-! ### The root -/
structure RootOK (m : Mem) (k : Nat) (L : List KV) (q : List Nat) (r : Mem × Nat × Nat × Nat) : Prop where
  gr : Gr m r.1
  ok : r.2.2.2 = 0 → ∃ (e n : Nat) (q' new : List Nat), r.2.1 = n ∧ r.2.2.1 = e + 1 ∧ 0 < n ∧ Rep r.1 e n L q' ∧ New m r.1 new ∧ (∀ a, q'.count a = q.count a + new.count a) ∧ r.1.pages.length ≤ m.pages.length + k
  err : r.2.2.2 ≠ 0 → r.2.2.2 = 5 ∧ m.most < m.pages.length + k + 1
theorem New.nil (m m' : Mem) : New m m' [] := ⟨List.nodup_nil, fun p hp => by cases hp⟩
theorem rootL_single {m : Mem} {fu d depth : Nat} {c : Cell} {L : List KV} {q : List Nat} (h : Cat (Item m (d + 1)) [c] L q) (hd : depth = d + 2) (k : Nat) : RootOK m k L q (rootL (fu + 1) m [c] depth false) := by
  obtain ⟨L1, L2, q1, q2, rfl, rfl, h1, rfl, rfl⟩ := h
  unfold rootL
  rw [if_pos ⟨rfl, rfl⟩]
  refine ⟨.refl m, fun _ => ⟨d, c.page, q1, [], rfl, by dsimp only; omega, h1.1.p0, by rw [List.append_nil]; exact h1.2.2.2, .nil _ _, fun a => by simp, by dsimp only; omega⟩, fun h => absurd rfl h⟩
theorem rootL_few {m : Mem} {fu d depth : Nat} {l : List Cell} {L : List KV} {q : List Nat} (hm : 480 ≤ m.size) (hmo : m.most ≤ 1073741824) (h : Cat (Item m (d + 1)) l L q) (hs : Srt L) (h0 : l ≠ []) (hl : l.length ≤ 2) (hd : depth = d + 2) : RootOK m 2 L q (rootL (fu + 2) m l depth false) := by
  by_cases h1 : l.length = 1
  · obtain ⟨c, rfl⟩ := List.length_eq_one_iff.1 h1
    exact rootL_single h hd 2
  · have hz : decide (d + 1 = 0) = false := by simp
    have h2 : l.length = 2 := by have := List.length_pos_iff.2 h0; omega
    have hsum := sumC_most (cell_cmax hm h)
    have h70 : (cmax (m.size - 8) (decide (d + 1 = 0))).toNat = 70 := by unfold cmax; simp
    rw [h70, h2] at hsum
    have hlay := layN_laid hm hmo h hs h0 (by omega) (fun _ => by omega)
    have hone := layN_one (leaf := decide (d + 1 = 0)) hm h0 (by omega)
    rw [hz] at hlay hone
    unfold rootL
    rw [if_neg (by rintro ⟨_, e⟩; exact h1 e)]
    dsimp only
    revert hlay hone
    generalize layN m l false = w
    intro hlay hone
    by_cases hw : w.2.1 = 0
    · rw [if_neg (by omega)]
      obtain ⟨⟨qz, new, cz, nz, hc⟩, z1, z2, z3⟩ := hlay.ok hw
      obtain ⟨c, hcc⟩ := List.length_eq_one_iff.1 (hone hw)
      rw [hcc] at cz ⊢
      obtain ⟨r1, r2, r3⟩ := rootL_single (fu := fu) cz (show depth + 1 = d + 1 + 2 by omega) 0
      refine ⟨hlay.gr.trans r1, fun he => ?_, fun he => ?_⟩
      · obtain ⟨e, n, q', new', a1, a2, a3, a4, a5, a6, a7⟩ := r2 he
        rw [hone hw] at z3
        exact ⟨e, n, q', new ++ new', a1, a2, a3, a4, nz.app a5 hlay.gr.len r1.len, fun a => by rw [a6, hc, List.count_append]; omega, by omega⟩
      · obtain ⟨a1, a2⟩ := r3 he
        rw [hlay.gr.most] at a2
        rw [hone hw] at z3
        exact ⟨a1, by omega⟩
    · rw [if_pos hw]
      obtain ⟨a1, a2⟩ := hlay.err hw
      exact ⟨hlay.gr, fun he => absurd he hw, fun _ => ⟨a1, by omega⟩⟩
theorem rootN_ok {m : Mem} {d depth : Nat} {l : List Cell} {L : List KV} {q : List Nat} (hm : 480 ≤ m.size) (hmo : m.most ≤ 1048576) (hle : LE m) (h : Cat (Item m d) l L q) (hs : Srt L) (h0 : l ≠ []) (hr : 4 * (sumC l (decide (d = 0)) : Int) ≤ 7 * (m.size - 8) - 584) (hd : depth = d + 1) :
    RootOK m 4 L q (rootN m l depth) := by
  unfold LE at hle
  unfold rootN
  rw [if_neg (by rw [List.length_eq_zero_iff]; exact h0)]
  obtain ⟨fu, hfu⟩ : ∃ fu, 1000000000 - m.pages.length + 1 = fu + 3 := ⟨1000000000 - m.pages.length - 2, by omega⟩
  have hlf : decide ((depth : Int) = 1) = decide (d = 0) := decide_eq_decide.2 ⟨fun h => by omega, fun h => by omega⟩
  rw [hfu, hlf]
  by_cases h1 : d ≠ 0 ∧ l.length = 1
  · obtain ⟨e, rfl⟩ : ∃ e, d = e + 1 := ⟨d - 1, by omega⟩
    obtain ⟨c, rfl⟩ := List.length_eq_one_iff.1 h1.2
    rw [show decide (e + 1 = 0) = false by simp]
    exact rootL_single h (by omega) 4
  · have hlay := layN_laid hm (by omega) h hs h0 hr (fun hd' => by
      have := List.length_pos_iff.2 h0
      rcases Nat.lt_or_ge l.length 2 with hl | hl
      · exact absurd ⟨hd', by omega⟩ h1
      · exact hl)
    unfold rootL
    rw [if_neg (by rintro ⟨e1, e2⟩; exact h1 ⟨by simpa using e1, e2⟩)]
    dsimp only
    revert hlay
    generalize layN m l (decide (d = 0)) = w
    intro hlay
    by_cases hw : w.2.1 = 0
    · rw [if_neg (by omega)]
      obtain ⟨⟨qz, new, cz, nz, hc⟩, z1, z2, z3⟩ := hlay.ok hw
      obtain ⟨r1, r2, r3⟩ := rootL_few (fu := fu) (depth := depth + 1) (by rw [hlay.gr.size]; exact hm) (by rw [hlay.gr.most]; omega) cz hs (fun e => by rw [e] at z1; cases z1) z2 (by omega)
      refine ⟨hlay.gr.trans r1, fun he => ?_, fun he => ?_⟩
      · obtain ⟨e, n, q', new', a1, a2, a3, a4, a5, a6, a7⟩ := r2 he
        exact ⟨e, n, q', new ++ new', a1, a2, a3, a4, nz.app a5 hlay.gr.len r1.len, fun a => by rw [a6, hc, List.count_append]; omega, by omega⟩
      · obtain ⟨a1, a2⟩ := r3 he
        rw [hlay.gr.most] at a2
        exact ⟨a1, by omega⟩
    · rw [if_pos hw]
      obtain ⟨a1, a2⟩ := hlay.err hw
      exact ⟨hlay.gr, fun he => absurd he hw, fun _ => ⟨a1, by omega⟩⟩
/-! ### The edits -/
theorem Cat.cut0 {m : Mem} : ∀ {A B : List KV} {cs : List Cell} {q : List Nat}, Cat (Item m 0) cs (A ++ B) q → ∃ a b qa qb, cs = a ++ b ∧ q = qa ++ qb ∧ Cat (Item m 0) a A qa ∧ Cat (Item m 0) b B qb
  | [], B, cs, q, h => ⟨[], cs, [], q, rfl, rfl, ⟨rfl, rfl⟩, h⟩
  | p :: A, B, [], q, h => by cases h.1
  | p :: A, B, c :: r, q, h => by
    obtain ⟨L1, L2, q1, q2, hL, rfl, h3, h4⟩ := h
    obtain ⟨hf, v, rfl, hvl, hv⟩ := h3
    simp only [List.cons_append, List.nil_append, List.cons.injEq] at hL
    obtain ⟨rfl, rfl⟩ := hL
    obtain ⟨a, b, qa, qb, rfl, rfl, h5, h6⟩ := Cat.cut0 h4
    exact ⟨c :: a, b, q1 ++ qa, qb, rfl, by simp, ⟨_, A, q1, qa, rfl, rfl, ⟨hf, v, rfl, hvl, hv⟩, h5⟩, h6⟩
theorem neAt_cut {m : Mem} {a b : List Cell} {A B : List KV} {qa qb : List Nat} {key : Bytes} (ha : Cat (Item m 0) a A qa) (hb : Cat (Item m 0) b B qb) (hA : Below A key) (hB : ∀ p ∈ B, blt p.key key = false) : neAt (a ++ b) key = a.length := by
  unfold neAt
  refine searchN_eq (by simp) (fun x hx => ?_) (fun x hx hl => ?_)
  · unfold geAt
    rw [List.getElem?_append_left hx, List.getElem?_eq_getElem hx]
    dsimp only
    obtain ⟨p, hp, e⟩ := ha.mem_key _ (List.getElem_mem hx)
    rw [← e, hA p hp]; rfl
  · unfold geAt
    simp only [List.length_append] at hl
    rw [List.getElem?_append_right hx, List.getElem?_eq_getElem (by omega)]
    dsimp only
    obtain ⟨p, hp, e⟩ := hb.mem_key _ (List.getElem_mem (l := b) (n := x - a.length) (by omega))
    rw [← e, hB p hp]; rfl
theorem above_not {B : List KV} {key : Bytes} (h : Above B key) : ∀ p ∈ B, blt p.key key = false := fun p hp => blt_asymm (h p hp)
theorem hitAt_none {m : Mem} {a b : List Cell} {A B : List KV} {qa qb : List Nat} {key : Bytes} (ha : Cat (Item m 0) a A qa) (hb : Cat (Item m 0) b B qb) (hA : Below A key) (hB : Above B key) : neAt (a ++ b) key = a.length ∧ hitAt (a ++ b) key = none := by
  have hn := neAt_cut ha hb hA (above_not hB)
  refine ⟨hn, ?_⟩
  unfold hitAt
  rw [hn, List.getElem?_append_right (Nat.le_refl _), Nat.sub_self]
  cases b with
  | nil => rfl
  | cons e b =>
    obtain ⟨p, hp, e1⟩ := hb.mem_key e (.head _)
    have := blt_ne (hB p hp)
    rw [e1] at this
    simp only [List.getElem?_cons_zero]
    rw [if_neg (fun h => this h.symm)]
theorem hitAt_some {m : Mem} {a b : List Cell} {e : Cell} {A B : List KV} {v : Bytes} {qa qb : List Nat} {key : Bytes} (ha : Cat (Item m 0) a A qa) (hb : Cat (Item m 0) (e :: b) (⟨key, v⟩ :: B) qb) (hA : Below A key) (hB : Above B key) (hk : e.key = key) : neAt (a ++ e :: b) key = a.length ∧ hitAt (a ++ e :: b) key = some e := by
  have hn := neAt_cut ha hb hA (fun p hp => by
    rcases List.mem_cons.1 hp with rfl | hp
    · exact blt_irrefl _
    · exact above_not hB p hp)
  refine ⟨hn, ?_⟩
  unfold hitAt
  rw [hn, List.getElem?_append_right (Nat.le_refl _), Nat.sub_self]
  simp [hk]
theorem cut_hit {m : Mem} {cs : List Cell} {A B : List KV} {key v : Bytes} {q : List Nat} (h : Cat (Item m 0) cs (A ++ ⟨key, v⟩ :: B) q) : ∃ a e b qa qe qb, cs = a ++ e :: b ∧ q = qa ++ (qe ++ qb) ∧ Cat (Item m 0) a A qa ∧ Cat (Item m 0) (e :: b) (⟨key, v⟩ :: B) (qe ++ qb) ∧ e.key = key ∧ ValOf m e v qe ∧ Cat (Item m 0) b B qb := by
  obtain ⟨a, r, qa, qr, rfl, rfl, ha, hr⟩ := h.cut0
  cases r with
  | nil => cases hr.1
  | cons e b =>
    have hr' := hr
    obtain ⟨L1, L2, q1, q2, hL, rfl, h3, h4⟩ := hr
    obtain ⟨hf, v', rfl, hvl, hv⟩ := h3
    simp only [List.cons_append, List.nil_append, List.cons.injEq, KV.mk.injEq] at hL
    obtain ⟨⟨h5, h6⟩, h7⟩ := hL
    subst h7
    subst h6
    exact ⟨a, e, b, qa, q1, q2, rfl, rfl, ha, hr', h5.symm, hv, h4⟩
theorem putE_spec {m : Mem} {key value : Bytes} {cl : Cell} {qv : List Nat} (hm : 480 ≤ m.size) (hc : Item m 0 cl [⟨key, value⟩] qv) : EdSpec m (putE key cl) (fun L => putK L key value) qv False := by
  intro cs L q h hs
  right
  have hlen := fit_len (room := m.size - 8) (by omega) hc.fit
  rw [decide_eq_true rfl] at hlen
  unfold cmax at hlen
  rw [if_pos rfl] at hlen
  obtain ⟨A, B, hA, hB, _, h4⟩ := cutK L key hs
  rcases h4 with ⟨_, rfl⟩ | ⟨v0, _, rfl⟩
  · obtain ⟨a, b, qa, qb, rfl, rfl, ha, hb⟩ := h.cut0
    obtain ⟨hn, hh⟩ := hitAt_none ha hb hA hB
    unfold putE
    rw [hh, hn]
    dsimp only
    rw [List.take_left, List.drop_left, putK_new hA hB]
    refine ⟨rfl, fun h => h.elim, ?_, ?_, [], qa ++ (qv ++ qb), ha.app ((Cat.one hc).app hb), fun z => ?_, fun z => by simp, rfl⟩
    · simp only [sumC_app, List.singleton_append, sumC_cons]; omega
    · simp; omega
    · simp only [List.count_append, List.count_nil]; omega
  · obtain ⟨a, e, b, qa, qe, qb, rfl, rfl, ha, he, hk, hv, hb⟩ := cut_hit h
    obtain ⟨hn, hh⟩ := hitAt_some ha he hA hB hk
    unfold putE
    rw [hh, hn]
    dsimp only
    rw [List.take_left, List.drop_append, List.drop_eq_nil_of_le (by omega), show a.length + 1 - a.length = 1 by omega, putK_hit hA]
    refine ⟨rfl, fun h => h.elim, ?_, ?_, qe, qa ++ (qv ++ qb), ha.app ((Cat.one hc).app hb), fun z => ?_, fun z => ?_, v0, hv⟩
    · simp only [sumC_app, List.singleton_append, sumC_cons, List.nil_append, List.drop_succ_cons, List.drop_zero]; omega
    · simp
    · simp only [List.count_append]; omega
    · simp only [List.count_append]; omega
theorem delE_spec {m : Mem} {key : Bytes} (hm : 480 ≤ m.size) : EdSpec m (delE key) (fun L => delK L key) [] True := by
  intro cs L q h hs
  have ht : (m.size - 8).tdiv 8 = (m.size - 8) / 8 := Int.tdiv_eq_ediv_of_nonneg (by omega)
  obtain ⟨A, B, hA, hB, _, h4⟩ := cutK L key hs
  rcases h4 with ⟨hi, rfl⟩ | ⟨v0, _, rfl⟩
  · left
    obtain ⟨a, b, qa, qb, rfl, rfl, ha, hb⟩ := h.cut0
    obtain ⟨hn, hh⟩ := hitAt_none ha hb hA hB
    unfold delE
    rw [hh]
    exact ⟨rfl, delK_none hi, rfl⟩
  · right
    obtain ⟨a, e, b, qa, qe, qb, rfl, rfl, ha, he, hk, hv, hb⟩ := cut_hit h
    obtain ⟨hn, hh⟩ := hitAt_some ha he hA hB hk
    unfold delE
    rw [hh, hn]
    dsimp only
    rw [List.take_left, List.drop_append, List.drop_eq_nil_of_le (by omega), show a.length + 1 - a.length = 1 by omega, delK_hit hA]
    refine ⟨rfl, fun _ => ⟨fun e => (by have := congrArg List.length e; simp at this), fun e => (by cases e)⟩, ?_, ?_, qe, qa ++ qb, ha.app hb, fun z => ?_, fun z => ?_, ?_⟩
    · simp only [sumC_app, sumC_cons, List.nil_append, List.drop_succ_cons, List.drop_zero]; omega
    · simp; omega
    · simp only [List.count_append, List.count_nil]; omega
    · simp only [List.count_append]; omega
    · unfold ValOf at hv
      by_cases hp : e.page = 0
      · rw [if_pos hp] at hv
        exact ⟨[], by unfold ValOf; rw [if_pos hp]; exact ⟨rfl, hv.2⟩⟩
      · rw [if_neg hp] at hv
        exact ⟨v0, by unfold ValOf; rw [if_neg hp]; exact hv⟩
theorem putK_loc (key v : Bytes) : Loc (fun L => putK L key v) key := ⟨fun A M B hA hB => by rw [putK_below hA, putK_above hB], fun _ h => putK_srt h⟩
theorem delK_loc (key : Bytes) : Loc (fun L => delK L key) key := ⟨fun A M B hA hB => by rw [delK_below hA, delK_above hB], fun _ h => delK_srt h⟩
end Go.KX

/- Plain: what Put and Delete come to. No program in sight. -/
namespace Go.KX
/-! ### Numbers by their order -/
theorem mem_insI {x y : Int} {l : List Int} : y ∈ insI x l ↔ y = x ∨ y ∈ l := by
  induction l with
  | nil => simp [insI]
  | cons a l ih =>
    unfold insI
    split
    · simp
    · simp only [List.mem_cons, ih]
      constructor
      · rintro (h | h | h) <;> simp [h]
      · rintro (h | h | h) <;> simp [h]
theorem mem_sortI {y : Int} {l : List Int} : y ∈ sortI l ↔ y ∈ l := by
  induction l with
  | nil => simp [sortI]
  | cons a l ih =>
    rw [show sortI (a :: l) = insI a (sortI l) from rfl, mem_insI, ih]; simp
theorem insI_le {x : Int} {l : List Int} (h : l.Pairwise (· ≤ ·)) : (insI x l).Pairwise (· ≤ ·) := by
  induction l with
  | nil => simp [insI]
  | cons a l ih =>
    have hp := List.pairwise_cons.1 h
    unfold insI
    split
    · rename_i hx
      refine List.pairwise_cons.2 ⟨fun b hb => ?_, h⟩
      rcases List.mem_cons.1 hb with rfl | hb
      · exact hx
      · have := hp.1 b hb; omega
    · rename_i hx
      refine List.pairwise_cons.2 ⟨fun b hb => ?_, ih hp.2⟩
      rcases mem_insI.1 hb with rfl | hb
      · omega
      · exact hp.1 b hb
theorem sortI_le : ∀ l : List Int, (sortI l).Pairwise (· ≤ ·)
  | [] => List.Pairwise.nil
  | _ :: l => insI_le (sortI_le l)
theorem cmpP_ok : ∀ (l : List Int) (p : Int), (p :: l).Pairwise (· ≤ ·) → (p :: cmpP p l).Pairwise (· < ·) ∧ ∀ x, x ∈ cmpP p l ∨ x = p ↔ x ∈ l ∨ x = p
  | [], p, _ => by simp [cmpP]
  | b :: l, p, h => by
    have hp := List.pairwise_cons.1 h
    have hp2 := List.pairwise_cons.1 hp.2
    unfold cmpP
    by_cases hb : b = p
    · subst hb
      rw [if_pos rfl]
      obtain ⟨i1, i2⟩ := cmpP_ok l b hp.2
      refine ⟨i1, fun x => ?_⟩
      rw [i2]; simp only [List.mem_cons]
      constructor
      · rintro (h | h) <;> simp [h]
      · rintro ((h | h) | h) <;> simp [h]
    · rw [if_neg hb]
      obtain ⟨i1, i2⟩ := cmpP_ok l b hp.2
      have hlt : p < b := by have := hp.1 b (.head _); omega
      refine ⟨List.pairwise_cons.2 ⟨fun x hx => ?_, i1⟩, fun x => ?_⟩
      · rcases List.mem_cons.1 hx with rfl | hx
        · exact hlt
        · have := (List.pairwise_cons.1 i1).1 x hx; omega
      · have := i2 x
        simp only [List.mem_cons]
        constructor
        · rintro ((h | h) | h)
          · simp [h]
          · rcases this.1 (.inl h) with h | h <;> simp [h]
          · simp [h]
        · rintro ((h | h) | h)
          · simp [h]
          · rcases this.2 (.inl h) with h | h <;> simp [h]
          · simp [h]
theorem cmpI_ok {l : List Int} (h : l.Pairwise (· ≤ ·)) : (cmpI l).Pairwise (· < ·) ∧ ∀ x, x ∈ cmpI l ↔ x ∈ l := by
  cases l with
  | nil => simp [cmpI]
  | cons a l =>
    obtain ⟨h1, h2⟩ := cmpP_ok l a h
    refine ⟨h1, fun x => ?_⟩
    have := h2 x
    unfold cmpI
    simp only [List.mem_cons]
    constructor
    · rintro (h | h)
      · exact .inl h
      · rcases this.1 (.inl h) with h | h <;> simp [h]
    · rintro (h | h)
      · exact .inl h
      · rcases this.2 (.inl h) with h | h <;> simp [h]
theorem sortI_lt {l : List Int} (h : l.Nodup) : (sortI l).Pairwise (· < ·) := by
  have key : ∀ (x : Int) (l : List Int), l.Pairwise (· < ·) → x ∉ l → (insI x l).Pairwise (· < ·) := by
    intro x l
    induction l with
    | nil => intro _ _; simp [insI]
    | cons a l ih =>
      intro hl hx
      have hp := List.pairwise_cons.1 hl
      simp only [List.mem_cons, not_or] at hx
      unfold insI
      split
      · refine List.pairwise_cons.2 ⟨fun b hb => ?_, hl⟩
        rcases List.mem_cons.1 hb with rfl | hb
        · omega
        · have := hp.1 b hb; omega
      · refine List.pairwise_cons.2 ⟨fun b hb => ?_, ih hp.2 hx.2⟩
        rcases mem_insI.1 hb with rfl | hb
        · omega
        · exact hp.1 b hb
  induction l with
  | nil => exact List.Pairwise.nil
  | cons a l ih =>
    have hn := List.nodup_cons.1 h
    exact key a _ (ih hn.2) (fun hm => hn.1 (mem_sortI.1 hm))
/-! ### A turn -/
structure MemW (m : Mem) : Prop where
  size : 480 ≤ m.size
  most : m.most ≤ 1048576
  le : LE m
inductive TnRes (m : Mem) (t : Tree) (L : List KV) (q : List Nat) (fL : List KV) (qv : List Nat) (w : Prop) (r : Tn) : Prop
  | same (he : r.e = 0) (ht : r.t = t) (hg : r.gone = []) (ho : r.old = none) (hL : fL = L) (gr : r.m = m) : TnRes m t L q fL qv w r
  | full (he : r.e = 5) (gr : Gr m r.m) (hm : m.most < m.pages.length + 200) : TnRes m t L q fL qv w r
  | done (he : r.e = 0) (hx : w → fL ≠ L ∧ r.old ≠ none) (gr : Gr m r.m) (hp : r.m.pages.length ≤ m.pages.length + 200) (left new qo q' : List Nat) (hg : ∀ x : Int, x ∈ r.gone ↔ ∃ a ∈ left, ((a : Nat) : Int) = x) (hst : Stands r.m r.t fL q') (hn : New m r.m new)
      (hcnt : ∀ a, q'.count a + qo.count a + left.count a = q.count a + qv.count a + new.count a) (hle : ∀ a, left.count a + qo.count a ≤ q.count a) (ho : OldRel r.m r.old qo) : TnRes m t L q fL qv w r
theorem chgT_LE {E : Edit} {m : Mem} {t : Tree} {key : Bytes} (h : LE m) : LE (chgT E m t key).m := by
  unfold chgT
  split
  · exact h
  · exact changeN_LE _ _ _ _ h
theorem Cat.empty {R : Cell → List KV → List Nat → Prop} {L : List KV} {q : List Nat} (h : Cat R [] L q) : L = [] ∧ q = [] := h
theorem chgT_done {E : Edit} {key : Bytes} {f : List KV → List KV} {qv : List Nat} {w : Prop} (hf : Loc f key) {m : Mem} (hm : MemW m) (hE : EdSpec m E f qv w) {t : Tree} {L : List KV} {q : List Nat} (h : Stands m t L q) (hs : Srt L) (hnd : q.Nodup) :
    ∃ d, depthT t = d + 1 ∧ d ≤ 63 ∧ t.keys = (L.length : Int) ∧ rightT t = true ∧ ChRes m [] d L q (f L) qv w (chgT E m t key) := by
  have h1 := hm.size
  have h2 := hm.most
  cases h with
  | none ht hL hq =>
    subst ht; subst hL; subst hq
    refine ⟨0, rfl, by omega, rfl, rfl, ?_⟩
    unfold chgT
    rw [if_pos (show tree0.root = 0 from rfl)]
    have ht : (m.size - 8).tdiv 8 = (m.size - 8) / 8 := Int.tdiv_eq_ediv_of_nonneg (by omega)
    rcases hE [] [] [] ⟨rfl, rfl⟩ List.Pairwise.nil with ⟨e1, e2, e3⟩ | ⟨e1, e0, e2, e3, qo, q', e4, e5, e6, e7⟩
    · exact .same e1 e2 e3 rfl
    · refine .done e1 e0 (.refl m) (Nat.le_refl _) e3 [] [] qo q' rfl e4 (.nil _ _) (fun a => ?_) (fun a => ?_) e7 ?_ (fun h => absurd rfl h)
      · have := e5 a; simp only [List.count_nil] at this ⊢; omega
      · have := e6 a; simp only [List.count_nil] at this ⊢; omega
      · have hz : sumC [] true = 0 := rfl
        rw [hz] at e2
        rw [decide_eq_true rfl]
        dsimp only
        omega
  | some d n hr hd hk hn h0 hd64 h =>
    have hdp : depthT t = d + 1 := by unfold depthT; omega
    refine ⟨d, hdp, by omega, hk, rightT_some hr hd hk hn h0 hd64, ?_⟩
    unfold chgT
    rw [if_neg (by omega), hdp, hr]
    exact changeN_done hf h1 (by omega) hE d n L q [] h hs hnd (fun p _ => rfl)
theorem turnN_done {E : Edit} {key : Bytes} {f : List KV → List KV} {qv : List Nat} {w : Prop} (hf : Loc f key) {m : Mem} (hm : MemW m) (hE : EdSpec m E f qv w) {t : Tree} {L : List KV} {q : List Nat} (h : Stands m t L q) (hs : Srt L) (hnd : q.Nodup)
    (hk0 : key ≠ []) (hk1 : key.length ≤ 64) (hfl : (f L).length ≤ 1000000) : TnRes m t L q (f L) qv w (turnN E m t key) ∧ ((turnN E m t key).e ≠ 0 → (turnN E m t key).t = tree0 ∧ (turnN E m t key).gone = []) := by
  have h1 := hm.size
  have h2 := hm.most
  have hle := chgT_LE (E := E) (t := t) (key := key) hm.le
  obtain ⟨d, e1, e2, e3, e4, e5⟩ := chgT_done hf hm hE h hs hnd
  unfold turnN
  rw [if_neg (by omega), if_neg (fun hn => hn ⟨hk0, hk1⟩), if_neg (by rw [e4]; decide), e1]
  revert e5 hle
  generalize chgT E m t key = r
  intro hle hr
  unfold rootT
  cases hr with
  | same he hL ho gr => rw [if_pos he]; exact ⟨.same rfl rfl rfl ho hL gr, fun h => absurd rfl h⟩
  | full he gr hmost => rw [if_neg (by omega), if_pos (by omega)]; exact ⟨.full he gr (by omega), fun _ => ⟨rfl, rfl⟩⟩
  | done he hx gr hp hmore left new qo q' hg hc hn hcnt hle' ho hss h0 =>
    rw [if_neg (by omega), if_neg (by omega)]
    have hkk : IntKind.i64.wrap (t.keys + r.more) = ((f L).length : Int) := by
      rw [hmore, e3, show (L.length : Int) + ((f L).length - L.length) = (f L).length by omega]
      exact wrap_i64 (by omega) (by omega)
    have hgg : ∀ x : Int, x ∈ sortI (keysG r.g) ↔ ∃ a ∈ left, ((a : Nat) : Int) = x := fun x => by
      rw [mem_sortI, hg, keysG_noted]
      simp [keysG, intsQ]
    dsimp only
    rw [hkk]
    by_cases hl : r.l = []
    · rw [hl] at hc ⊢
      obtain ⟨c1, rfl⟩ := hc.empty
      have hz : rootN r.m [] (d + 1) = (r.m, 0, 0, 0) := rfl
      rw [hz, c1]
      dsimp only
      rw [if_neg (by simp), if_neg (by simp)]
      refine ⟨.done rfl (by rw [← c1]; exact hx) gr (by dsimp only; omega) left new qo [] hgg (.none rfl rfl rfl) hn hcnt hle' ho, fun h => absurd rfl h⟩
    · have hfl0 : f L ≠ [] := by
        intro e
        rw [e] at hc
        revert hc
        cases hrl : r.l with
        | nil => exact fun _ => hl hrl
        | cons c r' =>
          rintro ⟨L1, L2, q1, q2, hLL, _, h3, _⟩
          have hL := List.append_eq_nil_iff.1 hLL.symm
          exact h3.ne hL.1
      have hpos := List.length_pos_iff.2 hfl0
      have hroot := rootN_ok (depth := d + 1) (by rw [gr.size]; exact h1) (by rw [gr.most]; exact h2) hle hc (hf.srt _ hs) hl (by rw [gr.size]; exact hss) rfl
      revert hroot
      generalize rootN r.m r.l (d + 1) = z
      intro hroot
      by_cases hw : z.2.2.2 = 0
      · obtain ⟨e, n, q2, new2, a1, a2, a3, a4, a5, a6, a7⟩ := hroot.ok hw
        have hpow := a4.pow
        have he64 : e + 1 ≤ 64 := by
          refine Nat.le_of_not_lt fun hlt => ?_
          have : 2 ^ 20 ≤ 2 ^ e := Nat.pow_le_pow_right (by decide) (by omega)
          have h20 : (2 : Nat) ^ 20 = 1048576 := rfl
          omega
        rw [if_neg (by omega), if_neg (by omega)]
        refine ⟨.done rfl hx (gr.trans hroot.gr) (by dsimp only; omega) left (new ++ new2) qo q2 hgg (.some e n (by dsimp only; omega) (by dsimp only; omega) rfl a3 hpos he64 a4) (hn.app a5 gr.len hroot.gr.len) (fun x => ?_) hle' (ho.gr hroot.gr), fun h => absurd rfl h⟩
        have b1 := hcnt x
        have b2 := a6 x
        simp only [List.count_append]; omega
      · rw [if_pos hw]
        obtain ⟨a1, a2⟩ := hroot.err hw
        rw [gr.most] at a2
        exact ⟨.full (by dsimp only; omega) (gr.trans hroot.gr) (by omega), fun _ => ⟨rfl, rfl⟩⟩
theorem Stands.gr {m m' : Mem} (h : Gr m m') {t : Tree} {L : List KV} {q : List Nat} (hs : Stands m t L q) : Stands m' t L q := by
  cases hs with
  | none ht hL hq => exact .none ht hL hq
  | some d n hr hd hk hn h0 hd64 hrep => exact .some d n hr hd hk hn h0 hd64 (hrep.gr h)
/-! ### Put, Delete -/
inductive PtRes (m : Mem) (t : Tree) (L : List KV) (q : List Nat) (fL : List KV) (w : Prop) (r : Pt) : Prop
  | full (he : r.e = 5) (ht : r.t = tree0) (hg : r.gone = []) (gr : Gr m r.m) (hm : m.most < m.pages.length + 300) : PtRes m t L q fL w r
  | done (he : r.e = 0) (gr : Gr m r.m) (hp : r.m.pages.length ≤ m.pages.length + 300) (q' : List Nat) (hst : Stands r.m r.t fL q') (hnd : q'.Nodup) (hr : r.gone.Pairwise (· < ·)) (h1 : ∀ x ∈ r.gone, ∃ a ∈ q, ((a : Nat) : Int) = x ∧ a ∉ q') (h2 : ∀ a ∈ q, a ∈ q' ∨ ((a : Nat) : Int) ∈ r.gone)
      (h3 : ∀ a ∈ q', a ∈ q ∨ m.pages.length < a) (h4 : w → fL = L → r.t = t) : PtRes m t L q fL w r
theorem withoutN_ok {m : Mem} {t : Tree} {gone : List Int} {old : Option Cell} {qo : List Nat} (ho : OldRel m old qo) : ∃ gone', withoutN m t gone 0 old = (t, gone', 0) ∧ gone'.Pairwise (· < ·) ∧ ∀ x, x ∈ gone' ↔ x ∈ gone ∨ ∃ a ∈ qo, ((a : Nat) : Int) = x := by
  unfold withoutN
  rw [if_neg (by simp)]
  cases old with
  | none =>
    obtain ⟨a, b⟩ := cmpI_ok (sortI_le gone)
    obtain rfl : qo = [] := ho
    exact ⟨_, rfl, a, fun x => by rw [b, mem_sortI]; simp⟩
  | some c =>
    obtain ⟨v, hv⟩ := ho
    obtain ⟨g', m1, m2⟩ := metOK_drop qo []
    dsimp only
    rw [tellN_val hv m1]
    dsimp only
    rw [if_neg (by simp)]
    obtain ⟨a, b⟩ := cmpI_ok (sortI_le (gone ++ keysG g'))
    refine ⟨_, rfl, a, fun x => ?_⟩
    rw [b, mem_sortI, List.mem_append, m2]
    simp [keysG]
theorem ptRes_of {m m1 : Mem} {t : Tree} {L fL : List KV} {q qv : List Nat} {w : Prop} {r : Tn} (hq : ∀ a ∈ q, a ≤ m.pages.length) (hnd : q.Nodup) (g0 : Gr m m1) (hl0 : m1.pages.length ≤ m.pages.length + 100) (hv : New m m1 qv) (hst : Stands m t L q) (h : TnRes m1 t L q fL qv w r) (_he0 : r.e ≠ 0 → r.t = tree0 ∧ r.gone = []) :
    PtRes m t L q fL w ⟨r.m, (withoutN r.m r.t r.gone r.e r.old).1, (withoutN r.m r.t r.gone r.e r.old).2.1, (withoutN r.m r.t r.gone r.e r.old).2.2⟩ := by
  cases h with
  | full he gr hm =>
    have : withoutN r.m r.t r.gone r.e r.old = (tree0, [], r.e) := by unfold withoutN; rw [if_pos (by omega)]
    rw [this]
    rw [g0.most] at hm
    exact .full he rfl rfl (g0.trans gr) (by omega)
  | same he ht hg ho hL gr =>
    subst hL
    have : withoutN r.m r.t r.gone r.e r.old = (t, [], 0) := by rw [he, ho, hg, ht]; rfl
    rw [this]
    refine .done rfl (by rw [gr]; exact g0) (by dsimp only; rw [gr]; omega) q (by rw [gr]; exact hst.gr g0) hnd List.Pairwise.nil (fun x hx => by cases hx) (fun a ha => .inl ha) (fun a ha => .inl ha) (fun _ _ => rfl)
  | done he hx gr hp left new qo q' hg hst' hn hcnt hle ho =>
    obtain ⟨gone', e1, e2, e3⟩ := withoutN_ok (t := r.t) (gone := r.gone) ho
    rw [he, e1]
    have c1 := fun a => (List.nodup_iff_count.1 hnd) a
    have c2 := fun a => (List.nodup_iff_count.1 hn.nd) a
    have c3 := fun a => (List.nodup_iff_count.1 hv.nd) a
    have hqa : ∀ a, 0 < q.count a → a ≤ m.pages.length := fun a ha => hq a (mem_count.2 ha)
    have hva : ∀ a, 0 < qv.count a → m.pages.length < a ∧ a ≤ m1.pages.length := fun a ha => hv.lo a (mem_count.2 ha)
    have hna : ∀ a, 0 < new.count a → m1.pages.length < a := fun a ha => (hn.lo a (mem_count.2 ha)).1
    have g0l := g0.len
    refine .done rfl (g0.trans gr) (by dsimp only; omega) q' hst' (List.nodup_iff_count.2 fun a => ?_) e2 (fun x hx' => ?_) (fun a ha => ?_) (fun a ha => ?_) (fun hw hL => absurd hL (hx hw).1)
    · have a1 := hcnt a
      have a2 := hle a
      have a3 := c1 a
      have a4 := c2 a
      have a5 := c3 a
      rcases Nat.eq_zero_or_pos (q.count a) with b1 | b1
      · rcases Nat.eq_zero_or_pos (qv.count a) with b2 | b2
        · omega
        · rcases Nat.eq_zero_or_pos (new.count a) with b3 | b3
          · omega
          · have := hva a b2; have := hna a b3; omega
      · have := hqa a b1
        rcases Nat.eq_zero_or_pos (qv.count a) with b2 | b2
        · rcases Nat.eq_zero_or_pos (new.count a) with b3 | b3
          · omega
          · have := hna a b3; omega
        · have := hva a b2; omega
    · have key : ∃ a, (a ∈ left ∨ a ∈ qo) ∧ ((a : Nat) : Int) = x := by
        rcases (e3 x).1 hx' with h | ⟨a, ha, hax⟩
        · obtain ⟨a, ha, hax⟩ := (hg x).1 h
          exact ⟨a, .inl ha, hax⟩
        · exact ⟨a, .inr ha, hax⟩
      obtain ⟨a, hor, hax⟩ := key
      have a1 := hcnt a
      have a2 := hle a
      have a3 := c1 a
      have hpos : 0 < left.count a + qo.count a := by
        rcases hor with h | h
        · have := mem_count.1 h; omega
        · have := mem_count.1 h; omega
      have b1 : 0 < q.count a := by omega
      have := hqa a b1
      refine ⟨a, mem_count.2 b1, hax, fun hq' => ?_⟩
      have b4 := mem_count.1 hq'
      rcases Nat.eq_zero_or_pos (qv.count a) with b2 | b2
      · rcases Nat.eq_zero_or_pos (new.count a) with b3 | b3
        · omega
        · have := hna a b3; omega
      · have := hva a b2; omega
    · have a1 := hcnt a
      have a3 := mem_count.1 ha
      by_cases hz : 0 < q'.count a
      · exact .inl (mem_count.2 hz)
      · right
        rw [e3]
        by_cases hl : 0 < left.count a
        · exact .inl ((hg _).2 ⟨a, mem_count.2 hl, rfl⟩)
        · exact .inr ⟨a, mem_count.2 (by omega), rfl⟩
    · have a1 := hcnt a
      have a3 := mem_count.1 ha
      by_cases hz : 0 < q.count a
      · exact .inl (mem_count.2 hz)
      · right
        rcases Nat.eq_zero_or_pos (qv.count a) with b2 | b2
        · have := hna a (by omega); omega
        · exact (hva a b2).1
theorem Stands.le {m : Mem} {t : Tree} {L : List KV} {q : List Nat} (hs : Stands m t L q) : ∀ a ∈ q, a ≤ m.pages.length := by
  cases hs with
  | none ht hL hq => subst hq; intro a ha; cases ha
  | some d n hr hd hk hn h0 hd64 hrep => exact fun a ha => (hrep.in_ a ha).2
theorem cellN_val {m : Mem} (hm : MemW m) {key value : Bytes} (hk0 : key ≠ []) (hk1 : key.length ≤ 64) (hv : value.length ≤ 16384) :
    ((cellN m key value).2.2 = 0 → Gr m (cellN m key value).1 ∧ (cellN m key value).1.pages.length ≤ m.pages.length + 100 ∧ ∃ qv, New m (cellN m key value).1 qv ∧ Item (cellN m key value).1 0 (cellN m key value).2.1 [⟨key, value⟩] qv) ∧
    ((cellN m key value).2.2 ≠ 0 → Gr m (cellN m key value).1 ∧ (cellN m key value).2.2 = 5 ∧ m.most < m.pages.length + 100) ∧ LE (cellN m key value).1 := by
  have h1 := hm.size
  have h2 := hm.most
  obtain ⟨room, hroom⟩ : ∃ room : Nat, m.size - 8 = (room : Int) := ⟨(m.size - 8).toNat, by omega⟩
  have ht : ((room : Int)).tdiv 8 = (room : Int) / 8 := Int.tdiv_eq_ediv_of_nonneg (by omega)
  unfold cellN
  rw [hroom, ht]
  by_cases hl : (room : Int) / 8 < value.length
  · rw [if_pos hl]
    dsimp only
    unfold longN
    rw [hroom, tdiv_pred value.length (by omega), Int.toNat_natCast]
    have hk : ((((value.length - 1) / room : Nat) : Int) * (room : Int)) = (((value.length - 1) / room + 1 : Nat) : Int) * (room : Int) - (room : Int) := by
      push_cast; rw [Int.add_mul]; omega
    have hdm := Nat.div_add_mod (value.length - 1) room
    have hml := Nat.mod_lt (value.length - 1) (show 0 < room by omega)
    have hk35 : (value.length - 1) / room ≤ 35 := by
      refine Nat.le_of_lt_succ ((Nat.div_lt_iff_lt_mul (by omega)).2 ?_)
      omega
    have hkv : (value.length - 1) / room + 1 < value.length + 1 := by
      have := Nat.div_le_self (value.length - 1) room
      omega
    have hmul : room * ((value.length - 1) / room) = (value.length - 1) / room * room := Nat.mul_comm _ _
    have hle := longL_LE (room := (room : Int)) (value := value) (value.length + 1) m 0 ((((value.length - 1) / room : Nat) : Int) * (room : Int)) hm.le
    have hok := longL_ok (room := (room : Int)) (value := value) (by omega) ((value.length - 1) / room + 1) (value.length + 1) m 0 [] (by omega) (by omega) (fun q hq => by cases hq) List.nodup_nil
      ⟨rfl, by rw [Int.toNat_natCast]; exact List.drop_eq_nil_of_le (by rw [Nat.add_mul]; omega)⟩ (by omega) hkv (fun _ => by rw [Int.toNat_natCast, Nat.add_sub_cancel]; omega)
    rw [← hk] at hok
    revert hok hle
    generalize longL (room : Int) value (value.length + 1) m 0 ((((value.length - 1) / room : Nat) : Int) * (room : Int)) = r
    intro hle ⟨o1, o2, o3⟩
    refine ⟨fun he => ?_, fun he => ?_, hle⟩
    · obtain ⟨p1, new, p2, p3, p4⟩ := o2 he
      rw [List.append_nil] at p2
      have hsz := o1.size
      have hmo := o1.most
      unfold LE at hle
      have hpage : r.2.1 ≠ 0 ∧ r.2.1 ≤ 1073741824 := by
        cases new with
        | nil => simp at p3
        | cons p ps =>
          have hin := p2.in_ p (.head _)
          obtain ⟨q1, q2, _⟩ := p2
          omega
      refine ⟨o1, by omega, new, p4, ⟨hk0, hk1, fun h => absurd h hpage.1, fun _ => ⟨rfl, hv⟩, hpage.2⟩, value, rfl, hv, ?_⟩
      unfold ValOf
      rw [if_neg hpage.1]
      refine ⟨rfl, ?_, p2⟩
      unfold mostI
      rw [hsz, hroom, ht, if_pos hl, tdiv_pred value.length (by omega), Int.toNat_natCast]
      omega
    · obtain ⟨p1, p2⟩ := o3 he
      exact ⟨o1, p1, by omega⟩
  · rw [if_neg hl]
    refine ⟨fun _ => ⟨.refl m, by dsimp only; omega, [], .nil _ _, ⟨hk0, hk1, fun _ => ⟨rfl, hv, ?_⟩, fun h => absurd rfl h, by dsimp only; omega⟩, value, rfl, hv, ?_⟩, fun h => absurd rfl h, hm.le⟩
    · rw [hroom, ht]; dsimp only; omega
    · unfold ValOf; rw [if_pos rfl]; exact ⟨rfl, rfl⟩
theorem putK_len (L : List KV) (key v : Bytes) (h : Srt L) : L.length ≤ (putK L key v).length ∧ (putK L key v).length ≤ L.length + 1 := by
  obtain ⟨A, B, hA, hB, _, h4⟩ := cutK L key h
  rcases h4 with ⟨_, rfl⟩ | ⟨v0, _, rfl⟩
  · rw [putK_new hA hB]; simp; omega
  · rw [putK_hit hA]; simp
theorem delK_len (L : List KV) (key : Bytes) : (delK L key).length ≤ L.length := by
  unfold delK
  split
  · simp only [List.length_append, List.length_take, List.length_drop]; omega
  · exact Nat.le_refl _
theorem putN_done {m : Mem} (hm : MemW m) {t : Tree} {L : List KV} {q : List Nat} (h : Stands m t L q) (hs : Srt L) (hnd : q.Nodup) {key value : Bytes} (hk0 : key ≠ []) (hk1 : key.length ≤ 64) (hv : value.length ≤ 16384) (hL : L.length ≤ 100000) :
    PtRes m t L q (putK L key value) False (putN m t key value) := by
  have h1 := hm.size
  have hrt : rightT t = true := by
    cases h with
    | none ht hL hq => subst ht; rfl
    | some d n hr hd hk hn h0 hd64 hrep => exact rightT_some hr hd hk hn h0 hd64
  obtain ⟨c1, c2, c3⟩ := cellN_val hm hk0 hk1 hv
  unfold putN
  rw [if_neg (by omega), if_neg (by rintro (e | e); exact e ⟨hk0, hk1⟩; omega), if_neg (by rw [hrt]; decide)]
  dsimp only
  revert c1 c2 c3
  generalize cellN m key value = c
  intro c1 c2 c3
  by_cases he : c.2.2 = 0
  · rw [if_neg (by omega)]
    obtain ⟨g0, l0, qv, nv, hit⟩ := c1 he
    have hm1 : MemW c.1 := ⟨by rw [g0.size]; exact h1, by rw [g0.most]; exact hm.most, c3⟩
    have hlen := putK_len L key value hs
    obtain ⟨t1, t2⟩ := turnN_done (putK_loc key value) hm1 (putE_spec hm1.size hit) (h.gr g0) hs hnd hk0 hk1 (by omega)
    exact ptRes_of h.le hnd g0 l0 nv h t1 t2
  · rw [if_pos he]
    obtain ⟨g0, e5, l0⟩ := c2 he
    exact .full (by dsimp only; omega) rfl rfl g0 (by omega)
theorem delN_done {m : Mem} (hm : MemW m) {t : Tree} {L : List KV} {q : List Nat} (h : Stands m t L q) (hs : Srt L) (hnd : q.Nodup) {key : Bytes} (hk0 : key ≠ []) (hk1 : key.length ≤ 64) (hL : L.length ≤ 100000) :
    PtRes m t L q (delK L key) True (delN m t key) := by
  have hlen := delK_len L key
  obtain ⟨t1, t2⟩ := turnN_done (delK_loc key) hm (delE_spec hm.size) h hs hnd hk0 hk1 (by omega)
  have hpt := ptRes_of h.le hnd (.refl m) (by omega) (.nil m m) h t1 t2
  unfold delN
  dsimp only
  by_cases he : (turnN (delE key) m t key).e ≠ 0
  · rw [if_pos he]
    have hw : withoutN (turnN (delE key) m t key).m (turnN (delE key) m t key).t (turnN (delE key) m t key).gone (turnN (delE key) m t key).e (turnN (delE key) m t key).old = (tree0, [], (turnN (delE key) m t key).e) := by unfold withoutN; rw [if_pos he]
    rw [hw] at hpt
    rw [(t2 he).1, (t2 he).2]
    exact hpt
  · rw [if_neg he]
    revert hpt t1
    cases ho : (turnN (delE key) m t key).old with
    | none =>
      intro t1 hpt
      dsimp only
      have he0 : (turnN (delE key) m t key).e = 0 := by omega
      cases t1 with
      | full he5 _ _ => omega
      | same he' ht hg ho' hL' gr =>
        have hw : withoutN (turnN (delE key) m t key).m (turnN (delE key) m t key).t (turnN (delE key) m t key).gone (turnN (delE key) m t key).e none = (t, [], 0) := by rw [he', hg, ht]; rfl
        rw [hw] at hpt
        rw [he', hg, ht]
        exact hpt
      | done he' hx gr hp left new qo q' hg hst hn hcnt hle ho' =>
        exact absurd ho (hx trivial).2
    | some c =>
      intro t1 hpt
      exact hpt
end Go.KX

/- Plain: how many pages a tree has, how deep it is; lists of the same pairs. No program in sight. -/
namespace Go.KX
def mostS (L : List KV) (room : Int) : Int := (L.map fun p => mostI room p.value.length).sum
theorem mostS_app (A B : List KV) (room : Int) : mostS (A ++ B) room = mostS A room + mostS B room := by simp [mostS]
theorem mostI_nn (room : Int) (h : 16 ≤ room) (v : Nat) : 0 ≤ mostI room v := by
  unfold mostI
  split
  · rename_i hh
    have h1 : 0 ≤ (room - 8).tdiv 8 := Int.tdiv_nonneg (by omega) (by omega)
    have := Int.tdiv_nonneg (a := (v : Int) - 1) (b := room - 8) (by omega) (by omega)
    omega
  · exact Int.le_refl _
theorem item0_few {m : Mem} (hm : 480 ≤ m.size) {c : Cell} {L : List KV} {q : List Nat} (h : Item m 0 c L q) : (q.length : Int) ≤ mostS L m.size := by
  obtain ⟨_, v, rfl, _, hv⟩ := h
  have h0 := mostI_nn m.size (by omega) v.length
  unfold ValOf at hv
  simp only [mostS, List.map_cons, List.map_nil, List.sum_cons, List.sum_nil]
  split at hv
  · rw [hv.2]; simp; exact h0
  · have := hv.2.1; omega
theorem cat0_few {m : Mem} (hm : 480 ≤ m.size) : ∀ {l : List Cell} {L : List KV} {q : List Nat}, Cat (Item m 0) l L q → (q.length : Int) ≤ mostS L m.size ∧ l.length = L.length
  | [], _, _, ⟨rfl, rfl⟩ => ⟨by simp [mostS], rfl⟩
  | c :: r, _, _, ⟨L1, L2, q1, q2, rfl, rfl, h3, h4⟩ => by
    have h1 := item0_few hm h3
    have h2 := cat0_few hm h4
    obtain ⟨_, v, rfl, _, _⟩ := h3
    rw [mostS_app]
    simp only [List.length_append, List.length_cons, List.length_nil] at *
    exact ⟨by omega, by omega⟩
theorem Rep.few {m : Mem} (hm : 480 ≤ m.size) : ∀ {d n : Nat} {L : List KV} {q : List Nat}, Rep m d n L q → (q.length : Int) + 1 ≤ 2 * (L.length : Int) + mostS L m.size
  | 0, n, L, q, ⟨cs, qs, h1, h2, h3, h4, h5⟩ => by
    subst h2
    have h6 := List.length_pos_iff.2 (loadN_ne h1)
    have h7 := cat0_few hm h3
    simp only [List.length_cons]; omega
  | d + 1, n, L, q, ⟨cs, qs, h1, h2, h3, h4, h5⟩ => by
    subst h2
    have h6 := h5 (by simp)
    have key : ∀ (l : List Cell) (L : List KV) (q : List Nat), Cat (Item m (d + 1)) l L q → (q.length : Int) + l.length ≤ 2 * (L.length : Int) + mostS L m.size := by
      intro l
      induction l with
      | nil => rintro L q ⟨rfl, rfl⟩; simp [mostS]
      | cons c r ih =>
        rintro _ _ ⟨L1, L2, q1, q2, rfl, rfl, h3, h4⟩
        have a := ih _ _ h4
        have b := Rep.few hm h3.2.2.2
        rw [mostS_app]
        simp only [List.length_append, List.length_cons] at *
        omega
    have := key cs L qs h3
    simp only [List.length_cons]; omega
theorem Stands.few {m : Mem} (hm : 480 ≤ m.size) {t : Tree} {L : List KV} {q : List Nat} (h : Stands m t L q) : (q.length : Int) ≤ mostN L m.size := by
  have e : mostN L m.size = 2 * (L.length : Int) + mostS L m.size := rfl
  rw [e]
  cases h with
  | none ht hL hq => subst hL; subst hq; simp [mostS]
  | some d n hr hd hk hn h0 hd64 hrep => have := hrep.few hm; omega
theorem deepL_ge : ∀ (e f : Nat) (keys : Int) (n : Nat), e ≤ f → ((2 ^ e : Nat) : Int) ≤ keys → n + e ≤ deepL f keys n
  | e, 0, keys, n, h, _ => by unfold deepL; omega
  | 0, f + 1, keys, n, h, hk => by
    unfold deepL
    split
    · have h2 : (1 : Int) ≤ keys / 2 := by omega
      have := deepL_ge 0 f (keys / 2) (n + 1) (by omega) (by simpa using h2)
      omega
    · omega
  | e + 1, f + 1, keys, n, h, hk => by
    have h2 : ((2 ^ e : Nat) : Int) ≤ keys / 2 := by rw [Nat.pow_succ] at hk; omega
    have hp : 1 ≤ 2 ^ e := Nat.one_le_two_pow
    unfold deepL
    rw [if_pos (by omega)]
    have := deepL_ge e f (keys / 2) (n + 1) (by omega) h2
    omega
theorem Stands.deep {m : Mem} {t : Tree} {L : List KV} {q : List Nat} (h : Stands m t L q) : t.deep ≤ (deepN L.length : Int) ∧ (L = [] → t = tree0) := by
  cases h with
  | none ht hL hq => subst ht; subst hL; exact ⟨by decide, fun _ => rfl⟩
  | some d n hr hd hk hn h0 hd64 hrep =>
    have hp := hrep.pow
    have hlt : d < 2 ^ d := Nat.lt_two_pow_self
    have := deepL_ge d (L.length + 1) (L.length : Int) 2 (by omega) (by exact_mod_cast hp)
    refine ⟨?_, fun e => by rw [e] at h0; cases h0⟩
    unfold deepN
    omega
/-! ### Lists of the same pairs -/
theorem srt_ext : ∀ {A B : List KV}, Srt A → Srt B → (∀ p, p ∈ A ↔ p ∈ B) → A = B
  | [], [], _, _, _ => rfl
  | [], b :: B, _, _, h => absurd ((h b).2 (.head _)) (by simp)
  | a :: A, [], _, _, h => absurd ((h a).1 (.head _)) (by simp)
  | a :: A, b :: B, ha, hb, h => by
    have pa := List.pairwise_cons.1 ha
    have pb := List.pairwise_cons.1 hb
    have hab : a = b := by
      rcases List.mem_cons.1 ((h a).1 (.head _)) with e | e
      · exact e
      · rcases List.mem_cons.1 ((h b).2 (.head _)) with e' | e'
        · exact e'.symm
        · have := blt_trans (pb.1 a e) (pa.1 b e')
          rw [blt_irrefl] at this; cases this
    subst hab
    congr 1
    refine srt_ext pa.2 pb.2 (fun p => ⟨fun hp => ?_, fun hp => ?_⟩)
    · rcases List.mem_cons.1 ((h p).1 (.tail _ hp)) with e | e
      · subst e; have := pa.1 p hp; rw [blt_irrefl] at this; cases this
      · exact e
    · rcases List.mem_cons.1 ((h p).2 (.tail _ hp)) with e | e
      · subst e; have := pb.1 p hp; rw [blt_irrefl] at this; cases this
      · exact e
theorem mem_putK {L : List KV} (h : Srt L) {key v : Bytes} {p : KV} : p ∈ putK L key v ↔ p = ⟨key, v⟩ ∨ (p ∈ L ∧ p.key ≠ key) := by
  obtain ⟨A, B, hA, hB, _, h4⟩ := cutK L key h
  have ha : ∀ p ∈ A, p.key ≠ key := fun p hp => blt_ne (hA p hp)
  have hb : ∀ p ∈ B, p.key ≠ key := fun p hp e => blt_ne (hB p hp) e.symm
  rcases h4 with ⟨_, rfl⟩ | ⟨v0, _, rfl⟩
  · rw [putK_new hA hB]
    simp only [List.mem_append, List.mem_cons]
    constructor
    · rintro (h | h | h)
      · exact .inr ⟨.inl h, ha p h⟩
      · exact .inl h
      · exact .inr ⟨.inr h, hb p h⟩
    · rintro (h | ⟨h | h, _⟩) <;> simp [h]
  · rw [putK_hit hA]
    simp only [List.mem_append, List.mem_cons]
    constructor
    · rintro (h | h | h)
      · exact .inr ⟨.inl h, ha p h⟩
      · exact .inl h
      · exact .inr ⟨.inr (.inr h), hb p h⟩
    · rintro (h | ⟨h | h | h, hk⟩)
      · simp [h]
      · simp [h]
      · subst h; exact absurd rfl hk
      · simp [h]
theorem isAt_iff {L : List KV} (h : Srt L) {key : Bytes} : isAt L key = true ↔ ∃ p ∈ L, p.key = key := by
  obtain ⟨A, B, hA, hB, _, h4⟩ := cutK L key h
  rcases h4 with ⟨hi, rfl⟩ | ⟨v0, hi, rfl⟩
  · rw [hi]
    refine ⟨fun e => (by cases e), fun ⟨p, hp, e⟩ => ?_⟩
    rcases List.mem_append.1 hp with hp | hp
    · exact absurd e (blt_ne (hA p hp))
    · exact absurd e.symm (blt_ne (hB p hp))
  · rw [hi]; exact ⟨fun _ => ⟨⟨key, v0⟩, by simp, rfl⟩, fun _ => rfl⟩
theorem getK_isAt (L : List KV) (key : Bytes) : (getK L key).2 = isAt L key := by
  unfold getK isAt
  cases L[findK L key]? with
  | none => rfl
  | some p =>
    dsimp only
    by_cases h : p.key = key
    · simp [h]
    · simp [h]
theorem delK_putK {L : List KV} (h : Srt L) {key v : Bytes} (hn : isAt L key = false) : delK (putK L key v) key = L := by
  obtain ⟨A, B, hA, hB, _, h4⟩ := cutK L key h
  rcases h4 with ⟨hi, rfl⟩ | ⟨v0, hi, rfl⟩
  · rw [putK_new hA hB, delK_hit hA]
  · rw [hi] at hn; cases hn
theorem isAt_delK {L : List KV} (h : Srt L) {key : Bytes} : isAt (delK L key) key = false := by
  obtain ⟨A, B, hA, hB, _, h4⟩ := cutK L key h
  rcases h4 with ⟨hi, rfl⟩ | ⟨v0, hi, rfl⟩
  · rw [delK_none hi]; exact hi
  · rw [delK_hit hA, isAt_below hA]
    have := isAt_above hB []
    rw [List.nil_append] at this
    rw [this]; rfl
theorem delK_head {p : KV} {L : List KV} (h : Srt (p :: L)) : delK (p :: L) p.key = L := by
  have hp := List.pairwise_cons.1 h
  have := delK_hit (A := []) (B := L) (key := p.key) (v0 := p.value) (.nil _)
  exact this
end Go.KX

/- Plain: acts one behind the other. No program in sight. -/
namespace Go.KX
structure Ac where
  kind : Int
  key : Bytes
  value : Bytes
def encAc (a : Ac) : List Value := [.int .i64 a.kind, str a.key, str a.value]
def elAc : El Ac := ⟨3, encAc, fun _ => rfl, by decide, fun _ u h => by simp [encAc] at h; rcases h with rfl | rfl | rfl <;> rfl⟩
def rightA (a : Ac) : Bool := if a.kind = 0 then rightKV a.key a.value else rightKV a.key []
def doesN (m : Mem) (t : Tree) (a : Ac) : Pt := if a.kind = 0 then putN m t a.key a.value else delN m t a.key
def modelK (l : List KV) (a : Ac) : List KV := if a.kind = 0 then putK l a.key a.value else delK l a.key
theorem doesN_ok {m : Mem} (h : MOL m) (t : Tree) (a : Ac) : MOL (doesN m t a).m ∧ (doesN m t a).m.size = m.size ∧ (doesN m t a).m.most = m.most := by
  unfold doesN
  split
  · exact ⟨(putN_ok h t _ _).1, (putN_ok h t _ _).2.1, (putN_ok h t _ _).2.2.1⟩
  · exact ⟨(delN_ok h t _).1, (delN_ok h t _).2.1, (delN_ok h t _).2.2.1⟩
theorem doesN_LE {m : Mem} (h : LE m) (t : Tree) (a : Ac) : LE (doesN m t a).m := by
  unfold doesN
  split
  · exact putN_LE h
  · exact delN_LE h
theorem rightKV_of {k v : Bytes} (h : rightKV k v = true) : k ≠ [] ∧ k.length ≤ 64 ∧ v.length ≤ 16384 := by
  unfold rightKV at h
  have := of_decide_eq_true h
  refine ⟨fun e => by rw [e] at this; simp at this, by omega, by omega⟩
theorem rightA_key {a : Ac} (h : rightA a = true) : a.key ≠ [] ∧ a.key.length ≤ 64 := by
  unfold rightA at h
  split at h
  · exact ⟨(rightKV_of h).1, (rightKV_of h).2.1⟩
  · exact ⟨(rightKV_of h).1, (rightKV_of h).2.1⟩
/-- How it stands behind so many acts. -/
structure At (room most : Int) (i : Nat) (m : Mem) (t : Tree) (w : List KV) : Prop where
  mol : MOL m
  size : m.size = room
  most : m.most = most
  le : LE m
  st : ∃ q, Stands m t w q ∧ q.Nodup
  srt : Srt w
  len : w.length ≤ i
theorem At.memW {room most : Int} {i : Nat} {m : Mem} {t : Tree} {w : List KV} (h : At room most i m t w) (hr : 480 ≤ room) (hm : most ≤ 1048576) : MemW m := ⟨by rw [h.size]; exact hr, by rw [h.most]; exact hm, h.le⟩
theorem At.start {room most : Int} (hr : room ≤ 4000) (hm : 0 ≤ most) (hm2 : most ≤ 1048576) : At room most 0 ⟨[], most, room⟩ tree0 [] :=
  ⟨⟨⟨Nat.zero_le _, fun p hp => by cases hp⟩, by dsimp only; omega, by dsimp only; omega⟩, rfl, rfl, by show ((0 : Nat) : Int) ≤ most; omega, ⟨[], .none rfl rfl rfl, List.nodup_nil⟩, List.Pairwise.nil, Nat.le_refl _⟩
theorem modelK_srt {w : List KV} (h : Srt w) (a : Ac) : Srt (modelK w a) := by
  unfold modelK
  split
  · exact putK_srt h
  · exact delK_srt h
theorem modelK_len {w : List KV} (h : Srt w) (a : Ac) : (modelK w a).length ≤ w.length + 1 := by
  unfold modelK
  split
  · exact (putK_len w a.key a.value h).2
  · have := delK_len w a.key; omega
theorem doesN_bad {m : Mem} {t : Tree} {a : Ac} (hs : 480 ≤ m.size) (h : rightA a = false) : doesN m t a = ⟨m, tree0, [], 50⟩ := by
  unfold rightA at h
  unfold doesN
  by_cases hk : a.kind = 0
  · rw [if_pos hk] at h ⊢
    unfold rightKV at h
    have h2 := of_decide_eq_false h
    unfold putN
    rw [if_neg (by omega), if_pos]
    by_cases h3 : a.key ≠ [] ∧ a.key.length ≤ 64
    · have := List.length_pos_iff.2 h3.1
      exact .inr (by omega)
    · exact .inl h3
  · rw [if_neg hk] at h ⊢
    unfold rightKV at h
    have h2 := of_decide_eq_false h
    have ht : turnN (delE a.key) m t a.key = ⟨m, tree0, [], 50, none⟩ := by
      unfold turnN
      rw [if_neg (by omega), if_pos]
      rintro ⟨h3, h4⟩
      have := List.length_pos_iff.2 h3
      simp at h2; omega
    unfold delN
    rw [ht]
    rfl
theorem doesN_res {room most : Int} {i : Nat} {m : Mem} {t : Tree} {w : List KV} (h : At room most i m t w) (hr : 480 ≤ room) (hm : most ≤ 1048576) (hi : i ≤ 1000) {a : Ac} (ha : rightA a = true) {q : List Nat} (hst : Stands m t w q) (hnd : q.Nodup) : PtRes m t w q (modelK w a) (a.kind ≠ 0) (doesN m t a) := by
  have hl := h.len
  unfold rightA at ha
  unfold doesN modelK
  by_cases hk : a.kind = 0
  · rw [if_pos hk] at ha
    obtain ⟨h1, h2, h3⟩ := rightKV_of ha
    rw [if_pos hk, if_pos hk]
    have := putN_done (h.memW hr hm) hst h.srt hnd h1 h2 h3 (by omega)
    cases this with
    | full he ht hg gr hmm => exact .full he ht hg gr hmm
    | done he gr hp q' hst' hnd' hrr a1 a2 a3 a4 => exact .done he gr hp q' hst' hnd' hrr a1 a2 a3 (fun hw => absurd hk hw)
  · rw [if_neg hk] at ha
    obtain ⟨h1, h2, h3⟩ := rightKV_of ha
    rw [if_neg hk, if_neg hk]
    have := delN_done (h.memW hr hm) hst h.srt hnd h1 h2 (by omega)
    cases this with
    | full he ht hg gr hmm => exact .full he ht hg gr hmm
    | done he gr hp q' hst' hnd' hrr a1 a2 a3 a4 => exact .done he gr hp q' hst' hnd' hrr a1 a2 a3 (fun _ => a4 trivial)
/-- An act that may be: it is done, or there is no room for it. -/
theorem At.step {room most : Int} {i : Nat} {m : Mem} {t : Tree} {w : List KV} (h : At room most i m t w) (hr : 480 ≤ room) (hm : most ≤ 1048576) (hi : i ≤ 1000) {a : Ac} (ha : rightA a = true) :
    ((doesN m t a).e = 0 ∧ At room most (i + 1) (doesN m t a).m (doesN m t a).t (modelK w a) ∧ (doesN m t a).m.pages.length ≤ m.pages.length + 300 ∧ Gr m (doesN m t a).m ∧ (a.kind ≠ 0 → modelK w a = w → (doesN m t a).t = t)) ∨
    ((doesN m t a).e = 5 ∧ (doesN m t a).t = tree0 ∧ (doesN m t a).gone = [] ∧ At room most i (doesN m t a).m t w ∧ most < m.pages.length + 300) := by
  obtain ⟨q, hst, hnd⟩ := h.st
  obtain ⟨o1, o2, o3⟩ := doesN_ok h.mol t a
  have hle := doesN_LE h.le t a
  have hres := doesN_res h hr hm hi ha hst hnd
  have hml := modelK_len h.srt a
  have hl := h.len
  cases hres with
  | full he ht hg gr hmm =>
    rw [h.most] at hmm
    exact .inr ⟨he, ht, hg, ⟨o1, o2.trans h.size, o3.trans h.most, hle, ⟨q, hst.gr gr, hnd⟩, h.srt, hl⟩, hmm⟩
  | done he gr hp q' hst' hnd' hrr a1 a2 a3 a4 =>
    exact .inl ⟨he, ⟨o1, o2.trans h.size, o3.trans h.most, hle, ⟨q', hst', hnd'⟩, modelK_srt h.srt a, by omega⟩, hp, gr, a4⟩
theorem At.up {room most : Int} {i : Nat} {m : Mem} {t : Tree} {w : List KV} (h : At room most i m t w) : At room most (i + 1) m t w := ⟨h.mol, h.size, h.most, h.le, h.st, h.srt, by have := h.len; omega⟩
theorem At.get {room most : Int} {i : Nat} {m : Mem} {t : Tree} {w : List KV} (h : At room most i m t w) (hr : 480 ≤ room) {key : Bytes} (h1 : key ≠ []) (h2 : key.length ≤ 64) : getN m t key = ((getK w key).1, (getK w key).2, 0) := by
  obtain ⟨q, hst, hnd⟩ := h.st
  exact getN_ok hst h.srt (by rw [h.size]; exact hr) h1 h2
theorem At.scan {room most : Int} {i : Nat} {m : Mem} {t : Tree} {w : List KV} (h : At room most i m t w) (hr : 480 ≤ room) (f to_ : Bytes) : scanN m t f to_ = (scanK w f to_, 0) := by
  obtain ⟨q, hst, hnd⟩ := h.st
  exact scanN_ok hst h.srt hnd (by rw [h.size]; exact hr) f to_
theorem At.keys {room most : Int} {i : Nat} {m : Mem} {t : Tree} {w : List KV} (h : At room most i m t w) : t.keys = (w.length : Int) := by
  obtain ⟨q, hst, hnd⟩ := h.st
  cases hst with
  | none ht hL hq => subst ht; subst hL; rfl
  | some d n hr hd hk hn h0 hd64 hrep => exact hk
theorem At.gr {room most : Int} {i : Nat} {m m' : Mem} {t t' : Tree} {w w' : List KV} {j : Nat} (h : At room most i m t w) (h' : At room most j m' t' w') (g : Gr m m') : At room most i m' t w := by
  obtain ⟨q, hst, hnd⟩ := h.st
  exact ⟨h'.mol, h'.size, h'.most, h'.le, ⟨q, hst.gr g, hnd⟩, h.srt, h.len⟩
theorem At.few {room most : Int} {i : Nat} {m : Mem} {t : Tree} {w : List KV} (h : At room most i m t w) (hm : most ≤ 1048576) : m.pages.length ≤ 3900000 := by
  have h1 : (m.pages.length : Int) ≤ m.most := h.le
  rw [h.most] at h1; omega
theorem At.empty {room most : Int} {i : Nat} {m : Mem} {t : Tree} (h : At room most i m t []) : t = tree0 := by
  obtain ⟨q, hst, hnd⟩ := h.st
  exact hst.deep.2 rfl
end Go.KX
