/- PA PB PC PD PE PG PH PI PJ PK PL PM PN PO PP PQ. -/
import Derived.Test.YtlgbhceifnjdnaaBY
/- Plain functions: numbers, texts and cells as bytes. No program in sight. -/
namespace Go.KX
def elN (k : IntKind) : El Nat := ⟨1, fun n => [.int k n], fun _ => rfl, by decide, fun _ u h => by simp at h; subst h; rfl⟩
/-- The digits ahead of the last one. -/
def dgH : Nat → Nat → Bytes
  | 0, _ => []
  | f + 1, n => if n = 0 then [] else dgH f (n / 128) ++ [UInt8.ofNat (128 + n % 128)]
/-- A number as bytes. -/
def dg (n : Nat) : Bytes := dgH 9 (n / 128) ++ [UInt8.ofNat (n % 128)]
theorem dgH_len : ∀ f n, (dgH f n).length ≤ f
  | 0, _ => by simp [dgH]
  | f + 1, n => by
    unfold dgH
    split
    · simp
    · have := dgH_len f (n / 128); simp; omega
theorem dgH_zero (f : Nat) : dgH f 0 = [] := by cases f <;> simp [dgH]
theorem dg_len (n : Nat) : (dg n).length ≤ 10 := by have := dgH_len 9 (n / 128); simp [dg]; omega
def txt (s : Bytes) : Bytes := dg s.length ++ s
structure Cell where
  key : Bytes
  value : Bytes
  page : Nat
  size : Nat
  deriving DecidableEq
def encCell (c : Cell) : List Value := [str c.key, str c.value, .int .i64 c.page, .int .i64 c.size]
def elCell : El Cell := ⟨4, encCell, fun _ => rfl, by decide, fun _ u h => by simp [encCell] at h; rcases h with rfl | rfl | rfl | rfl <;> rfl⟩
def cellB (c : Cell) (leaf : Bool) : Bytes :=
  txt c.key ++ if leaf then dg c.page ++ (if c.page = 0 then txt c.value else dg c.size) else dg c.page
theorem or_128 (x : Nat) (h : x < 128) : bits .or .u8 128 (x : Int) = ((128 + x : Nat) : Int) := by
  have : ∀ x : Fin 128, bits .or .u8 128 ((x : Nat) : Int) = ((128 + (x : Nat) : Nat) : Int) := by decide
  exact this ⟨x, h⟩
theorem ofNat_toNat_lt {n : Nat} (h : n < 256) : ((UInt8.ofNat n).toNat : Int) = (n : Int) := by
  rw [UInt8.toNat_ofNat']; omega
theorem flatMap_dg_len (ls : List Nat) : (ls.flatMap dg).length ≤ 10 * ls.length := by
  induction ls with
  | nil => simp
  | cons n ls ih => have := dg_len n; simp only [List.flatMap_cons, List.length_append, List.length_cons]; omega
theorem take_succ_snoc {α : Type} {ls : List α} {i : Nat} {y : α} (h : ls[i]? = some y) : ls.take (i + 1) = ls.take i ++ [y] := by
  rw [List.take_add_one, h]; rfl
theorem take_flatMap_len {α : Type} (f : α → Bytes) {ls : List α} {i : Nat} {y : α} (h : ls[i]? = some y) : ((ls.take i).flatMap f).length + (f y).length ≤ (ls.flatMap f).length := by
  have h1 : ls = ls.take (i + 1) ++ ls.drop (i + 1) := (List.take_append_drop _ _).symm
  have h2 := congrArg (fun l => (l.flatMap f).length) h1
  simp only [take_succ_snoc h, List.flatMap_append, List.length_append, List.flatMap_cons, List.flatMap_nil, List.append_nil] at h2
  omega
theorem drop_cons {α : Type} {ls : List α} {i : Nat} {y : α} (h : ls[i]? = some y) : ls.drop i = y :: ls.drop (i + 1) := by
  have hlt : i < ls.length := by
    rcases Nat.lt_or_ge i ls.length with h' | h'
    · exact h'
    · rw [List.getElem?_eq_none h'] at h; cases h
  rw [List.drop_eq_getElem_cons hlt]
  rw [List.getElem?_eq_getElem hlt] at h
  cases h; rfl
theorem txt_len (s : Bytes) : (txt s).length ≤ s.length + 10 := by have := dg_len s.length; simp [txt]; omega
end Go.KX

/- Plain functions: reading numbers and texts; a strip. No program in sight. -/
namespace Go.KX
/-- What is read: a number, what is left behind it, an error. -/
structure Pc where
  n : Nat
  left : Bytes
  e : Nat
/-- 'number': f: the first byte is still to come. -/
def numR : Bool → Nat → Bytes → Pc
  | _, _, [] => ⟨0, [], 3⟩
  | f, n, c :: r => if f = true ∧ c.toNat = 128 then ⟨0, [], 10⟩ else if 144115188075855872 ≤ n then ⟨0, [], 11⟩ else
    if c.toNat < 128 then ⟨n * 128 + c.toNat % 128, r, 0⟩ else numR false (n * 128 + c.toNat % 128) r
theorem and_127 (c : UInt8) : bits .and .u8 (c.toNat : Int) 127 = ((c.toNat % 128 : Nat) : Int) := by
  have : ∀ x : Fin 256, bits .and .u8 ((x : Nat) : Int) 127 = (((x : Nat) % 128 : Nat) : Int) := by decide +kernel
  exact this ⟨c.toNat, c.toNat_lt⟩
theorem numR_lt : ∀ (p : Bytes) (f : Bool) (n : Nat), (numR f n p).n < 18446744073709551616
  | [], _, _ => by simp [numR]
  | c :: r, f, n => by
    unfold numR
    split
    · decide
    · split
      · decide
      · split
        · dsimp only; omega
        · exact numR_lt r _ _
theorem numR_left : ∀ (p : Bytes) (f : Bool) (n : Nat), (numR f n p).left.length ≤ p.length
  | [], _, _ => by simp [numR]
  | c :: r, f, n => by
    unfold numR
    split
    · simp
    · split
      · simp
      · split
        · simp
        · have := numR_left r false (n * 128 + c.toNat % 128); simp; omega
/-- A piece as a value. -/
def pcV (pc : Pc) (ad : Option Addr) (c : Nat) : Value := .agg #[.int .u64 pc.n, .slice ad pc.left.length c, .int .i64 pc.e]
/-- A strip: what is left, how many bytes there were, an error, its place. -/
structure Strip where
  left : Bytes
  size : Nat
  bad : Nat
  spot : Nat
def stripC (s : Strip) (ad : Option Addr) (c : Nat) : Array Value := #[.slice ad s.left.length c, .int .i64 s.size, .int .i64 s.bad, .int .i64 s.spot]
/-- 'read': the strip and the number. -/
def readS (s : Strip) (pc : Pc) : Strip × Nat :=
  if s.bad ≠ 0 then (s, 0) else if pc.e ≠ 0 then ({ s with bad := pc.e, spot := s.size - s.left.length }, 0) else ({ s with left := pc.left }, pc.n)
/-- What Text reads with: the piece, and the text. -/
def txtR (most : Nat) (p : Bytes) : Pc × Bytes :=
  if (numR true 0 p).e ≠ 0 then (numR true 0 p, []) else if most < (numR true 0 p).n then ({ numR true 0 p with e := 1 }, [])
  else if (numR true 0 p).left.length < (numR true 0 p).n then ({ numR true 0 p with e := 3 }, [])
  else ({ numR true 0 p with left := (numR true 0 p).left.drop (numR true 0 p).n }, (numR true 0 p).left.take (numR true 0 p).n)
/-- 'Text'. -/
def readT (s : Strip) (most : Nat) : Strip × Bytes := if s.bad ≠ 0 then (s, []) else ((readS s (txtR most s.left).1).1, (txtR most s.left).2)
theorem txtR_left (m : Nat) (p : Bytes) : (txtR m p).1.left.length ≤ p.length := by
  have := numR_left p true 0
  unfold txtR
  split
  · exact this
  · split
    · exact this
    · split
      · exact this
      · simp; omega
theorem readS_left (s : Strip) (pc : Pc) (h : pc.left.length ≤ s.left.length) : (readS s pc).1.left.length ≤ s.left.length := by
  unfold readS; split
  · simp
  · split <;> simp; exact h
theorem readS_size (s : Strip) (pc : Pc) : (readS s pc).1.size = s.size := by
  unfold readS; split
  · rfl
  · split <;> rfl
end Go.KX

/- Plain functions: pages in memory. No program in sight. -/
namespace Go.KX
structure Mem where
  pages : List Bytes
  most : Int
  size : Int
def memC (m : Mem) (ad : Option Addr) (c : Nat) : Array Value := #[.slice ad m.pages.length c, .int .i64 m.most, .int .i64 m.size]
structure MOK (m : Mem) : Prop where
  few : m.pages.length ≤ 1000000000
  small : ∀ p ∈ m.pages, p.length ≤ 1000000
def loadM (m : Mem) (n : Int) : Nat × Bytes := if n < 1 ∨ (m.pages.length : Int) < n then (30, []) else (0, (m.pages[(n - 1).toNat]?).getD [])
def layM (m : Mem) (p : Bytes) : Mem × Nat × Nat :=
  if m.size < p.length then (m, 0, 1) else if m.most ≤ m.pages.length then (m, 0, 5) else ({ m with pages := m.pages ++ [p] }, m.pages.length + 1, 0)
theorem loadM_small {m : Mem} (h : MOK m) (n : Int) : (loadM m n).2.length ≤ 1000000 := by
  unfold loadM
  split
  · simp
  · cases hg : m.pages[(n - 1).toNat]? with
    | none => simp
    | some p => exact h.small p (List.mem_of_getElem? hg)
/-- A page of a kind: an error, or what stands behind the kind. -/
def pageM (m : Mem) (n : Int) (kind : Int) : Nat × Bytes :=
  if (loadM m n).1 ≠ 0 then ((loadM m n).1, []) else
    match (loadM m n).2 with
    | [] => (51, [])
    | k :: r => if (k.toNat : Int) ≠ kind then (51, []) else (0, r)
structure Tree where
  root : Int
  keys : Int
  deep : Int
deriving DecidableEq
def treeC (t : Tree) : Array Value := #[.int .i64 t.root, .int .i64 t.keys, .int .i64 t.deep]
def rightT (t : Tree) : Bool := decide ((t.root = 0 ∧ t.keys = 0 ∧ t.deep = 0) ∨ (0 < t.root ∧ 0 < t.keys ∧ 0 < t.deep ∧ t.deep ≤ 64))
/-- sort.Search. -/
def bs : Nat → (Nat → Bool) → Nat → Nat → Nat
  | 0, _, i, _ => i
  | k + 1, f, i, j => if i < j then (if f ((i + j) / 2) then bs k f i ((i + j) / 2) else bs k f ((i + j) / 2 + 1) j) else i
theorem bs_end {k : Nat} {f : Nat → Bool} {i j : Nat} (h : ¬ i < j) : bs k f i j = i := by cases k <;> simp [bs, h]
theorem bs_le : ∀ (k : Nat) (f : Nat → Bool) (i j : Nat), i ≤ j → bs k f i j ≤ j
  | 0, _, _, _, h => h
  | k + 1, f, i, j, h => by
    unfold bs
    split
    · split
      · have := bs_le k f i ((i + j) / 2) (by omega); omega
      · exact bs_le k f _ j (by omega)
    · exact h
def searchN (n : Nat) (f : Nat → Bool) : Nat := bs n f 0 n
theorem searchN_le (n : Nat) (f : Nat → Bool) : searchN n f ≤ n := bs_le n f 0 n (Nat.zero_le _)
/-- Is the key of a place greater? -/
def gtAt (l : List Cell) (key : Bytes) (i : Nat) : Bool := match l[i]? with | some c => !(blt c.key key || decide (c.key = key)) | none => false
/-- The place of the child. -/
def childI (l : List Cell) (key : Bytes) : Nat := searchN l.length (gtAt l key) - 1
end Go.KX

/- Plain functions: a node's cells, read from bytes. No program in sight. -/
namespace Go.KX
def lastKey (acc : List Cell) : Bytes := match acc[acc.length - 1]? with | some c => c.key | none => []
/-- What is asked of a cell once it is read. -/
def tailOK (leaf : Bool) (acc : List Cell) (key : Bytes) (bad : Nat) : Bool :=
  decide (bad = 0 ∧ (key ≠ [] ∨ (leaf = false ∧ acc.length = 0)) ∧ (acc.length = 0 ∨ blt (lastKey acc) key = true))
/-- One cell: the strip behind it, may it be, the cell. -/
def stepF (acc : List Cell) (s : Strip) : Strip × Bool × Cell :=
  let kt := readT s 64
  let nb := readS kt.1 (numR true 0 kt.1.left)
  (nb.1, decide (nb.2 ≤ 1073741824 ∧ 0 < min nb.2 1073741824) && tailOK false acc kt.2 nb.1.bad, ⟨kt.2, [], min nb.2 1073741824, 0⟩)
def stepT (acc : List Cell) (s : Strip) : Strip × Bool × Cell :=
  let kt := readT s 64
  let nb := readS kt.1 (numR true 0 kt.1.left)
  if min nb.2 1073741824 = 0 then
    let vt := readT nb.1 16384
    (vt.1, decide (nb.2 ≤ 1073741824) && tailOK true acc kt.2 vt.1.bad, ⟨kt.2, vt.2, min nb.2 1073741824, 0⟩)
  else
    let sz := readS nb.1 (numR true 0 nb.1.left)
    (sz.1, decide (nb.2 ≤ 1073741824 ∧ sz.2 ≤ 16384) && tailOK true acc kt.2 sz.1.bad, ⟨kt.2, [], min nb.2 1073741824, min sz.2 16384⟩)
def stepC (leaf : Bool) (acc : List Cell) (s : Strip) : Strip × Bool × Cell := if leaf = true then stepT acc s else stepF acc s
def loadL (leaf : Bool) : Nat → Strip → Bool → List Cell → Bool × List Cell
  | 0, _, ok, acc => (ok, acc)
  | k + 1, s, ok, acc => if 0 < s.left.length ∧ ok = true then loadL leaf k (stepC leaf acc s).1 (stepC leaf acc s).2.1 (acc ++ [(stepC leaf acc s).2.2]) else (ok, acc)
theorem loadL_end {leaf : Bool} {k : Nat} {s : Strip} {ok : Bool} {acc : List Cell} (h : ¬ (0 < s.left.length ∧ ok = true)) : loadL leaf k s ok acc = (ok, acc) := by
  cases k <;> simp [loadL, h]
def kindOf (leaf : Bool) : Int := if leaf = true then 1 else 2
def loadN (m : Mem) (n : Int) (leaf : Bool) : Nat × List Cell :=
  if (pageM m n (kindOf leaf)).1 ≠ 0 then ((pageM m n (kindOf leaf)).1, []) else
    let r := loadL leaf ((pageM m n (kindOf leaf)).2.length + 1) ⟨(pageM m n (kindOf leaf)).2, (pageM m n (kindOf leaf)).2.length, 0, 0⟩ true []
    if r.1 = false ∨ r.2.length = 0 then (51, []) else (0, r.2)
theorem pageM_small {m : Mem} (h : MOK m) (n k : Int) : (pageM m n k).2.length ≤ 1000000 := by
  unfold pageM
  split
  · simp
  · have := loadM_small h n
    split
    · simp
    · rename_i k0 r hr
      split
      · simp
      · rw [hr] at this; simp at this ⊢; omega
/-- A number that is read leaves less. -/
theorem numR_less : ∀ (p : Bytes) (f : Bool) (n : Nat), (numR f n p).e = 0 → (numR f n p).left.length < p.length
  | [], _, _ => by simp [numR]
  | c :: r, f, n => by
    unfold numR
    split
    · simp
    · split
      · simp
      · split
        · simp
        · intro h; have := numR_less r _ _ h; simp; omega
theorem txtR_less (m : Nat) (p : Bytes) (h : (txtR m p).1.e = 0) : (txtR m p).1.left.length < p.length := by
  have h1 := numR_less p true 0
  unfold txtR at h ⊢
  by_cases he : (numR true 0 p).e = 0
  · have h2 := h1 he
    rw [if_neg (by omega)] at h ⊢
    split
    · exact h2
    · split
      · exact h2
      · simp; omega
  · rw [if_pos he] at h; exact absurd h he
theorem readS_bad (s : Strip) (pc : Pc) : (readS s pc).1.bad = 0 → s.bad = 0 ∧ pc.e = 0 := by
  unfold readS
  by_cases h : s.bad = 0
  · rw [if_neg (by omega)]
    by_cases he : pc.e = 0
    · exact fun _ => ⟨h, he⟩
    · rw [if_pos he]; intro h'; exact absurd h' he
  · rw [if_pos h]; intro h'; exact absurd h' h
theorem readS_bad0 {s : Strip} {pc : Pc} (h : s.bad = 0) (he : pc.e = 0) : readS s pc = ({ s with left := pc.left }, pc.n) := by
  unfold readS; rw [if_neg (by omega), if_neg (by omega)]
theorem readT_fst (s : Strip) (m : Nat) : (readT s m).1 = (readS s (txtR m s.left).1).1 := by
  unfold readT
  split
  · rename_i h; unfold readS; rw [if_pos h]
  · rfl
theorem readT_left (s : Strip) (m : Nat) : (readT s m).1.left.length ≤ s.left.length := by
  rw [readT_fst]; exact readS_left _ _ (txtR_left _ _)
theorem readT_size (s : Strip) (m : Nat) : (readT s m).1.size = s.size := by rw [readT_fst]; exact readS_size _ _
theorem readT_less {s : Strip} {m : Nat} (h : (readT s m).1.bad = 0) : (readT s m).1.left.length < s.left.length := by
  rw [readT_fst] at h ⊢
  obtain ⟨h1, h2⟩ := readS_bad _ _ h
  rw [readS_bad0 h1 h2]
  exact txtR_less _ _ h2
theorem readN_left (s : Strip) : (readS s (numR true 0 s.left)).1.left.length ≤ s.left.length := readS_left _ _ (numR_left _ _ _)
theorem readN_lt (s : Strip) : (readS s (numR true 0 s.left)).2 < 18446744073709551616 := by
  unfold readS
  split
  · dsimp only; omega
  · split
    · dsimp only; omega
    · exact numR_lt _ _ _
theorem stepC_left (leaf : Bool) (acc : List Cell) (s : Strip) : (stepC leaf acc s).1.left.length ≤ s.left.length := by
  have h1 := readT_left s 64
  have h2 := readN_left (readT s 64).1
  unfold stepC stepT stepF
  split
  · dsimp only
    split
    · have := readT_left (readS (readT s 64).1 (numR true 0 (readT s 64).1.left)).1 16384; dsimp only; omega
    · have := readN_left (readS (readT s 64).1 (numR true 0 (readT s 64).1.left)).1; dsimp only; omega
  · dsimp only; omega
theorem stepC_size (leaf : Bool) (acc : List Cell) (s : Strip) : (stepC leaf acc s).1.size = s.size := by
  unfold stepC stepT stepF
  split
  · dsimp only
    split <;> simp only [readT_size, readS_size]
  · simp only [readT_size, readS_size]
theorem tailOK_bad {leaf acc key bad} (h : tailOK leaf acc key bad = true) : bad = 0 := by
  simp only [tailOK, decide_eq_true_eq] at h; exact h.1
theorem stepC_less {leaf : Bool} {acc : List Cell} {s : Strip} (h : (stepC leaf acc s).2.1 = true) : (stepC leaf acc s).1.left.length < s.left.length := by
  have h2 := readN_left (readT s 64).1
  unfold stepC stepT stepF at h ⊢
  split
  · rename_i hl
    rw [if_pos hl] at h
    dsimp only at h ⊢
    split
    · rename_i h0
      rw [if_pos h0] at h
      simp only [Bool.and_eq_true] at h
      have hb := tailOK_bad h.2
      have h3 := readT_less hb
      have := readT_left s 64
      dsimp only; omega
    · rename_i h0
      rw [if_neg h0] at h
      simp only [Bool.and_eq_true] at h
      have hb := (readS_bad _ _ (readS_bad _ _ (tailOK_bad h.2)).1).1
      have h3 := readT_less hb
      have := readN_left (readS (readT s 64).1 (numR true 0 (readT s 64).1.left)).1
      dsimp only; omega
  · rename_i hl
    rw [if_neg hl] at h
    simp only [Bool.and_eq_true] at h
    have hb := (readS_bad _ _ (tailOK_bad h.2)).1
    have h3 := readT_less hb
    dsimp only; omega
/-- How many bytes cells have. -/
def sumC (l : List Cell) (leaf : Bool) : Nat := (l.map fun c => (cellB c leaf).length).sum
structure CellOK (c : Cell) : Prop where
  page : c.page ≤ 1099511627776
  size : c.size ≤ 1099511627776
  text : c.key.length + c.value.length ≤ 1000000
theorem cellB_len {c : Cell} (leaf : Bool) : (cellB c leaf).length ≤ c.key.length + c.value.length + 40 := by
  have h1 := txt_len c.key
  have h2 := txt_len c.value
  have h3 := dg_len c.page
  have h4 := dg_len c.size
  unfold cellB
  split
  · split <;> simp <;> omega
  · simp; omega
theorem sumC_le {l : List Cell} (h : ∀ c ∈ l, CellOK c) (leaf : Bool) : sumC l leaf ≤ 1000040 * l.length := by
  induction l with
  | nil => simp [sumC]
  | cons c l ih =>
    have h1 := ih (fun c hc => h c (.tail _ hc))
    have h2 := cellB_len (c := c) leaf
    have h3 := (h c (.head _)).text
    simp only [sumC, List.map_cons, List.sum_cons, List.length_cons] at h1 ⊢
    omega
theorem sumC_snoc (l : List Cell) (c : Cell) (leaf : Bool) : sumC (l ++ [c]) leaf = sumC l leaf + (cellB c leaf).length := by simp [sumC]
theorem loadL_next {leaf : Bool} {fu : Nat} {s S' : Strip} {acc : List Cell} {R : Bool × List Cell} {OK' : Bool} {C' : Cell} (hst : stepC leaf acc s = (S', OK', C')) (hr : loadL leaf (fu + 1) s true acc = R) (hpos : 0 < s.left.length)
    (h1 : s.left.length ≤ s.size) (h2 : s.size ≤ 1000000) (h3 : s.left.length < fu + 1 ∧ acc.length + s.left.length ≤ 1000000) :
    S'.left.length ≤ S'.size ∧ S'.size ≤ 1000000 ∧ (OK' = true → S'.left.length < fu ∧ (acc ++ [C']).length + S'.left.length ≤ 1000000) ∧ loadL leaf fu S' OK' (acc ++ [C']) = R := by
  have a1 := stepC_left leaf acc s
  have a2 := stepC_size leaf acc s
  have a3 := @stepC_less leaf acc s
  rw [loadL, if_pos ⟨hpos, rfl⟩] at hr
  rw [hst] at a1 a2 a3 hr
  dsimp only at a1 a2 a3 hr
  refine ⟨by omega, by omega, fun h => ?_, hr⟩
  have := a3 h
  simp only [List.length_append, List.length_cons, List.length_nil]
  omega
end Go.KX

/- Plain functions: values that lie in pages of their own. No program in sight. -/
namespace Go.KX
abbrev Gone := List (Int × Unit)
abbrev Met := Gone → Nat → Nat × Gone
def tellS (mt : Met) (m : Mem) (size : Nat) (g : Gone) (n : Nat) (b : Bytes) : Gone × Nat × Nat × Bytes :=
  if (mt g n).1 ≠ 0 then ((mt g n).2, (mt g n).1, 0, []) else
  if (loadM m n).1 ≠ 0 then ((mt g n).2, (loadM m n).1, 0, []) else
  if ((loadM m n).2[0]?).map (fun k => k.toNat) ≠ some 3 then ((mt g n).2, 51, 0, []) else
  let r := readS ⟨(loadM m n).2.drop 1, ((loadM m n).2.drop 1).length, 0, 0⟩ (numR true 0 ((loadM m n).2.drop 1))
  if ¬ r.2 ≤ 1073741824 ∨ r.1.bad ≠ 0 ∨ r.1.left.length = 0 then ((mt g n).2, 51, 0, []) else
  let b' := b ++ (loadM m n).2.drop (1 + (r.1.size - r.1.left.length))
  if size < b'.length then ((mt g n).2, 51, 0, []) else ((mt g n).2, 0, min r.2 1073741824, b')
def tellL (mt : Met) (m : Mem) (size : Nat) : Nat → Gone → Nat → Bytes → Gone × Nat × Bytes
  | 0, g, _, _ => (g, 51, [])
  | k + 1, g, n, b => if n = 0 then (if b.length ≠ size then (g, 51, []) else (g, 0, b)) else
    if (tellS mt m size g n b).2.1 ≠ 0 then ((tellS mt m size g n b).1, (tellS mt m size g n b).2.1, [])
    else tellL mt m size k (tellS mt m size g n b).1 (tellS mt m size g n b).2.2.1 (tellS mt m size g n b).2.2.2
/-- 'tell': who is noted behind it, the error, the value. -/
def tellN (mt : Met) (m : Mem) (g : Gone) (c : Cell) : Gone × Nat × Bytes := if c.page = 0 then (g, 0, c.value) else tellL mt m c.size (c.size + 1) g c.page []
def metF : Met := fun g n => if (mget g (n : Int)).isSome = true then (51, g) else (0, mset g (n : Int) ())
def dropF : Met := fun g n => (0, mset g (n : Int) ())
def getF : Met := fun g _ => (0, g)
/-- What Lay needs. -/
structure MOL (m : Mem) : Prop where
  ok : MOK m
  most : m.most ≤ 1000000000
  size : m.size ≤ 1000000
theorem layM_ok {m : Mem} (h : MOL m) (p : Bytes) : MOL (layM m p).1 := by
  unfold layM
  split
  · exact h
  · split
    · exact h
    · rename_i h1 h2
      have := h.most
      have := h.size
      refine ⟨⟨?_, fun q hq => ?_⟩, h.most, h.size⟩
      · simp only [List.length_append, List.length_cons, List.length_nil]; omega
      · rcases List.mem_append.1 hq with hq | hq
        · exact h.ok.small q hq
        · rcases List.mem_singleton.1 hq with rfl; omega
theorem layM_same (m : Mem) (p : Bytes) : (layM m p).1.most = m.most ∧ (layM m p).1.size = m.size := by
  unfold layM
  split
  · exact ⟨rfl, rfl⟩
  · split <;> exact ⟨rfl, rfl⟩
theorem layM_few {m : Mem} (h : MOL m) (p : Bytes) : (layM m p).2.1 ≤ 1000000000 := by
  have h1 := h.most
  unfold layM
  split
  · simp
  · split
    · simp
    · dsimp only; omega
/-- A long value, from its end on: the pages, the first one. -/
def longL (room : Int) (value : Bytes) : Nat → Mem → Nat → Int → Mem × Nat × Nat
  | 0, m, first, _ => (m, first, 0)
  | k + 1, m, first, at_ => if at_ < 0 then (m, first, 0) else
    let r := layM m (3 :: ([first].flatMap dg ++ (value.drop at_.toNat).take room.toNat))
    if r.2.2 ≠ 0 then (r.1, 0, r.2.2) else longL room value k r.1 r.2.1 (at_ - room)
def longN (m : Mem) (value : Bytes) : Mem × Nat × Nat :=
  longL (m.size - 8) value (value.length + 1) m 0 (((value.length : Int) - 1).tdiv (m.size - 8) * (m.size - 8))
end Go.KX

/- Plain functions: cells laid into nodes. No program in sight. -/
namespace Go.KX
/-- How many cells go into the next node, and how many bytes they have. -/
def takeL (leaf : Bool) (room : Int) (want nodes : Nat) : List Cell → Nat → Nat × Nat
  | [], n => (0, n)
  | c :: r, n => if ((n + (cellB c leaf).length : Nat) : Int) ≤ room ∧ (n < want ∨ nodes = 1) then ((takeL leaf room want nodes r (n + (cellB c leaf).length)).1 + 1, (takeL leaf room want nodes r (n + (cellB c leaf).length)).2) else (0, n)
def headK : List Cell → Bytes
  | [] => []
  | c :: _ => c.key
def kindB (leaf : Bool) : UInt8 := if leaf = true then 1 else 2
def layL (leaf : Bool) (room : Int) : Nat → Mem → List Cell → Nat → List Cell → Mem × Nat × List Cell
  | 0, m, _, _, _ => (m, 5, [])
  | f + 1, m, l, nodes, out => if l.length = 0 then (m, 0, out) else
    let t := takeL leaf room (sumC l leaf / nodes) nodes l 0
    let r := layM m (kindB leaf :: (l.take t.1).flatMap fun c => cellB c leaf)
    if r.2.2 ≠ 0 then (r.1, r.2.2, []) else layL leaf room f r.1 (l.drop t.1) (max (nodes - 1) 1) (out ++ [⟨headK l, [], r.2.1, 0⟩])
def layN (m : Mem) (l : List Cell) (leaf : Bool) : Mem × Nat × List Cell :=
  layL leaf (m.size - 8) ((m.most - m.pages.length).toNat + 1) m l ((sumC l leaf - 1) / (m.size - 8).toNat + 1) []
theorem tdiv_pred (t : Nat) {r : Int} (hr : 2 ≤ r) : ((t : Int) - 1).tdiv r = (((t - 1) / r.toNat : Nat) : Int) := by
  obtain ⟨k, rfl⟩ : ∃ k : Nat, r = (k : Int) := ⟨r.toNat, by omega⟩
  cases t with
  | zero =>
    have h1 : (1 : Int).tdiv (k : Int) = 0 := by rw [Int.tdiv_eq_ediv_of_nonneg (by omega)]; exact Int.ediv_eq_zero_of_lt (by omega) (by omega)
    have : ((0 : Nat) : Int) - 1 = -(1 : Int) := by omega
    rw [this, Int.neg_tdiv, h1]
    simp
  | succ t =>
    rw [Int.tdiv_eq_ediv_of_nonneg (by omega), show ((t + 1 : Nat) : Int) - 1 = (t : Int) by omega]
    rfl
theorem sumC_split (l : List Cell) (leaf : Bool) (k : Nat) : sumC l leaf = sumC (l.take k) leaf + sumC (l.drop k) leaf := by
  conv => lhs; rw [← List.take_append_drop k l]
  simp only [sumC, List.map_append, List.sum_append]
theorem flatC_len (l : List Cell) (leaf : Bool) : (l.flatMap fun c => cellB c leaf).length = sumC l leaf := by
  induction l with
  | nil => rfl
  | cons c l ih => simp only [List.flatMap_cons, List.length_append, ih, sumC, List.map_cons, List.sum_cons]
theorem headK_of {l : List Cell} {y : Cell} (h : l[0]? = some y) : headK l = y.key := by
  cases l with
  | nil => simp at h
  | cons c l => simp at h; subst h; rfl
theorem layM_zero {m : Mem} {p : Bytes} (h : (layM m p).2.2 = 0) : (layM m p).1.pages.length = m.pages.length + 1 ∧ (m.pages.length : Int) < m.most := by
  unfold layM at h ⊢
  by_cases h1 : m.size < p.length
  · rw [if_pos h1] at h; cases h
  · rw [if_neg h1] at h ⊢
    by_cases h2 : m.most ≤ m.pages.length
    · rw [if_pos h2] at h; cases h
    · rw [if_neg h2]; exact ⟨by simp, by omega⟩
end Go.KX

/- Plain functions: what is laid grows; the root. No program in sight. -/
namespace Go.KX
theorem layM_grow (m : Mem) (p : Bytes) : m.pages.length ≤ (layM m p).1.pages.length := by
  unfold layM
  split
  · exact Nat.le_refl _
  · split
    · exact Nat.le_refl _
    · simp
theorem layL_props {leaf : Bool} {room : Int} : ∀ (fu : Nat) (m : Mem) (l : List Cell) (nodes : Nat) (out : List Cell), MOL m → (∀ c ∈ l, CellOK c) → (∀ c ∈ out, CellOK c) →
    MOL (layL leaf room fu m l nodes out).1 ∧ (layL leaf room fu m l nodes out).1.most = m.most ∧ (layL leaf room fu m l nodes out).1.size = m.size ∧ (∀ c ∈ (layL leaf room fu m l nodes out).2.2, CellOK c) ∧
    m.pages.length ≤ (layL leaf room fu m l nodes out).1.pages.length ∧
    ((layL leaf room fu m l nodes out).2.1 = 0 → (layL leaf room fu m l nodes out).2.2.length + m.pages.length = out.length + (layL leaf room fu m l nodes out).1.pages.length) ∧
    ((layL leaf room fu m l nodes out).2.1 = 0 → l.length ≠ 0 → m.pages.length < (layL leaf room fu m l nodes out).1.pages.length)
  | 0, m, l, nodes, out, hm, _, _ => ⟨hm, rfl, rfl, fun c hc => (by cases hc), Nat.le_refl _, fun h => (by cases h), fun h => (by cases h)⟩
  | f + 1, m, l, nodes, out, hm, hc, ho => by
    unfold layL
    by_cases h0 : l.length = 0
    · rw [if_pos h0]
      exact ⟨hm, rfl, rfl, ho, Nat.le_refl _, fun _ => rfl, fun _ h => absurd h0 h⟩
    · rw [if_neg h0]
      dsimp only
      generalize hp : (kindB leaf :: (l.take (takeL leaf room (sumC l leaf / nodes) nodes l 0).1).flatMap fun c => cellB c leaf) = p
      generalize (takeL leaf room (sumC l leaf / nodes) nodes l 0).1 = k
      have hmk := layM_ok hm p
      have hsa := layM_same m p
      have hgr := layM_grow m p
      by_cases he : (layM m p).2.2 = 0
      · rw [if_neg (by omega)]
        have hz := layM_zero he
        have hfw := layM_few hm p
        have hh : CellOK ⟨headK l, [], (layM m p).2.1, 0⟩ := by
          cases l with
          | nil => exact absurd rfl h0
          | cons c l =>
            have := (hc c (.head _)).text
            exact ⟨by show (layM m p).2.1 ≤ _; omega, by show 0 ≤ _; omega, by show c.key.length + 0 ≤ _; omega⟩
        have ih := layL_props (leaf := leaf) (room := room) f (layM m p).1 (l.drop k) (max (nodes - 1) 1) (out ++ [⟨headK l, [], (layM m p).2.1, 0⟩]) hmk (fun c hx => hc c (List.mem_of_mem_drop hx)) (fun c hx => by
          rcases List.mem_append.1 hx with h | h
          · exact ho c h
          · rcases List.mem_singleton.1 h with rfl; exact hh)
        obtain ⟨i1, i2, i3, i4, i5, i6, i7⟩ := ih
        refine ⟨i1, i2.trans hsa.1, i3.trans hsa.2, i4, by omega, fun h => ?_, fun h _ => by omega⟩
        have := i6 h
        simp only [List.length_append, List.length_cons, List.length_nil] at this
        omega
      · rw [if_pos he]
        exact ⟨hmk, hsa.1, hsa.2, fun c hc => (by cases hc), hgr, fun h => absurd h he, fun h => absurd h he⟩
theorem layN_props {m : Mem} {l : List Cell} {leaf : Bool} (hm : MOL m) (hc : ∀ c ∈ l, CellOK c) :
    MOL (layN m l leaf).1 ∧ (layN m l leaf).1.most = m.most ∧ (layN m l leaf).1.size = m.size ∧ (∀ c ∈ (layN m l leaf).2.2, CellOK c) ∧ m.pages.length ≤ (layN m l leaf).1.pages.length ∧
    ((layN m l leaf).2.1 = 0 → (layN m l leaf).2.2.length + m.pages.length = (layN m l leaf).1.pages.length) ∧
    ((layN m l leaf).2.1 = 0 → l.length ≠ 0 → m.pages.length < (layN m l leaf).1.pages.length) := by
  have h := layL_props (leaf := leaf) (room := m.size - 8) ((m.most - m.pages.length).toNat + 1) m l ((sumC l leaf - 1) / (m.size - 8).toNat + 1) [] hm hc (fun c hx => by cases hx)
  simp only [List.length_nil, Nat.zero_add] at h
  exact h
theorem layN_most {m : Mem} {l : List Cell} {leaf : Bool} (h : (m.pages.length : Int) ≤ m.most) : ((layN m l leaf).1.pages.length : Int) ≤ (layN m l leaf).1.most := by
  have key : ∀ (fu : Nat) (m : Mem) (l : List Cell) (nodes : Nat) (out : List Cell) (room : Int), (m.pages.length : Int) ≤ m.most → ((layL leaf room fu m l nodes out).1.pages.length : Int) ≤ (layL leaf room fu m l nodes out).1.most := by
    intro fu
    induction fu with
    | zero => intro m l nodes out room h; exact h
    | succ f ih =>
      intro m l nodes out room h
      unfold layL
      split
      · exact h
      · dsimp only
        generalize (kindB leaf :: (l.take (takeL leaf room (sumC l leaf / nodes) nodes l 0).1).flatMap fun c => cellB c leaf) = p
        have hl : ((layM m p).1.pages.length : Int) ≤ (layM m p).1.most := by
          unfold layM
          split
          · exact h
          · split
            · exact h
            · simp; omega
        split
        · exact hl
        · exact ih _ _ _ _ _ hl
  exact key _ _ _ _ _ _ h
def pageK : List Cell → Nat
  | [] => 0
  | c :: _ => c.page
theorem pageK_of {l : List Cell} {y : Cell} (h : l[0]? = some y) : pageK l = y.page := by
  cases l with
  | nil => simp at h
  | cons c l => simp at h; subst h; rfl
def rootL : Nat → Mem → List Cell → Nat → Bool → Mem × Nat × Nat × Nat
  | 0, m, _, _, _ => (m, 0, 0, 5)
  | f + 1, m, l, depth, leaf => if leaf = false ∧ l.length = 1 then (m, pageK l, depth - 1, 0) else
    let r := layN m l leaf
    if r.2.1 ≠ 0 then (r.1, 0, 0, r.2.1) else rootL f r.1 r.2.2 (depth + 1) false
def rootN (m : Mem) (l : List Cell) (depth : Nat) : Mem × Nat × Nat × Nat :=
  if l.length = 0 then (m, 0, 0, 0) else rootL (1000000000 - m.pages.length + 1) m l depth (decide ((depth : Int) = 1))
end Go.KX

/- Plain: slices of slices. No program in sight. -/
namespace Go.KX
/-- A slice as an element: where it lies, its capacity, its elements. -/
abbrev SlE (α : Type) := Option Addr × Nat × List α
def elSl (α : Type) : El (SlE α) := ⟨1, fun x => [.slice x.1 x.2.2.length x.2.1], fun _ => rfl, by decide, fun _ u h => by simp at h; subst h; rfl⟩
/-- Each of these is a frozen slice. -/
def AllSl {α : Type} (E : El α) (xs : List (SlE α)) : MF where
  p g := ∀ x ∈ xs, (SlM E x.1 x.2.1 x.2.2).p g
  mono e h x hx := (SlM E x.1 x.2.1 x.2.2).mono e (h x hx)
def catS {α : Type} (xs : List (SlE α)) : List α := xs.flatMap fun x => x.2.2
theorem catS_snoc {α : Type} (xs : List (SlE α)) (x : SlE α) : catS (xs ++ [x]) = catS xs ++ x.2.2 := by simp [catS]
theorem catS_take {α : Type} {xs : List (SlE α)} {i : Nat} {y : SlE α} (h : xs[i]? = some y) : (catS (xs.take i)).length + y.2.2.length ≤ (catS xs).length := by
  have h1 : xs = xs.take (i + 1) ++ xs.drop (i + 1) := (List.take_append_drop _ _).symm
  have h2 := congrArg (fun l => (catS l).length) h1
  simp only [take_succ_snoc h, catS, List.flatMap_append, List.length_append, List.flatMap_cons, List.flatMap_nil, List.append_nil] at h2 ⊢
  omega
theorem AllSl.nil {α : Type} (E : El α) (g : GW) : (AllSl E []).p g := fun x hx => by cases hx
section
variable {X : Cx} {k : List It} {L : LL} {fs : List MF} {own : List Res} {arr : Array Oper} {l : List Oper} {o : Oper}
theorem S_sl {α : Type} {E : El α} {xs : List (SlE α)} {i : Nat} {y : SlE α} (hf : Has fs (AllSl E xs)) (hy : xs[i]? = some y) (h : S X arr l k L (SlM E y.1 y.2.1 y.2.2 :: fs) own) : S X arr l k L fs own :=
  S_fact (fun _ hA => hA _ hf.mem y (List.mem_of_getElem? hy)) h
theorem S_sls {α : Type} {E : El α} {xs : List (SlE α)} {a : Option Addr} {c : Nat} {ys : List α} (hf : Has fs (SlM E a c ys)) (hx : Has fs (AllSl E xs)) (h : S X arr l k L (AllSl E ((a, c, ys) :: xs) :: fs) own) : S X arr l k L fs own :=
  S_fact (fun _ hA x hm => by
    rcases List.mem_cons.1 hm with rfl | hm
    · exact hA _ hf.mem
    · exact hA _ hx.mem x hm) h
theorem S_sls0 {α : Type} (E : El α) (h : S X arr l k L (AllSl E [] :: fs) own) : S X arr l k L fs own := S_fact (fun g _ => AllSl.nil E g) h
end
end Go.KX

/- Plain functions: the document's answer, a list of pairs. No program in sight. -/
namespace Go.KX
structure KV where
  key : Bytes
  value : Bytes
  deriving DecidableEq
def encKV (p : KV) : List Value := [str p.key, str p.value]
def elKV : El KV := ⟨2, encKV, fun _ => rfl, by decide, fun _ u h => by simp [encKV] at h; rcases h with rfl | rfl <;> rfl⟩
def findK : List KV → Bytes → Nat
  | [], _ => 0
  | p :: r, key => if blt p.key key = true then findK r key + 1 else 0
theorem findK_le : ∀ (l : List KV) (key : Bytes), findK l key ≤ l.length
  | [], _ => Nat.le_refl _
  | p :: r, key => by
    have := findK_le r key
    unfold findK
    split
    · simp; omega
    · simp
def isAt (l : List KV) (key : Bytes) : Bool := match l[findK l key]? with
  | some p => decide (p.key = key)
  | none => false
def getK (l : List KV) (key : Bytes) : Bytes × Bool := match l[findK l key]? with
  | some p => if p.key = key then (p.value, true) else ([], false)
  | none => ([], false)
def putK (l : List KV) (key value : Bytes) : List KV := (l.take (findK l key) ++ [⟨key, value⟩]) ++ (if isAt l key = true then l.drop (findK l key + 1) else l.drop (findK l key))
def delK (l : List KV) (key : Bytes) : List KV := if isAt l key = true then l.take (findK l key) ++ l.drop (findK l key + 1) else l
def inK (from_ to_ : Bytes) (p : KV) : Bool := !blt p.key from_ && (decide (to_ = []) || blt p.key to_)
def scanK (l : List KV) (from_ to_ : Bytes) : List KV := l.filter (inK from_ to_)
def rightKV (key value : Bytes) : Bool := decide (1 ≤ key.length ∧ key.length ≤ 64 ∧ value.length ≤ 16384)
def deepL : Nat → Int → Nat → Nat
  | 0, _, n => n
  | f + 1, keys, n => if 1 < keys then deepL f (keys / 2) (n + 1) else n
def deepN (keys : Nat) : Nat := deepL (keys + 1) keys 2
def mostI (room : Int) (v : Nat) : Int := if (room - 8).tdiv 8 < v then ((v : Int) - 1).tdiv (room - 8) + 1 else 0
def mostN (l : List KV) (room : Int) : Int := 2 * (l.length : Int) + (l.map fun p => mostI room p.value.length).sum
end Go.KX

/- Plain functions: edits of a leaf's cells. No program in sight. -/
namespace Go.KX
def geAt (l : List Cell) (key : Bytes) (i : Nat) : Bool := match l[i]? with | some c => !blt c.key key | none => false
def neAt (l : List Cell) (key : Bytes) : Nat := searchN l.length (geAt l key)
def hitAt (l : List Cell) (key : Bytes) : Option Cell := match l[neAt l key]? with
  | some c => if c.key = key then some c else none
  | none => none
/-- What an edit comes to: the cells, how many more, an error, the cell that was there. -/
abbrev Edit := List Cell → List Cell × Int × Int × Option Cell
def putE (key : Bytes) (cl : Cell) : Edit := fun l => match hitAt l key with
  | some c => (l.take (neAt l key) ++ ([cl] ++ l.drop (neAt l key + 1)), 0, 0, some c)
  | none => (l.take (neAt l key) ++ ([cl] ++ l.drop (neAt l key)), 1, 0, none)
def delE (key : Bytes) : Edit := fun l => match hitAt l key with
  | some c => (l.take (neAt l key) ++ l.drop (neAt l key + 1), -1, 0, some ⟨key, [], c.page, c.size⟩)
  | none => ([], 0, -1, none)
/-- The pointer to the cell that was there, and what lies behind it. -/
def OldF : Option (Nat × Nat) → Option Cell → MF
  | some x, some c => PtM x.1 x.2 (encCell c)
  | none, none => PF True
  | _, _ => PF False
def oldV (x : Option (Nat × Nat)) : Value := .pointer (x.map fun p => ⟨p.1, p.2, none⟩)
end Go.KX

/- Plain functions: a change in the tree. No program in sight. -/
namespace Go.KX
def pageAt (l : List Cell) (i : Nat) : Nat := match l[i]? with | some c => c.page | none => 0
/-- What a change comes to: memory, the pages left behind, the cells, how many more, an error, the cell that was there. -/
structure Chg where
  m : Mem
  g : Gone
  l : List Cell
  more : Int
  e : Int
  old : Option Cell
/-- What lies in a node's part that has become small is joined with a neighbour: memory is only read. -/
structure Jn where
  e : Int
  g : Gone
  sub : List Cell
  from_ : Nat
  to_ : Nat
def joinK (l : List Cell) (i : Nat) : Nat := if i + 1 = l.length then i - 1 else i + 1
def joinN (m : Mem) (g : Gone) (l : List Cell) (i : Nat) (sub : List Cell) (leaf : Bool) : Jn :=
  if (sumC sub leaf : Int) < m.size.tdiv 4 ∧ 1 < l.length then
    if (loadN m (pageAt l (joinK l i)) leaf).1 ≠ 0 then ⟨(loadN m (pageAt l (joinK l i)) leaf).1, g, [], 0, 0⟩
    else if (mget g (pageAt l (joinK l i) : Int)).isSome = true then ⟨51, g, [], 0, 0⟩
    else if i < joinK l i then ⟨0, mset g (pageAt l (joinK l i) : Int) (), sub ++ (loadN m (pageAt l (joinK l i)) leaf).2, i, joinK l i + 1⟩
    else ⟨0, mset g (pageAt l (joinK l i) : Int) (), (loadN m (pageAt l (joinK l i)) leaf).2 ++ sub, joinK l i, i + 1⟩
  else ⟨0, g, sub, i, i + 1⟩
/-- Behind the change below: the join, the laying, the cells of this node. -/
def upN (l : List Cell) (i : Nat) (leaf : Bool) (r : Chg) : Chg :=
  if r.e ≠ 0 then ⟨r.m, r.g, [], 0, r.e, r.old⟩ else
  let j := joinN r.m r.g l i r.l leaf
  if j.e ≠ 0 then ⟨r.m, j.g, [], 0, j.e, r.old⟩ else
  let y := layN r.m j.sub leaf
  if y.2.1 ≠ 0 then ⟨y.1, j.g, [], 0, y.2.1, r.old⟩ else
  ⟨y.1, j.g, l.take j.from_ ++ (y.2.2 ++ l.drop j.to_), r.more, 0, r.old⟩
/-- d + 1 is the depth. -/
def changeN (E : Edit) (key : Bytes) : Nat → Mem → Gone → Int → Chg
  | 0, m, g, at_ =>
    if (mget g at_).isSome = true then ⟨m, g, [], 0, 51, none⟩ else
    if (loadN m at_ true).1 ≠ 0 then ⟨m, g, [], 0, (loadN m at_ true).1, none⟩ else
    ⟨m, mset g at_ (), (E (loadN m at_ true).2).1, (E (loadN m at_ true).2).2.1, (E (loadN m at_ true).2).2.2.1, (E (loadN m at_ true).2).2.2.2⟩
  | d + 1, m, g, at_ =>
    if (mget g at_).isSome = true then ⟨m, g, [], 0, 51, none⟩ else
    if (loadN m at_ false).1 ≠ 0 then ⟨m, g, [], 0, (loadN m at_ false).1, none⟩ else
    upN (loadN m at_ false).2 (childI (loadN m at_ false).2 key) (decide (d = 0))
      (changeN E key d m (mset g at_ ()) (pageAt (loadN m at_ false).2 (childI (loadN m at_ false).2 key)))
theorem readT_text (s : Strip) (m : Nat) : (readT s m).2.length ≤ m := by
  unfold readT
  split
  · simp
  · dsimp only
    unfold txtR
    split
    · simp
    · split
      · simp
      · split
        · simp
        · dsimp only; rw [List.length_take]; omega
theorem stepC_ok (leaf : Bool) (acc : List Cell) (s : Strip) : CellOK (stepC leaf acc s).2.2 := by
  have h1 := readT_text s 64
  unfold stepC stepT stepF
  split
  · dsimp only
    split
    · have h2 := readT_text (readS (readT s 64).1 (numR true 0 (readT s 64).1.left)).1 16384
      exact ⟨by dsimp only; omega, by dsimp only; omega, by dsimp only; omega⟩
    · exact ⟨by dsimp only; omega, by dsimp only; omega, by dsimp only; simp; omega⟩
  · exact ⟨by dsimp only; omega, by dsimp only; omega, by dsimp only; simp; omega⟩
theorem loadL_cells {leaf : Bool} : ∀ (fu : Nat) (s : Strip) (ok : Bool) (acc : List Cell), (∀ c ∈ acc, CellOK c) → ∀ c ∈ (loadL leaf fu s ok acc).2, CellOK c
  | 0, _, _, _, h => h
  | fu + 1, s, ok, acc, h => by
    unfold loadL
    split
    · refine loadL_cells fu _ _ _ (fun c hc => ?_)
      rcases List.mem_append.1 hc with hc | hc
      · exact h c hc
      · rcases List.mem_singleton.1 hc with rfl; exact stepC_ok leaf acc s
    · exact h
theorem loadL_len {leaf : Bool} : ∀ (fu : Nat) (s : Strip) (ok : Bool) (acc : List Cell), (loadL leaf fu s ok acc).1 = true → (loadL leaf fu s ok acc).2.length ≤ acc.length + s.left.length
  | 0, s, ok, acc, _ => by simp [loadL]
  | fu + 1, s, ok, acc, h => by
    unfold loadL at h ⊢
    by_cases hc : 0 < s.left.length ∧ ok = true
    · rw [if_pos hc] at h ⊢
      have ih := loadL_len fu _ _ _ h
      by_cases ho : (stepC leaf acc s).2.1 = true
      · have := stepC_less ho
        simp only [List.length_append, List.length_cons, List.length_nil] at ih
        omega
      · have hf : (stepC leaf acc s).2.1 = false := by cases hq : (stepC leaf acc s).2.1 with | true => exact absurd hq ho | false => rfl
        rw [hf, loadL_end (by simp)] at h
        cases h
    · rw [if_neg hc]; simp
theorem loadN_ok {m : Mem} (h : MOK m) (n : Int) (leaf : Bool) : (∀ c ∈ (loadN m n leaf).2, CellOK c) ∧ (loadN m n leaf).2.length ≤ 1000000 := by
  have hp := pageM_small h n (kindOf leaf)
  unfold loadN
  split
  · exact ⟨fun c hc => (by cases hc), by simp⟩
  · dsimp only
    have h1 := loadL_cells (leaf := leaf) ((pageM m n (kindOf leaf)).2.length + 1) ⟨(pageM m n (kindOf leaf)).2, (pageM m n (kindOf leaf)).2.length, 0, 0⟩ true [] (fun c hc => by cases hc)
    have h2 := loadL_len (leaf := leaf) ((pageM m n (kindOf leaf)).2.length + 1) ⟨(pageM m n (kindOf leaf)).2, (pageM m n (kindOf leaf)).2.length, 0, 0⟩ true []
    split
    · exact ⟨fun c hc => (by cases hc), by simp⟩
    · rename_i hn
      refine ⟨h1, ?_⟩
      have h3 := h2 (by
        cases hq : (loadL leaf ((pageM m n (kindOf leaf)).2.length + 1) ⟨(pageM m n (kindOf leaf)).2, (pageM m n (kindOf leaf)).2.length, 0, 0⟩ true []).1 with
        | true => rfl
        | false => exact absurd (.inl hq) hn)
      simp only [List.length_nil, Nat.zero_add] at h3
      dsimp only
      omega
/-- A node that is loaded has a cell. -/
theorem loadN_pos {m : Mem} {n : Int} {leaf : Bool} (h : (loadN m n leaf).1 = 0) : 0 < (loadN m n leaf).2.length := by
  unfold loadN at h ⊢
  by_cases h1 : (pageM m n (kindOf leaf)).1 ≠ 0
  · rw [if_pos h1] at h; exact absurd h h1
  · rw [if_neg h1] at h ⊢
    dsimp only at h ⊢
    split
    · rename_i hq; rw [if_pos hq] at h; cases h
    · rename_i hq
      dsimp only
      exact Nat.pos_of_ne_zero (fun h0 => hq (.inr h0))
/-- An edit gives cells that may be, and no more than one more. -/
def EditOK (E : Edit) : Prop := ∀ l, (∀ c ∈ l, CellOK c) → l.length ≤ 1000000 → (∀ c ∈ (E l).1, CellOK c) ∧ (E l).1.length ≤ 1000001
structure ChgOK (m : Mem) (r : Chg) : Prop where
  mol : MOL r.m
  size : r.m.size = m.size
  cells : ∀ c ∈ r.l, CellOK c
  len : r.l.length ≤ 1001000001
theorem joinN_ok {m : Mem} (hm : MOL m) {g : Gone} {l : List Cell} {i : Nat} {sub : List Cell} {leaf : Bool} (hs : ∀ c ∈ sub, CellOK c) (hl : sub.length ≤ 1001000001) :
    (∀ c ∈ (joinN m g l i sub leaf).sub, CellOK c) ∧ (joinN m g l i sub leaf).sub.length ≤ 1002000001 := by
  have h1 := loadN_ok hm.ok (pageAt l (joinK l i) : Int) leaf
  unfold joinN
  split
  · split
    · exact ⟨fun c hc => (by cases hc), by simp⟩
    · split
      · exact ⟨fun c hc => (by cases hc), by simp⟩
      · split
        · refine ⟨fun c hc => ?_, by dsimp only; rw [List.length_append]; omega⟩
          rcases List.mem_append.1 hc with h | h
          · exact hs c h
          · exact h1.1 c h
        · refine ⟨fun c hc => ?_, by dsimp only; rw [List.length_append]; omega⟩
          rcases List.mem_append.1 hc with h | h
          · exact h1.1 c h
          · exact hs c h
  · exact ⟨hs, by dsimp only; omega⟩
theorem joinN_le (m : Mem) (g : Gone) (l : List Cell) (i : Nat) (sub : List Cell) (leaf : Bool) : (joinN m g l i sub leaf).from_ ≤ (joinN m g l i sub leaf).to_ := by
  unfold joinN
  split
  · split
    · exact Nat.le_refl _
    · split
      · exact Nat.le_refl _
      · split
        · dsimp only; omega
        · dsimp only; omega
  · dsimp only; omega
theorem upN_ok {m : Mem} {l : List Cell} {i : Nat} {leaf : Bool} {r : Chg} (hl : ∀ c ∈ l, CellOK c) (hll : l.length ≤ 1000000) (h : ChgOK m r) : ChgOK m (upN l i leaf r) := by
  obtain ⟨h1, h2, h3, h4⟩ := h
  unfold upN
  split
  · exact ⟨h1, h2, fun c hc => (by cases hc), by simp⟩
  · dsimp only
    have hj := joinN_ok (g := r.g) (l := l) (i := i) (leaf := leaf) h1 h3 h4
    split
    · exact ⟨h1, h2, fun c hc => (by cases hc), by simp⟩
    · obtain ⟨y1, y2, y3, y4, y5, y6, y7⟩ := layN_props (leaf := leaf) h1 hj.1
      split
      · exact ⟨y1, y3.trans h2, fun c hc => (by cases hc), by simp⟩
      · rename_i _ _ hy
        have hz := y6 (by omega)
        have hf := y1.ok.few
        refine ⟨y1, y3.trans h2, fun c hc => ?_, ?_⟩
        · rcases List.mem_append.1 hc with hc | hc
          · exact hl c (List.mem_of_mem_take hc)
          · rcases List.mem_append.1 hc with hc | hc
            · exact y4 c hc
            · exact hl c (List.mem_of_mem_drop hc)
        · have hle := joinN_le r.m r.g l i r.l leaf
          dsimp only
          rw [List.length_append, List.length_append, List.length_take, List.length_drop]
          omega
theorem changeN_ok {E : Edit} (hE : EditOK E) (key : Bytes) : ∀ (d : Nat) (m : Mem) (g : Gone) (at_ : Int), MOL m → ChgOK m (changeN E key d m g at_)
  | 0, m, g, at_, hm => by
    have hl := loadN_ok hm.ok at_ true
    have he := hE _ hl.1 hl.2
    unfold changeN
    split
    · exact ⟨hm, rfl, fun c hc => (by cases hc), by simp⟩
    · split
      · exact ⟨hm, rfl, fun c hc => (by cases hc), by simp⟩
      · exact ⟨hm, rfl, he.1, by dsimp only; omega⟩
  | d + 1, m, g, at_, hm => by
    have hl := loadN_ok hm.ok at_ false
    unfold changeN
    split
    · exact ⟨hm, rfl, fun c hc => (by cases hc), by simp⟩
    · split
      · exact ⟨hm, rfl, fun c hc => (by cases hc), by simp⟩
      · exact upN_ok hl.1 hl.2 (changeN_ok hE key d m _ _ hm)
end Go.KX

/- Plain functions: a key's value. No program in sight. -/
namespace Go.KX
theorem childI_lt {l : List Cell} (key : Bytes) (h : 0 < l.length) : childI l key < l.length := by
  have := searchN_le l.length (gtAt l key)
  unfold childI; omega
theorem pageAt_of {l : List Cell} {i : Nat} {y : Cell} (h : l[i]? = some y) : pageAt l i = y.page := by unfold pageAt; rw [h]
def descN (key : Bytes) (m : Mem) : Nat → Int → Nat × Int
  | 0, at_ => (0, at_)
  | d + 1, at_ => if (loadN m at_ false).1 ≠ 0 then ((loadN m at_ false).1, 0) else descN key m d (pageAt (loadN m at_ false).2 (childI (loadN m at_ false).2 key))
def getN (m : Mem) (t : Tree) (key : Bytes) : Bytes × Bool × Nat :=
  if m.size < 480 then ([], false, 2) else
  if ¬ (key ≠ [] ∧ key.length ≤ 64) then ([], false, 50) else
  if rightT t = false then ([], false, 51) else
  if t.root = 0 then ([], false, 0) else
  let ds := descN key m (t.deep - 1).toNat t.root
  if ds.1 ≠ 0 then ([], false, ds.1) else
  let ld := loadN m ds.2 true
  if ld.1 ≠ 0 then ([], false, ld.1) else
  match ld.2[childI ld.2 key]? with
  | none => ([], false, 0)
  | some c => if c.key ≠ key then ([], false, 0) else ((tellN getF m [] c).2.2, decide (((tellN getF m [] c).2.1 : Int) = 0), (tellN getF m [] c).2.1)
end Go.KX

/- Plain functions: going over a tree's leaves; a scan; the pages of a tree. No program in sight. -/
namespace Go.KX
/-- Where going over leaves stands: the pages met, what has been gathered, an error. -/
structure Ea (τ : Type) where
  g : Gone
  t : τ
  e : Nat
abbrev EaF (τ : Type) := Gone → τ → Cell → Ea τ
def outTo (to_ : Bytes) (c : Cell) : Bool := decide (to_ ≠ []) && !blt c.key to_
def nextLE (from_ : Bytes) (r : List Cell) : Bool := match r[0]? with | some c => blt c.key from_ || decide (c.key = from_) | none => false
section
variable {τ : Type}
def eachL (F : EaF τ) (rec_ : Gone → τ → Int → Ea τ) (leaf : Bool) (from_ to_ : Bytes) : Nat → List Cell → Gone → τ → Ea τ
  | _, [], g, t => ⟨g, t, 0⟩
  | i, c :: r, g, t =>
    if outTo to_ c = true ∧ 0 < i then ⟨g, t, 0⟩ else
    if leaf = true then
      if blt c.key from_ = true ∨ outTo to_ c = true then eachL F rec_ leaf from_ to_ (i + 1) r g t
      else if (F g t c).e ≠ 0 then F g t c else eachL F rec_ leaf from_ to_ (i + 1) r (F g t c).g (F g t c).t
    else if nextLE from_ r = true then eachL F rec_ leaf from_ to_ (i + 1) r g t
    else if (rec_ g t c.page).e ≠ 0 then rec_ g t c.page else eachL F rec_ leaf from_ to_ (i + 1) r (rec_ g t c.page).g (rec_ g t c.page).t
/-- d + 1 is the depth. -/
def eachN (F : EaF τ) (m : Mem) (from_ to_ : Bytes) : Nat → Gone → τ → Int → Ea τ
  | 0, g, t, at_ =>
    if (mget g at_).isSome = true then ⟨g, t, 51⟩ else
    if (loadN m at_ true).1 ≠ 0 then ⟨mset g at_ (), t, (loadN m at_ true).1⟩ else
    eachL F (fun g t _ => ⟨g, t, 0⟩) true from_ to_ 0 (loadN m at_ true).2 (mset g at_ ()) t
  | d + 1, g, t, at_ =>
    if (mget g at_).isSome = true then ⟨g, t, 51⟩ else
    if (loadN m at_ false).1 ≠ 0 then ⟨mset g at_ (), t, (loadN m at_ false).1⟩ else
    eachL F (fun g t a => eachN F m from_ to_ d g t a) false from_ to_ 0 (loadN m at_ false).2 (mset g at_ ()) t
/-- The pages that were met are pages, none twice. -/
structure GI (m : Mem) (g : Gone) : Prop where
  nd : (g.map (·.1)).Nodup
  lo : ∀ p ∈ g, 1 ≤ p.1
  hi : ∀ p ∈ g, p.1 ≤ m.pages.length
theorem nodup_le : ∀ (n : Nat) (l : List Int), l.Nodup → (∀ x ∈ l, 1 ≤ x ∧ x ≤ n) → l.length ≤ n
  | 0, l, _, h => by
    cases l with
    | nil => simp
    | cons x l => have := h x (.head _); omega
  | n + 1, l, hn, h => by
    have h1 := nodup_le n (l.erase ((n + 1 : Nat) : Int)) (hn.erase _) (fun x hx => by
      have hm := List.mem_of_mem_erase hx
      have hne : x ≠ ((n + 1 : Nat) : Int) := fun e => by
        subst e
        exact (hn.not_mem_erase) hx
      have := h x hm
      omega)
    have := List.length_erase_le (a := ((n + 1 : Nat) : Int)) (l := l)
    have h3 := List.length_erase (a := ((n + 1 : Nat) : Int)) (l := l)
    split at h3 <;> omega
theorem GI.len {m : Mem} {g : Gone} (h : GI m g) : g.length ≤ m.pages.length := by
  have := nodup_le m.pages.length (g.map (·.1)) h.nd (fun x hx => by
    obtain ⟨p, hp, rfl⟩ := List.mem_map.1 hx
    exact ⟨h.lo p hp, h.hi p hp⟩)
  simpa using this
theorem mset_new {g : Gone} {n : Int} (h : mget g n = none) : mset g n () = g ++ [(n, ())] := by
  induction g with
  | nil => rfl
  | cons p r ih =>
    unfold mget at h
    by_cases hk : n = p.1
    · rw [if_pos hk] at h; cases h
    · rw [if_neg hk] at h
      unfold mset
      rw [if_neg hk, ih h]; rfl
theorem mget_mem {g : Gone} {n : Int} (h : mget g n = none) : n ∉ g.map (·.1) := by
  induction g with
  | nil => simp
  | cons p r ih =>
    unfold mget at h
    by_cases hk : n = p.1
    · rw [if_pos hk] at h; cases h
    · rw [if_neg hk] at h
      simp only [List.map_cons, List.mem_cons, not_or]
      exact ⟨hk, ih h⟩
theorem GI.set {m : Mem} {g : Gone} (h : GI m g) {n : Int} (hn : mget g n = none) (h1 : 1 ≤ n) (h2 : n ≤ m.pages.length) : GI m (mset g n ()) := by
  rw [mset_new hn]
  refine ⟨?_, fun p hp => ?_, fun p hp => ?_⟩
  · rw [List.map_append]
    refine List.nodup_append.2 ⟨h.nd, by simp, fun a ha b hb => ?_⟩
    simp at hb; subst hb
    exact fun e => mget_mem hn (e ▸ ha)
  · rcases List.mem_append.1 hp with hp | hp
    · exact h.lo p hp
    · simp at hp; subst hp; exact h1
  · rcases List.mem_append.1 hp with hp | hp
    · exact h.hi p hp
    · simp at hp; subst hp; exact h2
theorem GI.nil (m : Mem) : GI m [] := ⟨List.nodup_nil, fun p hp => (by cases hp), fun p hp => (by cases hp)⟩
theorem loadM_in {m : Mem} {n : Int} (h : (loadM m n).1 = 0) : 1 ≤ n ∧ n ≤ m.pages.length := by
  unfold loadM at h
  split at h
  · cases h
  · omega
theorem pageM_in {m : Mem} {n k : Int} (h : (pageM m n k).1 = 0) : (loadM m n).1 = 0 := by
  unfold pageM at h
  by_cases h1 : (loadM m n).1 ≠ 0
  · rw [if_pos h1] at h; exact absurd h h1
  · omega
theorem loadN_in {m : Mem} {n : Int} {leaf : Bool} (h : (loadN m n leaf).1 = 0) : 1 ≤ n ∧ n ≤ m.pages.length := by
  refine loadM_in (pageM_in (k := kindOf leaf) ?_)
  unfold loadN at h
  by_cases h1 : (pageM m n (kindOf leaf)).1 ≠ 0
  · rw [if_pos h1] at h; exact absurd h h1
  · omega
/-- What is asked of who is handed the cells: it gathers no more than one thing a cell, and meets pages. -/
structure EaOK (m : Mem) (cnt : τ → Nat) (F : EaF τ) : Prop where
  step : ∀ g t c, GI m g → cnt (F g t c).t ≤ cnt t + 1 ∧ ((F g t c).e = 0 → GI m (F g t c).g ∧ g.length ≤ (F g t c).g.length)
/-- How many things there are at most: of each page met no more than a million. -/
def Few (m : Mem) (cnt : τ → Nat) (g : Gone) (t : τ) : Prop := GI m g ∧ cnt t ≤ 1000000 * g.length
theorem Few.le {m : Mem} {cnt : τ → Nat} {g : Gone} {t : τ} (h : Few m cnt g t) (hm : m.pages.length ≤ 3900000) : cnt t ≤ 3900000000000 := by
  have := h.1.len
  have := h.2
  omega
theorem eachL_leaf {m : Mem} {cnt : τ → Nat} {F : EaF τ} (hF : EaOK m cnt F) {rec_ : Gone → τ → Int → Ea τ} {from_ to_ : Bytes} : ∀ (l : List Cell) (i : Nat) (g : Gone) (t : τ), GI m g → cnt t + 1000000 ≤ 1000000 * g.length + i → i + l.length ≤ 1000000 →
    (eachL F rec_ true from_ to_ i l g t).e = 0 → Few m cnt (eachL F rec_ true from_ to_ i l g t).g (eachL F rec_ true from_ to_ i l g t).t
  | [], i, g, t, hg, hc, hl, _ => by
    unfold eachL
    exact ⟨hg, by dsimp only; simp at hl; omega⟩
  | c :: r, i, g, t, hg, hc, hl, he => by
    simp only [List.length_cons] at hl
    unfold eachL at he ⊢
    split
    · exact ⟨hg, by dsimp only; omega⟩
    · rename_i h1
      rw [if_neg h1] at he
      simp only [if_true] at he ⊢
      split
      · rename_i h2
        rw [if_pos h2] at he
        exact eachL_leaf hF r (i + 1) g t hg (by omega) (by omega) he
      · rename_i h2
        rw [if_neg h2] at he
        have hs := hF.step g t c hg
        split
        · rename_i h3; rw [if_pos h3] at he; exact absurd he h3
        · rename_i h3
          rw [if_neg h3] at he
          have hs2 := hs.2 (by omega)
          exact eachL_leaf hF r (i + 1) _ _ hs2.1 (by omega) (by omega) he
theorem eachL_branch {m : Mem} {cnt : τ → Nat} {F : EaF τ} {rec_ : Gone → τ → Int → Ea τ} (hr : ∀ g t a, Few m cnt g t → (rec_ g t a).e = 0 → Few m cnt (rec_ g t a).g (rec_ g t a).t) {from_ to_ : Bytes} : ∀ (l : List Cell) (i : Nat) (g : Gone) (t : τ), Few m cnt g t →
    (eachL F rec_ false from_ to_ i l g t).e = 0 → Few m cnt (eachL F rec_ false from_ to_ i l g t).g (eachL F rec_ false from_ to_ i l g t).t
  | [], i, g, t, hg, _ => by unfold eachL; exact hg
  | c :: r, i, g, t, hg, he => by
    unfold eachL at he ⊢
    split
    · exact hg
    · rename_i h1
      rw [if_neg h1] at he
      simp only [Bool.false_eq_true, if_false] at he ⊢
      split
      · rename_i h2
        rw [if_pos h2] at he
        exact eachL_branch hr r (i + 1) g t hg he
      · rename_i h2
        rw [if_neg h2] at he
        split
        · rename_i h3; rw [if_pos h3] at he; exact absurd he h3
        · rename_i h3
          rw [if_neg h3] at he
          exact eachL_branch hr r (i + 1) _ _ (hr g t _ hg (by omega)) he
theorem Few.met {m : Mem} {cnt : τ → Nat} {g : Gone} {t : τ} (h : Few m cnt g t) {n : Int} {leaf : Bool} (hn : ¬ (mget g n).isSome = true) (hl : (loadN m n leaf).1 = 0) : GI m (mset g n ()) ∧ cnt t + 1000000 ≤ 1000000 * (mset g n ()).length := by
  have hno : mget g n = none := by cases hq : mget g n with | none => rfl | some u => rw [hq] at hn; exact absurd rfl hn
  have hin := loadN_in hl
  refine ⟨h.1.set hno hin.1 hin.2, ?_⟩
  rw [mset_new hno]
  have := h.2
  simp only [List.length_append, List.length_cons, List.length_nil]
  omega
theorem eachN_few {m : Mem} (hm : MOK m) {cnt : τ → Nat} {F : EaF τ} (hF : EaOK m cnt F) {from_ to_ : Bytes} : ∀ (d : Nat) (g : Gone) (t : τ) (at_ : Int), Few m cnt g t → (eachN F m from_ to_ d g t at_).e = 0 → Few m cnt (eachN F m from_ to_ d g t at_).g (eachN F m from_ to_ d g t at_).t
  | 0, g, t, at_, h, he => by
    unfold eachN at he ⊢
    split
    · rename_i h1; rw [if_pos h1] at he; cases he
    · rename_i h1
      rw [if_neg h1] at he
      split
      · rename_i h2; rw [if_pos h2] at he; exact absurd he h2
      · rename_i h2
        rw [if_neg h2] at he
        have hmt := h.met h1 (show (loadN m at_ true).1 = 0 by omega)
        exact eachL_leaf hF _ 0 _ _ hmt.1 (by omega) (by have := (loadN_ok hm at_ true).2; omega) he
  | d + 1, g, t, at_, h, he => by
    unfold eachN at he ⊢
    split
    · rename_i h1; rw [if_pos h1] at he; cases he
    · rename_i h1
      rw [if_neg h1] at he
      split
      · rename_i h2; rw [if_pos h2] at he; exact absurd he h2
      · rename_i h2
        rw [if_neg h2] at he
        have hmt := h.met h1 (show (loadN m at_ false).1 = 0 by omega)
        exact eachL_branch (fun g t a hq he => eachN_few hm hF d g t a hq he) _ 0 _ _ ⟨hmt.1, by omega⟩ he
end
/-! ### What tell meets -/
theorem tellL_GI {m : Mem} {size : Nat} : ∀ (fu : Nat) (g : Gone) (n : Nat) (b : Bytes), GI m g → (tellL metF m size fu g n b).2.1 = 0 → GI m (tellL metF m size fu g n b).1 ∧ g.length ≤ (tellL metF m size fu g n b).1.length
  | 0, g, n, b, h, he => by cases he
  | fu + 1, g, n, b, h, he => by
    unfold tellL at he ⊢
    by_cases h0 : n = 0
    · rw [if_pos h0] at he ⊢
      split
      · exact ⟨h, Nat.le_refl _⟩
      · exact ⟨h, Nat.le_refl _⟩
    · rw [if_neg h0] at he ⊢
      by_cases h1 : (tellS metF m size g n b).2.1 ≠ 0
      · rw [if_pos h1] at he; exact absurd he h1
      · rw [if_neg h1] at he ⊢
        have key : GI m (tellS metF m size g n b).1 ∧ g.length ≤ (tellS metF m size g n b).1.length := by
          have hz : (tellS metF m size g n b).2.1 = 0 := by omega
          unfold tellS at hz ⊢
          by_cases q1 : (metF g n).1 ≠ 0
          · rw [if_pos q1] at hz; exact absurd hz q1
          · rw [if_neg q1] at hz ⊢
            by_cases q2 : (loadM m n).1 ≠ 0
            · rw [if_pos q2] at hz; exact absurd hz q2
            · rw [if_neg q2] at hz ⊢
              have hin := loadM_in (show (loadM m n).1 = 0 by omega)
              have hno : mget g (n : Int) = none := by
                unfold metF at q1
                cases hq : mget g (n : Int) with
                | none => rfl
                | some u => rw [hq] at q1; exact absurd (show (51 : Nat) ≠ 0 by decide) q1
              have hmt : (metF g n).2 = mset g (n : Int) () := by unfold metF; rw [hno]; rfl
              have hgi := h.set hno hin.1 hin.2
              have hle : g.length ≤ (mset g (n : Int) ()).length := by rw [mset_new hno]; simp
              have hfst : ∀ (c1 c2 : Prop) [Decidable c1] [Decidable c2] (c3 : Prop) [Decidable c3] (x y z u : Nat × Nat × Bytes) (w : Gone), (if c1 then (w, x) else if c2 then (w, y) else if c3 then (w, z) else (w, u)).1 = w := by
                intro c1 c2 _ _ c3 _ x y z u w
                split
                · rfl
                · split
                  · rfl
                  · split <;> rfl
              dsimp only
              rw [hfst, hmt]
              exact ⟨hgi, hle⟩
        have ih := tellL_GI fu _ _ _ key.1 he
        exact ⟨ih.1, by omega⟩
theorem tellN_GI {m : Mem} {g : Gone} {c : Cell} (h : GI m g) (he : (tellN metF m g c).2.1 = 0) : GI m (tellN metF m g c).1 ∧ g.length ≤ (tellN metF m g c).1.length := by
  unfold tellN at he ⊢
  split
  · exact ⟨h, Nat.le_refl _⟩
  · rename_i h0
    rw [if_neg h0] at he
    exact tellL_GI _ _ _ _ h he
/-! ### Scan, Pages -/
def lastK (out : List KV) : Bytes := match out[out.length - 1]? with | some p => p.key | none => []
def scanF (m : Mem) : EaF (List KV) := fun g out c =>
  ⟨(tellN metF m g c).1, out ++ [⟨c.key, (tellN metF m g c).2.2⟩], if (tellN metF m g c).2.1 = 0 ∧ 0 < out.length ∧ blt (lastK out) c.key = false then 51 else (tellN metF m g c).2.1⟩
theorem scanF_ok (m : Mem) : EaOK m List.length (scanF m) := ⟨fun g t c hg => ⟨by simp [scanF], fun he => by
  unfold scanF at he ⊢
  dsimp only at he ⊢
  refine tellN_GI hg ?_
  split at he
  · cases he
  · exact he⟩⟩
def pagesF (m : Mem) : EaF Nat := fun g n c => ⟨(tellN metF m g c).1, n + 1, (tellN metF m g c).2.1⟩
theorem pagesF_ok (m : Mem) : EaOK m id (pagesF m) := ⟨fun g t c hg => ⟨by simp [pagesF], fun he => tellN_GI hg he⟩⟩
def insI (x : Int) : List Int → List Int
  | [] => [x]
  | y :: r => if x ≤ y then x :: y :: r else y :: insI x r
/-- Numbers by their order. -/
def sortI (l : List Int) : List Int := l.foldr insI []
def keysG (g : Gone) : List Int := g.map (·.1)
def scanN (m : Mem) (t : Tree) (from_ to_ : Bytes) : List KV × Nat :=
  if m.size < 480 then ([], 2) else
  if rightT t = false then ([], 51) else
  if t.root = 0 then ([], 0) else
  let x := eachN (scanF m) m from_ to_ (t.deep - 1).toNat [] [] t.root
  if x.e ≠ 0 then ([], x.e) else (x.t, 0)
def pagesN (m : Mem) (t : Tree) : List Int × Nat :=
  if m.size < 480 then ([], 2) else
  if rightT t = false then ([], 51) else
  if t.root = 0 then ([], 0) else
  let x := eachN (pagesF m) m [] [] (t.deep - 1).toNat [] 0 t.root
  let e := if x.e = 0 ∧ ¬ (x.t : Int) = t.keys then 51 else x.e
  if e ≠ 0 then ([], e) else (sortI (keysG x.g), 0)
end Go.KX

/- Plain functions: Put, Delete. No program in sight. -/
namespace Go.KX
/-- What a turn comes to: memory, the tree, the pages that are not used any more, an error, the cell that was there. -/
structure Tn where
  m : Mem
  t : Tree
  gone : List Int
  e : Int
  old : Option Cell
def tree0 : Tree := ⟨0, 0, 0⟩
/-- Behind the change: the root, the tree. -/
def rootT (t : Tree) (r : Chg) (depth : Nat) : Tn :=
  if r.e = -1 then ⟨r.m, t, [], 0, r.old⟩ else
  if r.e ≠ 0 then ⟨r.m, tree0, [], r.e, r.old⟩ else
  let q := rootN r.m r.l depth
  if q.2.2.2 ≠ 0 then ⟨q.1, tree0, [], q.2.2.2, r.old⟩ else
  let k := IntKind.i64.wrap (t.keys + r.more)
  if ((q.2.1 : Int) = 0 ∧ ¬ k = 0) ∨ (¬ (q.2.1 : Int) = 0 ∧ k < 1) ∨ 64 < (q.2.2.1 : Int) then ⟨q.1, tree0, [], 51, r.old⟩ else
  ⟨q.1, ⟨q.2.1, k, q.2.2.1⟩, sortI (keysG r.g), 0, r.old⟩
def depthT (t : Tree) : Nat := (max t.deep 1).toNat
def chgT (E : Edit) (m : Mem) (t : Tree) (key : Bytes) : Chg :=
  if t.root = 0 then ⟨m, [], (E []).1, (E []).2.1, (E []).2.2.1, (E []).2.2.2⟩ else changeN E key (depthT t - 1) m [] t.root
def turnN (E : Edit) (m : Mem) (t : Tree) (key : Bytes) : Tn :=
  if m.size < 480 then ⟨m, tree0, [], 2, none⟩ else
  if ¬ (key ≠ [] ∧ key.length ≤ 64) then ⟨m, tree0, [], 50, none⟩ else
  if rightT t = false then ⟨m, tree0, [], 51, none⟩ else
  rootT t (chgT E m t key) (depthT t)
def cmpP (p : Int) : List Int → List Int
  | [] => []
  | b :: r => if b = p then cmpP b r else b :: cmpP b r
/-- Runs of one number become one. -/
def cmpI : List Int → List Int
  | [] => []
  | a :: r => a :: cmpP a r
/-- 'without': the pages of a value that is not there any more, too. -/
def withoutN (m : Mem) (t : Tree) (gone : List Int) (e : Int) (old : Option Cell) : Tree × List Int × Int :=
  if e ≠ 0 then (tree0, [], e) else
  match old with
  | none => (t, cmpI (sortI gone), 0)
  | some c => if (tellN dropF m [] c).2.1 ≠ 0 then (tree0, [], (tellN dropF m [] c).2.1) else (t, cmpI (sortI (gone ++ keysG (tellN dropF m [] c).1)), 0)
structure Pt where
  m : Mem
  t : Tree
  gone : List Int
  e : Int
/-- The cell of a value: the memory, the cell, an error. -/
def cellN (m : Mem) (key value : Bytes) : Mem × Cell × Nat :=
  if (m.size - 8).tdiv 8 < value.length then
    let r := longN m value
    (r.1, ⟨key, [], r.2.1, value.length⟩, r.2.2)
  else (m, ⟨key, value, 0, 0⟩, 0)
def putN (m : Mem) (t : Tree) (key value : Bytes) : Pt :=
  if m.size < 480 then ⟨m, tree0, [], 2⟩ else
  if ¬ (key ≠ [] ∧ key.length ≤ 64) ∨ 16384 < value.length then ⟨m, tree0, [], 50⟩ else
  if rightT t = false then ⟨m, tree0, [], 51⟩ else
  let c := cellN m key value
  if c.2.2 ≠ 0 then ⟨c.1, tree0, [], c.2.2⟩ else
  let r := turnN (putE key c.2.1) c.1 t key
  let q := withoutN r.m r.t r.gone r.e r.old
  ⟨r.m, q.1, q.2.1, q.2.2⟩
def delN (m : Mem) (t : Tree) (key : Bytes) : Pt :=
  let r := turnN (delE key) m t key
  if r.e ≠ 0 then ⟨r.m, r.t, r.gone, r.e⟩ else
  match r.old with
  | none => ⟨r.m, r.t, r.gone, r.e⟩
  | some c =>
    let q := withoutN r.m r.t r.gone r.e (some c)
    ⟨r.m, q.1, q.2.1, q.2.2⟩
end Go.KX

/- Plain: which pages a change leaves behind; the cell that was there. No program in sight. -/
namespace Go.KX
theorem GI.grow {m m' : Mem} {g : Gone} (h : GI m g) (hl : m.pages.length ≤ m'.pages.length) : GI m' g := ⟨h.nd, h.lo, fun p hp => by have := h.hi p hp; omega⟩
theorem mset_old {g : Gone} {n : Int} (h : (mget g n).isSome = true) : (mset g n ()).map (·.1) = g.map (·.1) := by
  induction g with
  | nil => cases h
  | cons p r ih =>
    unfold mget at h
    unfold mset
    by_cases hk : n = p.1
    · rw [if_pos hk]; simp [hk]
    · rw [if_neg hk] at h ⊢
      simp only [List.map_cons, ih h]
theorem GI.keys {m : Mem} {g g' : Gone} (h : GI m g) (he : g'.map (·.1) = g.map (·.1)) : GI m g' := by
  have hm : ∀ p ∈ g', p.1 ∈ g.map (·.1) := fun p hp => by rw [← he]; exact List.mem_map.2 ⟨p, hp, rfl⟩
  refine ⟨by rw [he]; exact h.nd, fun p hp => ?_, fun p hp => ?_⟩
  · obtain ⟨q, hq, e⟩ := List.mem_map.1 (hm p hp)
    have := h.lo q hq; omega
  · obtain ⟨q, hq, e⟩ := List.mem_map.1 (hm p hp)
    have := h.hi q hq; omega
theorem GI.put {m : Mem} {g : Gone} (h : GI m g) {n : Int} (h1 : 1 ≤ n) (h2 : n ≤ m.pages.length) : GI m (mset g n ()) := by
  cases hq : mget g n with
  | none => exact h.set hq h1 h2
  | some u => exact h.keys (mset_old (by rw [hq]; rfl))
theorem layL_grow {leaf : Bool} {room : Int} : ∀ (fu : Nat) (m : Mem) (l : List Cell) (nodes : Nat) (out : List Cell), m.pages.length ≤ (layL leaf room fu m l nodes out).1.pages.length
  | 0, m, l, nodes, out => Nat.le_refl _
  | f + 1, m, l, nodes, out => by
    unfold layL
    split
    · exact Nat.le_refl _
    · dsimp only
      generalize (kindB leaf :: (l.take (takeL leaf room (sumC l leaf / nodes) nodes l 0).1).flatMap fun c => cellB c leaf) = p
      have hgr := layM_grow m p
      split
      · exact hgr
      · exact Nat.le_trans hgr (layL_grow f _ _ _ _)
theorem layN_grow (m : Mem) (l : List Cell) (leaf : Bool) : m.pages.length ≤ (layN m l leaf).1.pages.length := layL_grow _ _ _ _ _
theorem joinN_GI {m : Mem} {g : Gone} {l : List Cell} {i : Nat} {sub : List Cell} {leaf : Bool} (h : GI m g) : GI m (joinN m g l i sub leaf).g := by
  unfold joinN
  split
  · split
    · exact h
    · rename_i h1
      have hin := loadN_in (show (loadN m (pageAt l (joinK l i)) leaf).1 = 0 by omega)
      split
      · exact h
      · split
        · exact h.put hin.1 hin.2
        · exact h.put hin.1 hin.2
  · exact h
theorem upN_GI {l : List Cell} {i : Nat} {leaf : Bool} {r : Chg} (h : GI r.m r.g) : GI (upN l i leaf r).m (upN l i leaf r).g := by
  unfold upN
  split
  · exact h
  · dsimp only
    have hj := joinN_GI (l := l) (i := i) (sub := r.l) (leaf := leaf) h
    split
    · exact hj
    · split
      · exact hj.grow (layN_grow _ _ _)
      · exact hj.grow (layN_grow _ _ _)
theorem changeN_GI {E : Edit} {key : Bytes} : ∀ (d : Nat) (m : Mem) (g : Gone) (at_ : Int), GI m g → GI (changeN E key d m g at_).m (changeN E key d m g at_).g
  | 0, m, g, at_, h => by
    unfold changeN
    split
    · exact h
    · split
      · exact h
      · rename_i h1
        have hin := loadN_in (show (loadN m at_ true).1 = 0 by omega)
        exact h.put hin.1 hin.2
  | d + 1, m, g, at_, h => by
    unfold changeN
    split
    · exact h
    · split
      · exact h
      · rename_i h1
        have hin := loadN_in (show (loadN m at_ false).1 = 0 by omega)
        exact upN_GI (changeN_GI d m _ _ (h.put hin.1 hin.2))
/-- The cell that an edit tells is one that may be. -/
def OldOK (E : Edit) : Prop := ∀ l, (∀ c ∈ l, CellOK c) → l.length ≤ 1000000 → ∀ c, (E l).2.2.2 = some c → CellOK c
theorem upN_old (l : List Cell) (i : Nat) (leaf : Bool) (r : Chg) : (upN l i leaf r).old = r.old := by
  unfold upN
  split
  · rfl
  · dsimp only
    split
    · rfl
    · split <;> rfl
theorem changeN_old {E : Edit} (hE : OldOK E) {key : Bytes} : ∀ (d : Nat) (m : Mem) (g : Gone) (at_ : Int), MOK m → ∀ c, (changeN E key d m g at_).old = some c → CellOK c
  | 0, m, g, at_, hm, c, h => by
    unfold changeN at h
    split at h
    · cases h
    · split at h
      · cases h
      · have hl := loadN_ok hm at_ true
        exact hE _ hl.1 hl.2 c h
  | d + 1, m, g, at_, hm, c, h => by
    unfold changeN at h
    split at h
    · cases h
    · split at h
      · cases h
      · rw [upN_old] at h
        exact changeN_old hE d m _ _ hm c h
theorem hitAt_mem {l : List Cell} {key : Bytes} {c : Cell} (h : hitAt l key = some c) : c ∈ l ∧ c.key = key := by
  unfold hitAt at h
  split at h
  · rename_i c' hc
    split at h
    · rename_i hk
      cases h
      exact ⟨List.mem_of_getElem? hc, hk⟩
    · cases h
  · cases h
theorem putE_ok {key : Bytes} {cl : Cell} (hc : CellOK cl) : EditOK (putE key cl) := by
  intro l hl hn
  unfold putE
  split
  · refine ⟨fun c hc' => ?_, ?_⟩
    · simp only [List.mem_append, List.mem_cons, List.not_mem_nil, or_false] at hc'
      rcases hc' with h | rfl | h
      · exact hl c (List.mem_of_mem_take h)
      · exact hc
      · exact hl c (List.mem_of_mem_drop h)
    · simp only [List.length_append, List.length_take, List.length_cons, List.length_nil, List.length_drop]; omega
  · refine ⟨fun c hc' => ?_, ?_⟩
    · simp only [List.mem_append, List.mem_cons, List.not_mem_nil, or_false] at hc'
      rcases hc' with h | rfl | h
      · exact hl c (List.mem_of_mem_take h)
      · exact hc
      · exact hl c (List.mem_of_mem_drop h)
    · simp only [List.length_append, List.length_take, List.length_cons, List.length_nil, List.length_drop]; omega
theorem putE_old {key : Bytes} {cl : Cell} : OldOK (putE key cl) := by
  intro l hl _ c h
  unfold putE at h
  split at h
  · rename_i c' hc'
    cases h
    exact hl _ (hitAt_mem hc').1
  · cases h
theorem delE_ok {key : Bytes} : EditOK (delE key) := by
  intro l hl hn
  unfold delE
  split
  · refine ⟨fun c hc' => ?_, ?_⟩
    · rcases List.mem_append.1 hc' with h | h
      · exact hl c (List.mem_of_mem_take h)
      · exact hl c (List.mem_of_mem_drop h)
    · simp only [List.length_append, List.length_take, List.length_drop]; omega
  · exact ⟨fun c hc' => (by cases hc'), by simp⟩
theorem delE_old {key : Bytes} : OldOK (delE key) := by
  intro l hl _ c h
  unfold delE at h
  split at h
  · rename_i c' hc'
    cases h
    have h1 := hitAt_mem hc'
    have h2 := hl _ h1.1
    exact ⟨h2.page, h2.size, by have := h2.text; have := h1.2; subst this; simp; omega⟩
  · cases h
theorem tellL_drop {m : Mem} {size : Nat} : ∀ (fu : Nat) (g : Gone) (n : Nat) (b : Bytes), GI m g → (tellL dropF m size fu g n b).2.1 = 0 → GI m (tellL dropF m size fu g n b).1
  | 0, g, n, b, h, he => by cases he
  | fu + 1, g, n, b, h, he => by
    unfold tellL at he ⊢
    by_cases h0 : n = 0
    · rw [if_pos h0]
      split
      · exact h
      · exact h
    · rw [if_neg h0] at he ⊢
      by_cases h1 : (tellS dropF m size g n b).2.1 ≠ 0
      · rw [if_pos h1] at he; exact absurd he h1
      · rw [if_neg h1] at he ⊢
        have key : GI m (tellS dropF m size g n b).1 := by
          have hz : (tellS dropF m size g n b).2.1 = 0 := by omega
          unfold tellS at hz ⊢
          by_cases q1 : (dropF g n).1 ≠ 0
          · rw [if_pos q1] at hz; exact absurd hz q1
          · rw [if_neg q1] at hz ⊢
            by_cases q2 : (loadM m n).1 ≠ 0
            · rw [if_pos q2] at hz; exact absurd hz q2
            · rw [if_neg q2] at hz ⊢
              have hin := loadM_in (show (loadM m n).1 = 0 by omega)
              have hgi : GI m (dropF g n).2 := h.put hin.1 hin.2
              have hfst : ∀ (c1 c2 : Prop) [Decidable c1] [Decidable c2] (c3 : Prop) [Decidable c3] (x y z u : Nat × Nat × Bytes) (w : Gone), (if c1 then (w, x) else if c2 then (w, y) else if c3 then (w, z) else (w, u)).1 = w := by
                intro c1 c2 _ _ c3 _ x y z u w
                split
                · rfl
                · split
                  · rfl
                  · split <;> rfl
              dsimp only
              rw [hfst]
              exact hgi
        exact tellL_drop fu _ _ _ key he
theorem tellN_drop {m : Mem} {c : Cell} (he : (tellN dropF m [] c).2.1 = 0) : GI m (tellN dropF m [] c).1 := by
  unfold tellN at he ⊢
  split
  · exact GI.nil m
  · rename_i h0
    rw [if_neg h0] at he
    exact tellL_drop _ _ _ _ (GI.nil m) he
theorem nodup_ltN : ∀ (n : Nat) (l : List Nat), l.Nodup → (∀ x ∈ l, x < n) → l.length ≤ n
  | 0, l, _, h => by
    cases l with
    | nil => simp
    | cons x l => have := h x (.head _); omega
  | n + 1, l, hn, h => by
    have h1 := nodup_ltN n (l.erase n) (hn.erase _) (fun x hx => by
      have hm := List.mem_of_mem_erase hx
      have hne : x ≠ n := fun e => by
        subst e
        exact (hn.not_mem_erase) hx
      have := h x hm
      omega)
    have h3 := List.length_erase (a := n) (l := l)
    split at h3 <;> omega
def keyG (g : Gone) (j : Nat) : Int := match g[j]? with | some p => p.1 | none => 0
theorem keyG_of {g : Gone} {j : Nat} {y : Int × Unit} (h : g[j]? = some y) : keyG g j = y.1 := by unfold keyG; rw [h]
theorem map_keyG (g : Gone) : (List.range g.length).map (keyG g) = keysG g := by
  apply List.ext_getElem?
  intro i
  simp only [List.getElem?_map, keysG]
  by_cases h : i < g.length
  · rw [List.getElem?_range h, List.getElem?_eq_getElem h]
    simp [keyG, List.getElem?_eq_getElem h]
  · rw [List.getElem?_eq_none (by simp; omega), List.getElem?_eq_none (by omega)]; rfl
end Go.KX

/- Plain: what is well formed stays so in Put and Delete. No program in sight. -/
namespace Go.KX
theorem longL_props {room : Int} {value : Bytes} : ∀ (fu : Nat) (m : Mem) (first : Nat) (at_ : Int), MOL m → first ≤ 1000000000 →
    MOL (longL room value fu m first at_).1 ∧ (longL room value fu m first at_).1.size = m.size ∧ (longL room value fu m first at_).1.most = m.most ∧ (longL room value fu m first at_).2.1 ≤ 1000000000 ∧ m.pages.length ≤ (longL room value fu m first at_).1.pages.length
  | 0, m, first, at_, hm, hf => ⟨hm, rfl, rfl, hf, Nat.le_refl _⟩
  | fu + 1, m, first, at_, hm, hf => by
    unfold longL
    split
    · exact ⟨hm, rfl, rfl, hf, Nat.le_refl _⟩
    · dsimp only
      generalize (3 :: ([first].flatMap dg ++ (value.drop at_.toNat).take room.toNat)) = p
      have h1 := layM_ok hm p
      have h2 := layM_same m p
      have h3 := layM_few hm p
      have h4 := layM_grow m p
      split
      · exact ⟨h1, h2.2, h2.1, by dsimp only; omega, h4⟩
      · obtain ⟨i1, i2, i3, i4, i5⟩ := longL_props fu (layM m p).1 (layM m p).2.1 (at_ - room) h1 h3
        exact ⟨i1, i2.trans h2.2, i3.trans h2.1, i4, Nat.le_trans h4 i5⟩
theorem longN_props {m : Mem} (hm : MOL m) (value : Bytes) : MOL (longN m value).1 ∧ (longN m value).1.size = m.size ∧ (longN m value).1.most = m.most ∧ (longN m value).2.1 ≤ 1000000000 ∧ m.pages.length ≤ (longN m value).1.pages.length :=
  longL_props _ _ _ _ hm (Nat.zero_le _)
theorem rootL_props : ∀ (fu : Nat) (m : Mem) (l : List Cell) (depth : Nat) (leaf : Bool), MOL m → (∀ c ∈ l, CellOK c) → MOL (rootL fu m l depth leaf).1 ∧ (rootL fu m l depth leaf).1.size = m.size ∧ (rootL fu m l depth leaf).1.most = m.most ∧ m.pages.length ≤ (rootL fu m l depth leaf).1.pages.length
  | 0, m, l, depth, leaf, hm, _ => ⟨hm, rfl, rfl, Nat.le_refl _⟩
  | fu + 1, m, l, depth, leaf, hm, hc => by
    obtain ⟨y1, y2, y3, y4, y5, y6, y7⟩ := layN_props (leaf := leaf) hm hc
    unfold rootL
    split
    · exact ⟨hm, rfl, rfl, Nat.le_refl _⟩
    · dsimp only
      split
      · exact ⟨y1, y3, y2, y5⟩
      · obtain ⟨i1, i2, i3, i4⟩ := rootL_props fu _ _ (depth + 1) false y1 y4
        exact ⟨i1, i2.trans y3, i3.trans y2, Nat.le_trans y5 i4⟩
theorem rootN_props {m : Mem} {l : List Cell} {depth : Nat} (hm : MOL m) (hc : ∀ c ∈ l, CellOK c) : MOL (rootN m l depth).1 ∧ (rootN m l depth).1.size = m.size ∧ (rootN m l depth).1.most = m.most ∧ m.pages.length ≤ (rootN m l depth).1.pages.length := by
  unfold rootN
  split
  · exact ⟨hm, rfl, rfl, Nat.le_refl _⟩
  · exact rootL_props _ _ _ _ _ hm hc
theorem sortI_len (l : List Int) : (sortI l).length = l.length := by
  have hins : ∀ (x : Int) (l : List Int), (insI x l).length = l.length + 1 := by
    intro x l
    induction l with
    | nil => rfl
    | cons y r ih =>
      unfold insI
      split
      · rfl
      · simp [ih]
  induction l with
  | nil => rfl
  | cons x l ih => show (insI x (sortI l)).length = _; rw [hins, ih]; rfl
theorem changeN_most {E : Edit} {key : Bytes} : ∀ (d : Nat) (m : Mem) (g : Gone) (at_ : Int), (changeN E key d m g at_).m.most = m.most ∧ m.pages.length ≤ (changeN E key d m g at_).m.pages.length
  | 0, m, g, at_ => by
    unfold changeN
    split
    · exact ⟨rfl, Nat.le_refl _⟩
    · split <;> exact ⟨rfl, Nat.le_refl _⟩
  | d + 1, m, g, at_ => by
    unfold changeN
    split
    · exact ⟨rfl, Nat.le_refl _⟩
    · split
      · exact ⟨rfl, Nat.le_refl _⟩
      · have ih := changeN_most (E := E) (key := key) d m (mset g at_ ()) (pageAt (loadN m at_ false).2 (childI (loadN m at_ false).2 key))
        revert ih
        generalize changeN E key d m (mset g at_ ()) _ = r
        intro ih
        have hlm : ∀ (m : Mem) (l : List Cell) (leaf : Bool), (layN m l leaf).1.most = m.most := by
          intro m l leaf
          have key : ∀ (fu : Nat) (m : Mem) (l : List Cell) (nodes : Nat) (out : List Cell) (room : Int), (layL leaf room fu m l nodes out).1.most = m.most := by
            intro fu
            induction fu with
            | zero => intro m l nodes out room; rfl
            | succ f ihf =>
              intro m l nodes out room
              unfold layL
              split
              · rfl
              · dsimp only
                split
                · exact (layM_same _ _).1
                · exact (ihf _ _ _ _ _).trans (layM_same _ _).1
          exact key _ _ _ _ _ _
        unfold upN
        split
        · exact ih
        · dsimp only
          split
          · exact ih
          · split
            · exact ⟨(hlm _ _ _).trans ih.1, Nat.le_trans ih.2 (layN_grow _ _ _)⟩
            · exact ⟨(hlm _ _ _).trans ih.1, Nat.le_trans ih.2 (layN_grow _ _ _)⟩
structure TnOK (m : Mem) (r : Tn) : Prop where
  mol : MOL r.m
  size : r.m.size = m.size
  most : r.m.most = m.most
  old : ∀ c, r.old = some c → CellOK c
  few : r.gone.length ≤ 1000000000
  grow : m.pages.length ≤ r.m.pages.length
theorem rootT_ok {m : Mem} {t : Tree} {r : Chg} {depth : Nat} (hr : ChgOK m r) (hmo : r.m.most = m.most) (hgr : m.pages.length ≤ r.m.pages.length) (hg : GI r.m r.g) (ho : ∀ c, r.old = some c → CellOK c) : TnOK m (rootT t r depth) := by
  obtain ⟨q1, q2, q3, q4⟩ := rootN_props (depth := depth) hr.mol hr.cells
  have hlen := hg.len
  have hfew := hr.mol.ok.few
  unfold rootT
  split
  · exact ⟨hr.mol, hr.size, hmo, ho, by simp, hgr⟩
  · split
    · exact ⟨hr.mol, hr.size, hmo, ho, by simp, hgr⟩
    · dsimp only
      split
      · exact ⟨q1, q2.trans hr.size, q3.trans hmo, ho, by simp, Nat.le_trans hgr q4⟩
      · split
        · exact ⟨q1, q2.trans hr.size, q3.trans hmo, ho, by simp, Nat.le_trans hgr q4⟩
        · exact ⟨q1, q2.trans hr.size, q3.trans hmo, ho, by rw [sortI_len]; simp [keysG]; omega, Nat.le_trans hgr q4⟩
theorem chgT_ok {E : Edit} (hE : EditOK E) (hO : OldOK E) {m : Mem} (hm : MOL m) (t : Tree) (key : Bytes) : ChgOK m (chgT E m t key) ∧ GI (chgT E m t key).m (chgT E m t key).g ∧ (∀ c, (chgT E m t key).old = some c → CellOK c) ∧ (chgT E m t key).m.most = m.most ∧ m.pages.length ≤ (chgT E m t key).m.pages.length := by
  unfold chgT
  split
  · have h1 := hE [] (fun c hc => by cases hc) (by simp)
    exact ⟨⟨hm, rfl, h1.1, by have := h1.2; dsimp only; omega⟩, GI.nil m, hO [] (fun c hc => by cases hc) (by simp), rfl, Nat.le_refl _⟩
  · exact ⟨changeN_ok hE key _ m _ _ hm, changeN_GI _ m _ _ (GI.nil m), changeN_old hO _ m _ _ hm.ok, (changeN_most _ _ _ _).1, (changeN_most _ _ _ _).2⟩
theorem turnN_ok {E : Edit} (hE : EditOK E) (hO : OldOK E) {m : Mem} (hm : MOL m) (t : Tree) (key : Bytes) : TnOK m (turnN E m t key) := by
  have hno : ∀ c : Cell, (none : Option Cell) = some c → CellOK c := fun c h => by cases h
  obtain ⟨h1, h2, h3, h4, h5⟩ := chgT_ok hE hO hm t key
  unfold turnN
  split
  · exact ⟨hm, rfl, rfl, hno, by simp, Nat.le_refl _⟩
  · split
    · exact ⟨hm, rfl, rfl, hno, by simp, Nat.le_refl _⟩
    · split
      · exact ⟨hm, rfl, rfl, hno, by simp, Nat.le_refl _⟩
      · exact rootT_ok h1 h4 h5 h2 h3
theorem turnN_room {E : Edit} {m : Mem} {t : Tree} {key : Bytes} (h : (turnN E m t key).e = 0) : 480 ≤ m.size := by
  unfold turnN at h
  split at h
  · cases h
  · omega
theorem cellN_ok {m : Mem} (hm : MOL m) {key value : Bytes} (hk : key.length ≤ 64) (hv : value.length ≤ 16384) : MOL (cellN m key value).1 ∧ (cellN m key value).1.size = m.size ∧ (cellN m key value).1.most = m.most ∧ CellOK (cellN m key value).2.1 ∧ m.pages.length ≤ (cellN m key value).1.pages.length := by
  obtain ⟨l1, l2, l3, l4, l5⟩ := longN_props hm value
  unfold cellN
  split
  · exact ⟨l1, l2, l3, ⟨by dsimp only; omega, by dsimp only; omega, by dsimp only; simp; omega⟩, l5⟩
  · exact ⟨hm, rfl, rfl, ⟨Nat.zero_le _, Nat.zero_le _, by dsimp only; omega⟩, Nat.le_refl _⟩
theorem putN_ok {m : Mem} (hm : MOL m) (t : Tree) (key value : Bytes) : MOL (putN m t key value).m ∧ (putN m t key value).m.size = m.size ∧ (putN m t key value).m.most = m.most ∧ m.pages.length ≤ (putN m t key value).m.pages.length := by
  unfold putN
  split
  · exact ⟨hm, rfl, rfl, Nat.le_refl _⟩
  · split
    · exact ⟨hm, rfl, rfl, Nat.le_refl _⟩
    · split
      · exact ⟨hm, rfl, rfl, Nat.le_refl _⟩
      · dsimp only
        obtain ⟨l1, l2, l3, l4, l5⟩ := cellN_ok (key := key) (value := value) hm (by omega) (by omega)
        split
        · exact ⟨l1, l2, l3, l5⟩
        · have h := turnN_ok (putE_ok (key := key) l4) putE_old l1 t key
          exact ⟨h.mol, h.size.trans l2, h.most.trans l3, Nat.le_trans l5 h.grow⟩
theorem delN_ok {m : Mem} (hm : MOL m) (t : Tree) (key : Bytes) : MOL (delN m t key).m ∧ (delN m t key).m.size = m.size ∧ (delN m t key).m.most = m.most ∧ m.pages.length ≤ (delN m t key).m.pages.length := by
  have h := turnN_ok (delE_ok (key := key)) delE_old hm t key
  unfold delN
  dsimp only
  split
  · exact ⟨h.mol, h.size, h.most, h.grow⟩
  · split
    · exact ⟨h.mol, h.size, h.most, h.grow⟩
    · exact ⟨h.mol, h.size, h.most, h.grow⟩
end Go.KX
