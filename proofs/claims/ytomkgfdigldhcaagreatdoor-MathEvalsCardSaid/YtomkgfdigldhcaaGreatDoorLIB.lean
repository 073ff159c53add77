/- XA XB XC XD XE XF. -/
import Derived.Test.YtomkgfdigldhcaaGreatDoorLIA
set_option maxRecDepth 100000
namespace Go.KX
structure Lc where
 b : Nat
 ad : Option Addr
 c : Nat
inductive SV where
 | v (x : Value)
 | str (s : Bytes)
 | s (sz : Nat) (rows : List (List SV))
 | p (cs : List SV)
 | l (i off : Nat)
 | a (cs : List SV)
 | f (fn : FuncId) (fi ca : List SV)
 | t (vs : List SV)
 | g (b : Bool) (x : SV)
 | o (i n : Nat)
 | e (i off : Nat)
 | fm (es : List (Bytes × SV))
 | mp (i : Nat)
 | ni
abbrev SL := List (Nat × SV)
inductive bC (g : GW) : (Nat → Lc) → SV → Value → Prop
 | v {ρ x} : bC g ρ (.v x) x
 | str {ρ s} : bC g ρ (.str s) (str s)
 | s {ρ sz rows ad c} (xs : List Value) (h1 : rows.length ≤ maxLen) (h2 : rows.length ≤ c) (hl : xs.length = rows.length * sz) (hr : ∀ r ∈ rows, r.length = sz)
    (ho : (∀ u ∈ xs, u.oneCell' = true) ∧ (sz = 0 → ad = none ∧ c = 0))
    (hne : rows ≠ [] → ∃ b o, ad = some ⟨b, o, none⟩ ∧ g.fz b ∧ ∀ (k : Nat) x, xs[k]? = some x → g.w.cell? ⟨b, o + k, none⟩ = some x)
    (hd : ∀ (ρ' : Nat → Lc) (i j : Nat) r sv x, rows[i]? = some r → r[j]? = some sv → xs[i * sz + j]? = some x → bC g ρ' sv x) : bC g ρ (.s sz rows) (.slice ad rows.length c)
 | p {ρ cs b o} (xs : List Value) (hl : xs.length = cs.length) (hf : g.fz b) (hc : ∀ (k : Nat) x, xs[k]? = some x → g.w.cell? ⟨b, o + k, none⟩ = some x)
    (hd : ∀ (ρ' : Nat → Lc) (j : Nat) sv x, cs[j]? = some sv → xs[j]? = some x → bC g ρ' sv x) : bC g ρ (.p cs) (.pointer (some ⟨b, o, none⟩))
 | l {ρ i off} : bC g ρ (.l i off) (.pointer (some ⟨(ρ i).b, off, none⟩))
 | a {ρ cs} (xs : List Value) (hl : xs.length = cs.length) (hd : ∀ (j : Nat) sv x, cs[j]? = some sv → xs[j]? = some x → bC g ρ sv x) : bC g ρ (.a cs) (.agg xs.toArray)
 | f {ρ fn fi ca} (xs ys : List Value) (hl : xs.length = fi.length) (hd : ∀ (j : Nat) sv x, fi[j]? = some sv → xs[j]? = some x → bC g ρ sv x)
    (hl2 : ys.length = ca.length) (hd2 : ∀ (j : Nat) sv x, ca[j]? = some sv → ys[j]? = some x → bC g ρ sv x) : bC g ρ (.f fn fi ca) (.func (.func fn) xs.toArray ys.toArray)
 | t {ρ vs} (xs : List Value) (hl : xs.length = vs.length) (hd : ∀ (j : Nat) sv x, vs[j]? = some sv → xs[j]? = some x → bC g ρ sv x) : bC g ρ (.t vs) (.tuple xs.toArray)
 | gt {ρ x y} (h : bC g ρ x y) : bC g ρ (.g true x) y
 | gf {ρ x} : bC g ρ (.g false x) undef
 | o {ρ i n} : bC g ρ (.o i n) (.slice (ρ i).ad n (ρ i).c)
 | e {ρ i off b o0} (h : (ρ i).ad = some ⟨b, o0, none⟩) : bC g ρ (.e i off) (.pointer (some ⟨b, o0 + off, none⟩))
 | fm {ρ es b} (raw : List (Bytes × Value)) (ms : Array MapEntry) (clk : Nat) (hf : g.fz b) (hh : g.w.heap[b]? = some (.map ms clk)) (he : lB ms.toList = enc2 str (fun v : Value => v) raw) (hk : raw.map (·.1) = es.map (·.1))
    (hd : ∀ (ρ' : Nat → Lc) (j : Nat) k sv x, es[j]? = some (k, sv) → raw[j]? = some (k, x) → bC g ρ' sv x) : bC g ρ (.fm es) (.map (some b))
 | mp {ρ i} : bC g ρ (.mp i) (.map (some (ρ i).b))
 | ni {ρ T v} : bC g ρ .ni (.iface T v)
theorem bC.mono {g g' : GW} (e : FExt g g') {ρ sv x} (h : bC g ρ sv x) : bC g' ρ sv x := by
 induction h with
 | v => exact .v
 | str => exact .str
 | s xs h1 h2 hl hr ho hne _ ih =>
   refine .s xs h1 h2 hl hr ho (fun hn => ?_) ih
   obtain ⟨b, o, h3, h4, h5⟩ := hne hn
   exact ⟨b, o, h3, e.fz b h4, fun k x hx => by rw [oM (e.same b h4)]; exact h5 k x hx⟩
 | p xs hl hf hc _ ih => exact .p xs hl (e.fz _ hf) (fun k x hx => by rw [oM (e.same _ hf)]; exact hc k x hx) ih
 | l => exact .l
 | a xs hl _ ih => exact .a xs hl ih
 | f xs ys hl _ hl2 _ ih ih2 => exact .f xs ys hl ih hl2 ih2
 | t xs hl _ ih => exact .t xs hl ih
 | gt _ ih => exact .gt ih
 | gf => exact .gf
 | o => exact .o
 | e h => exact .e h
 | fm raw ms clk hf hh he hk _ ih => exact .fm raw ms clk (e.fz _ hf) (by rw [e.same _ hf]; exact hh) he hk ih
 | mp => exact .mp
 | ni => exact .ni
def aI (g : GW) (ρ : Nat → Lc) (svs : List SV) (xs : List Value) : Prop := xs.length = svs.length ∧ ∀ (j : Nat) sv x, svs[j]? = some sv → xs[j]? = some x → bC g ρ sv x
theorem aI.mono {g g' : GW} (e : FExt g g') {ρ svs xs} (h : aI g ρ svs xs) : aI g' ρ svs xs := ⟨h.1, fun j sv x h1 h2 => (h.2 j sv x h1 h2).mono e⟩
theorem aI.nil {g ρ} : aI g ρ [] [] := ⟨rfl, fun j sv x h => by simp at h⟩
theorem aI.cons {g ρ sv x svs xs} (h : bC g ρ sv x) (t : aI g ρ svs xs) : aI g ρ (sv :: svs) (x :: xs) :=
 ⟨by simp [t.1], fun j s y h1 h2 => by
  cases j with
  | zero => simp at h1 h2; exact h1 ▸ h2 ▸ h
  | succ j => exact t.2 j s y (by simpa using h1) (by simpa using h2)⟩
theorem aI.uncons {g ρ sv svs xs} (h : aI g ρ (sv :: svs) xs) : ∃ x r, xs = x :: r ∧ bC g ρ sv x ∧ aI g ρ svs r := by
 cases xs with
 | nil => simp [aI] at h
 | cons x r => exact ⟨x, r, rfl, h.2 0 sv x rfl rfl, by simpa using h.1, fun j s y h1 h2 => h.2 (j + 1) s y (by simpa using h1) (by simpa using h2)⟩
theorem aI.unnil {g ρ xs} (h : aI g ρ [] xs) : xs = [] := List.eq_nil_of_length_eq_zero (by simpa using h.1)
theorem aI.get {g ρ svs xs} (h : aI g ρ svs xs) {j : Nat} {sv} (hj : svs[j]? = some sv) : ∃ x, xs[j]? = some x ∧ bC g ρ sv x := by
 have hlt : j < xs.length := by
  rcases Nat.lt_or_ge j svs.length with h' | h'
  ·rw [h.1]; exact h'
  ·rw [List.getElem?_eq_none h'] at hj; cases hj
 exact ⟨xs[j], List.getElem?_eq_getElem hlt, h.2 j sv _ hj (List.getElem?_eq_getElem hlt)⟩
theorem aI.drop {g ρ svs xs} (h : aI g ρ svs xs) (n : Nat) : aI g ρ (svs.drop n) (xs.drop n) :=
 ⟨by simp [h.1], fun j sv x h1 h2 => h.2 (n + j) sv x (by simpa using h1) (by simpa using h2)⟩
theorem aI.take {g ρ svs xs} (h : aI g ρ svs xs) (n : Nat) : aI g ρ (svs.take n) (xs.take n) :=
 ⟨by simp [h.1], fun j sv x h1 h2 => by
  rw [List.getElem?_take] at h1 h2
  split at h1
  ·rename_i hj; rw [if_pos hj] at h2; exact h.2 j sv x h1 h2
  ·cases h1⟩
theorem aI.append {g ρ svs xs sws ys} (h : aI g ρ svs xs) (h' : aI g ρ sws ys) : aI g ρ (svs ++ sws) (xs ++ ys) :=
 ⟨by simp [h.1, h'.1], fun j sv x h1 h2 => by
  rw [List.getElem?_append] at h1 h2
  rw [h.1] at h2
  split at h1
  ·rename_i hj; rw [if_pos hj] at h2; exact h.2 j sv x h1 h2
  ·rename_i hj; rw [if_neg hj] at h2; exact h'.2 _ sv x h1 h2⟩
mutual
def yG (i : Nat) : SV → Bool
 | .l j _ => Nat.beq i j
 | .o j _ => Nat.beq i j
 | .e j _ => Nat.beq i j
 | .mp j => Nat.beq i j
 | .fm _ => false
 | .ni => false
 | .a cs => sD i cs
 | .f _ x y => sD i x || sD i y
 | .t vs => sD i vs
 | .g _ x => yG i x
 | .v _ => false
 | .str _ => false
 | .s _ _ => false
 | .p _ => false
def sD (i : Nat) : List SV → Bool
 | [] => false
 | x :: r => yG i x || sD i r
end
mutual
def TF : SV → Bool
 | .l _ _ => false
 | .o _ _ => false
 | .e _ _ => false
 | .mp _ => false
 | .fm _ => true
 | .ni => true
 | .a cs => nC cs
 | .f _ x y => nC x && nC y
 | .t vs => nC vs
 | .g _ x => TF x
 | .v _ => true
 | .str _ => true
 | .s _ _ => true
 | .p _ => true
def nC : List SV → Bool
 | [] => true
 | x :: r => TF x && nC r
end
theorem gB : ∀ {l : List SV}, nC l = true → ∀ (j : Nat) sv, l[j]? = some sv → TF sv = true
 | [], _, j, sv, h => by simp at h
 | x :: r, hc, j, sv, h => by
   simp only [nC, Bool.and_eq_true] at hc
   cases j with
   | zero => simp at h; exact h ▸ hc.1
   | succ j => exact gB hc.2 j sv (by simpa using h)
theorem j5 {i : Nat} : ∀ {l : List SV}, sD i l = false → ∀ (j : Nat) sv, l[j]? = some sv → yG i sv = false
 | [], _, j, sv, h => by simp at h
 | x :: r, hc, j, sv, h => by
   simp only [sD, Bool.or_eq_false_iff] at hc
   cases j with
   | zero => simp at h; exact h ▸ hc.1
   | succ j => exact j5 hc.2 j sv (by simpa using h)
theorem bC.swap {g : GW} {ρ sv x} (h : bC g ρ sv x) : TF sv = true → ∀ ρ', bC g ρ' sv x := by
 induction h with
 | v => exact fun _ _ => .v
 | str => exact fun _ _ => .str
 | s xs h1 h2 hl hr ho hne hd _ => exact fun _ _ => .s xs h1 h2 hl hr ho hne hd
 | p xs hl hf hc hd _ => exact fun _ _ => .p xs hl hf hc hd
 | l => intro h; cases h
 | a xs hl _ ih => exact fun hc ρ' => .a xs hl (fun j sv x h1 h2 => ih j sv x h1 h2 (gB hc j sv h1) ρ')
 | f xs ys hl _ hl2 _ ih ih2 =>
   intro hc ρ'
   simp only [TF, Bool.and_eq_true] at hc
   exact .f xs ys hl (fun j sv x h1 h2 => ih j sv x h1 h2 (gB hc.1 j sv h1) ρ') hl2 (fun j sv x h1 h2 => ih2 j sv x h1 h2 (gB hc.2 j sv h1) ρ')
 | t xs hl _ ih => exact fun hc ρ' => .t xs hl (fun j sv x h1 h2 => ih j sv x h1 h2 (gB hc j sv h1) ρ')
 | gt _ ih => exact fun hc ρ' => .gt (ih hc ρ')
 | gf => exact fun _ _ => .gf
 | o => intro h; cases h
 | e h => intro h; cases h
 | fm raw ms clk hf hh he hk hd _ => exact fun _ _ => .fm raw ms clk hf hh he hk hd
 | mp => intro h; cases h
 | ni => exact fun _ _ => .ni
theorem bC.upd {g : GW} {ρ sv x} (h : bC g ρ sv x) {i : Nat} {y : Lc} : yG i sv = false → bC g (fun j => if j = i then y else ρ j) sv x := by
 have key : ∀ {i j : Nat}, Nat.beq i j = false → j ≠ i := by intro i j h e; subst e; rw [Nat.beq_refl] at h; cases h
 induction h with
 | v => exact fun _ => .v
 | str => exact fun _ => .str
 | s xs h1 h2 hl hr ho hne hd _ => exact fun _ => .s xs h1 h2 hl hr ho hne hd
 | p xs hl hf hc hd _ => exact fun _ => .p xs hl hf hc hd
 | @l ρ j off =>
   intro h
   have := key h
   have e : (ρ j).b = ((fun k => if k = i then y else ρ k) j).b := by simp [this]
   rw [e]; exact .l
 | a xs hl _ ih => exact fun hc => .a xs hl (fun j sv x h1 h2 => ih j sv x h1 h2 (j5 hc j sv h1))
 | f xs ys hl _ hl2 _ ih ih2 =>
   intro hc
   simp only [yG, Bool.or_eq_false_iff] at hc
   exact .f xs ys hl (fun j sv x h1 h2 => ih j sv x h1 h2 (j5 hc.1 j sv h1)) hl2 (fun j sv x h1 h2 => ih2 j sv x h1 h2 (j5 hc.2 j sv h1))
 | t xs hl _ ih => exact fun hc => .t xs hl (fun j sv x h1 h2 => ih j sv x h1 h2 (j5 hc j sv h1))
 | gt _ ih => exact fun hc => .gt (ih hc)
 | gf => exact fun _ => .gf
 | @o ρ j n =>
   intro h
   have := key h
   have e : ρ j = (fun k => if k = i then y else ρ k) j := by simp [this]
   rw [e]; exact .o
 | @e ρ j off b o0 h' => exact fun h => .e (by simp [key h, h'])
 | fm raw ms clk hf hh he hk hd _ => exact fun _ => .fm raw ms clk hf hh he hk hd
 | ni => exact fun _ => .ni
 | @mp ρ j =>
   intro h
   have := key h
   have e : (ρ j).b = ((fun k => if k = i then y else ρ k) j).b := by simp [this]
   rw [e]; exact .mp
abbrev Row (sz : Nat) : Type := { r : List Value // r.length = sz ∧ ∀ u ∈ r, u.oneCell' = true }
def aC (sz : Nat) (h : 0 < sz) : El (Row sz) := ⟨sz, fun r => r.1, fun r => r.2.1, h, fun r => r.2.2⟩
def aH.que {α : Type} (E : El α) (T : TypeId) (a : Option Addr) (c : Nat) (ys : List α) : aH where
 bs := yD a
 p w := (a = none ∧ c = 0 ∧ ys = []) ∨ ∃ gg off cur, a = some ⟨gg, off, none⟩ ∧ w.heap[gg]? = some (.cells cur T (0, 0)) ∧ ys.length ≤ c ∧ c ≤ maxLen ∧ off + c * E.sz ≤ cur.size ∧ (cur.toList.drop off).take (ys.length * E.sz) = flat E ys
 loc := by
  intro w w' h hp
  rcases hp with hp | ⟨gg, off, cur, e, hh, r⟩
  ·exact .inl hp
  ·subst e
   exact .inr ⟨gg, off, cur, rfl, by rw [h gg (by simp [yD])]; exact hh, r⟩
inductive MB where
 | c (T : Nat) (cs : List SV)
 | r (T sz : Nat) (rows : List (List SV))
 | m (es : List (Bytes × SV))
 | it (i : Nat) (es : List (Bytes × SV)) (js : List Nat)
 | q (T sz : Nat) (rows : List (List SV))
abbrev SM := List (Nat × MB)
inductive bQ (g : GW) (ρ : Nat → Lc) : Nat → MB → aH → Prop
 | c {i T cs} (xs : List Value) (h : aI g ρ cs xs) (h1 : ∀ u ∈ xs, u.oneCell' = true) : bQ g ρ i (.c T cs) (aH.blk (ρ i).b (.cells xs.toArray T (0, 0)))
 | r {i T sz rows} (hz : 0 < sz) (xs : List (Row sz)) (hl : xs.length = rows.length) (h : ∀ (ρ' : Nat → Lc) (k : Nat) x r, xs[k]? = some x → rows[k]? = some r → aI g ρ' r x.1) : bQ g ρ i (.r T sz rows) (aH.arr (aC sz hz) T (ρ i).ad (ρ i).c xs)
 | m {i es} (raw : List (Bytes × Value)) (hk : raw.map (·.1) = es.map (·.1)) (hd : ∀ (ρ' : Nat → Lc) (j : Nat) k sv x, es[j]? = some (k, sv) → raw[j]? = some (k, x) → bC g ρ' sv x) : bQ g ρ i (.m es) (aH.mp str (fun v : Value => v) (ρ i).b raw)
 | it {j i es js} (raw : List (Bytes × Value)) (hk : raw.map (·.1) = es.map (·.1)) (hd : ∀ (ρ' : Nat → Lc) (j : Nat) k sv x, es[j]? = some (k, sv) → raw[j]? = some (k, x) → bC g ρ' sv x) : bQ g ρ j (.it i es js) (aH.it str (fun v : Value => v) (ρ i).b (ρ j).b raw js)
 | q {i T sz rows} (hz : 0 < sz) (xs : List (Row sz)) (hl : xs.length = rows.length) (h : ∀ (ρ' : Nat → Lc) (k : Nat) x r, xs[k]? = some x → rows[k]? = some r → aI g ρ' r x.1) : bQ g ρ i (.q T sz rows) (aH.que (aC sz hz) T (ρ i).ad (ρ i).c xs)
inductive aR (g : GW) (ρ : Nat → Lc) : SM → List aH → Prop
 | nil : aR g ρ [] []
 | cons {i mb M r ms} (h : bQ g ρ i mb r) (t : aR g ρ M ms) : aR g ρ ((i, mb) :: M) (r :: ms)
theorem bQ.mono {g g' : GW} (e : FExt g g') {ρ i mb r} (h : bQ g ρ i mb r) : bQ g' ρ i mb r := by
 cases h with
 | c xs h h1 => exact .c xs (h.mono e) h1
 | r hz xs hl h => exact .r hz xs hl (fun ρ' k x r h1 h2 => (h ρ' k x r h1 h2).mono e)
 | m raw hk hd => exact .m raw hk (fun ρ' j k sv x h1 h2 => (hd ρ' j k sv x h1 h2).mono e)
 | q hz xs hl h => exact .q hz xs hl (fun ρ' k x r h1 h2 => (h ρ' k x r h1 h2).mono e)
 | it raw hk hd => exact .it raw hk (fun ρ' j k sv x h1 h2 => (hd ρ' j k sv x h1 h2).mono e)
theorem aR.mono {g g' : GW} (e : FExt g g') {ρ M ms} (h : aR g ρ M ms) : aR g' ρ M ms := by
 induction h with
 | nil => exact .nil
 | cons h _ ih => exact .cons (h.mono e) ih
def eM (i : Nat) : SM → Bool
 | [] => false
 | (j, .c _ cs) :: r => Nat.beq i j || sD i cs || eM i r
 | (j, .r _ _ _) :: r => Nat.beq i j || eM i r
 | (j, .m _) :: r => Nat.beq i j || eM i r
 | (j, .q _ _ _) :: r => Nat.beq i j || eM i r
 | (j, .it k _ _) :: r => Nat.beq i j || Nat.beq i k || eM i r
def cU (i : Nat) : SL → Bool
 | [] => false
 | (_, sv) :: r => yG i sv || cU i r
def fresh : SM → Nat
 | [] => 0
 | (j, _) :: r => max (j + 1) (fresh r)
def aF : SL → Nat → Option SV
 | [], _ => none
 | (j, v) :: r, i => match Nat.beq i j with | true => some v | false => aF r i
theorem bF (L : SL) (i : Nat) (v : SV) : aF ((i, v) :: L) i = some v := by simp [aF]
theorem bX (L : SL) {i j : Nat} (v : SV) (h : i ≠ j) : aF ((j, v) :: L) i = aF L i := by
 have : Nat.beq i j = false := by cases hb : Nat.beq i j with | false => rfl | true => exact absurd (Nat.eq_of_beq_eq_true hb) h
 simp [aF, this]
end Go.KX
namespace Go.KX
def AW : Value → SV
 | .slice none 0 0 => .s 0 []
 | .string b => .str b.data.toList
 | x => .v x
def inj : Value → SV
 | .agg cs => .a (cs.toList.map AW)
 | x => AW x
theorem D4 (g : GW) (ρ : Nat → Lc) (x : Value) : bC g ρ (AW x) x := by
 unfold AW
 split
 ·exact .s [] (by decide) (Nat.le_refl _) rfl (fun r hr => by cases hr) ⟨fun u hu => (by cases hu), fun _ => ⟨rfl, rfl⟩⟩ (fun h => absurd rfl h) (fun ρ' i j r sv x h => by simp at h)
 ·rename_i b
  have : bC g ρ (.str b.data.toList) (str b.data.toList) := .str
  have e : str b.data.toList = .string b := by unfold str; rw [Go.Lib.mk_data]
  rwa [e] at this
 ·exact .v
theorem uJ (g : GW) (ρ : Nat → Lc) (x : Value) : bC g ρ (inj x) x := by
 unfold inj
 split
 ·rename_i cs
  have : bC g ρ (.a (cs.toList.map AW)) (.agg cs.toList.toArray) := .a _ (by simp) (fun j sv x h1 h2 => by
   simp only [List.getElem?_map, h2, Option.map_some, Option.some.injEq] at h1
   exact h1 ▸ D4 g ρ x)
  simpa using this
 ·exact D4 g ρ _
def cO (e : Nat → Option SV) : Operand → Option SV
 | .tmp t => e t
 | .const (.int k n) => some (.v (.int k n))
 | .const (.bool b) => some (.v (.bool b))
 | .const v => some (inj v)
 | .global g => some (.v (.pointer (some ⟨g, 0, none⟩)))
 | .func f => some (.f f [] [])
def evs (e : Nat → Option SV) : List Operand → Option (List SV)
 | [] => some []
 | x :: r => match cO e x with
   | some v => match evs e r with
     | some vs => some (v :: vs)
     | none => none
   | none => none
inductive KD where
 | int (k : IntKind) | bool | str | sl (e : Nat) | arr (n e : Nat) | st (lay : List (Nat × Nat × Bool)) | mp (k e : Nat) | ptr (e : Nat) | oth
structure TD where
 sz : Nat
 by_ : Nat
 z : Value
 kd : KD
def TV (P : Program) (T : Nat) (z : Value) : KD → Prop
 | .int k => P.underlying T = some (.int k)
 | .bool => P.underlying T = some .bool
 | .str => P.underlying T = some .string
 | .sl e => P.underlying T = some (.slice e)
 | .arr n e => P.underlying T = some (.array n e)
 | .st lay => LY P T lay ∧ ∃ zs, z = .agg zs.toArray ∧ BT P T (lay.map fun p => (p.1, p.2.1)) zs
 | .mp k e => P.underlying T = some (.map k e)
 | .ptr e => P.underlying T = some (.pointer e)
 | .oth => ∃ d, P.underlying T = some d ∧ D2 d = false
structure bI (P : Program) (T : Nat) (d : TD) : Prop where
 ti : TI P T d.sz d.by_ d.z
 kd : TV P T d.z d.kd
theorem nD {P : Program} {T sz by_ : Nat} {zs : List Value} {fields : List Field} {lay : List (Nat × Nat × Bool)} (ti : TI P T sz by_ (.agg zs.toArray)) (u : P.underlying T = some (.struct fields.toArray)) (h : TE P fields = some lay) : bI P T ⟨sz, by_, .agg zs.toArray, .st lay⟩ :=
 ⟨ti, ZP u h, zs, rfl, ZQ u h ti⟩
inductive TT where
 | nil
 | node (l : TT) (k : Nat) (d : TD) (r : TT)
def TT.get : TT → Nat → Option TD
 | .nil, _ => none
 | .node l k d r, t => match Nat.beq t k with
   | true => some d
   | false => match Nat.blt t k with
     | true => l.get t
     | false => r.get t
def TT.Ok (P : Program) : TT → Prop
 | .nil => True
 | .node l k d r => l.Ok P ∧ bI P k d ∧ r.Ok P
theorem TT.get_ok {P : Program} : ∀ {tb : TT}, tb.Ok P → ∀ {t d}, tb.get t = some d → bI P t d
 | .nil, _, t, d, h => by cases h
 | .node l k d' r, ⟨h1, h2, h3⟩, t, d, h => by
   unfold TT.get at h
   split at h
   ·rename_i hb
    have := Nat.eq_of_beq_eq_true hb
    subst this; cases h; exact h2
   ·split at h
    ·exact TT.get_ok h1 h
    ·exact TT.get_ok h3 h
def KD.ag : KD → Bool
 | .st _ => true
 | .arr _ _ => true
 | _ => false
theorem TV.und {P : Program} {T z kd} (h : TV P T z kd) : ∃ d, P.underlying T = some d ∧ D2 d = kd.ag := by
 cases kd with
 | st lay => obtain ⟨⟨fields, u, _⟩, _⟩ := h; exact ⟨_, u, rfl⟩
 | oth => exact h
 | int k => exact ⟨_, h, rfl⟩
 | bool => exact ⟨_, h, rfl⟩
 | str => exact ⟨_, h, rfl⟩
 | sl e => exact ⟨_, h, rfl⟩
 | arr n e => exact ⟨_, h, rfl⟩
 | mp k e => exact ⟨_, h, rfl⟩
 | ptr e => exact ⟨_, h, rfl⟩
structure Kx extends Cx where
 ρ0 : Nat → Lc
structure Sl (X : Kx) (ρ : Nat → Lc) (L : SL) (a : Act) (g : GW) : Prop where
 pin : ∀ i, 1000 ≤ i → ρ i = X.ρ0 i
 val : ∀ t sv, aF L t = some sv → ∃ x, a.tmps[t]? = some x ∧ bC g ρ sv x
structure cV (X : Kx) (L : SL) (M : SM) (fs : List MF) (own : List aH) (g : GW) (a : Act) : Prop where
 ex : ∃ ρ ms, St X.toCx [] fs (ms ++ own) g a ∧ aR g ρ M ms ∧ Sl X ρ L a g
theorem cV.sub {X : Kx} {L L' M fs own g a} (h : cV X L M fs own g a) (hs : ∀ t sv, aF L' t = some sv → aF L t = some sv) : cV X L' M fs own g a := by
 obtain ⟨ρ, ms, h1, h2, h3⟩ := h
 exact ⟨ρ, ms, h1, h2, h3.pin, fun t sv ht => h3.val t sv (hs t sv ht)⟩
theorem dJ {a : Act} {g : GW} {ρ : Nat → Lc} {e : Nat → Option SV} (he : ∀ t sv, e t = some sv → ∃ x, a.tmps[t]? = some x ∧ bC g ρ sv x) {o : Operand} {sv : SV} (h : cO e o = some sv) : bC g ρ sv (a.eval o) := by
 cases o with
 | tmp t =>
   obtain ⟨x, hx, hd⟩ := he t sv h
   have : a.eval (.tmp t) = x := by show a.tmps.getD t undef = x; simp [Array.getD_eq_getD_getElem?, hx]
   rw [this]; exact hd
 | const v => cases v <;> cases h <;> first | exact .v | exact uJ g ρ _
 | global i => cases h; exact .v
 | func f => cases h; exact .f [] [] rfl (fun j sv x h => by simp at h) rfl (fun j sv x h => by simp at h)
theorem aT {a : Act} {g : GW} {ρ : Nat → Lc} {e : Nat → Option SV} (he : ∀ t sv, e t = some sv → ∃ x, a.tmps[t]? = some x ∧ bC g ρ sv x) : ∀ {os : List Operand} {svs : List SV}, evs e os = some svs → aI g ρ svs (os.map a.eval)
 | [], svs, h => by cases h; exact aI.nil
 | x :: r, svs, h => by
   unfold evs at h
   split at h
   ·split at h
    ·cases h; exact aI.cons (dJ he ‹_›) (aT he ‹_›)
    ·cases h
   ·cases h
abbrev vC (x : Int) : Prop := -9223372036854775808 ≤ x ∧ x ≤ 9223372036854775807
def GX (k : IntKind) (x : Int) : SV × List Prop := match k with
 | .i64 => (.v (.int .i64 x), [vC x])
 | k => (.v (.int k (k.wrap x)), [])
def fZ : SM → Nat → Option MB
 | [], _ => none
 | (j, m) :: r, i => match Nat.beq i j with | true => some m | false => fZ r i
def uK (M : SM) : SV → Option (List SV)
 | .l i off => match fZ M i with
   | some (.c _ cs) => some (cs.drop off)
   | _ => none
 | .p cs => some cs
 | _ => none
def XL (op : BinOp) (k : KD) : SV → SV → Option (SV × List Prop)
 | .v (.int k1 x), .v (.int k2 y) => match op with
   | .lss => match decide (k1 = k2) with | true => some (.v (.bool (decide (x < y))), []) | false => none
   | .leq => match decide (k1 = k2) with | true => some (.v (.bool (decide (x ≤ y))), []) | false => none
   | .gtr => match decide (k1 = k2) with | true => some (.v (.bool (decide (y < x))), []) | false => none
   | .geq => match decide (k1 = k2) with | true => some (.v (.bool (decide (y ≤ x))), []) | false => none
   | .eql => match decide (k1 = k2) with | true => some (.v (.bool (decide (x = y))), []) | false => none
   | .neq => match decide (k1 = k2) with | true => some (.v (.bool (decide (¬ x = y))), []) | false => none
   | .add => match decide (k1 = k2) with | true => some (GX k1 (x + y)) | false => none
   | .sub => match decide (k1 = k2) with | true => some (GX k1 (x - y)) | false => none
   | .mul => match decide (k1 = k2) with | true => some (GX k1 (x * y)) | false => none
   | .quo => match decide (k1 = k2) with | true => some (.v (.int k1 (k1.wrap (x.tdiv y))), [y ≠ 0]) | false => none
   | .rem => match decide (k1 = k2) with | true => some (.v (.int k1 (x.tmod y)), [y ≠ 0]) | false => none
   | .and => match decide (k1 = k2) with | true => some (.v (.int k1 (bits .and k1 x y)), []) | false => none
   | .or => match decide (k1 = k2) with | true => some (.v (.int k1 (bits .or k1 x y)), []) | false => none
   | .shl => match decide (k1 = .u64) with | true => some (.v (.int .u64 (IntKind.wrap .u64 (x * 2 ^ y.toNat))), [0 ≤ y ∧ y ≤ 64]) | false => none
   | .shr => match decide (k1 = .u64) with | true => some (.v (.int .u64 (x / 2 ^ y.toNat)), [0 ≤ y ∧ y ≤ 64]) | false => none
   | _ => none
 | .str p, .str q => match op with
   | .eql => some (.v (.bool (decide (p = q))), [])
   | .neq => some (.v (.bool (decide (¬ p = q))), [])
   | .lss => some (.v (.bool (blt p q)), [])
   | .leq => some (.v (.bool (blt p q || decide (p = q))), [])
   | .gtr => some (.v (.bool (!(blt p q || decide (p = q)))), [])
   | .geq => some (.v (.bool (!blt p q)), [])
   | .add => some (.str (p ++ q), [p.length + q.length ≤ 9223372036854775807])
   | _ => none
 | .v (.bool p), .v (.bool q) => match op, k with
   | .eql, .bool => some (.v (.bool (p == q)), [])
   | .neq, .bool => some (.v (.bool (!(p == q))), [])
   | _, _ => none
 | _, _ => none
def D5 (i : Nat) : List SV → Option (SV × List Prop)
 | [.t vs] => match vs[i]? with | some v => some (v, []) | none => none
 | _ => none
def ZT : List SV → Option (SV × List Prop)
 | [.v (.bool b)] => some (.v (.bool !b), [])
 | _ => none
def ZU : List SV → Option (SV × List Prop)
 | [.v (.int k x)] => some (GX k (0 - x))
 | _ => none
def ZV : List SV → Option (SV × List Prop)
 | [.p cs] => some (.p cs, [])
 | [.l i off] => some (.l i off, [])
 | [.e i off] => some (.e i off, [])
 | [.f fn fi ca] => some (.f fn fi ca, [])
 | _ => none
def ZW (tb : TT) (op : BinOp) (T : Nat) : List SV → Option (SV × List Prop)
 | [x, y] => match tb.get T with
   | some d => XL op d.kd x y
   | none => none
 | _ => none
def WV (tb : TT) (sT dT : Nat) : List SV → Option (SV × List Prop)
 | [.v (.int k x)] => match tb.get sT, tb.get dT with
   | some ds, some dd => match ds.kd, dd.kd with
     | .int ks, .int kd => match decide (k = ks) with | true => some (GX kd x) | false => none
     | _, _ => none
   | _, _ => none
 | _ => none
def fOf (tb : TT) (T f : Nat) : Option (Nat × Nat × Bool) := match tb.get T with
 | some d => match d.kd with
   | .st lay => lay[f]?
   | _ => none
 | none => none
def xFa (tb : TT) (T f : Nat) : List SV → Option (SV × List Prop)
 | [x] => match fOf tb T f with
   | some (off, _, _) => match x with
     | .l i o => some (.l i (o + off), [])
     | .p cs => some (.p (cs.drop off), [])
     | .e i o => some (.e i (o + off), [])
     | _ => none
   | none => none
 | _ => none
def GY (tb : TT) (T f : Nat) : List SV → Option (SV × List Prop)
 | [.a cs] => match fOf tb T f with
   | some (off, _, false) => match cs[off]? with | some v => some (v, []) | none => none
   | some (off, sz, true) => some (.a ((cs.drop off).take sz), [])
   | none => none
 | _ => none
def qH (tb : TT) (M : SM) (T : Nat) : List SV → Option (SV × List Prop)
 | [x] => match tb.get T with
   | some d => match uK M x with
     | some cs => match d.kd.ag with
       | false => match cs with | v :: _ => some (v, []) | [] => none
       | true => match Nat.beq (cs.take d.sz).length d.sz with | true => some (.a (cs.take d.sz), []) | false => none
     | none => none
   | none => none
 | _ => none
def GZ (tb : TT) (T : Nat) : List SV → Option (SV × List Prop)
 | [.str s, .v (.int _ z)] => match tb.get T with
   | some d => match d.kd with
     | .str => some (.v (.int .u8 (s.getD z.toNat 0).toNat), [0 ≤ z ∧ z < s.length])
     | _ => none
   | none => none
 | _ => none
def G0 (tb : TT) (T : Nat) (lo hi mx : Option Operand) (svs : List SV) : Option (SV × List Prop) := match tb.get T with
 | some d => match d.kd, mx with
   | .str, none => match lo, hi, svs with
     | some _, some _, [.str s, .v (.int _ x), .v (.int _ y)] => some (.str ((s.drop x.toNat).take (y.toNat - x.toNat)), [0 ≤ x ∧ x ≤ y ∧ y ≤ s.length])
     | some _, none, [.str s, .v (.int _ x)] => some (.str (s.drop x.toNat), [0 ≤ x ∧ x ≤ s.length])
     | none, some _, [.str s, .v (.int _ y)] => some (.str (s.take y.toNat), [0 ≤ y ∧ y ≤ s.length])
     | _, _, _ => none
   | _, _ => none
 | none => none
def OM (tb : TT) (ts : Array TypeId) : Option KD := match ts.toList with
 | [T] => match tb.get T with
   | some d => some d.kd
   | none => none
 | _ => none
def XM (tb : TT) (ts : Array TypeId) : List SV → Option (SV × List Prop)
 | [.str s] => match OM tb ts with | some .str => some (.v (.int .i64 s.length), []) | _ => none
 | [.s _ rows] => match OM tb ts with | some (.sl _) => some (.v (.int .i64 rows.length), []) | _ => none
 | [.o _ n] => match OM tb ts with | some (.sl _) => some (.v (.int .i64 n), []) | _ => none
 | _ => none
def xMM (mx : Bool) : List SV → Option (SV × List Prop)
 | [.v (.int k x), .v (.int k' y)] => match decide (k = k') with
   | true => match mx with | true => some (.v (.int k (max x y)), []) | false => some (.v (.int k (min x y)), [])
   | false => none
 | _ => none
def x1 : List SV → Option (SV × List Prop)
 | [x] => some (x, [])
 | _ => none
def pP (tb : TT) (M : SM) : Op → List SV → Option (SV × List Prop)
 | .move _, svs => x1 svs
 | .assign _, svs => x1 svs
 | .extract _ i, svs => D5 i svs
 | .unOp .not _ _, svs => ZT svs
 | .unOp .neg _ _, svs => ZU svs
 | .nilCheck _, svs => ZV svs
 | .makeFunc (.func fn) first _, svs => some (.f fn (svs.take first.size) (svs.drop first.size), [])
 | .binOp op T _ _ _, svs => ZW tb op T svs
 | .convert sT dT _, svs => WV tb sT dT svs
 | .fieldAddr T _ f, svs => xFa tb T f svs
 | .field T _ f, svs => GY tb T f svs
 | .load T _, svs => qH tb M T svs
 | .index T _ _, svs => GZ tb T svs
 | .slice T _ lo hi mx, svs => G0 tb T lo hi mx svs
 | .call ⟨.builtin .len, _, ts⟩, svs => XM tb ts svs
 | .call ⟨.builtin .max, _, _⟩, svs => xMM true svs
 | .call ⟨.builtin .min, _, _⟩, svs => xMM false svs
 | _, _ => none
theorem bR {L : LL} {x : Operand} {r : List Operand} {vs : List Value} (h : oL L (x :: r) = some vs) : ∃ v vs', vs = v :: vs' ∧ dI L x = some v ∧ oL L r = some vs' := by
 unfold oL at h
 split at h
 ·split at h
  ·cases h; exact ⟨_, _, rfl, ‹_›, ‹_›⟩
  ·cases h
 ·cases h
def Reads (X : Cx) (o : Oper) (a : Act) (g : GW) (ρ : Nat → Lc) (r : SV) : Prop := ∃ v, (execOp a.eval o).run X.P g.w = .ok (.value v) g.w ∧ bC g ρ r v
section
variable {X : Cx} {tb : TT} {o : Oper} {L : LL} {fs : List MF} {own : List aH} {g : GW} {a : Act} {ρ : Nat → Lc}
theorem cF {k z x} (h : bC g ρ (.v (.int k z)) x) : x = .int k z := by cases h; rfl
theorem eH {y x} (h : bC g ρ (.v y) x) : x = y := by cases h; rfl
theorem eS {s x} (h : bC g ρ (.str s) x) : x = str s := by cases h; rfl
theorem AX {k : IntKind} {x : Int} {r φ} (h : GX k x = (r, φ)) (hφ : ∀ p ∈ φ, p) : r = .v (.int k (k.wrap x)) := by
 cases k <;> simp only [GX, Prod.mk.injEq] at h <;> obtain ⟨rfl, rfl⟩ := h <;> first | rfl | skip
 have h2 : vC x := hφ _ (.head _)
 rw [wrap_i64 h2.1 h2.2]
theorem aZ (st : St X L fs own g a) {v : Value} {r : SV} (hy : qE X o L fs own v) (hd : bC g ρ r v) : Reads X o a g ρ r := ⟨v, hy g a st, hd⟩
theorem TW (hT : tb.Ok X.P) (st : St X L fs own g a) {op : BinOp} {T yT : Nat} {x y : Operand} {vx vy : Value} {sx sy r : SV} {φ : List Prop} {d : TD} (hd : tb.get T = some d) (ho : o.op = .binOp op T x y yT) (hx : dI L x = some vx) (hy : dI L y = some vy)
 (dx : bC g ρ sx vx) (dy : bC g ρ sy vy) (h : XL op d.kd sx sy = some (r, φ)) (hφ : ∀ p ∈ φ, p) : Reads X o a g ρ r := by
 have hp : ∀ {v : Value}, iW L o.op = some v → bC g ρ r v → Reads X o a g ρ r := fun hv hd => aZ st (GR hv) hd
 unfold XL at h
 split at h
 ·rename_i k1 p k2 q
  obtain rfl := cF dx
  obtain rfl := cF dy
  have hev : ∀ {v : Value}, iW L (.binOp op T x y yT) = some v → bC g ρ r v → Reads X o a g ρ r := fun hv hd => hp (ho ▸ hv) hd
  have key : ∀ {b : Bool} {z : SV × List Prop}, (match b with | true => some z | false => none) = some (r, φ) → b = true ∧ z = (r, φ) := by
   intro b z hh; cases b <;> simp at hh; exact ⟨rfl, hh⟩
  split at h
  all_goals first
   | (cases h; done)
   | (obtain ⟨hk, hz⟩ := key h
      have hk := of_decide_eq_true hk
      subst hk
      first
       | (simp only [Prod.mk.injEq] at hz
          obtain ⟨rfl, rfl⟩ := hz
          first
           | exact aZ st (hZ ho hx hy rfl (fun w => by rw [binOp_and]; rfl)) .v
           | exact aZ st (hZ ho hx hy rfl (fun w => by rw [binOp_or]; rfl)) .v
           | exact aZ st (hZ ho hx hy rfl (fun w => by rw [binOp_shl, shift_shl .u64 _ _ _ (hφ _ (.head _)).1 (hφ _ (.head _)).2]; rfl)) .v
           | exact aZ st (hZ ho hx hy rfl (fun w => by rw [binOp_shr, shift_shr .u64 _ _ _ (hφ _ (.head _)).1 (hφ _ (.head _)).2]; rfl)) .v
           | exact aZ st (ZJ ho hx hy (hφ _ (.head _))) .v
           | exact aZ st (ZK ho hx hy (hφ _ (.head _))) .v
           | exact hev (by simp [iW, hx, hy]) .v)
       | (obtain rfl := AX hz hφ
          first
           | exact aZ st (ZG ho hx hy) .v
           | exact aZ st (ZH ho hx hy) .v
           | exact aZ st (ZI ho hx hy) .v))
 ·obtain rfl := eS dx
  obtain rfl := eS dy
  split at h
  all_goals first
   | (cases h; done)
   | (simp only [Option.some.injEq, Prod.mk.injEq] at h
      obtain ⟨rfl, rfl⟩ := h
      first
       | exact aZ st (OC ho hx hy) .v
       | exact aZ st (OD ho hx hy) .v
       | exact aZ st (OE ho hx hy) .v
       | exact aZ st (OL ho hx hy) .v
       | exact aZ st (OK ho hx hy) .v
       | exact aZ st (OG ho hx hy) .v
       | exact aZ st (OH ho hx hy (hφ _ (.head _))) .str)
 ·obtain rfl := eH dx
  obtain rfl := eH dy
  have hkd := (TT.get_ok hT hd).kd
  split at h
  ·rename_i hk
   simp only [Option.some.injEq, Prod.mk.injEq] at h
   obtain ⟨rfl, rfl⟩ := h
   rw [hk] at hkd
   exact aZ st (XH ho hx hy hkd (by rfl) (fun _ => rfl) rfl) .v
  ·rename_i hk
   simp only [Option.some.injEq, Prod.mk.injEq] at h
   obtain ⟨rfl, rfl⟩ := h
   rw [hk] at hkd
   exact aZ st (XI ho hx hy hkd (by rfl) (fun _ => rfl) rfl) .v
  ·cases h
 ·cases h
end
theorem aR.get {g : GW} {ρ : Nat → Lc} : ∀ {M : SM} {ms : List aH} {i : Nat} {mb : MB}, aR g ρ M ms → fZ M i = some mb → ∃ r ∈ ms, bQ g ρ i mb r
 | [], _, _, _, .nil, h => by cases h
 | (j, m) :: M, _, i, mb, .cons hb t, h => by
  unfold fZ at h
  split at h
  ·rename_i hij
   cases h
   have := Nat.eq_of_beq_eq_true hij
   subst this
   exact ⟨_, .head _, hb⟩
  ·obtain ⟨r, hr, hd⟩ := aR.get t h
   exact ⟨r, .tail _ hr, hd⟩
section
variable {X : Cx} {tb : TT} {o : Oper} {L : LL} {fs : List MF} {own ms : List aH} {g : GW} {a : Act} {ρ : Nat → Lc} {M : SM}
theorem vD (hM : aR g ρ M ms) (hp : ∀ r ∈ ms, r.p g.w) {x : SV} {vx : Value} {cs : List SV} (dx : bC g ρ x vx) (h : uK M x = some cs) :
 ∃ b oo xs, vx = .pointer (some ⟨b, oo, none⟩) ∧ aI g ρ cs xs ∧ ∀ (k : Nat) y, xs[k]? = some y → g.w.cell? ⟨b, oo + k, none⟩ = some y := by
 unfold uK at h
 split at h
 ·rename_i i off
  split at h
  ·rename_i T cs0 hm
   cases h
   obtain ⟨r, hr, hb⟩ := hM.get hm
   cases hb with
   | c xs hd h1 =>
     have hblk : g.w.heap[(ρ i).b]? = some (.cells xs.toArray T (0, 0)) := hp _ hr
     cases dx
     refine ⟨_, _, xs.drop off, rfl, hd.drop off, fun k y hy => ?_⟩
     rw [List.getElem?_drop] at hy
     simp [World.cell?, hblk, hy]
  ·cases h
 ·cases h
  cases dx with
  | p xs hl hf hc hd => exact ⟨_, _, xs, rfl, ⟨hl, hd ρ⟩, hc⟩
 ·cases h
theorem G1 (hT : tb.Ok X.P) {T f off sz : Nat} {ag : Bool} (h : fOf tb T f = some (off, sz, ag)) : ∃ lay, LY X.P T lay ∧ lay[f]? = some (off, sz, ag) := by
 unfold fOf at h
 split at h
 ·rename_i d hd
  split at h
  ·rename_i lay hk
   have := (TT.get_ok hT hd).kd
   rw [hk] at this
   exact ⟨lay, this.1, h⟩
  ·cases h
 ·cases h
theorem vE (hT : tb.Ok X.P) (st : St X L fs (ms ++ own) g a) (hM : aR g ρ M ms) {T : Nat} {x : Operand} {svs : List SV} {vals : List Value} {r : SV} {φ : List Prop} (ho : o.op = .load T x) (hv : oL L [x] = some vals) (hd : aI g ρ svs vals)
 (h : qH tb M T svs = some (r, φ)) : Reads X o a g ρ r := by
 unfold qH at h
 split at h
 ·rename_i sx
  obtain ⟨vx, _, rfl, dx, _⟩ := hd.uncons
  obtain ⟨_, _, hvv, hx, _⟩ := bR hv
  cases hvv
  split at h
  ·rename_i d hdT
   have hok := TT.get_ok hT hdT
   split at h
   ·rename_i cs hcs
    obtain ⟨b, oo, xs, rfl, hD, hc⟩ := vD hM (fun r hr => st.own.p r (List.mem_append_left _ hr)) dx hcs
    obtain ⟨td, u, hag⟩ := hok.kd.und
    split at h
    ·rename_i hk
     rw [hk] at hag
     split at h
     ·cases h
      obtain ⟨v, _, rfl, dv, _⟩ := hD.uncons
      refine ⟨v, ?_, dv⟩
      have := yU (P := X.P) (w := g.w) u hag (by simpa using hc 0 v rfl)
      simp only [execOp, ho, st.kn.eval hx]
      simp [this]
     ·cases h
    ·rename_i hk
     rw [hk] at hag
     split at h
     ·rename_i hlen
      cases h
      have hlen := Nat.eq_of_beq_eq_true hlen
      have hD2 := hD.take d.sz
      refine ⟨.agg (xs.take d.sz).toArray, ?_, .a _ hD2.1 hD2.2⟩
      have := yV (P := X.P) (w := g.w) (b := b) (oo := oo) u hag hok.ti (by rw [hD2.1, hlen]) (fun j v hj => by
       rw [List.getElem?_take] at hj
       split at hj
       ·exact hc j v hj
       ·cases hj)
      simp only [execOp, ho, st.kn.eval hx]
      simp [this]
     ·cases h
   ·cases h
  ·cases h
 ·cases h
theorem XN (hT : tb.Ok X.P) (st : St X L fs own g a) {T f : Nat} {x : Operand} {svs : List SV} {vals : List Value} {r : SV} {φ : List Prop} (ho : o.op = .fieldAddr T x f) (hv : oL L [x] = some vals) (hd : aI g ρ svs vals)
 (h : xFa tb T f svs = some (r, φ)) : Reads X o a g ρ r := by
 unfold xFa at h
 split at h
 ·obtain ⟨vx, _, rfl, dx, _⟩ := hd.uncons
  obtain ⟨_, _, hvv, hx, _⟩ := bR hv
  cases hvv
  split at h
  ·rename_i off sz ag hf
   obtain ⟨lay, ly, hl⟩ := G1 hT hf
   split at h
   ·cases h; cases dx; exact aZ st (XD ly hl ho hx) .l
   ·cases h
    cases dx with
    | p xs hl' hfz hc hdd => exact aZ st (XD ly hl ho hx) (.p (xs.drop off) (by simp [hl']) hfz (fun k y hy => by
       rw [List.getElem?_drop] at hy
       rw [Nat.add_assoc]; exact hc _ y hy) (fun ρ' j sv y h1 h2 => hdd ρ' (off + j) sv y (by simpa using h1) (by simpa using h2)))
   ·cases h; cases dx with | e he => exact aZ st (XD ly hl ho hx) (by rw [Nat.add_assoc]; exact .e he)
   ·cases h
  ·cases h
 ·cases h
theorem LD (hT : tb.Ok X.P) (st : St X L fs own g a) {T f : Nat} {x : Operand} {svs : List SV} {vals : List Value} {r : SV} {φ : List Prop} (ho : o.op = .field T x f) (hv : oL L [x] = some vals) (hd : aI g ρ svs vals)
 (h : GY tb T f svs = some (r, φ)) : Reads X o a g ρ r := by
 unfold GY at h
 split at h
 ·obtain ⟨vx, _, rfl, dx, _⟩ := hd.uncons
  obtain ⟨_, _, hvv, hx, _⟩ := bR hv
  cases hvv
  cases dx with
  | a xs hl' hdd =>
    have hD : aI g ρ _ xs := ⟨hl', hdd⟩
    split at h
    ·rename_i off sz hf
     obtain ⟨lay, ly, hl⟩ := G1 hT hf
     split at h
     ·rename_i v hv'
      cases h
      obtain ⟨y, hy, dy⟩ := hD.get hv'
      exact aZ st (ZO ly hl ho hx (by simpa using hy)) dy
     ·cases h
    ·rename_i off sz hf
     obtain ⟨lay, ly, hl⟩ := G1 hT hf
     cases h
     have hD2 := (hD.drop off).take sz
     have e : xs.toArray.extract off (off + sz) = ((xs.drop off).take sz).toArray := by
      apply Array.ext'
      simp only [Array.toList_extract, List.extract]
      rw [show off + sz - off = sz by omega]
     refine aZ st (XE ly hl ho hx) ?_
     rw [e]
     exact .a _ hD2.1 hD2.2
    ·cases h
 ·cases h
theorem AY (hT : tb.Ok X.P) {ts : Array TypeId} {kd : KD} (h : OM tb ts = some kd) : ∃ T z, ts = #[T] ∧ TV X.P T z kd := by
 unfold OM at h
 split at h
 ·rename_i T hts
  split at h
  ·rename_i d hd
   cases h
   exact ⟨T, d.z, by cases ts; simp_all, (TT.get_ok hT hd).kd⟩
  ·cases h
 ·cases h
theorem TX (hT : tb.Ok X.P) (st : St X L fs own g a) {az : Array Operand} {ts : Array TypeId} {svs : List SV} {vals : List Value} {r : SV} {φ : List Prop} (ho : o.op = .call ⟨.builtin .len, az, ts⟩) (hv : oL L az.toList = some vals) (hd : aI g ρ svs vals)
 (h : XM tb ts svs = some (r, φ)) : Reads X o a g ρ r := by
 have h1 : ∀ {sx}, svs = [sx] → ∃ x vx, az = #[x] ∧ dI L x = some vx ∧ bC g ρ sx vx := by
  intro sx e
  subst e
  obtain ⟨vx, r', rfl, dx, hr⟩ := hd.uncons
  obtain rfl := hr.unnil
  cases has : az.toList with
  | nil => rw [has] at hv; cases hv
  | cons x rest =>
    rw [has] at hv
    obtain ⟨_, _, hvv, hx, hrest⟩ := bR hv
    cases hvv
    have : rest = [] := by
     have := qG hrest
     exact List.eq_nil_of_length_eq_zero this.symm
    subst this
    exact ⟨x, vx, by cases az; simp_all, hx, dx⟩
 unfold XM at h
 split at h
 ·obtain ⟨x, vx, rfl, hx, dx⟩ := h1 rfl
  split at h
  ·rename_i hk
   cases h
   obtain ⟨T, z, rfl, u⟩ := AY hT hk
   obtain rfl := eS dx
   exact aZ st (OA ho hx u) .v
  ·cases h
 ·obtain ⟨x, vx, rfl, hx, dx⟩ := h1 rfl
  split at h
  ·rename_i hk
   cases h
   obtain ⟨T, z, rfl, u⟩ := AY hT hk
   cases dx
   exact aZ st (OB ho hx u) .v
  ·cases h
 ·obtain ⟨x, vx, rfl, hx, dx⟩ := h1 rfl
  split at h
  ·rename_i hk
   cases h
   obtain ⟨T, z, rfl, u⟩ := AY hT hk
   cases dx
   exact aZ st (OB ho hx u) .v
  ·cases h
 ·cases h
theorem ON (st : St X L fs own g a) {b : Bool} {az : Array Operand} {ts : Array TypeId} {svs : List SV} {vals : List Value} {r : SV} {φ : List Prop} (ho : o.op = .call ⟨.builtin (if b then .max else .min), az, ts⟩) (hv : oL L az.toList = some vals) (hd : aI g ρ svs vals)
 (h : xMM b svs = some (r, φ)) : Reads X o a g ρ r := by
 unfold xMM at h
 split at h
 ·rename_i k p k' q
  obtain ⟨vx, _, rfl, dx, hr⟩ := hd.uncons
  obtain ⟨vy, _, rfl, dy, hr2⟩ := hr.uncons
  obtain rfl := hr2.unnil
  obtain rfl := cF dx
  obtain rfl := cF dy
  split at h
  ·rename_i hk
   have hk := of_decide_eq_true hk
   subst hk
   have has : ∃ x y, az = #[x, y] ∧ dI L x = some (.int k p) ∧ dI L y = some (.int k q) := by
    cases hl : az.toList with
    | nil => rw [hl] at hv; cases hv
    | cons x rest =>
      rw [hl] at hv
      obtain ⟨_, _, hvv, hx, hrest⟩ := bR hv
      cases hvv
      cases rest with
      | nil => cases hrest
      | cons y rest2 =>
        obtain ⟨_, _, hvv, hy, hrest2⟩ := bR hrest
        cases hvv
        have : rest2 = [] := List.eq_nil_of_length_eq_zero (qG hrest2).symm
        subst this
        exact ⟨x, y, by cases az; simp_all, hx, hy⟩
   obtain ⟨x, y, rfl, hx, hy⟩ := has
   cases b with
   | true => cases h; exact aZ st (ZM ho hx hy) .v
   | false => cases h; exact aZ st (ZN ho hx hy) .v
  ·cases h
 ·cases h
theorem LE (hT : tb.Ok X.P) (st : St X L fs own g a) {T : Nat} {x ix : Operand} {svs : List SV} {vals : List Value} {r : SV} {φ : List Prop} (ho : o.op = .index T x ix) (hv : oL L [x, ix] = some vals) (hd : aI g ρ svs vals)
 (h : GZ tb T svs = some (r, φ)) (hφ : ∀ p ∈ φ, p) : Reads X o a g ρ r := by
 unfold GZ at h
 split at h
 ·rename_i s k z
  obtain ⟨vx, _, rfl, dx, hr⟩ := hd.uncons
  obtain ⟨vy, _, rfl, dy, _⟩ := hr.uncons
  obtain ⟨_, _, hvv, hx, hrest⟩ := bR hv
  cases hvv
  obtain ⟨_, _, hvv, hy, _⟩ := bR hrest
  cases hvv
  obtain rfl := eS dx
  obtain rfl := cF dy
  split at h
  ·rename_i d hdT
   have hok := (TT.get_ok hT hdT).kd
   split at h
   ·rename_i hk
    rw [hk] at hok
    cases h
    have hb := hφ _ (.head _)
    have hlt : z.toNat < s.length := by omega
    refine aZ st (OI ho hx hy hok hb.1 (b := s.getD z.toNat 0) ?_) .v
    rw [List.getD_eq_getElem?_getD, List.getElem?_eq_getElem hlt]; rfl
   ·cases h
  ·cases h
 ·cases h
theorem LF (hT : tb.Ok X.P) (st : St X L fs own g a) {T : Nat} {x : Operand} {lo hi mx : Option Operand} {svs : List SV} {vals : List Value} {r : SV} {φ : List Prop} (ho : o.op = .slice T x lo hi mx) (hv : oL L (#[x] ++ lo.toArray ++ hi.toArray ++ mx.toArray).toList = some vals) (hd : aI g ρ svs vals)
 (h : G0 tb T lo hi mx svs = some (r, φ)) (hφ : ∀ p ∈ φ, p) : Reads X o a g ρ r := by
 unfold G0 at h
 split at h
 ·rename_i d hdT
  have hok := (TT.get_ok hT hdT).kd
  split at h
  ·rename_i hk
   rw [hk] at hok
   split at h
   ·rename_i lo hi s _ p _ q
    cases h
    have hb := hφ _ (.head _)
    obtain ⟨vx, _, rfl, dx, hr⟩ := hd.uncons
    obtain ⟨vy, _, rfl, dy, hr⟩ := hr.uncons
    obtain ⟨vz, _, rfl, dz, _⟩ := hr.uncons
    have hv : oL L [x, lo, hi] = _ := hv
    obtain ⟨_, _, hvv, hx, hrest⟩ := bR hv
    cases hvv
    obtain ⟨_, _, hvv, hy, hrest⟩ := bR hrest
    cases hvv
    obtain ⟨_, _, hvv, hz, _⟩ := bR hrest
    cases hvv
    obtain rfl := eS dx
    obtain rfl := cF dy
    obtain rfl := cF dz
    exact aZ st (pO ho hx hok ⟨_, hy⟩ ⟨_, hz⟩ hb.1 hb.2.1 hb.2.2) .str
   ·rename_i lo s _ p
    cases h
    have hb := hφ _ (.head _)
    obtain ⟨vx, _, rfl, dx, hr⟩ := hd.uncons
    obtain ⟨vy, _, rfl, dy, _⟩ := hr.uncons
    have hv : oL L [x, lo] = _ := hv
    obtain ⟨_, _, hvv, hx, hrest⟩ := bR hv
    cases hvv
    obtain ⟨_, _, hvv, hy, _⟩ := bR hrest
    cases hvv
    obtain rfl := eS dx
    obtain rfl := cF dy
    have e : (s.drop p.toNat).take ((s.length : Int).toNat - p.toNat) = s.drop p.toNat := List.take_of_length_le (by simp)
    have := aZ (ρ := ρ) st (pO ho hx hok ⟨_, hy⟩ rfl hb.1 hb.2 (Int.le_refl _)) .str
    rwa [e] at this
   ·rename_i hi s _ q
    cases h
    have hb := hφ _ (.head _)
    obtain ⟨vx, _, rfl, dx, hr⟩ := hd.uncons
    obtain ⟨vy, _, rfl, dy, _⟩ := hr.uncons
    have hv : oL L [x, hi] = _ := hv
    obtain ⟨_, _, hvv, hx, hrest⟩ := bR hv
    cases hvv
    obtain ⟨_, _, hvv, hy, _⟩ := bR hrest
    cases hvv
    obtain rfl := eS dx
    obtain rfl := cF dy
    exact aZ st (pO (zl := 0) ho hx hok rfl ⟨_, hy⟩ (Int.le_refl _) hb.1 hb.2) .str
   ·cases h
  ·cases h
 ·cases h
theorem vG {L : LL} : ∀ {xs ys : List Operand} {vs : List Value}, oL L (xs ++ ys) = some vs → ∃ v1 v2, vs = v1 ++ v2 ∧ oL L xs = some v1 ∧ oL L ys = some v2
 | [], ys, vs, h => ⟨[], vs, rfl, rfl, h⟩
 | x :: xs, ys, vs, h => by
   obtain ⟨v, vs', rfl, hx, hr⟩ := bR h
   obtain ⟨v1, v2, rfl, h1, h2⟩ := vG hr
   exact ⟨v :: v1, v2, rfl, by simp [oL, hx, h1], h2⟩
theorem TY (hT : tb.Ok X.P) (st : St X L fs (ms ++ own) g a) (hM : aR g ρ M ms) {svs : List SV} {vals : List Value} {r : SV} {φ : List Prop} (hv : oL L o.op.operands.toList = some vals) (hd : aI g ρ svs vals)
 (h : pP tb M o.op svs = some (r, φ)) (hφ : ∀ p ∈ φ, p) : Reads X o a g ρ r := by
 have hp : ∀ {v : Value}, iW L o.op = some v → bC g ρ r v → Reads X o a g ρ r := fun hv hd => aZ st (GR hv) hd
 have h1 : ∀ {x : Operand} {sx}, oL L [x] = some vals → svs = [sx] → ∃ vx, dI L x = some vx ∧ bC g ρ sx vx := by
  intro x sx he e
  subst e
  obtain ⟨vx, _, rfl, dx, _⟩ := hd.uncons
  obtain ⟨_, _, hvv, hx, _⟩ := bR he
  cases hvv
  exact ⟨vx, hx, dx⟩
 cases ho : o.op
 case move x =>
  rw [ho] at hv h hp
  simp only [pP] at h
  unfold x1 at h
  split at h
  ·cases h; obtain ⟨vx, hx, dx⟩ := h1 hv rfl; exact hp (by simp [iW, hx]) dx
  ·cases h
 case assign x =>
  rw [ho] at hv h hp
  simp only [pP] at h
  unfold x1 at h
  split at h
  ·cases h; obtain ⟨vx, hx, dx⟩ := h1 hv rfl; exact hp (by simp [iW, hx]) dx
  ·cases h
 case extract x i =>
  rw [ho] at hv h hp
  simp only [pP] at h
  unfold D5 at h
  split at h
  ·split at h
   ·rename_i vs v hvv
    cases h
    obtain ⟨vx, hx, dx⟩ := h1 hv rfl
    cases dx with
    | t xs hl hdd =>
      obtain ⟨y, hy, dy⟩ := aI.get ⟨hl, hdd⟩ hvv
      exact hp (by simp [iW, hx, hy]) dy
   ·cases h
  ·cases h
 case unOp u T x =>
  rw [ho] at hv h hp
  cases u <;> simp only [pP] at h <;> try cases h
  ·unfold ZU at h
   split at h
   ·simp only [Option.some.injEq] at h
    obtain ⟨vx, hx, dx⟩ := h1 hv rfl
    obtain rfl := cF dx
    obtain rfl := AX h hφ
    exact aZ st (ZL ho hx) .v
   ·cases h
  ·unfold ZT at h
   split at h
   ·cases h
    obtain ⟨vx, hx, dx⟩ := h1 hv rfl
    obtain rfl := eH dx
    exact hp (by simp [iW, hx]) .v
   ·cases h
 case nilCheck x =>
  rw [ho] at hv h hp
  simp only [pP] at h
  unfold ZV at h
  split at h
  ·cases h; obtain ⟨vx, hx, dx⟩ := h1 hv rfl; cases dx with | p xs a b c d => exact hp (by simp [iW, hx]) (.p xs a b c d)
  ·cases h; obtain ⟨vx, hx, dx⟩ := h1 hv rfl; cases dx; exact hp (by simp [iW, hx]) .l
  ·cases h; obtain ⟨vx, hx, dx⟩ := h1 hv rfl; cases dx with | e he => exact hp (by simp [iW, hx]) (.e he)
  ·cases h; obtain ⟨vx, hx, dx⟩ := h1 hv rfl; cases dx with | f xs ys a b c d => exact hp (by simp [iW, hx]) (.f xs ys a b c d)
  ·cases h
 case makeFunc fn first cap =>
  cases fn <;> rw [ho] at h <;> simp only [pP] at h <;> try (cases h; done)
  rename_i f
  cases h
  rw [ho] at hv hp
  have hv2 : oL L (first.toList ++ cap.toList) = some vals := by simpa [Op.operands] using hv
  obtain ⟨v1, v2, rfl, e1, e2⟩ := vG hv2
  have l1 : v1.length = first.size := by rw [qG e1]; simp
  have d1 := hd.take first.size
  have d2 := hd.drop first.size
  rw [List.take_left' l1] at d1
  rw [List.drop_left' l1] at d2
  exact hp (by simp [iW, e1, e2]) (.f v1 v2 d1.1 d1.2 d2.1 d2.2)
 case binOp op T x y yT =>
  rw [ho] at hv h
  simp only [pP] at h
  unfold ZW at h
  split at h
  ·obtain ⟨vx, _, rfl, dx, hr⟩ := hd.uncons
   obtain ⟨vy, _, rfl, dy, _⟩ := hr.uncons
   have hv : oL L [x, y] = _ := hv
   obtain ⟨_, _, hvv, hx, hrest⟩ := bR hv
   cases hvv
   obtain ⟨_, _, hvv, hy, _⟩ := bR hrest
   cases hvv
   split at h
   ·exact TW hT st ‹_› ho hx hy dx dy h hφ
   ·cases h
  ·cases h
 case convert sT dT x =>
  rw [ho] at hv h
  simp only [pP] at h
  unfold WV at h
  split at h
  ·split at h
   ·rename_i ds dd hs hdd
    have k1 := (TT.get_ok hT hs).kd
    have k2 := (TT.get_ok hT hdd).kd
    split at h
    ·rename_i e1 e2
     rw [e1] at k1
     rw [e2] at k2
     split at h
     ·rename_i hk
      have hk := of_decide_eq_true hk
      subst hk
      simp only [Option.some.injEq] at h
      obtain ⟨vx, hx, dx⟩ := h1 hv rfl
      obtain rfl := cF dx
      obtain rfl := AX h hφ
      exact aZ st (XC ho hx k1 k2) .v
     ·cases h
    ·cases h
   ·cases h
  ·cases h
 case fieldAddr T x f => rw [ho] at hv h; exact XN hT st ho hv hd h
 case field T x f => rw [ho] at hv h; exact LD hT st ho hv hd h
 case load T x => rw [ho] at hv h; exact vE hT st hM ho hv hd h
 case index T x ix => rw [ho] at hv h; exact LE hT st ho hv hd h hφ
 case slice T x lo hi mx => rw [ho] at hv h; exact LF hT st ho hv hd h hφ
 case call c =>
  obtain ⟨callee, az, ts⟩ := c
  cases callee
  case builtin b =>
   cases b <;> rw [ho] at h <;> simp only [pP] at h <;> try (cases h; done)
   all_goals first
    | exact TX hT st ho (by rw [ho] at hv; simpa [Op.operands, Call.operands] using hv) hd h
    | exact ON (b := true) st ho (by rw [ho] at hv; simpa [Op.operands, Call.operands] using hv) hd h
    | exact ON (b := false) st ho (by rw [ho] at hv; simpa [Op.operands, Call.operands] using hv) hd h
  all_goals (rw [ho] at h; simp only [pP] at h; cases h)
 all_goals (rw [ho] at h; simp only [pP] at h; cases h)
end
def F1 (ρ : Nat → Lc) (M : SM) (ms : List aH) : MF := ⟨fun g => aR g ρ M ms, fun e h => h.mono e⟩
def F2 (X : Kx) (ρ : Nat → Lc) (L : SL) (a : Act) : MF := ⟨fun g => Sl X ρ L a g, fun e h => ⟨h.pin, fun t sv ht => by
 obtain ⟨x, h1, h2⟩ := h.val t sv ht
 exact ⟨x, h1, h2.mono e⟩⟩⟩
section
variable {X : Kx} {L : SL} {M : SM} {fs : List MF} {own : List aH} {g : GW} {a : Act}
theorem cV.open (h : cV X L M fs own g a) : ∃ ρ ms, St X.toCx [] (F1 ρ M ms :: F2 X ρ L a :: fs) (ms ++ own) g a := by
 obtain ⟨ρ, ms, h1, h2, h3⟩ := h
 exact ⟨ρ, ms, h1.kn, dF.cons h2 (dF.cons h3 h1.all), h1.own, h1.ext, h1.new⟩
theorem cV.close {ρ ms} (h : St X.toCx [] (F1 ρ M ms :: F2 X ρ L a :: fs) (ms ++ own) g a) : cV X L M fs own g a :=
 ⟨ρ, ms, ⟨h.kn, fun f hf => h.all f (.tail _ (.tail _ hf)), h.own, h.ext, h.new⟩, h.all _ (.head _), h.all _ (.tail _ (.head _))⟩
theorem St.perm {X : Cx} {L : LL} {fs own own' g a} (s : St X L fs own g a) (hp : own.Perm own') : St X L fs own' g a :=
 ⟨s.kn, s.all, s.own.perm hp, s.ext, fun b hb => s.new b ((cX hp).symm.subset hb)⟩
theorem St.slots {os : List Operand} {e : Nat → Option SV} {svs : List SV} (s : St X.toCx [] fs own g a) (he : ∀ t sv, e t = some sv → ∃ x, a.tmps[t]? = some x) (h : evs e os = some svs) : ∃ Lr, St X.toCx Lr fs own g a ∧ oL Lr os = some (os.map a.eval) ∧ ∀ t x, a.tmps[t]? = some x → lk Lr t = some x := by
 have key : ∀ (os : List Operand), (∃ svs, evs e os = some svs) → ∀ (t : Nat), Operand.tmp t ∈ os → ∃ x, a.tmps[t]? = some x := by
  intro os
  induction os with
  | nil => intro _ t ht; cases ht
  | cons o r ih =>
    intro ⟨svs, hs⟩ t ht
    unfold evs at hs
    split at hs
    ·rename_i v hv
     split at hs
     ·cases ht with
      | head => exact he t v hv
      | tail _ hm => exact ih ⟨_, ‹_›⟩ t hm
     ·cases hs
    ·cases hs
 have hk := key os ⟨svs, h⟩
 clear h key he
 let Lr : LL := (List.range a.tmps.size).map fun t => (t, a.tmps.getD t undef)
 have lkr : ∀ (n : Nat) (k : Nat) (t : Nat), k ≤ t → t < k + n → lk ((List.range' k n).map fun t => (t, a.tmps.getD t undef)) t = some (a.tmps.getD t undef) := by
  intro n
  induction n with
  | zero => intro k t h1 h2; omega
  | succ n ih =>
    intro k t h1 h2
    rw [List.range'_succ]
    simp only [List.map_cons]
    by_cases ht : t = k
    ·subst ht; rw [dA]
    ·rw [iD _ _ ht]; exact ih (k + 1) t (by omega) (by omega)
 have lkr2 : ∀ (n : Nat) (k : Nat) (t : Nat) v, lk ((List.range' k n).map fun t => (t, a.tmps.getD t undef)) t = some v → t < k + n ∧ v = a.tmps.getD t undef := by
  intro n
  induction n with
  | zero => intro k t v h; simp [lk] at h
  | succ n ih =>
    intro k t v h
    rw [List.range'_succ] at h
    simp only [List.map_cons] at h
    by_cases ht : t = k
    ·subst ht; rw [dA] at h; cases h; exact ⟨by omega, rfl⟩
    ·rw [iD _ _ ht] at h
     have := ih (k + 1) t v h
     exact ⟨by omega, this.2⟩
 refine ⟨Lr, ⟨⟨s.kn.size, s.kn.defers, fun i v hv => ?_⟩, s.all, s.own, s.ext, s.new⟩, ?_⟩
 ·have := lkr2 a.tmps.size 0 i v (by simpa [Lr, List.range_eq_range'] using hv)
  have hlt : i < a.tmps.size := by have := this.1; omega
  rw [this.2]
  simp [Array.getD_eq_getD_getElem?, hlt]
 ·have : ∀ (os : List Operand), (∀ (t : Nat), Operand.tmp t ∈ os → ∃ x, a.tmps[t]? = some x) → oL Lr os = some (os.map a.eval) := by
   intro os
   induction os with
   | nil => intro _; rfl
   | cons o r ih =>
     intro hk
     have hr := ih (fun t ht => hk t (.tail _ ht))
     have ho : dI Lr o = some (a.eval o) := by
      cases o with
      | tmp t =>
        obtain ⟨x, hx⟩ := hk t (.head _)
        have hlt : t < a.tmps.size := by
         rcases Nat.lt_or_ge t a.tmps.size with h | h
         ·exact h
         ·rw [Array.getElem?_eq_none h] at hx; cases hx
        have := lkr a.tmps.size 0 t (Nat.zero_le _) (by rw [Nat.zero_add]; exact hlt)
        show lk Lr t = some (a.tmps.getD t undef)
        simpa [Lr, List.range_eq_range'] using this
      | const v => rfl
      | global i => rfl
      | func f => rfl
     simp [oL, ho, hr]
  refine ⟨this os hk, fun t x hx => ?_⟩
  have hlt : t < a.tmps.size := by
   rcases Nat.lt_or_ge t a.tmps.size with h | h
   ·exact h
   ·rw [Array.getElem?_eq_none h] at hx; cases hx
  have h2 := lkr a.tmps.size 0 t (Nat.zero_le _) (by rw [Nat.zero_add]; exact hlt)
  have e : a.tmps.getD t undef = x := by simp [Array.getD_eq_getD_getElem?, hx]
  rw [e] at h2
  simpa [Lr, List.range_eq_range'] using h2
theorem cV.put {d : Nat} {sv : SV} {x : Value} {ρ ms} (h : St X.toCx [] (F1 ρ M ms :: F2 X ρ L a :: fs) (ms ++ own) g a) (hn : Nat.blt d X.n = true) (hx : bC g ρ sv x) : cV X ((d, sv) :: L) M fs own g (a.put (some d) x) := by
 have h2 : Sl X ρ L a g := h.all _ (.tail _ (.head _))
 have hd' : d < X.n := by simpa [Nat.blt_eq] using hn
 refine ⟨ρ, ms, ⟨(h.kn.put hn x).sub (fun i v hv => by simp [lk] at hv), fun f hf => h.all f (.tail _ (.tail _ hf)), h.own, h.ext, h.new⟩, h.all _ (.head _), h2.pin, fun t sv' ht => ?_⟩
 by_cases htd : t = d
 ·subst htd
  rw [bF] at ht
  cases ht
  exact ⟨x, by simp [Act.put, h.kn.size, hd'], hx⟩
 ·rw [bX _ _ htd] at ht
  obtain ⟨y, hy, dy⟩ := h2.val t sv' ht
  exact ⟨y, by simp [Act.put, Ne.symm htd, hy], dy⟩
end
def st1 : SV → SV
 | .g _ x => x
 | x => x
def pB : SV → List Prop
 | .g c _ => [c = true]
 | _ => []
def XO {β : Type} : List SV → (List SV → Option β) → Option β
 | [], K => K []
 | .g _ x :: r, K => XO r (fun r' => K (x :: r'))
 | x :: r, K => XO r (fun r' => K (x :: r'))
theorem sE {β : Type} : ∀ (svs : List SV) (K : List SV → Option β), XO svs K = K (svs.map st1)
 | [], K => rfl
 | sv :: r, K => by cases sv <;> (simp only [XO, List.map_cons, st1]; exact sE r _)
theorem pQ {g ρ sv x} (h : bC g ρ sv x) (hc : ∀ p ∈ pB sv, p) : bC g ρ (st1 sv) x := by
 cases sv with
 | g c x =>
   have hc : c = true := hc _ (.head _)
   subst hc
   cases h with | gt h => exact h
 | _ => exact h
theorem mD {g ρ} : ∀ {svs : List SV} {xs : List Value}, aI g ρ svs xs → (∀ p ∈ svs.flatMap pB, p) → aI g ρ (svs.map st1) xs
 | [], xs, h, _ => by rw [h.unnil]; exact aI.nil
 | sv :: r, xs, h, hc => by
   obtain ⟨x, ys, rfl, hx, hr⟩ := h.uncons
   exact aI.cons (pQ hx (fun p hp => hc p (by simp [hp]))) (mD hr (fun p hp => hc p (by
    simp only [List.flatMap_cons, List.mem_append]; exact .inr hp)))
def gS (arr : Array Oper) (e : Nat → Option SV) (o : Oper) : Option (Option Bool) :=
 match o.guard with
 | none => some none
 | some (j, want) => match arr[j]? with
   | none => none
   | some oj => match oj.dst with
     | none => none
     | some t => match e t with
       | some (.v (.bool b)) => match want with | true => some (some b) | false => some (some !b)
       | some (.g c (.v (.bool b))) => match want with | true => some (some (c && b)) | false => some (some (c && !b))
       | _ => none
def sF : Option Bool → Bool
 | none => true
 | some b => b
theorem D6 {arr : Array Oper} {n : Nat} {a : Act} {g : GW} {ρ : Nat → Lc} {e : Nat → Option SV} {o : Oper} {G : Option Bool} {df : List Deferred} (hk : KN n df [] a) (he : ∀ t sv, e t = some sv → ∃ x, a.tmps[t]? = some x ∧ bC g ρ sv x) (h : gS arr e o = some G) :
 Region.wanted o (yielded arr a.tmps) = sF G := by
 have hl : ∀ {r t x}, a.tmps[t]? = some x → live arr [(t, x)] o = some r → Region.wanted o (yielded arr a.tmps) = r := by
  intro r t x hx hl
  refine aX (n := n) (L := [(t, x)]) ⟨hk.size, hk.defers, fun i v hv => ?_⟩ hl
  by_cases hi : i = t
  ·subst hi; rw [dA] at hv; cases hv; exact hx
  ·rw [iD _ _ hi] at hv; simp [lk] at hv
 unfold gS at h
 split at h
 ·rename_i hg
  cases h
  exact aX (L := []) hk (by unfold live; rw [hg]; rfl)
 ·rename_i j want hg
  split at h
  ·cases h
  ·rename_i oj hj
   split at h
   ·cases h
   ·rename_i t ht
    split at h
    ·rename_i b hb
     obtain ⟨x, hx, dx⟩ := he t _ hb
     obtain rfl := eH dx
     refine hl hx ?_
     unfold live
     simp only [hg, hj, ht, dA]
     cases want <;> cases h <;> cases b <;> rfl
    ·rename_i c b hb
     obtain ⟨x, hx, dx⟩ := he t _ hb
     refine hl hx ?_
     unfold live
     simp only [hg, hj, ht, dA]
     cases dx with
     | gt h' =>
       obtain rfl := eH h'
       cases want <;> cases h <;> cases b <;> rfl
     | gf => cases want <;> cases h <;> rfl
    ·cases h
def wr : Option Bool → SV → SV
 | none, x => x
 | some b, x => .g b x
def wq : Option Bool → List Prop → List Prop
 | none, φ => φ
 | some b, φ => φ.map fun p => b = true → p
def mS : Operand → Option Nat
 | .tmp t => some t
 | _ => none
def nE (arr : Array Oper) (o : Oper) : List Nat := o.op.operands.toList.filterMap mS ++ (match o.guard with
 | none => []
 | some (j, _) => match arr[j]? with
   | none => []
   | some oj => match oj.dst with | none => [] | some t => [t])
def agree (arr : Array Oper) (o : Oper) (L L' : SL) : Prop := ∀ t ∈ nE arr o, aF L' t = aF L t
def jQ (d : Option Nat) (sv : SV) (L : SL) : SL := match d with
 | some d => (d, sv) :: L
 | none => L
def rY (P : Program) (arr : Array Oper) (o : Oper) (K : Act → World → Prop) (a : Act) (w : World) : Prop :=
 if Region.wanted o (yielded arr a.tmps) then wn P o a w K else K (a.put o.dst undef) w
theorem lJ {P : Program} {arr : Array Oper} {o : Oper} {K K' : Act → World → Prop} (hK : ∀ a w, K a w → K' a w) {a w} (h : rY P arr o K a w) : rY P arr o K' a w := by
 unfold rY at h ⊢
 split
 ·rename_i hw; rw [if_pos hw] at h; exact TQ hK h
 ·rename_i hw; rw [if_neg hw] at h; exact hK _ _ h
def Stp (X : Kx) (arr : Array Oper) (o : Oper) (L : SL) (M : SM) (fs : List MF) (own : List aH) (sv : SV) (M' : SM) : Prop :=
 ∀ L', agree arr o L L' → ∀ g a, cV X L' M fs own g a → rY X.P arr o (fun a' w' => ∃ g', g'.w = w' ∧ cV X (jQ o.dst sv L') M' fs own g' a') a g.w
def ES (X : Kx) (arr : Array Oper) (l : List Oper) (k : List It) (L : SL) (M : SM) (fs : List MF) (own : List aH) : Prop :=
 ∀ g a, cV X L M fs own g a → wl X.P arr (jP X.P X.rd X.Q k .normal) l a g.w
def E (X : Kx) (k : List It) (L : SL) (M : SM) (fs : List MF) (own : List aH) : Prop :=
 ∀ g a, cV X L M fs own g a → jP X.P X.rd X.Q k .normal a g.w
section
variable {X : Kx} {k : List It} {L : SL} {M : SM} {fs : List MF} {own : List aH} {arr : Array Oper} {l : List Oper} {o : Oper}
theorem cP {sv M'} (hs : Stp X arr o L M fs own sv M') (h : ES X arr l k (jQ o.dst sv L) M' fs own) : ES X arr (o :: l) k L M fs own := by
 intro g a s
 have := hs L (fun _ _ => rfl) g a s
 show rY X.P arr o (wl X.P arr (jP X.P X.rd X.Q k .normal) l) a g.w
 exact lJ (fun a' w' ⟨g', hw, s'⟩ => hw ▸ h g' a' s') this
theorem jI (h : E X k L M fs own) : ES X arr [] k L M fs own := h
theorem oO {e e' : Nat → Option SV} : ∀ {os : List Operand}, (∀ t ∈ os.filterMap mS, e' t = e t) → evs e' os = evs e os
 | [], _ => rfl
 | x :: r, h => by
   have hr := oO (os := r) (e := e) (e' := e') (fun t ht => h t (by
    simp only [List.filterMap_cons]; split <;> simp [ht]))
   have hx : cO e' x = cO e x := by
    cases x with
    | tmp t => exact h t (by simp [mS])
    | const v => cases v <;> rfl
    | _ => rfl
   unfold evs
   rw [hx, hr]
theorem nF {L L' : SL} (h : agree arr o L L') : gS arr (aF L') o = gS arr (aF L) o := by
 unfold gS
 split
 ·rfl
 ·rename_i j want hg
  split
  ·rfl
  ·rename_i oj hj
   split
   ·rfl
   ·rename_i t ht
    rw [h t (by simp [nE, hg, hj, ht])]
theorem aW {L L' : SL} (h : agree arr o L L') : evs (aF L') o.op.operands.toList = evs (aF L) o.op.operands.toList :=
 oO (fun t ht => h t (by simp [nE, ht]))
theorem bT {d : Nat} {sv : SV} {G : Option Bool} (hG : gS arr (aF L) o = some G) (hd : o.dst = some d) (hn : Nat.blt d X.n = true)
 (hr : ∀ L', agree arr o L L' → sF G = true → ∀ g a ρ ms, St X.toCx [] (F1 ρ M ms :: F2 X ρ L' a :: fs) (ms ++ own) g a → Reads X.toCx o a g ρ sv) : Stp X arr o L M fs own (wr G sv) M := by
 intro L' hL g a hE
 obtain ⟨ρ, ms, st⟩ := hE.open
 have hw := D6 st.kn (st.all (F2 X ρ L' a) (.tail _ (.head _))).val ((nF hL).trans hG)
 unfold rY
 rw [hw]
 by_cases hon : sF G = true
 ·rw [if_pos hon]
  obtain ⟨v, hrun, dv⟩ := hr L' hL hon g a ρ ms st
  simp only [wn, hrun, hd, jQ]
  refine ⟨g, rfl, cV.put st hn ?_⟩
  cases G with
  | none => exact dv
  | some b => have hb : b = true := hon; subst hb; exact .gt dv
 ·rw [if_neg hon]
  simp only [hd, jQ]
  refine ⟨g, rfl, cV.put st hn ?_⟩
  cases G with
  | none => exact absurd rfl hon
  | some b =>
    have hb : b = false := by simpa [sF] using hon
    subst hb; exact .gf
def yW (tb : TT) (e : Nat → Option SV) (M : SM) (op : Op) : Option (SV × List Prop) :=
 match evs e op.operands.toList with
 | some svs => XO svs (fun sts => match pP tb M op sts with
   | some (r, φ) => some (r, svs.flatMap pB ++ φ)
   | none => none)
 | none => none
theorem vH {G : Option Bool} {φ : List Prop} (h : ∀ p ∈ wq G φ, p) (hG : sF G = true) : ∀ p ∈ φ, p := by
 cases G with
 | none => exact h
 | some b =>
   intro p hp
   exact h _ (List.mem_map.2 ⟨p, hp, rfl⟩) hG
theorem ZX {tb : TT} (hT : tb.Ok X.P) {d : Nat} {sv : SV} {φ : List Prop} {G : Option Bool} (hG : gS arr (aF L) o = some G) (hd : o.dst = some d) (hn : Nat.blt d X.n = true) (hx : yW tb (aF L) M o.op = some (sv, φ)) (hφ : ∀ p ∈ wq G φ, p) :
 Stp X arr o L M fs own (wr G sv) M := by
 refine bT hG hd hn (fun L' hL hon g a ρ ms st => ?_)
 unfold yW at hx
 split at hx
 ·rename_i svs hsv
  rw [sE] at hx
  split at hx
  ·rename_i r φ' hop
   cases hx
   have hφ2 := vH hφ hon
   have hsv' : evs (aF L') o.op.operands.toList = some svs := (aW hL).trans hsv
   have h2 : ∀ t sv, aF L' t = some sv → ∃ x, a.tmps[t]? = some x ∧ bC g ρ sv x := (st.all (F2 X ρ L' a) (.tail _ (.head _))).val
   obtain ⟨Lr, st', hev, _⟩ := st.slots (fun t sv ht => by obtain ⟨x, hx, _⟩ := h2 t sv ht; exact ⟨x, hx⟩) hsv'
   exact TY hT st' (st.all _ (.head _)) hev (mD (aT h2 hsv') (fun p hp => hφ2 p (by simp only [List.mem_append]; exact .inl hp))) hop (fun p hp => hφ2 p (by simp only [List.mem_append]; exact .inr hp))
  ·cases hx
 ·cases hx
end
def OO (oa ob : Operand) (q : Bool) : SV → SV → Option SV
 | .v (.bool x), .v (.bool y) => match ob with
   | .const (.bool false) => some (.v (.bool (q && x)))
   | _ => match oa with
     | .const (.bool true) => some (.v (.bool (q || y)))
     | _ => some (.v (.bool (bif q then x else y)))
 | .v (.int k x), .v (.int k' y) => match decide (k = k') with
   | true => some (.v (.int k (bif q then x else y)))
   | false => none
 | .str x, .str y => some (.str (bif q then x else y))
 | _, _ => none
def WW (e : Nat → Option SV) (c oa ob : Operand) : Option (SV × List Prop) :=
 match evs e [c, oa, ob] with
 | some [sc, sa, sb] => match st1 sc with
   | .v (.bool q) => match OO oa ob q (st1 sa) (st1 sb) with
     | some r => some (r, pB sc ++ ((pB sa).map (fun p => q = true → p) ++ (pB sb).map (fun p => q = false → p)))
     | none => none
   | _ => none
 | _ => none
theorem OP {g : GW} {ρ : Nat → Lc} {a : Act} {oa ob : Operand} {q : Bool} {sa sb r : SV} (h : OO oa ob q sa sb = some r) (ha : q = true → bC g ρ sa (a.eval oa)) (hb : q = false → bC g ρ sb (a.eval ob)) :
 bC g ρ r (if q then a.eval oa else a.eval ob) := by
 unfold OO at h
 split at h
 ·rename_i x y
  split at h
  ·cases h
   cases q with
   | true => have := eH (ha rfl); simp [this]; exact .v
   | false => exact .v
  ·split at h
   ·cases h
    cases q with
    | true => exact .v
    | false => have := eH (hb rfl); simp [this]; exact .v
   ·cases h
    cases q with
    | true => have := eH (ha rfl); simp [this]; exact .v
    | false => have := eH (hb rfl); simp [this]; exact .v
 ·rename_i k x k' y
  split at h
  ·rename_i hk
   have hk := of_decide_eq_true hk
   subst hk
   cases h
   cases q with
   | true => have := eH (ha rfl); simp [this]; exact .v
   | false => have := eH (hb rfl); simp [this]; exact .v
  ·cases h
 ·cases h
  cases q with
  | true => have := eS (ha rfl); simp [this]; exact .str
  | false => have := eS (hb rfl); simp [this]; exact .str
 ·cases h
def one : SV → Bool
 | .v x => x.oneCell'
 | .a _ => false
 | .t _ => false
 | .g _ _ => false
 | _ => true
def TZ : List SV → Bool
 | [] => true
 | x :: r => one x && TZ r
def N3 : SV → Bool
 | .a cs => TZ cs
 | x => one x
def aN : SV → List SV
 | .a cs => cs
 | x => [x]
theorem OQ {g ρ sv x} (h : one sv = true) (hd : bC g ρ sv x) : x.oneCell' = true := by
 cases hd <;> first | rfl | exact h | (simp [one] at h; done)
theorem LG {x : Value} (h : x.oneCell' = true) : x.cells = #[x] := by cases x <;> first | rfl | simp [Value.oneCell'] at h
theorem I1 {g ρ} : ∀ {svs : List SV} {xs : List Value}, TZ svs = true → aI g ρ svs xs → ∀ u ∈ xs, u.oneCell' = true
 | [], xs, _, h, u, hu => by rw [h.unnil] at hu; cases hu
 | sv :: r, xs, ho, h, u, hu => by
   obtain ⟨x, ys, rfl, hx, hr⟩ := h.uncons
   simp only [TZ, Bool.and_eq_true] at ho
   cases hu with
   | head => exact OQ ho.1 hx
   | tail _ hm => exact I1 ho.2 hr u hm
theorem iF {g ρ sv x} (h : N3 sv = true) (hd : bC g ρ sv x) : aI g ρ (aN sv) x.cells.toList ∧ ∀ u ∈ x.cells.toList, u.oneCell' = true := by
 by_cases ha : ∃ cs, sv = .a cs
 ·obtain ⟨cs, rfl⟩ := ha
  cases hd with
  | a xs hl hdd =>
    have : aI g ρ cs xs := ⟨hl, hdd⟩
    exact ⟨by simpa [aN, Value.cells] using this, by simpa [Value.cells] using I1 h this⟩
 ·have h1 : one sv = true := by cases sv <;> first | exact h | exact absurd ⟨_, rfl⟩ ha
  have hx := OQ h1 hd
  have hc : aN sv = [sv] := by cases sv <;> first | rfl | exact absurd ⟨_, rfl⟩ ha
  rw [hc, LG hx]
  exact ⟨aI.cons hd aI.nil, fun u hu => by simp at hu; exact hu ▸ hx⟩
def yH {β : Type} : List SV → Nat → List SV → (List SV → Option β) → Option β
 | cs, 0, [], K => K cs
 | c :: cs, n + 1, ns, K => yH cs n ns (fun r => K (c :: r))
 | _ :: cs, 0, n :: ns, K => yH cs 0 ns (fun r => K (n :: r))
 | [], _ + 1, _, _ => none
 | [], 0, _ :: _, _ => none
theorem oP {β : Type} : ∀ {cs : List SV} {off : Nat} {ns : List SV} {K : List SV → Option β} {r : β}, yH cs off ns K = some r → off + ns.length ≤ cs.length ∧ K (cs.take off ++ ns ++ cs.drop (off + ns.length)) = some r
 | cs, 0, [], K, r, h => ⟨by simp, by
   have h : K cs = some r := by cases cs <;> exact h
   simpa using h⟩
 | c :: cs, n + 1, ns, K, r, h => by
   obtain ⟨h1, h2⟩ := oP (cs := cs) (off := n) h
   refine ⟨by simp; omega, ?_⟩
   have e : n + 1 + ns.length = n + ns.length + 1 := by omega
   rw [e]
   simpa using h2
 | _ :: cs, 0, n :: ns, K, r, h => by
   obtain ⟨h1, h2⟩ := oP (cs := cs) (off := 0) h
   refine ⟨by simp at h1 ⊢; omega, ?_⟩
   have e : 0 + (n :: ns).length = 0 + ns.length + 1 := by simp
   rw [e]
   simpa using h2
 | [], _ + 1, _, _, _, h => by cases h
 | [], 0, _ :: _, _, _, h => by cases h
theorem aI.put {g ρ cs xs ns ys} (h : aI g ρ cs xs) (h' : aI g ρ ns ys) (off : Nat) : aI g ρ (cs.take off ++ ns ++ cs.drop (off + ns.length)) (xs.take off ++ ys ++ xs.drop (off + ys.length)) := by
 rw [h'.1]
 exact ((h.take off).append h').append (h.drop _)
def pG {β : Type} (lay : List (Nat × Nat × Bool)) : List SV → List Nat → List SV → (List SV → Option β) → Option β
 | cs, [], [], K => K cs
 | cs, f :: fr, sv :: svs, K => match lay[f]? with
   | some (off, sz, _) => match Nat.beq (aN sv).length sz, N3 sv with
     | true, true => yH cs off (aN sv) (fun r => pG lay r fr svs K)
     | _, _ => none
   | none => none
 | _, _, _, _ => none
theorem D7 {g ρ} {β : Type} {lay : List (Nat × Nat × Bool)} : ∀ {fr : List Nat} {svs : List SV} {cs : List SV} {xs vals : List Value} {K : List SV → Option β} {r : β}, pG lay cs fr svs K = some r → aI g ρ cs xs → aI g ρ svs vals →
 ∃ cs' ys, K cs' = some r ∧ aI g ρ cs' ys ∧ Instr.fill (fun i => (lay.map fun p => (p.1, p.2.1))[i]?) xs.toArray (fr.zip vals) = some ys.toArray
 | [], [], cs, xs, vals, K, r, h, hd, hv => ⟨cs, xs, h, hd, rfl⟩
 | f :: fr, sv :: svs, cs, xs, vals, K, r, h, hd, hv => by
   obtain ⟨v, vs, rfl, dv, hr⟩ := hv.uncons
   unfold pG at h
   split at h
   ·rename_i off sz ag hl
    split at h
    ·rename_i hsz hok
     have hsz := Nat.eq_of_beq_eq_true hsz
     obtain ⟨h1, h2⟩ := oP h
     obtain ⟨d1, _⟩ := iF hok dv
     obtain ⟨cs', ys, h3, h4, h5⟩ := D7 h2 (hd.put d1 off) hr
     refine ⟨cs', ys, h3, h4, ?_⟩
     have hlen : v.cells.size = sz := by rw [← hsz, ← d1.1]; simp
     have hle : off + v.cells.toList.length ≤ xs.length := by rw [d1.1, hd.1]; exact h1
     have hl' : (lay.map fun p => (p.1, p.2.1))[f]? = some (off, sz) := by simp [hl]
     simp only [List.zip_cons_cons]
     unfold Instr.fill
     simp only [hl']
     have hle2 : ¬ (off + v.cells.size > xs.length) := by simpa using hle
     rw [if_neg (by simp [hlen]; simpa [hlen] using hle2)]
     have hset := foldl_set xs v.cells.toList (xs.take off) (xs.drop off) off (by simp) (by simp; have : v.cells.toList.length = v.cells.size := by simp
                                                                                            omega) (by simp; have : v.cells.toList.length = v.cells.size := by simp
                                                                                                       omega)
     have e : v.cells.zipIdx.foldl (fun (cs : Array Value) (x : Value × Nat) => cs.setIfInBounds (off + x.2) x.1) xs.toArray = (xs.take off ++ v.cells.toList ++ xs.drop (off + v.cells.toList.length)).toArray := by
      rw [← Array.foldl_toList]
      simp only [Array.toList_zipIdx]
      rw [hset, List.drop_drop]
     show Instr.fill _ (v.cells.zipIdx.foldl (fun (cs : Array Value) (x : Value × Nat) => cs.setIfInBounds (off + x.2) x.1) xs.toArray) _ = _
     rw [e]
     exact h5
    ·cases h
   ·cases h
 | [], _ :: _, _, _, _, _, _, h, _, _ => by simp [pG] at h
 | _ :: _, [], _, _, _, _, _, h, _, _ => by simp [pG] at h
def OR (tb : TT) (e : Nat → Option SV) (T : Nat) (parts : List (Nat × Operand)) : Option (SV × List Prop) := match tb.get T with
 | some d => match d.kd with
   | .st lay => match evs e (parts.map (·.2)) with
     | some svs => XO svs (fun sts => pG lay (aN (inj d.z)) (parts.map (·.1)) sts (fun cs => some (.a cs, svs.flatMap pB)))
     | none => none
   | _ => none
 | none => none
def xix (tb : TT) (e : Nat → Option SV) (T : Nat) (x ix : Operand) (row : List SV) : Option (SV × List Prop) := match evs e [x, ix], tb.get T with
 | some [sx, si], some d => match st1 sx, st1 si, d.kd with
   | .s _ rows, .v (.int _ z), .sl el => match tb.get el with
     | some de => match Nat.beq row.length de.sz with
       | true => some (.p row, pB sx ++ (pB si ++ [0 ≤ z ∧ rows[z.toNat]? = some row]))
       | false => none
     | none => none
   | _, _, _ => none
 | _, _ => none
def Y5 (tb : TT) (e : Nat → Option SV) (M : SM) (H : List (List SV)) (op : Op) : Option (SV × List Prop) := match op with
 | .pick c a b => WW e c a b
 | .build T parts => OR tb e T parts.toList
 | .indexAddr T x ix => match H with
   | row :: _ => xix tb e T x ix row
   | [] => none
 | op => yW tb e M op
def LH : Op → Bool
 | .indexAddr _ _ _ => true
 | _ => false
section
variable {X : Kx} {k : List It} {L : SL} {M : SM} {fs : List MF} {own : List aH} {arr : Array Oper} {l : List Oper} {o : Oper}
theorem XP {tb : TT} (hT : tb.Ok X.P) {d : Nat} {sv : SV} {φ : List Prop} {G : Option Bool} (hG : gS arr (aF L) o = some G) (hd : o.dst = some d) (hn : Nat.blt d X.n = true) {H : List (List SV)} (hx : Y5 tb (aF L) M H o.op = some (sv, φ)) (hφ : ∀ p ∈ wq G φ, p) :
 Stp X arr o L M fs own (wr G sv) M := by
 unfold Y5 at hx
 split at hx
 ·rename_i c oa ob hop
  refine bT hG hd hn (fun L' hL hon g a ρ ms st => ?_)
  have hφ2 := vH hφ hon
  have h2 : ∀ t sv, aF L' t = some sv → ∃ x, a.tmps[t]? = some x ∧ bC g ρ sv x := (st.all (F2 X ρ L' a) (.tail _ (.head _))).val
  unfold WW at hx
  split at hx
  ·rename_i sc sa sb hsv
   have hsv' : evs (aF L') [c, oa, ob] = some [sc, sa, sb] := by
    have := aW hL
    rw [hop] at this
    exact this.trans hsv
   obtain ⟨_, _, e1, dc, hr⟩ := (aT h2 hsv').uncons
   simp only [List.map_cons, List.cons.injEq] at e1
   obtain ⟨rfl, rfl⟩ := e1
   obtain ⟨_, _, e1, da, hr⟩ := hr.uncons
   simp only [List.cons.injEq] at e1
   obtain ⟨rfl, rfl⟩ := e1
   obtain ⟨_, _, e1, db, _⟩ := hr.uncons
   simp only [List.cons.injEq] at e1
   obtain ⟨rfl, _⟩ := e1
   split at hx
   ·rename_i q hq
    split at hx
    ·rename_i r hp
     cases hx
     have hc := pQ dc (fun p hp => hφ2 p (by simp [hp]))
     rw [hq] at hc
     have hcv := eH hc
     refine ⟨_, ?_, OP (a := a) hp (fun hqt => pQ da (fun p hp => ?_)) (fun hqf => pQ db (fun p hp => ?_))⟩
     ·cases q <;> simp only [execOp, hop, hcv] <;> rfl
     ·exact hφ2 (q = true → p) (List.mem_append_right _ (List.mem_append_left _ (List.mem_map.2 ⟨p, hp, rfl⟩))) hqt
     ·exact hφ2 (q = false → p) (List.mem_append_right _ (List.mem_append_right _ (List.mem_map.2 ⟨p, hp, rfl⟩))) hqf
    ·cases hx
   ·cases hx
  ·cases hx
 ·rename_i T parts hop
  refine bT hG hd hn (fun L' hL hon g a ρ ms st => ?_)
  have hφ2 := vH hφ hon
  have h2 : ∀ t sv, aF L' t = some sv → ∃ x, a.tmps[t]? = some x ∧ bC g ρ sv x := (st.all (F2 X ρ L' a) (.tail _ (.head _))).val
  unfold OR at hx
  split at hx
  ·rename_i d' hd'
   have hok := TT.get_ok hT hd'
   split at hx
   ·rename_i lay hk
    have hkd := hok.kd
    rw [hk] at hkd
    obtain ⟨_, zs, hz, hbt⟩ := hkd
    split at hx
    ·rename_i svs hsv
     rw [sE] at hx
     have hsv' : evs (aF L') (parts.toList.map (·.2)) = some svs := by
      have := aW hL
      rw [hop] at this
      exact (show evs (aF L') (parts.toList.map (·.2)) = evs (aF L) (parts.toList.map (·.2)) by simpa [Op.operands] using this).trans hsv
     have hφsv : ∀ {β : Type} {cs : List SV} {fr svs'} {K : List SV → Option β} {r}, pG lay cs fr svs' K = some r → ∃ cs', K cs' = some r := by
      intro β cs fr svs' K r h
      induction fr generalizing cs svs' with
      | nil => cases svs' with
        | nil => exact ⟨cs, h⟩
        | cons _ _ => simp [pG] at h
      | cons f fr ih => cases svs' with
        | nil => simp [pG] at h
        | cons sv svs =>
          unfold pG at h
          split at h
          ·split at h
           ·exact ih (oP h).2
           ·cases h
          ·cases h
     obtain ⟨cs0, hcs0⟩ := hφsv hx
     simp only [Option.some.injEq, Prod.mk.injEq] at hcs0
     have dz : aI g ρ (aN (inj d'.z)) zs := by
      have := uJ g ρ d'.z
      rw [hz] at this ⊢
      cases hi : inj (.agg zs.toArray) with
      | a cs =>
        rw [hi] at this
        cases this with
        | a xs hl hdd =>
          exact ⟨hl, hdd⟩
      | _ => simp [inj] at hi
     obtain ⟨cs', ys, h3, h4, h5⟩ := D7 hx dz (mD (aT h2 hsv') (fun p hp => hφ2 p (by rw [← hcs0.2]; exact hp)))
     simp only [Option.some.injEq, Prod.mk.injEq] at h3
     obtain ⟨rfl, _⟩ := h3
     refine ⟨.agg ys.toArray, ?_, .a ys h4.1 h4.2⟩
     obtain ⟨fields, z, u, ⟨i, hi, hz2⟩, hzc, hm⟩ := hbt
     have hm' := hm g.w
     have hfun : (fun (x : Nat) => (lay.map fun p => (p.1, p.2.1)).toArray[x]?) = fun (i : Nat) => (lay.map fun p => (p.1, p.2.1))[i]? := by funext i; simp
     have hpp : (Array.map (fun (x : Nat × Operand) => (x.1, a.eval x.2)) parts).toList = (parts.toList.map (·.1)).zip ((parts.toList.map (·.2)).map a.eval) := by
      simp only [Array.toList_map]
      generalize parts.toList = ps
      induction ps with
      | nil => rfl
      | cons p ps ih => simp only [List.map_cons, List.zip_cons_cons, ih]
     have hbr : (Instr.build T (Array.map (fun (x : Nat × Operand) => (x.1, a.eval x.2)) parts)).run X.P g.w = .ok (.agg ys.toArray) g.w := by
      simp only [Instr.build, Sem.run_bind, zeroValue, typeInfo, run_program, hi, hz2, Result.andThen_ok, Sem.run_pure, run_underlying u, hm', hzc]
      rw [hpp, hfun, h5]
      rfl
     simp only [execOp, hop]
     show (do let v ← Instr.build T (Array.map (fun (x : Nat × Operand) => (x.1, a.eval x.2)) parts); pure (Next.value v) : Sem Next).run X.P g.w = _
     rw [Sem.run_bind, hbr]
     rfl
    ·cases hx
   ·cases hx
  ·cases hx
 ·rename_i T x ix hop
  split at hx
  ·rename_i row _
   refine bT hG hd hn (fun L' hL hon g a ρ ms st => ?_)
   have hφ2 := vH hφ hon
   have h2 : ∀ t sv, aF L' t = some sv → ∃ x, a.tmps[t]? = some x ∧ bC g ρ sv x := (st.all (F2 X ρ L' a) (.tail _ (.head _))).val
   unfold xix at hx
   split at hx
   ·rename_i sx si d' hsv hd'
    have hkd := (TT.get_ok hT hd').kd
    have hsv' : evs (aF L') [x, ix] = some [sx, si] := by
     have := aW hL
     rw [hop] at this
     exact this.trans hsv
    obtain ⟨_, _, e1, dx, hr⟩ := (aT h2 hsv').uncons
    simp only [List.map_cons, List.cons.injEq] at e1
    obtain ⟨rfl, rfl⟩ := e1
    obtain ⟨_, _, e1, di, _⟩ := hr.uncons
    simp only [List.cons.injEq] at e1
    obtain ⟨rfl, _⟩ := e1
    split at hx
    ·rename_i sz rows _ z el hsx hsi hk
     rw [hk] at hkd
     split at hx
     ·rename_i de hde
      split at hx
      ·rename_i hsz
       have hsz := Nat.eq_of_beq_eq_true hsz
       cases hx
       have dx' := pQ dx (fun p hp => hφ2 p (List.mem_append_left _ hp))
       have di' := pQ di (fun p hp => hφ2 p (List.mem_append_right _ (List.mem_append_left _ hp)))
       have hz := hφ2 _ (List.mem_append_right _ (List.mem_append_right _ (.head _)))
       rw [hsx] at dx'
       rw [hsi] at di'
       have hvi := cF di'
       generalize hvx : a.eval x = vx at dx'
       cases dx' with
       | s xs h1 h2' hl hr' ho hne hdd =>
         rename_i ad c
         have hlt : z.toNat < rows.length := by
          rcases Nat.lt_or_ge z.toNat rows.length with h | h
          ·exact h
          ·have := hz.2; rw [List.getElem?_eq_none h] at this; cases this
         obtain ⟨b, oo, rfl, hfz, hc⟩ := hne (by intro e; subst e; simp at hlt)
         have hrow : row.length = sz := hr' row (List.mem_of_getElem? hz.2)
         have hsz : sz = de.sz := hrow.symm.trans hsz
         refine ⟨.pointer (some ⟨b, oo + z.toNat * sz, none⟩), ?_, .p ((xs.drop (z.toNat * sz)).take sz) ?_ hfz (fun k y hy => ?_) (fun ρ' j sv y hj hy => ?_)⟩
         ·have hb : 0 ≤ z ∧ z < (rows.length : Int) := ⟨hz.1, by omega⟩
          simp only [execOp, hop, hvx, hvi]
          simp only [Instr.indexAt, asIntOf, Sem.run_bind, Sem.run_pure, Result.andThen_ok, run_underlying hkd]
          rw [if_pos hb]
          simp only [Sem.run_bind, run_sizeOf (TT.get_ok hT hde).ti, Result.andThen_ok, Sem.run_pure, addr_add, hsz]
         ·simp only [List.length_take, List.length_drop, hl, hrow]
          have : z.toNat * sz + sz ≤ rows.length * sz := by rw [← Nat.succ_mul]; exact Nat.mul_le_mul_right _ hlt
          omega
         ·rw [List.getElem?_take] at hy
          split at hy
          ·rw [List.getElem?_drop] at hy
           have := hc _ y hy
           rwa [← Nat.add_assoc] at this
          ·cases hy
         ·rw [List.getElem?_take] at hy
          split at hy
          ·rw [List.getElem?_drop] at hy
           exact hdd ρ' z.toNat j row sv y hz.2 hj hy
          ·cases hy
      ·cases hx
     ·cases hx
    ·cases hx
   ·cases hx
  ·cases hx
 ·exact ZX hT hG hd hn hx hφ
def T8 {β : Type} (sz : Nat) : List SV → (List (List SV) → Option β) → Option β
 | [], K => K []
 | sv :: r, K => match N3 sv && (nC (aN sv) && Nat.beq (aN sv).length sz) with
   | true => T8 sz r (fun rows => K (aN sv :: rows))
   | false => none
def XQ (tb : TT) (e : Nat → Option SV) (T n : Nat) (parts : List (Nat × Operand)) : Option (SV × List Prop) := match tb.get T with
 | some d => match d.kd with
   | .sl el => match tb.get el, evs e (parts.map (·.2)) with
     | some de, some svs => match Nat.blt 0 de.sz && (Nat.ble (n * de.sz) 16777216 && (decide (parts.map (·.1) = List.range n) && Nat.beq (aN (inj de.z)).length de.sz)) with
       | true => XO svs (fun sts => T8 de.sz sts (fun rows => some (.s de.sz rows, svs.flatMap pB)))
       | false => none
     | _, _ => none
   | _ => none
 | none => none
theorem I2 {β : Type} {sz : Nat} : ∀ {svs : List SV} {K : List (List SV) → Option β} {r : β}, T8 sz svs K = some r → K (svs.map aN) = some r ∧ ∀ sv ∈ svs, N3 sv = true ∧ nC (aN sv) = true ∧ (aN sv).length = sz
 | [], K, r, h => ⟨h, fun sv hv => (by cases hv)⟩
 | sv :: svs, K, r, h => by
   unfold T8 at h
   split at h
   ·rename_i hc
    simp only [Bool.and_eq_true] at hc
    obtain ⟨k1, k2⟩ := I2 h
    refine ⟨k1, fun x hx => ?_⟩
    cases hx with
    | head => exact ⟨hc.1, hc.2.1, Nat.eq_of_beq_eq_true hc.2.2⟩
    | tail _ hm => exact k2 x hm
   ·cases h
def OS (ρ : Nat → Lc) (rows : List (List SV)) (vs : List Value) : MF := ⟨fun g => ∀ (j : Nat) q v, rows[j]? = some q → vs[j]? = some v → aI g ρ q v.cells.toList, fun e h j q v h1 h2 => (h j q v h1 h2).mono e⟩
theorem ZY {X : Kx} {arr : Array Oper} {o : Oper} {Lr : LL} {fs : List MF} {own : List aH} {K : Act → World → Prop} {g : GW} {a : Act} (st : St X.toCx Lr fs own g a) (h : S X.toCx arr [o] [.lp K] Lr fs own) : rY X.P arr o K a g.w := h g a st
theorem S_J {X : Kx} {arr : Array Oper} {L : LL} {fs : List MF} {own : List aH} {J : Act → World → Prop} (h : ∀ g a, St X.toCx L fs own g a → J a g.w) : S X.toCx arr [] [.lp J] L fs own := fun g a s => h g a s
theorem Sl.put {X : Kx} {d : Nat} {v : Value} {sv : SV} {ρ L Lr a a' g n df} (h : Sl X ρ L a g) (hf : ∀ t x, a.tmps[t]? = some x → lk Lr t = some x) (hk : KN n df ((d, v) :: Lr) a') (hd : bC g ρ sv v) : Sl X ρ ((d, sv) :: L) a' g := by
 refine ⟨h.pin, fun t s ht => ?_⟩
 by_cases htd : t = d
 ·subst htd; rw [bF] at ht; cases ht; exact ⟨v, hk.val t v (dA _ _ _), hd⟩
 ·rw [bX _ _ htd] at ht
  obtain ⟨x, hx, dx⟩ := h.val t s ht
  exact ⟨x, hk.val t x (by rw [iD _ _ htd]; exact hf t x hx), dx⟩
def OT (ρ : Nat → Lc) (svs : List SV) (xs : List Value) : MF := ⟨fun g => aI g ρ svs xs, fun e h => h.mono e⟩
theorem rowsOf {sz : Nat} : ∀ (vs : List Value), (∀ v ∈ vs, v.cells.toList.length = sz ∧ ∀ u ∈ v.cells.toList, u.oneCell' = true) → ∃ ys : List (Row sz), ys.map (fun y => y.1) = vs.map (fun v => v.cells.toList)
 | [], _ => ⟨[], rfl⟩
 | v :: vs, h => by
   obtain ⟨ys, hy⟩ := rowsOf vs (fun x hx => h x (.tail _ hx))
   exact ⟨⟨v.cells.toList, h v (.head _)⟩ :: ys, by simp [hy]⟩
theorem XR {G : Option Bool} {g ρ x v} (hon : sF G = true) (h : bC g ρ x v) : bC g ρ (wr G x) v := by
 cases G with
 | none => exact h
 | some b => have hb : b = true := hon; subst hb; exact .gt h
theorem mE {z : Value} {n : Nat} (h : (aN (inj z)).length = n) : z.cells.size = n := by
 rw [← h]
 unfold inj
 split
 ·simp [aN, Value.cells]
 ·rename_i hx
  have h1 : (aN (AW z)).length = 1 := by unfold AW; split <;> rfl
  rw [h1]
  cases z <;> first | rfl | exact absurd rfl (hx _)
theorem T9 {tb : TT} (hT : tb.Ok X.P) {d : Nat} {sv : SV} {φ : List Prop} {G : Option Bool} {T n : Nat} {parts : Array (Nat × Operand)} (hop : o.op = .buildSlice T n parts) (hG : gS arr (aF L) o = some G) (hd : o.dst = some d) (hn : Nat.blt d X.n = true) (hx : XQ tb (aF L) T n parts.toList = some (sv, φ)) (hφ : ∀ p ∈ wq G φ, p) :
 Stp X arr o L M fs own (wr G sv) M := by
 intro L' hL g a hE
 obtain ⟨ρ, ms, st⟩ := hE.open
 have hSl : Sl X ρ L' a g := st.all _ (.tail _ (.head _))
 have h2 := hSl.val
 have hw := D6 st.kn h2 ((nF hL).trans hG)
 by_cases hon : sF G = true
 ·have hφ2 := vH hφ hon
  unfold XQ at hx
  split at hx
  ·rename_i dT hdT
   split at hx
   ·rename_i elt hk
    have hkd := (TT.get_ok hT hdT).kd
    rw [hk] at hkd
    split at hx
    ·rename_i de svs hde hsv
     split at hx
     ·rename_i hcond
      simp only [Bool.and_eq_true, decide_eq_true_eq] at hcond
      obtain ⟨hz, hbig, hrange, hzl⟩ := hcond
      have hz : 0 < de.sz := by simpa [Nat.blt_eq] using hz
      have hbig := Nat.le_of_ble_eq_true hbig
      have hzl := Nat.eq_of_beq_eq_true hzl
      rw [sE] at hx
      have hsv' : evs (aF L') (parts.toList.map (·.2)) = some svs := by
       have := aW hL
       rw [hop] at this
       exact (show evs (aF L') (parts.toList.map (·.2)) = evs (aF L) (parts.toList.map (·.2)) by simpa [Op.operands] using this).trans hsv
      obtain ⟨e1, e2⟩ := I2 hx
      simp only [Option.some.injEq, Prod.mk.injEq] at e1
      obtain ⟨rfl, rfl⟩ := e1
      have hden := mD (aT h2 hsv') hφ2
      obtain ⟨Lr, st', hev, hfr⟩ := st.slots (fun t sv ht => by obtain ⟨x, hx, _⟩ := h2 t sv ht; exact ⟨x, hx⟩) hsv'
      generalize hvs : (parts.toList.map (·.2)).map a.eval = vs at hden hev
      have hcell : ∀ v ∈ vs, v.cells.toList.length = de.sz ∧ ∀ u ∈ v.cells.toList, u.oneCell' = true := by
       intro v hv
       obtain ⟨j, hj⟩ := List.getElem?_of_mem hv
       have hjl : j < (svs.map st1).length := by
        rw [← hden.1]
        rcases Nat.lt_or_ge j vs.length with h | h
        ·exact h
        ·rw [List.getElem?_eq_none h] at hj; cases hj
       have hs := List.getElem?_eq_getElem hjl
       obtain ⟨o1, o2, o3⟩ := e2 _ (List.mem_of_getElem? hs)
       obtain ⟨d1, d2⟩ := iF o1 (hden.2 j _ v hs hj)
       exact ⟨by rw [d1.1, o3], d2⟩
      obtain ⟨ys, hym⟩ := rowsOf vs hcell
      have hys : vs.map (fun v => v.cells.toList) = ys.map (aC de.sz hz).enc := hym.symm
      have hyl : ys.length = vs.length := by have := congrArg List.length hym; simpa using this
      have hrl : ((svs.map st1).map aN).length = ys.length := by rw [hyl, hden.1]; simp
      have hrows : (OS ρ ((svs.map st1).map aN) vs).p g := by
       intro j q v hq hv
       simp only [List.getElem?_map, Option.map_eq_some_iff] at hq
       obtain ⟨s1, ⟨s0, hs0, rfl⟩, rfl⟩ := hq
       have hs : (svs.map st1)[j]? = some (st1 s0) := by simp [hs0]
       obtain ⟨o1, _, _⟩ := e2 _ (List.mem_of_getElem? hs)
       exact (iF o1 (hden.2 j _ v hs hv)).1
      have st2 : St X.toCx Lr (OS ρ ((svs.map st1).map aN) vs :: F1 ρ M ms :: F2 X ρ L' a :: fs) (ms ++ own) g a := ⟨st'.kn, dF.cons hrows st'.all, st'.own, st'.ext, st'.new⟩
      have hlive : live arr Lr o = some true ∨ Region.wanted o (yielded arr a.tmps) = true := .inr (by rw [hw]; exact hon)
      have hrun : rY X.P arr o (fun a' w' => ∃ g', g'.w = w' ∧ cV X ((d, wr G (.s de.sz ((svs.map st1).map aN))) :: L') M fs own g' a') a g.w := by
       have key := ZY (arr := #[]) (o := { o with guard := none }) (K := fun a' w' => ∃ g', g'.w = w' ∧ cV X ((d, wr G (.s de.sz ((svs.map st1).map aN))) :: L') M fs own g' a') st2
        (WU (aC de.sz hz) ys (parts := parts.toList) (vs := vs) (by rw [hop]) (by unfold live; rfl) hd hn hkd (TT.get_ok hT hde).ti rfl (by
         have := (mE hzl); exact this) hrange hev hys (by simpa using hbig) (fun ad c => ZF .head (S_J (fun g' a' s' => by
          refine ⟨g', rfl, ρ, ms, ⟨⟨s'.kn.size, s'.kn.defers, fun i v hv => by simp [lk] at hv⟩, fun f hf => s'.all f (.tail _ (.tail _ (.tail _ (.tail _ hf)))), s'.own, s'.ext, s'.new⟩, s'.all (F1 ρ M ms) (.tail _ (.tail _ (.head _))), ?_⟩
          have hsl' : Sl X ρ L' a g' := s'.all (F2 X ρ L' a) (.tail _ (.tail _ (.tail _ (.head _))))
          refine hsl'.put hfr s'.kn (XR hon ?_)
          have hsm : (TU (aC de.sz hz) ad c ys).p g' := s'.all _ (.head _)
          have hrw : (OS ρ ((svs.map st1).map aN) vs).p g' := s'.all _ (.tail _ (.head _))
          obtain ⟨m1, m2, m3⟩ := hsm
          rw [← hrl]
          refine .s (flat (aC de.sz hz) ys) (by rw [hrl]; exact m1) (by rw [hrl]; exact m2) (by rw [eN, hrl]; rfl) (fun r hr => ?_) ⟨u9 _ _, fun h => absurd h (by omega)⟩ (fun hne => ?_) (fun ρ' i j r sv x hi hj hxx => ?_)
          ·obtain ⟨sv, hsv, rfl⟩ := List.mem_map.1 hr
           exact (e2 sv hsv).2.2
          ·obtain ⟨b, oo, h1, h2, h3⟩ := m3 (by intro e; apply hne; rw [← List.length_eq_zero_iff, hrl, e]; rfl)
           exact ⟨b, oo, h1, h2, h3⟩
          ·have hiv : i < vs.length := by
            rw [← hyl, ← hrl]
            rcases Nat.lt_or_ge i ((svs.map st1).map aN).length with h | h
            ·exact h
            ·rw [List.getElem?_eq_none h] at hi; cases hi
           have hv := List.getElem?_eq_getElem hiv
           have hdl := hrw i r _ hi hv
           obtain ⟨yr, hyi, hy1⟩ : ∃ yr, ys[i]? = some yr ∧ yr.1 = vs[i].cells.toList := by
            have := congrArg (fun l => l[i]?) hym
            simp only [List.getElem?_map, hv, Option.map_some] at this
            exact Option.map_eq_some_iff.1 this
           obtain ⟨y, hy, dy⟩ := hdl.get hj
           have hflat := flat_get (aC de.sz hz) ys i j _ y hyi (by show yr.1[j]? = _; rw [hy1]; exact hy)
           rw [show (aC de.sz hz).sz = de.sz from rfl] at hflat
           have : y = x := Option.some.inj (hflat.symm.trans hxx)
           subst this
           obtain ⟨s1, hs1, rfl⟩ := List.mem_map.1 (List.mem_of_getElem? hi)
           exact dy.swap (gB (e2 s1 hs1).2.1 j sv hj) ρ'))))
       unfold rY at key ⊢
       rw [hw, if_pos hon]
       have hw1 : Region.wanted { o with guard := none } (yielded #[] a.tmps) = true := by unfold Region.wanted; rfl
       rw [if_pos hw1] at key
       exact key
      rw [hd]
      exact hrun
     ·cases hx
    ·cases hx
   ·cases hx
  ·cases hx
 ·unfold rY
  rw [hw, if_neg hon]
  simp only [hd, jQ]
  refine ⟨g, rfl, cV.put st hn ?_⟩
  cases G with
  | none => exact absurd rfl hon
  | some b =>
    have hb : b = false := by simpa [sF] using hon
    subst hb; exact .gf
def I3 (tb : TT) (e : Nat → Option SV) (M : SM) (H : List (List SV)) (op : Op) : Option (SV × List Prop) := match op with
 | .buildSlice T n parts => XQ tb e T n parts.toList
 | op => Y5 tb e M H op
theorem j6 {tb : TT} (hT : tb.Ok X.P) {d : Nat} {sv : SV} {φ : List Prop} {G : Option Bool} (hG : gS arr (aF L) o = some G) (hd : o.dst = some d) (hn : Nat.blt d X.n = true) {H : List (List SV)} (hx : I3 tb (aF L) M H o.op = some (sv, φ)) (hφ : ∀ p ∈ wq G φ, p) : Stp X arr o L M fs own (wr G sv) M := by
 unfold I3 at hx
 split at hx
 ·exact T9 hT ‹_› hG hd hn hx hφ
 ·exact XP hT hG hd hn hx hφ
end
end Go.KX
