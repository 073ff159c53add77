/- Plain: whether nodes may be a rule's; what each hangs on. No program in sight. -/
import Derived.Test.YtomkgfdigldhcaaGreatDoorMH
import Derived.HandedShaped
import Derived.Stop.Joined
import Derived.JoinedOf
import Derived.KernelRfl
namespace Go.KX
def findN (l : List Nd) (q : Bytes) : Option Nd := l.find? fun n => decide (n.ref = q)
theorem findN_none {l : List Nd} {q : Bytes} : findN l q = none ↔ q ∉ l.map (·.ref) := by
  unfold findN
  rw [List.find?_eq_none]
  simp only [decide_eq_true_eq, List.mem_map, not_exists, not_and]
theorem findN_some {l : List Nd} {q : Bytes} {n : Nd} (h : findN l q = some n) : n ∈ l ∧ n.ref = q :=
  ⟨List.mem_of_find?_eq_some h, by have := List.find?_some h; simpa using this⟩
def bkR (l : List Nd) (j : Nat) : List (Bytes × Nd) := (l.reverse.take j).foldl (fun m n => mset m n.ref n) []
theorem bkR_next {l : List Nd} {j : Nat} (h : j < l.length) : mset (msE (bkR l j)) (l[l.length - 1 - j]'(by omega)).ref (ndS (l[l.length - 1 - j]'(by omega))) = msE (bkR l (j + 1)) := by
  have h2 : j < l.reverse.length := by simpa using h
  have e : l.reverse[j] = l[l.length - 1 - j]'(by omega) := List.getElem_reverse h2
  unfold bkR
  rw [List.take_succ_eq_append_getElem h2, List.foldl_append, e]
  exact mset_map ndS _ _ _
theorem bkR_get (l : List Nd) (q : Bytes) : mget (msE (bkR l l.length)) q = (findN l q).map ndS := by
  have key : ∀ l : List Nd, mget (l.reverse.foldl (fun m n => mset m n.ref n) []) q = findN l q := by
    intro l
    induction l with
    | nil => rfl
    | cons n l ih =>
      rw [List.reverse_cons, List.foldl_append]
      simp only [List.foldl_cons, List.foldl_nil]
      rw [mget_mset, ih]
      unfold findN
      rw [List.find?_cons]
      by_cases h : n.ref = q
      · simp [h]
      · simp [h, Ne.symm h]
  rw [msE, mget_map, bkR, List.take_of_length_le (by simp), key]
theorem byR_get {l : List Nd} (h : okN l = true) (q : Bytes) : mget (byR l) q = findN l q := by
  rw [(byR_ok h).1]
  induction l with
  | nil => rfl
  | cons n l ih =>
    have hn := (byR_ok h).2
    simp only [List.map_cons, List.nodup_cons] at hn
    simp only [List.map_cons, mget, findN, List.find?_cons]
    by_cases hq : n.ref = q
    · simp [hq]
    · rw [if_neg (Ne.symm hq), ih (okN_of hn.2)]
      simp [hq, findN]
/-! ### What a node hangs on -/
def needL (l : List Nd) : Nat → List Bytes → List Bytes → List Bytes
  | 0, _, out => out
  | _ + 1, [], out => out
  | f + 1, q :: t, out => match findN l q with
    | none => needL l f t out
    | some n => if n.ref ∈ out then needL l f t out else needL l f (t ++ inputsN n) (out ++ [n.ref])
def muN (l : List Nd) (todo out : List Bytes) : Nat := (l.length - out.length) * 3000 + todo.length
theorem muN_cons (l : List Nd) (q : Bytes) (t out : List Bytes) : muN l (q :: t) out = muN l t out + 1 := by simp only [muN, List.length_cons]; omega
structure NI (l : List Nd) (out : List Bytes) : Prop where
  nd : out.Nodup
  sub : ∀ r ∈ out, r ∈ l.map (·.ref)
theorem NI.le {l : List Nd} {out : List Bytes} (h : NI l out) : out.length ≤ l.length := by
  have := nodup_sub h.nd h.sub
  simpa using this
theorem NI.step {l : List Nd} {out : List Bytes} (h : NI l out) {q : Bytes} {n : Nd} (hf : findN l q = some n) (hn : n.ref ∉ out) : NI l (out ++ [n.ref]) := by
  refine ⟨List.nodup_append.2 ⟨h.nd, by simp, fun a ha b hb => ?_⟩, fun r hr => ?_⟩
  · simp only [List.mem_singleton] at hb; rintro rfl; exact hn (hb ▸ ha)
  · rcases List.mem_append.1 hr with hr | hr
    · exact h.sub r hr
    · simp only [List.mem_singleton] at hr
      rw [hr]; exact List.mem_map.2 ⟨n, (findN_some hf).1, rfl⟩
theorem NI.mu {l : List Nd} {out t : List Bytes} (h : NI l out) {q : Bytes} {n : Nd} (hf : findN l q = some n) (hn : n.ref ∉ out) : muN l (t ++ inputsN n) (out ++ [n.ref]) < muN l (q :: t) out := by
  have h1 := (h.step hf hn).le
  have h2 := inputs_len n
  simp only [List.length_append, List.length_singleton] at h1
  simp only [muN, List.length_append, List.length_cons]
  omega
theorem needL_fuel {l : List Nd} (m : Nat) : ∀ {todo out : List Bytes} {f f' : Nat}, NI l out → muN l todo out ≤ m → muN l todo out ≤ f → muN l todo out ≤ f' → needL l f todo out = needL l f' todo out := by
  induction m with
  | zero =>
    intro todo out f f' _ h _ _
    cases todo with
    | nil => cases f <;> cases f' <;> rfl
    | cons q t => rw [muN_cons] at h; omega
  | succ m ih =>
    intro todo out f f' hI hm h1 h2
    cases todo with
    | nil => cases f <;> cases f' <;> rfl
    | cons q t =>
      rw [muN_cons] at hm h1 h2
      cases f with
      | zero => omega
      | succ f =>
        cases f' with
        | zero => omega
        | succ f' =>
          simp only [needL]
          cases hf : findN l q with
          | none => exact ih hI (by omega) (by omega) (by omega)
          | some n =>
            simp only
            by_cases hn : n.ref ∈ out
            · rw [if_pos hn, if_pos hn]; exact ih hI (by omega) (by omega) (by omega)
            · rw [if_neg hn, if_neg hn]
              have := hI.mu (t := t) hf hn
              rw [muN_cons] at this
              exact ih (hI.step hf hn) (by omega) (by omega) (by omega)
def needA (l : List Nd) (todo out : List Bytes) : List Bytes := needL l (muN l todo out) todo out
theorem needA_nil (l : List Nd) (out : List Bytes) : needA l [] out = out := by unfold needA; cases muN l [] out <;> rfl
theorem needA_none {l : List Nd} {q : Bytes} {t out : List Bytes} (h : findN l q = none) : needA l (q :: t) out = needA l t out := by
  unfold needA; rw [muN_cons]; simp only [needL, h]
theorem needA_old {l : List Nd} {q : Bytes} {t out : List Bytes} {n : Nd} (h : findN l q = some n) (hn : n.ref ∈ out) : needA l (q :: t) out = needA l t out := by
  unfold needA; rw [muN_cons]; simp only [needL, h, if_pos hn]
theorem needA_new {l : List Nd} {q : Bytes} {t out : List Bytes} {n : Nd} (hI : NI l out) (h : findN l q = some n) (hn : n.ref ∉ out) : needA l (q :: t) out = needA l (t ++ inputsN n) (out ++ [n.ref]) := by
  have h1 := hI.mu (t := t) h hn
  rw [muN_cons] at h1
  have : needA l (q :: t) out = needL l (muN l t out) (t ++ inputsN n) (out ++ [n.ref]) := by
    unfold needA; rw [muN_cons]; simp only [needL, h, if_neg hn]
  rw [this]
  exact needL_fuel _ (hI.step h hn) (Nat.le_refl _) (by omega) (Nat.le_refl _)
theorem NI.nil (l : List Nd) : NI l [] := ⟨List.nodup_nil, fun _ h => by cases h⟩
theorem todo_le {l : List Nd} {q ref : Bytes} {t out : List Bytes} (h : muN l (q :: t) out ≤ muN l [ref] []) (hl : l.length ≤ 1000000) : t.length ≤ 3000000001 := by
  simp only [muN, List.length_cons, List.length_nil] at h; omega
theorem mu_b {l : List Nd} {q : Bytes} {t out : List Bytes} : muN l t out < muN l (q :: t) out := by rw [muN_cons]; omega
theorem mu_a {l : List Nd} {q : Bytes} {t out : List Bytes} {m : Nat} (h : muN l (q :: t) out ≤ m) : muN l t out ≤ m := by rw [muN_cons] at h; omega
attribute [irreducible] muN needA
/-- dag.Needs. -/
def needsN (l : List Nd) (ref : Bytes) : List Bytes := sortL (needA l [ref] [])
theorem flat_le (l : List Nd) : (l.flatMap inputsN).length ≤ l.length * 2049 := by
  induction l with
  | nil => simp
  | cons n l ih =>
    have := inputs_len n
    simp only [List.flatMap_cons, List.length_append, List.length_cons, Nat.add_mul]
    omega
def refsN (cond : Bytes) (l : List Nd) : List Bytes := cond :: l.flatMap inputsN
/-- dag.Check. -/
def checkN (cond : Bytes) (l : List Nd) : Int :=
  if 16 < l.length then 6 else if (l.any fun n => !isN n) = true then 120 else if okN l = false then 8 else if ((refsN cond l).any fun q => (findN l q).isNone) = true then 7 else (orderN l).2
end Go.KX
/- Plain: the laws on dags: what they compute. No program in sight. -/
namespace Go.KX
abbrev nA : Nd := ⟨[65], 1, [115], [], [], false, zeroV, zeroV, []⟩
abbrev nB : Nd := ⟨[66], 2, [], [65], [108, 97, 115, 116], false, zeroV, zeroV, []⟩
abbrev nC : Nd := ⟨[67], 4, [], [66], [103, 116], false, numV 1000, zeroV, []⟩
abbrev nX : Nd := ⟨[65], 3, [], [], [], false, zeroV, zeroV, [36, 66]⟩
abbrev nY : Nd := ⟨[66], 3, [], [], [], false, zeroV, zeroV, [36, 65]⟩
abbrev nZ : Nd := ⟨[], 0, [], [], [], false, zeroV, zeroV, []⟩
theorem live1 : orderN [nC, nB, nA] = ([[65], [66], [67]], 0) := by decide
theorem live2 : checkN [67] [nA, nB, nC] = 0 := by decide
theorem live3 : checkN [65] [nX, nY] = 121 := by decide
theorem live4 : checkN [65] [nZ] = 120 := by decide
theorem live5 : needsN [nA, nB, nC] [66] = [[65], [66]] := by
  have h : needA [nA, nB, nC] [[66]] [] = [[66], [65]] := by
    unfold needA muN
    decide
  unfold needsN
  rw [h]
  simp [sortL, List.mergeSort, List.MergeSort.Internal.splitInTwo, List.merge]
  decide
/-- A node's texts. -/
def wN (n : Nd) : Nat := n.ref.length + n.source.length + n.input.length + n.how.length + n.text.length
def sumN (l : List Nd) : Nat := (l.map wN).sum
theorem sumN_next {l : List Nd} {j : Nat} (h : j < l.length) : sumN (l.take (j + 1)) = sumN (l.take j) + wN l[j] := by
  rw [List.take_succ_eq_append_getElem h]
  simp only [sumN, List.map_append, List.sum_append, List.map_cons, List.map_nil, List.sum_cons, List.sum_nil, Nat.add_zero]
theorem sumN_le {l : List Nd} {b : Nat} (h : ∀ n ∈ l, wN n ≤ b) : sumN l ≤ l.length * b := by
  induction l with
  | nil => simp [sumN]
  | cons n l ih =>
    have h1 := h n (.head _)
    have h2 := ih (fun x hx => h x (.tail _ hx))
    simp only [sumN, List.map_cons, List.sum_cons, List.length_cons, Nat.succ_mul] at h2 ⊢
    omega
theorem sumN_mem {l : List Nd} {n : Nd} (h : n ∈ l) : wN n ≤ sumN l := by
  induction l with
  | nil => cases h
  | cons x l ih =>
    simp only [sumN, List.map_cons, List.sum_cons]
    cases h with
    | head => omega
    | tail _ h => have := ih h; simp only [sumN] at this; omega
def smallN (l : List Nd) : Bool := decide (l.length ≤ 24) && decide (sumN (l.take 25) ≤ 8000)
theorem small_len {l : List Nd} (h : smallN l = true) : l.length ≤ 24 := by
  simp only [smallN, Bool.and_eq_true, decide_eq_true_eq] at h; exact h.1
theorem small_ref {l : List Nd} (h : smallN l = true) : ∀ n ∈ l, n.ref.length ≤ 1000000 := by
  intro n hn
  have hl := small_len h
  simp only [smallN, Bool.and_eq_true, decide_eq_true_eq] at h
  rw [List.take_of_length_le (by omega)] at h
  have := sumN_mem hn
  unfold wN at this
  omega
def placeN (l : List Bytes) (s : Bytes) : Int := idxF (fun x => decide (x = s)) l
theorem eq_next {a b : List Bytes} {j : Nat} (hj : j < a.length) (hb : j < b.length) (h : a.take j = b.take j) (e : a[j] = b[j]) : a.take (j + 1) = b.take (j + 1) := by
  rw [List.take_succ_eq_append_getElem hj, List.take_succ_eq_append_getElem hb, h, e]
end Go.KX
/- Out of a contract: the row of a law; nodes that are handed in. -/
namespace Go.Proofs.YtomkgfdigldhcaaGreatDoor
open Go.ChangeShapes Go.WideShapes Go.ChangeAt Go.RowKit Go.KX
theorem ownR : ownKnob Tryz.prog.godebug = none := by kernel_rfl
/-- The wrap: what is listed, and the world's shape. -/
theorem returnsL {H : Type} {enc : TypeId × Value → H} {a : Assume} {C : Checked} {os : Os} {f : FuncId} {fn : Func} {s : ChangeSpec} {conds : List PathCond} {apart fresh handsOn again : Bool} {laid : List (String × DataW Unit)}
    (own : ownKnob C.prog.godebug = none) (started : os.Started) (noInit : C.prog.inits.idxOf? f = none) (hfn : C.prog.funcs[f]? = some fn)
    (witness : ∃ (w : World) (tape : Tape) (i : Input), w.os = os ∧ (w.forCall tape i).Shaped C.prog ∧ i.vars = [] ∧ Input.okWide C.prog (w.forCall tape i) .any w.heap.size f i ∧
      ((s.pre enc C.prog fn conds apart (w.forCall tape i).memory i.args ∧ laidMetH C.prog laid (w.forCall tape i).memory) ∧ sizedMet enc C.prog fn (OpenSpec.ofChange s) apart (w.forCall tape i).memory i.args) ∧ a.holds C.prog (lone (Frame.enter C.prog f i.args .normal) [] (w.forCall tape i)))
    (contract : ∀ (W : World) (base : Nat) (args : Array Value) (ds gs : List (DataW H)) (before : List MemPlace),
      (∀ (j : Nat) t v, fn.params[j]? = some t → args[j]? = some v → Value.okWide C.prog W .any base t v) →
      DataW.Whole enc C.prog fn.params.toList s.vars apart W args.toList ds gs before →
      (DataW.weightsEach C.prog (fn.params.toList ++ s.plain.varTypes C.prog) (ds ++ gs)).all (· ≤ reachBytes) = true → laidMetH C.prog laid W → W.ShapedOpen C.prog →
      Calls C.prog f args W fun e W' => ∃ v, e = .returned v ∧ s.post enc C.prog fn apart fresh handsOn again W args v W') :
    ReturnsInHanded a C os f .any (fun w args => (s.pre enc C.prog fn conds apart w args ∧ laidMetH C.prog laid w) ∧ sizedMet enc C.prog fn (OpenSpec.ofChange s) apart w args) (s.post enc C.prog fn apart fresh handsOn again) := by
  refine returnsInHanded_of_calls own started noInit witness ?_
  intro w tape i _ hsh _ hok hpre hholds
  obtain ⟨_, _, _, fn', hfn', _, _, _, _, hval⟩ := hok
  have e : fn' = fn := Option.some.inj (hfn'.symm.trans hfn)
  subst e
  obtain ⟨⟨⟨ds, gs, before, hw, hc⟩, hx⟩, hz⟩ := hpre
  have hw' := DataW.Whole.of_heap (w' := w.forCall tape i) (by rfl) hw
  refine (contract (w.forCall tape i) w.heap.size i.args ds gs before hval hw' (hz.weights hw) (laidMetH.of_heap (by rfl) hx) hsh).mono fun e W' ⟨v, he, hp⟩ => ?_
  subst he
  exact ChangeSpec.post_blind hp
/-- A law's contract, at whatever lies there. -/
theorem calls_lawF {f : FuncId} {args : List SV} {vs : List Value} {W : World} (h : Fc Tryz.prog gT f args (bS true)) (hg : GlF W) (ha : DenL (gAll W) (fun _ => ⟨0, none, 0⟩) args vs) :
    Calls Tryz.prog f vs.toArray W fun e W' => e = .returned (.bool true) ∧ OldSame W W' := by
  refine (h.2 _ (gAll W) vs (fun f hf => ?_) ha).mono ?_
  · rcases List.mem_singleton.1 hf with rfl
    exact ⟨W, hg, Below.refl _ _, fun b hb => hb⟩
  rintro e w' ⟨v, g', rfl, rfl, hE, dv⟩
  obtain rfl := den_v dv
  exact ⟨rfl, hE.os, hE.output, hE.size, fun b hb => hE.same b hb⟩
end Go.Proofs.YtomkgfdigldhcaaGreatDoor
/- What is handed in: nodes. -/
namespace Go.KX
open Go.RowKit
section
variable {H : Type} {enc : TypeId × Value → H} {P : Program} {W : World}
theorem rd_bool {t : TypeId} (u : P.underlying t = some .bool) : Rd enc P W t (fun b : Bool => [.bool b]) (fun _ => True) := by
  intro fuel cs x h _
  cases fuel with
  | zero => cases h
  | succ fuel =>
    unfold DataW.trod at h
    rw [u] at h
    revert h
    split <;> intro h <;> first | (rename_i hq; cases hq; done) | (rename_i hq _; cases hq; done) | (cases h; done) | exact ⟨_, rfl, trivial⟩
theorem weightsEach_at : ∀ {ts : List TypeId} {ds : List (DataW H)}, (DataW.weightsEach P ts ds).all (· ≤ reachBytes) = true → ∀ (i : Nat) t d, ts[i]? = some t → ds[i]? = some d → Light P t d
  | [], _, _, i, t, d, h, _ => by simp at h
  | _ :: _, [], _, i, t, d, _, h => by simp at h
  | t :: ts, d :: ds, h, i, t', d', h1, h2 => by
    simp only [DataW.weightsEach, List.all_append, Bool.and_eq_true] at h
    cases i with
    | zero => simp at h1 h2; subst h1; subst h2; exact h.1
    | succ i => exact weightsEach_at h.2 i t' d' (by simpa using h1) (by simpa using h2)
/-- A struct that is handed in, field by field. -/
theorem open_struct {t : TypeId} {fs : Array Field} (u : P.underlying t = some (.struct fs)) {fuel : Nat} {cs : List Value} {x : DataW H × List MemPlace} (h : DataW.trod enc P W 0 (fun _ => true) true fuel t cs = some x) (hl : Light P t x.1) :
    cs.length = P.cellsOf t ∧ ∃ fuel' : Nat, ∀ (i : Nat) f, fs.toList[i]? = some f → ∃ y, DataW.trod enc P W 0 (fun _ => true) true fuel' f.type ((cs.drop f.offset).take (P.cellsOf f.type)) = some y ∧ Light P f.type y.1 := by
  cases fuel with
  | zero => cases h
  | succ fuel =>
    unfold DataW.trod at h
    rw [u] at h
    dsimp only at h
    split at h
    · rename_i hc
      refine ⟨hc, fuel, fun i f hf => ?_⟩
      simp only [Option.map_eq_some_iff] at h
      obtain ⟨xs, h1, rfl⟩ := h
      obtain ⟨y, i0, g0⟩ := mapM_at _ _ h1 i _ hf
      simp only [Light, DataW.weights, u] at hl
      exact ⟨y, g0, weightsEach_at hl i f.type y.1 (by rw [List.getElem?_map, hf]; rfl) (by rw [List.getElem?_map, i0]; rfl)⟩
    · cases h
theorem rd_part {t : TypeId} {fs : Array Field} {fuel' : Nat} {cs : List Value} (h : ∀ (i : Nat) f, fs.toList[i]? = some f → ∃ y : DataW H × List MemPlace, DataW.trod enc P W 0 (fun _ => true) true fuel' f.type ((cs.drop f.offset).take (P.cellsOf f.type)) = some y ∧ Light P f.type y.1)
    (i : Nat) {f : Field} (hf : fs.toList[i]? = some f) (ht : f.type = t) {α : Type} {e : α → List Value} {Q : α → Prop} (hr : Rd enc P W t e Q) : ∃ y, (cs.drop f.offset).take (P.cellsOf t) = e y ∧ Q y := by
  subst ht
  obtain ⟨y, h1, h2⟩ := h i f hf
  exact hr _ _ _ h1 h2
end
def elNd : El Nd := ⟨11, fun n => [str n.ref, .int .i64 n.kind, str n.source, str n.input, str n.how, .bool n.strict, .int .i64 n.low.k, .int .i64 n.low.n, .int .i64 n.high.k, .int .i64 n.high.n, str n.text], fun _ => rfl, by decide, fun n u h => by
  simp only [List.mem_cons, List.not_mem_nil, or_false] at h
  rcases h with h | h | h | h | h | h | h | h | h | h | h <;> subst h <;> rfl⟩
theorem denL_node {g : GW} {ρ : Nat → Lc} (n : Nd) : DenL g ρ (ndL n) (elNd.enc n) :=
  .cons .str <| .cons .v <| .cons .str <| .cons .str <| .cons .str <| .cons .v <| .cons .v <| .cons .v <| .cons .v <| .cons .v <| .cons .str .nil
theorem den_nodes {g : GW} {ρ : Nat → Lc} {ad : Option Addr} {c : Nat} {l : List Nd} (h : (SlM elNd ad c l).p g) : Den g ρ (rN l) (.slice ad l.length c) := by
  obtain ⟨h1, h2, h3⟩ := h
  have hm : (l.map ndL).length = l.length := List.length_map ..
  have := Den.s (g := g) (ρ := ρ) (sz := 11) (rows := l.map ndL) (ad := ad) (c := c) (flat elNd l) (by rw [hm]; exact h1) (by rw [hm]; exact h2) (by rw [hm, flat_len]; rfl)
    (fun r hr => by obtain ⟨n, _, rfl⟩ := List.mem_map.1 hr; rfl) ⟨flat_one elNd l, fun h => by cases h⟩ (fun hne => h3 (fun e => hne (by rw [e]; rfl)))
    (fun ρ' i j r sv x hi hj hx => by
      rw [List.getElem?_map] at hi
      cases hn : l[i]? with
      | none => rw [hn] at hi; cases hi
      | some n =>
        rw [hn] at hi
        cases hi
        obtain ⟨y, hy, hd⟩ := (denL_node (g := g) (ρ := ρ') n).get hj
        have hg := flat_get elNd l i j n y hn hy
        have e : x = y := Option.some.inj (hx.symm.trans hg)
        rw [e]; exact hd)
  rw [hm] at this
  exact this
end Go.KX
namespace Go.Proofs.YtomkgfdigldhcaaGreatDoor
open Go.ChangeShapes Go.WideShapes Go.ChangeAt Go.RowKit Go.KX
theorem notAggR {P : Program} {W : World} {r : Reach} {base : Nat} {t e : TypeId} {v : Value} (u : P.underlying t = some (.slice e)) (h : Value.okWide P W r base t v) : ∀ cs, v ≠ .agg cs := by
  intro cs hv
  subst hv
  simp [Value.okWide, Cell.okWide, u, Cell.ok] at h
structure NdQ (n : Nd) : Prop where
  ref : n.ref.length ≤ 140737488351232
  source : n.source.length ≤ 140737488351232
  input : n.input.length ≤ 140737488351232
  how : n.how.length ≤ 140737488351232
  text : n.text.length ≤ 140737488351232
  kind : (Lit.int .i64 n.kind).wf = true
  low : (Lit.int .i64 n.low.k).wf = true ∧ (Lit.int .i64 n.low.n).wf = true
  high : (Lit.int .i64 n.high.k).wf = true ∧ (Lit.int .i64 n.high.n).wf = true
set_option maxRecDepth 100000 in
theorem rd_val {H : Type} {enc : TypeId × Value → H} {W : World} : Rd enc Tryz.prog W 26 (fun v : Val => [.int .i64 v.k, .int .i64 v.n]) (fun v => (Lit.int .i64 v.k).wf = true ∧ (Lit.int .i64 v.n).wf = true) := by
  intro fuel cs x h hl
  obtain ⟨hc, fu, hp⟩ := open_struct Tryz.underlying26 h hl
  have c26 : Tryz.prog.cellsOf 26 = 2 := by kernel_rfl
  have c3 : Tryz.prog.cellsOf 3 = 1 := by kernel_rfl
  rw [c26] at hc
  obtain ⟨a, ea, qa⟩ := rd_part (t := 3) hp 0 rfl rfl (rd_int Tryz.underlying3)
  have c2 : Tryz.prog.cellsOf 2 = 1 := by kernel_rfl
  obtain ⟨b, eb, qb⟩ := rd_part (t := 2) hp 1 rfl rfl (rd_int Tryz.underlying2)
  rw [c3] at ea
  rw [c2] at eb
  match cs, hc with
  | [x, y], _ =>
    simp at ea eb
    subst ea; subst eb
    exact ⟨⟨a, b⟩, rfl, qa, qb⟩
set_option maxRecDepth 100000 in
/-- A node that is handed in. -/
theorem rd_node {H : Type} {enc : TypeId × Value → H} {W : World} : Rd enc Tryz.prog W 65 elNd.enc NdQ := by
  intro fuel cs x h hl
  obtain ⟨hc, fu, hp⟩ := open_struct Tryz.underlying65 h hl
  have c65 : Tryz.prog.cellsOf 65 = 11 := by kernel_rfl
  have c3 : Tryz.prog.cellsOf 3 = 1 := by kernel_rfl
  have c4 : Tryz.prog.cellsOf 4 = 1 := by kernel_rfl
  have c9 : Tryz.prog.cellsOf 9 = 1 := by kernel_rfl
  have c26 : Tryz.prog.cellsOf 26 = 2 := by kernel_rfl
  rw [c65] at hc
  obtain ⟨a0, e0, q0⟩ := rd_part (t := 9) hp 0 rfl rfl (rd_str Tryz.underlying9)
  obtain ⟨a1, e1, q1⟩ := rd_part (t := 3) hp 1 rfl rfl (rd_int Tryz.underlying3)
  obtain ⟨a2, e2, q2⟩ := rd_part (t := 9) hp 2 rfl rfl (rd_str Tryz.underlying9)
  obtain ⟨a3, e3, q3⟩ := rd_part (t := 9) hp 3 rfl rfl (rd_str Tryz.underlying9)
  obtain ⟨a4, e4, q4⟩ := rd_part (t := 9) hp 4 rfl rfl (rd_str Tryz.underlying9)
  obtain ⟨a5, e5, _⟩ := rd_part (t := 4) hp 5 rfl rfl (rd_bool Tryz.underlying4)
  obtain ⟨a6, e6, q6⟩ := rd_part (t := 26) hp 6 rfl rfl rd_val
  obtain ⟨a7, e7, q7⟩ := rd_part (t := 26) hp 7 rfl rfl rd_val
  obtain ⟨a8, e8, q8⟩ := rd_part (t := 9) hp 8 rfl rfl (rd_str Tryz.underlying9)
  rw [c9] at e0 e2 e3 e4 e8
  rw [c3] at e1
  rw [c4] at e5
  rw [c26] at e6 e7
  match cs, hc with
  | [x0, x1, x2, x3, x4, x5, x6, x7, x8, x9, x10], _ =>
    simp at e0 e1 e2 e3 e4 e5 e6 e7 e8
    obtain ⟨e60, e61⟩ := e6
    obtain ⟨e70, e71⟩ := e7
    subst e0; subst e1; subst e2; subst e3; subst e4; subst e5; subst e60; subst e61; subst e70; subst e71; subst e8
    exact ⟨⟨a0, a1, a2, a3, a4, a5, a6, a7, a8⟩, rfl, ⟨q0, q2, q3, q4, q8, q1, q6, q7⟩⟩
set_option maxRecDepth 100000 in
/-- Nodes that are handed in. -/
theorem rd_nodes {H : Type} {enc : TypeId × Value → H} {W : World} {v : Value} {d : DataW H} {ps : List MemPlace} (hv : ∀ cs, v ≠ .agg cs) (h : DataW.Trod enc Tryz.prog W 0 (fun _ => true) true 56 v d ps) (hl : Light Tryz.prog 56 d) :
    ∃ (ad : Option Addr) (c : Nat) (l : List Nd), v = .slice ad l.length c ∧ (∀ ρ, Den (gAll W) ρ (rN l) v) ∧ ∀ n ∈ l, NdQ n := by
  obtain ⟨y, hy1, hy2, hy3, hy4⟩ := rd_arg (rd_slice (E := elNd) Tryz.underlying56 (by kernel_rfl) rd_node) h hl
  have e := Go.KX.one_cell hy1 hv
  exact ⟨y.1, y.2.1, y.2.2, e, fun ρ => by rw [e]; exact den_nodes hy2, hy3⟩
theorem NdQ.w {n : Nd} (h : NdQ n) : wN n ≤ 703687441776640 := by
  have := h.ref; have := h.source; have := h.input; have := h.how; have := h.text
  unfold wN
  omega
end Go.Proofs.YtomkgfdigldhcaaGreatDoor
/- The closed facts of a row, told one by one. No program in sight. -/
namespace Go.KX
theorem joined_of {P : Program} {f : FuncId} {fn : Func} {s : ChangeSpec} {c : OpenClaim} (g1 : laidOutB P = true) (g2 : mapsRowed P = true) (g3 : (P.stops == []) = true) (g4 : (P.stopKnobs == []) = true) (g5 : P.stopsHeard = true) (g6 : P.mayEnter = true) (g7 : (c.plainKeys == P.plainKeys) = true) (g8 : (c.lifted == P.liftsFinal) = true) (g9 : (P.make == some c.make) = true)
    (a1 : c.wf (OpenSpec.ofChange s) = true) (a2 : fn.params.all (P.readableRec ·) = true) (a3 : namedTie P c.named s.vars = true) (a4 : (c.stops == []) = true) (a5 : (c.knobs == []) = true)
    (b1 : (c.inPlace == P.inPlace f) = true) (b2 : (c.unfollowed == P.unfollowed f) = true) (b3 : (c.recurses == P.recurses f) = true) (b4 : (c.named == P.varsNamed f) = true)
    (c1 : (c.maps == (fn.params.toList ++ s.plain.varTypes P).any (P.mapsRec ·)) = true) (c2 : (c.ifaces == (fn.params.toList ++ s.plain.varTypes P).any (P.ifacesRec ·)) = true) (c3 : (c.mapsOut == P.mapsAmong fn.resultTypes.toList) = true) (c4 : (c.loops == (fn.params.toList ++ s.plain.varTypes P).any (P.loopsFrom ·)) = true) (c5 : (c.wideKeys == (fn.params.toList ++ s.plain.varTypes P ++ fn.resultTypes.toList).any (P.wideKeysFrom ·)) = true)
    (d1 : s.vars.all (P.varReadable ·) = true) (d2 : fn.resultTypes.all (fun t => P.readableRec t && decide (t < P.types.size)) = true) (d3 : (c.ifacesOut == fn.resultTypes.toList.any (P.ifacesRec ·)) = true) (d4 : (c.loopsOut == fn.resultTypes.toList.any (P.loopsFrom ·)) = true) (d5 : c.shortTexts.isNone = true)
    (d6 : (c.kinds == (if c.domain.isEmpty then [] else fn.params.toList.map fun t => match P.underlying t with | some (.int k) => some k | _ => none)) = true) (d7 : (c.pinned == c.pinnedBy) = true) (d8 : (c.veiled == (fn.params.toList ++ s.plain.varTypes P ++ fn.resultTypes.toList).any (P.veiledRec ·)) = true) (d9 : c.veiledFits P fn.params.toList (fn.params.toList ++ s.plain.varTypes P ++ fn.resultTypes.toList) = true) : joinedFacts P f fn s c = true := by
  unfold joinedFacts
  repeat' first | assumption | refine Bool.and_eq_true_iff.2 ⟨?_, ?_⟩
end Go.KX
