/- The library's sorting at this program: slices.Sorted(maps.Keys(m)), slices.Sort, slices.Compact. What the shelf's tool prints, and contracts out of it. -/
import Derived.Test.YtlgbhceifnjdnaaPX
import Derived.Test.YtlgbhceifnjdnaaBY
import Derived.Shelf.SlIterI.Nil
import Derived.Shelf.SortM.Plain
import Derived.Shelf.SortM.SortNone
import Derived.Shelf.Slices.CompactI
import Derived.KernelRfl
import Derived.Test.YtlgbhceifnjdnaaProg
namespace Go.Proofs.Ytlgbhceifnjdnaa
open Go.RowKit Go.Maps Go.Sort Go.Shelf Go.KX
def keysA_ren : Go.Shelf.Ren := ⟨fun | 7 => 55 | 10 => 73 | n => n, fun | 23 => 106 | 26 => 3 | 3 => 4 | 28 => 104 | 0 => 0 | 27 => 103 | 33 => 24 | 4 => 4 | n => n, fun | n => n⟩
theorem keysA : Go.Proofs.SlLaysZI.n7 Try.prog keysA_ren where
  mixed := by kernel_rfl
  f7 := ⟨Try.f55.name, by decide, Try.func55.trans (congrArg some (by kernel_rfl))⟩
  f10 := ⟨Try.f73.name, by decide, Try.func73.trans (congrArg some (by kernel_rfl))⟩
  t0 := Try.underlying0
  a0 := Try.isAgg0
  z0 := Try.sizeOf0
  v0 := Try.zeroValue0
  t4 := Try.underlying4
  a4 := Try.isAgg4
  z4 := Try.sizeOf4
  v4 := Try.zeroValue4
  t23 := Try.underlying106
  a23 := Try.isAgg106
  z23 := Try.sizeOf106
  v23 := Try.zeroValue106
  t26 := Try.underlying3
  a26 := Try.isAgg3
  z26 := Try.sizeOf3
  v26 := Try.zeroValue3
  t27 := Try.underlying103
  a27 := Try.isAgg103
  z27 := Try.sizeOf103
  v27 := Try.zeroValue103
  t28 := Try.underlying104
  a28 := Try.isAgg104
  z28 := Try.sizeOf104
  v28 := Try.zeroValue104
  t33 := Try.underlying24
  a33 := Try.isAgg24
  z33 := Try.sizeOf24
  v33 := Try.zeroValue24
def sortedA_ren : Go.Shelf.Ren := ⟨fun | 6 => 54 | 8 => 72 | 9 => 70 | 11 => 85 | 13 => 84 | 12 => 83 | 23 => 97 | 24 => 98 | 14 => 88 | 15 => 89 | 16 => 90 | 17 => 91 | 18 => 92 | 19 => 93 | 20 => 94 | 21 => 95 | 22 => 96 | 25 => 100 | 26 => 101 | 27 => 102 | 28 => 103 | 29 => 104 | 30 => 105 | 31 => 106 | n => n, fun | 26 => 3 | 28 => 104 | 24 => 33 | 0 => 0 | 3 => 3 | 37 => 128 | 48 => 160 | 50 => 121 | 4 => 4 | 40 => 153 | 39 => 152 | 45 => 88 | 5 => 5 | 9 => 9 | 51 => 163 | 55 => 166 | 57 => 168 | 58 => 169 | 33 => 24 | n => n, fun | n => n⟩
theorem sortedA : Go.Proofs.SlLaysZI.n6 Try.prog sortedA_ren where
  mixed := by kernel_rfl
  f6 := ⟨Try.f54.name, by decide, Try.func54.trans (congrArg some (by kernel_rfl))⟩
  f8 := ⟨Try.f72.name, by decide, Try.func72.trans (congrArg some (by kernel_rfl))⟩
  f11 := ⟨Try.f85.name, by decide, Try.func85.trans (congrArg some (by kernel_rfl))⟩
  t0 := Try.underlying0
  a0 := Try.isAgg0
  z0 := Try.sizeOf0
  v0 := Try.zeroValue0
  t24 := Try.underlying33
  a24 := Try.isAgg33
  z24 := Try.sizeOf33
  v24 := Try.zeroValue33
  t26 := Try.underlying3
  a26 := Try.isAgg3
  z26 := Try.sizeOf3
  v26 := Try.zeroValue3
  t28 := Try.underlying104
  a28 := Try.isAgg104
  z28 := Try.sizeOf104
  v28 := Try.zeroValue104
  i26 := by kernel_rfl
def sortA_ren : Go.Shelf.Ren := ⟨fun | 5 => 70 | 8 => 84 | 7 => 83 | 19 => 97 | 20 => 98 | 10 => 88 | 11 => 89 | 12 => 90 | 13 => 91 | 14 => 92 | 15 => 93 | 16 => 94 | 17 => 95 | 18 => 96 | 30 => 100 | 31 => 101 | 32 => 102 | 33 => 103 | 34 => 104 | 35 => 105 | 40 => 106 | n => n, fun | 23 => 33 | 25 => 3 | 3 => 3 | 32 => 128 | 22 => 33 | 0 => 0 | 44 => 160 | 46 => 121 | 4 => 4 | 36 => 153 | 35 => 152 | 41 => 88 | 5 => 5 | 9 => 9 | 53 => 163 | 57 => 166 | 63 => 168 | 64 => 169 | n => n, fun | n => n⟩
theorem sortA : Go.Proofs.SlLaysM.n5 Try.prog sortA_ren where
  mixed := by kernel_rfl
  f5 := ⟨Try.f70.name, by decide, Try.func70.trans (congrArg some (by kernel_rfl))⟩
  f7 := ⟨Try.f83.name, by decide, Try.func83.trans (congrArg some (by kernel_rfl))⟩
  f8 := Try.func84.trans (congrArg some (by kernel_rfl))
  f10 := ⟨Try.f88.name, by decide, Try.func88.trans (congrArg some (by kernel_rfl))⟩
  f11 := ⟨Try.f89.name, by decide, Try.func89.trans (congrArg some (by kernel_rfl))⟩
  f12 := ⟨Try.f90.name, by decide, Try.func90.trans (congrArg some (by kernel_rfl))⟩
  f13 := ⟨Try.f91.name, by decide, Try.func91.trans (congrArg some (by kernel_rfl))⟩
  f14 := ⟨Try.f92.name, by decide, Try.func92.trans (congrArg some (by kernel_rfl))⟩
  f15 := ⟨Try.f93.name, by decide, Try.func93.trans (congrArg some (by kernel_rfl))⟩
  f16 := ⟨Try.f94.name, by decide, Try.func94.trans (congrArg some (by kernel_rfl))⟩
  f17 := ⟨Try.f95.name, by decide, Try.func95.trans (congrArg some (by kernel_rfl))⟩
  f18 := ⟨Try.f96.name, by decide, Try.func96.trans (congrArg some (by kernel_rfl))⟩
  f19 := Try.func97.trans (congrArg some (by kernel_rfl))
  f20 := Try.func98.trans (congrArg some (by kernel_rfl))
  f30 := ⟨Try.f100.name, by decide, Try.func100.trans (congrArg some (by kernel_rfl))⟩
  f31 := Try.func101.trans (congrArg some (by kernel_rfl))
  f32 := Try.func102.trans (congrArg some (by kernel_rfl))
  f33 := ⟨Try.f103.name, by decide, Try.func103.trans (congrArg some (by kernel_rfl))⟩
  f34 := ⟨Try.f104.name, by decide, Try.func104.trans (congrArg some (by kernel_rfl))⟩
  f35 := ⟨Try.f105.name, by decide, Try.func105.trans (congrArg some (by kernel_rfl))⟩
  f40 := ⟨Try.f106.name, by decide, Try.func106.trans (congrArg some (by kernel_rfl))⟩
  t0 := Try.underlying0
  a0 := Try.isAgg0
  z0 := Try.sizeOf0
  v0 := Try.zeroValue0
  t3 := Try.underlying3
  a3 := Try.isAgg3
  z3 := Try.sizeOf3
  v3 := Try.zeroValue3
  t4 := Try.underlying4
  a4 := Try.isAgg4
  z4 := Try.sizeOf4
  v4 := Try.zeroValue4
  t5 := Try.underlying5
  a5 := Try.isAgg5
  z5 := Try.sizeOf5
  v5 := Try.zeroValue5
  t9 := Try.underlying9
  a9 := Try.isAgg9
  z9 := Try.sizeOf9
  v9 := Try.zeroValue9
  t22 := Try.underlying33
  a22 := Try.isAgg33
  z22 := Try.sizeOf33
  v22 := Try.zeroValue33
  t23 := Try.underlying33
  a23 := Try.isAgg33
  z23 := Try.sizeOf33
  v23 := Try.zeroValue33
  t25 := Try.underlying3
  a25 := Try.isAgg3
  z25 := Try.sizeOf3
  v25 := Try.zeroValue3
  t32 := Try.underlying128
  a32 := Try.isAgg128
  z32 := Try.sizeOf128
  v32 := Try.zeroValue128
  t35 := Try.underlying152
  a35 := Try.isAgg152
  z35 := Try.sizeOf152
  v35 := Try.zeroValue152
  t36 := Try.underlying153
  a36 := Try.isAgg153
  z36 := Try.sizeOf153
  v36 := Try.zeroValue153
  t41 := Try.underlying88
  a41 := Try.isAgg88
  z41 := Try.sizeOf88
  v41 := Try.zeroValue88
  t44 := Try.underlying160
  a44 := Try.isAgg160
  z44 := Try.sizeOf160
  v44 := Try.zeroValue160
  t46 := Try.underlying121
  a46 := Try.isAgg121
  z46 := Try.sizeOf121
  v46 := Try.zeroValue121
  t53 := Try.underlying163
  a53 := Try.isAgg163
  z53 := Try.sizeOf163
  v53 := Try.zeroValue163
  t57 := Try.underlying166
  a57 := Try.isAgg166
  z57 := Try.sizeOf166
  v57 := Try.zeroValue166
  t63 := Try.underlying168
  a63 := Try.isAgg168
  z63 := Try.sizeOf168
  v63 := Try.zeroValue168
  t64 := Try.underlying169
  a64 := Try.isAgg169
  z64 := Try.sizeOf169
  v64 := Try.zeroValue169
def compA_ren : Go.Shelf.Ren := ⟨fun | 20 => 71 | n => n, fun | 22 => 33 | 3 => 3 | 4 => 4 | 0 => 0 | n => n, fun | n => n⟩
theorem compA : Go.Proofs.Lays2.n20 Try.prog compA_ren where
  mixed := by kernel_rfl
  f20 := Try.func71.trans (congrArg some (by kernel_rfl))
  t0 := Try.underlying0
  a0 := Try.isAgg0
  z0 := Try.sizeOf0
  v0 := Try.zeroValue0
  t3 := Try.underlying3
  a3 := Try.isAgg3
  z3 := Try.sizeOf3
  v3 := Try.zeroValue3
  t4 := Try.underlying4
  a4 := Try.isAgg4
  z4 := Try.sizeOf4
  v4 := Try.zeroValue4
  t22 := Try.underlying33
  a22 := Try.isAgg33
  z22 := Try.sizeOf33
  v22 := Try.zeroValue33
  i3 := by kernel_rfl
/-- slices.Sort's two contracts at this dump, at the fence that asks nothing. -/
theorem sortsA (m : Nat) : AnyZI.SortsIn Try.prog sortedA_ren Fence.wide m :=
  ⟨fun blk off cap ss W hH hblk hsz => callsIn_wide.2 (AnyM.slices_Sort_int sortA blk off cap ss W hH hblk hsz),
   fun p cap W => callsIn_wide.2 (AnyM.slices_Sort_int_none sortA p cap W)⟩
/-! ### Numbers in order -/
theorem insI_perm (x : Int) : ∀ l, (insI x l).Perm (x :: l)
  | [] => List.Perm.refl _
  | y :: r => by
    unfold insI
    split
    · exact List.Perm.refl _
    · exact (List.Perm.cons y (insI_perm x r)).trans (List.Perm.swap x y r)
theorem sortI_perm : ∀ l, (sortI l).Perm l
  | [] => List.Perm.refl _
  | x :: r => (insI_perm x (sortI r)).trans (List.Perm.cons x (sortI_perm r))
theorem insI_sorted (x : Int) : ∀ l, l.Pairwise (· ≤ ·) → (insI x l).Pairwise (· ≤ ·)
  | [], _ => by simp [insI]
  | y :: r, h => by
    unfold insI
    split
    · rename_i hxy
      refine List.pairwise_cons.2 ⟨fun z hz => ?_, h⟩
      rcases List.mem_cons.1 hz with rfl | hz
      · exact hxy
      · have := (List.pairwise_cons.1 h).1 z hz; omega
    · rename_i hxy
      have h2 := List.pairwise_cons.1 h
      refine List.pairwise_cons.2 ⟨fun z hz => ?_, insI_sorted x r h2.2⟩
      rcases List.mem_cons.1 ((insI_perm x r).subset hz) with rfl | hz
      · omega
      · exact h2.1 z hz
theorem sortI_sorted : ∀ l, (sortI l).Pairwise (· ≤ ·)
  | [] => List.Pairwise.nil
  | x :: r => insI_sorted x _ (sortI_sorted r)
theorem sortI_eq {l l' : List Int} (h : l.Perm l') : sortI l = sortI l' :=
  List.Perm.eq_of_pairwise (le := fun a b : Int => a ≤ b) (fun a b _ _ h1 h2 => by omega) (sortI_sorted l) (sortI_sorted l') (((sortI_perm l).trans h).trans (sortI_perm l').symm)
theorem merge_sortI {l l' : List Int} (h : l.Perm l') : l.mergeSort (fun x y => decide (x ≤ y)) = sortI l' := by
  have h1 : (l.mergeSort (fun x y => decide (x ≤ y))).Pairwise (· ≤ ·) := by
    have := List.pairwise_mergeSort (le := fun x y : Int => decide (x ≤ y)) (fun a b c h1 h2 => by simp only [decide_eq_true_eq] at *; omega) (fun a b => by simp only [Bool.or_eq_true, decide_eq_true_eq]; omega) l
    exact this.imp (fun h => by simpa using h)
  refine List.Perm.eq_of_pairwise (le := fun a b : Int => a ≤ b) (fun a b _ _ h1 h2 => by omega) h1 (sortI_sorted l') ?_
  exact ((List.mergeSort_perm l _).trans h).trans (sortI_perm l').symm
theorem map_encZ (l : List Int) : l.map encZ = flat (elI .i64) l := by
  induction l with
  | nil => rfl
  | cons x l ih => simp only [List.map_cons, ih]; rfl
/-- What sorts keys asks of them. -/
structure KeysOK (g : Gone) : Prop where
  nd : (g.map (·.1)).Nodup
  lo : ∀ p ∈ g, -9223372036854775808 ≤ p.1
  hi : ∀ p ∈ g, p.1 ≤ 9223372036854775807
  len : g.length ≤ 10000000000
section
/-- A call whose results are new: what was there is as it was. -/
theorem ret_below {own : List Res} {g : GW} {R : Value → List MF → List Res → Prop} {v : Value} {w' : World} {own1 : List Res} (hb : Below g.w.heap.size g.w w') (ho : Own own g) (hR : R v [] (own1 ++ own)) (hp : ∀ r ∈ own1, r.p w') (hnd : (blks own1).Nodup) (hlt : ∀ b ∈ blks own1, b < w'.heap.size ∧ g.w.heap.size ≤ b) :
    Ret own g R (.returned v) w' := by
  let g' : GW := ⟨w', g.fz, fun b hb' => Nat.lt_of_lt_of_le (g.lt b hb') hb.size⟩
  have hE : Ext (blks own) g g' := ⟨⟨hb.os, hb.tape, hb.output, hb.size, fun _ h => h, fun b hf => hb.block b (g.lt b hf)⟩, fun b h _ => hb.block b h, fun _ _ _ h => h⟩
  refine ⟨v, [], own1 ++ own, g', rfl, hR, rfl, hE, (fun f hf => by cases hf), ⟨fun r hr => ?_, ?_, fun b hb' => ?_, fun b hb' => ?_⟩, fun b hb' => ?_⟩
  · rcases List.mem_append.1 hr with hr | hr
    · exact hp r hr
    · exact r.loc (fun b hb' => hb.block b (ho.lt b (List.mem_flatMap.2 ⟨r, hr, hb'⟩))) (ho.p r hr)
  · rw [blks_append]
    refine List.nodup_append.2 ⟨hnd, ho.nodup, fun x hx y hy e => ?_⟩
    have := (hlt x hx).2
    have := ho.lt y hy
    omega
  · rcases List.mem_append.1 (by simpa using hb') with h | h
    · exact (hlt b h).1
    · exact Nat.lt_of_lt_of_le (ho.lt b h) hb.size
  · rcases List.mem_append.1 (by simpa using hb') with h | h
    · intro hf
      have := g.lt b hf
      have := (hlt b h).2
      omega
    · exact ho.nfz b h
  · rcases List.mem_append.1 (by simpa using hb') with h | h
    · exact .inr (hlt b h).2
    · exact .inl h
theorem perm_keys {g : Gone} {es : Array MapEntry} (h : ents es.toList = enc2 (fun n : Int => Value.int .i64 n) (fun _ : Unit => Value.bool true) g) (hk : KeysOK g) (R : Value → Option (DataW Unit × List MemPlace)) (hR : ∀ v, R v = some (.lit (.bool true), [])) :
    (∀ x ∈ es.toList, ∃ y, Go.WideElems.rd Try.prog 3 R x = some y) ∧ (intKeys (DataW.map ((es.toList.map (Go.WideElems.rg Try.prog 3 R)).foldr DataW.insert []))).Perm (keysG g) := by
  have hrd : ∀ (es : List MapEntry) (g : Gone), ents es = enc2 (fun n : Int => Value.int .i64 n) (fun _ : Unit => Value.bool true) g → (∀ p ∈ g, -9223372036854775808 ≤ p.1 ∧ p.1 ≤ 9223372036854775807) →
      (∀ x ∈ es, ∃ y, Go.WideElems.rd Try.prog 3 R x = some y) ∧ es.map (fun x => Go.intOf (Go.WideElems.rg Try.prog 3 R x).1) = keysG g := by
    intro es
    induction es with
    | nil =>
      intro g h _
      have : g = [] := by cases g with | nil => rfl | cons p r => simp [ents, enc2] at h
      subst this
      exact ⟨(fun x hx => by cases hx), rfl⟩
    | cons e es ih =>
      intro g h hg
      cases g with
      | nil => simp [ents, enc2] at h
      | cons p r =>
        simp only [ents, enc2, List.map_cons, List.cons.injEq, Prod.mk.injEq] at h
        obtain ⟨⟨h1, h2⟩, h3⟩ := h
        obtain ⟨i1, i2⟩ := ih r h3 (fun q hq => hg q (.tail _ hq))
        have hp := hg p (.head _)
        have hwf : (Lit.int .i64 p.1).wf = true := by simp [Lit.wf, IntKind.min, IntKind.max, IntKind.bits, IntKind.signed]; omega
        have hkey : Go.keyOf Try.prog 3 e.key = some (.int .i64 p.1) := by rw [h1]; exact Maps.keyOf_int_mk Try.underlying3 hwf
        have hrd1 : Go.WideElems.rd Try.prog 3 R e = some (.int .i64 p.1, .lit (.bool true)) := by simp [Go.WideElems.rd, hkey, hR]
        refine ⟨fun x hx => ?_, ?_⟩
        · rcases List.mem_cons.1 hx with rfl | hx
          · exact ⟨_, hrd1⟩
          · exact i1 x hx
        · simp only [List.map_cons, Go.WideElems.rg_of hrd1, i2]
          rfl
  obtain ⟨r1, r2⟩ := hrd es.toList g h (fun p hp => ⟨hk.lo p hp, hk.hi p hp⟩)
  refine ⟨r1, ?_⟩
  rw [← r2]
  show (((es.toList.map (Go.WideElems.rg Try.prog 3 R)).foldr DataW.insert []).map fun p => Go.intOf p.1).Perm _
  have h2 := (Go.WideShapes.sorted_perm (es.toList.map (Go.WideElems.rg Try.prog 3 R))).map (fun p => Go.intOf p.1)
  simp only [List.map_map, Function.comp_def] at h2
  exact h2
end
theorem ret_turn {r r' : Res} {g : GW} {b : Nat} {R : Value → List MF → List Res → Prop} {v : Value} {w' : World} (ho : Own [r] g) (hbs : r.bs = [b]) (hbs' : r'.bs = [b]) (hg : g.w.grownBy w' (some b)) (hp : r'.p w') (hR : R v [] [r']) : Ret [r] g R (.returned v) w' := by
  have hlt : b < g.w.heap.size := ho.lt b (by simp [hbs])
  have hnf : ¬ g.fz b := ho.nfz b (by simp [hbs])
  let g' : GW := ⟨w', g.fz, fun x hx => Nat.lt_of_lt_of_le (g.lt x hx) hg.size⟩
  have hE : Ext (blks [r]) g g' := ⟨⟨hg.os, hg.tape, hg.output, hg.size, fun _ h => h, fun x hf => hg.block x (g.lt x hf) (fun e => hnf (by cases e; exact hf))⟩, fun x h hn => hg.block x h (fun e => hn (by cases e; simp [hbs])), fun _ _ _ h => h⟩
  refine ⟨v, [], [r'], g', rfl, hR, rfl, hE, (fun f hf => by cases hf), ⟨fun x hx => ?_, by simp [hbs'], fun x hx => ?_, fun x hx => ?_⟩, fun x hx => .inl (by simpa [hbs, hbs'] using hx)⟩
  · rcases List.mem_singleton.1 hx with rfl; exact hp
  · have : x = b := by simpa [hbs'] using hx
    subst this; exact Nat.lt_of_lt_of_le hlt hg.size
  · have : x = b := by simpa [hbs'] using hx
    subst this; exact hnf
theorem ret_same {r : Res} {g : GW} {R : Value → List MF → List Res → Prop} {v : Value} (ho : Own [r] g) (hR : R v [] [r]) : Ret [r] g R (.returned v) g.w :=
  ⟨v, [], [r], g, rfl, hR, rfl, Ext.refl _ g, (fun f hf => by cases hf), ho, fun _ h => .inl h⟩
theorem sortI_length (l : List Int) : (sortI l).length = l.length := (sortI_perm l).length_eq
theorem sorted_ok {bk bg : Nat} {g : Gone} (hk : KeysOK g) : Spx Try.prog 54 #[.func (.func 73) #[] #[.pointer (some ⟨bk, 0, none⟩)]] [PtM bk 0 [.map (some bg)]] [Res.mp (fun n : Int => Value.int .i64 n) (fun _ : Unit => Value.bool true) bg g]
    (fun v fs' own' => ∃ ad c, v = .slice ad (sortI (keysG g)).length c ∧ fs' = [] ∧ own' = [Res.arr (elI .i64) 3 ad c (sortI (keysG g)), Res.mp (fun n : Int => Value.int .i64 n) (fun _ : Unit => Value.bool true) bg g]) := by
  refine ⟨⟨Try.f54, Try.func54, by kernel_rfl, by kernel_rfl⟩, fun gw ha ho => ?_⟩
  have hm : gw.w.cell? ⟨bk, 0, none⟩ = some (.map (some bg)) := (ha _ (.head _)).2 0 _ rfl
  have hbk : bk < gw.w.heap.size := gw.lt bk (ha _ (.head _)).1
  obtain ⟨es, clk, hh, he, hbn, hbc⟩ := ho.p _ (.head _)
  have hel : es.size = g.length := by have := mget_enc he; simpa using this
  obtain ⟨R, hR⟩ : ∃ R : Value → Option (DataW Unit × List MemPlace), ∀ v, R v = some (.lit (.bool true), []) := ⟨fun _ => some (.lit (.bool true), []), fun _ => rfl⟩
  obtain ⟨hrd, hperm⟩ := perm_keys he hk R hR
  have hpw : es.toList.Pairwise (fun x y => x.key ≠ y.key) := by
    have h1 : (es.toList.map (·.key)) = g.map (fun p => Value.int .i64 p.1) := by
      have := congrArg (fun q => q.map Prod.fst) he
      simpa [ents, enc2, List.map_map, Function.comp_def] using this
    have h2 : (es.toList.map (·.key)).Nodup := by
      rw [h1]
      have h3 : (g.map (fun p => Value.int .i64 p.1)) = (g.map (·.1)).map (fun n : Int => Value.int .i64 n) := by simp
      rw [h3]
      exact List.pairwise_map.2 (hk.nd.imp (fun {a b} hab e => hab (by injection e)))
    exact List.pairwise_map.1 h2
  have hst : Go.MapKept.Stamped es clk := (Go.MapKept.stamped_iff es clk).2 ⟨hbc, hbn, hpw⟩
  have hkl := hk.len
  have hown : gw.w.ownsMap Try.prog 3 R bg es.size (.map ((es.toList.map (Go.WideElems.rg Try.prog 3 R)).foldr DataW.insert [])) := ⟨es, clk, hh, ⟨by rw [hel]; simp only [maxLen]; omega, hst, hrd⟩, Nat.le_refl _, rfl⟩
  have hsz : Maps.size (DataW.map ((es.toList.map (Go.WideElems.rg Try.prog 3 R)).foldr DataW.insert [])) = g.length := by simp [Maps.size, length_sorted, ← hel]
  have hseq : SeqGives Fence.wide 2 Try.prog 73 #[.pointer (some ⟨bk, 0, none⟩)] encZ (fun ss => ss.Perm (intKeys (DataW.map ((es.toList.map (Go.WideElems.rg Try.prog 3 R)).foldr DataW.insert [])))) (Maps.size (DataW.map ((es.toList.map (Go.WideElems.rg Try.prog 3 R)).foldr DataW.insert []))) gw.w :=
    AnyZI.keys_gives (ρ := keysA_ren) { keysA with } Fence.wide _ trivial rfl (by omega) bk bg es.size _ _ hbk hm hown
  have cS := AnyZI.sorted_in sortedA Fence.wide 5 trivial trivial trivial trivial rfl (by omega) (sortsA _) (enters_of Try.func70 (by kernel_rfl) rfl) 73 #[.pointer (some ⟨bk, 0, none⟩)] trivial (enters_of Try.func73 (by kernel_rfl) rfl) _ _ (by rw [hsz]; simp only [maxLen]; omega) (by rw [hsz]; omega) _ hseq
  change CallsIn _ _ Try.prog 54 _ _ _ at cS
  refine ((callsIn_wide (n := 5)).1 cS).mono ?_
  rintro e w' ⟨v, ss, rfl, hS, hrow, hnil, hb⟩
  have hms : ss.mergeSort (fun x y => decide (x ≤ y)) = sortI (keysG g) := merge_sortI (hS.trans hperm)
  have hsl : (sortI (keysG g)).length = ss.length := by rw [← hms]; exact (List.mergeSort_perm ss _).length_eq
  rw [hms, map_encZ] at hrow
  change w'.ownsRow gw.w.heap.size 3 1 v ss.length (flat (elI .i64) (sortI (keysG g))) at hrow
  obtain ⟨h1, h2⟩ := hrow
  rcases h2 with ⟨rfl, hn⟩ | ⟨gg, cap, cur, rfl, hbase, hgg, r1, r2, r3, r4⟩
  · have hz : sortI (keysG g) = [] := List.eq_nil_of_length_eq_zero (by omega)
    rw [hz]
    exact ret_below (own1 := [Res.arr (elI .i64) 3 none 0 []]) hb ho ⟨none, 0, rfl, rfl, rfl⟩ (fun r hr => by rcases List.mem_singleton.1 hr with rfl; exact ⟨by simp, .inl ⟨rfl, rfl⟩⟩) (by simp [Res.arr, vbs]) (fun b hb => by simp [Res.arr, vbs] at hb)
  · rw [← hsl] at r1 r4 ⊢
    refine ret_below (own1 := [Res.arr (elI .i64) 3 (some ⟨gg, 0, none⟩) cap (sortI (keysG g))]) hb ho ⟨some ⟨gg, 0, none⟩, cap, rfl, rfl, rfl⟩ (fun r hr => ?_) (by simp [Res.arr, vbs]) (fun b hb' => ?_)
    · rcases List.mem_singleton.1 hr with rfl
      exact ⟨by rw [flat_len], .inr ⟨gg, cap, cur, rfl, Nat.zero_le _, hgg, r1, r2, r3, r4⟩⟩
    · have : b = gg := by simpa [Res.arr, vbs] using hb'
      subst this
      exact ⟨(Array.getElem?_eq_some_iff.1 hgg).1, hbase⟩
/-- slices.Sort of what is owned. -/
theorem sort_ok {ad : Option Addr} {c : Nat} {ys : List Int} (hl : ys.length ≤ 100000000000) : Spx Try.prog 70 #[.slice ad ys.length c] [] [Res.arr (elI .i64) 3 ad c ys] (fun _ fs' own' => fs' = [] ∧ own' = [Res.arr (elI .i64) 3 ad c (sortI ys)]) := by
  refine ⟨⟨Try.f70, Try.func70, by kernel_rfl, by kernel_rfl⟩, fun gw ha ho => ?_⟩
  obtain ⟨h1, h2⟩ := ho.p _ (.head _)
  rcases h2 with ⟨hv, hn⟩ | ⟨gg, cap, cur, hv, hbase, hgg, r1, r2, r3, r4⟩
  · have hz : ys = [] := List.eq_nil_of_length_eq_zero hn
    subst hz
    have := AnyM.slices_Sort_int_none sortA ad c gw.w
    refine this.mono ?_
    rintro e w' ⟨rfl, rfl⟩
    exact ret_same ho ⟨rfl, rfl⟩
  · injection hv with e1 e2 e3
    subst e1 e3
    have r4' : cur.toList.take ys.length = ys.map (Value.int .i64) := by
      have := r4
      rw [← map_encZ] at this
      simpa [elI] using this
    have hH : Holds (Value.int .i64) gw.w gg 0 ys.toArray := holds_of_block_i hgg r4'
    have hlt := (Array.getElem?_eq_some_iff.1 hgg).1
    have := AnyM.slices_Sort_int sortA gg 0 c ys gw.w hH hlt (by omega)
    refine this.mono ?_
    rintro e w' ⟨rfl, k, os, rfl⟩
    refine ret_turn (b := gg) ho (by simp [Res.arr, vbs]) (r' := Res.arr (elI .i64) 3 (some ⟨gg, 0, none⟩) c (sortI ys)) (by simp [Res.arr, vbs]) (grownBy_sorted_i _) ?_ ⟨rfl, rfl⟩
    have hr := ownsRow_sorted_i (base := 0) (n := k) (os := os) (ts := ys.mergeSort (fun x y => decide (x ≤ y))) (ss := ys) (by simp) (Nat.zero_le _) hgg r1 r2 r3
    rw [merge_sortI (List.Perm.refl ys), map_encZ] at hr
    rw [merge_sortI (List.Perm.refl ys)]
    show World.ownsRow _ 0 3 1 _ _ _
    rw [sortI_length]
    exact hr
theorem cmpP_eq : ∀ (r : List Int) (a : Int), ((List.range r.length).filter (fun j => decide (r[j]! ≠ (a :: r)[j]!))).map (r[·]!) = cmpP a r
  | [], _ => rfl
  | b :: r, a => by
    have ih := cmpP_eq r b
    simp only [List.length_cons, List.range_succ_eq_map, List.filter_cons, List.filter_map, Function.comp_def, Nat.succ_eq_add_one]
    simp only [List.getElem!_cons_succ, List.getElem!_cons_zero] at ih ⊢
    unfold cmpP
    by_cases h : b = a
    · simp only [h, ne_eq, not_true_eq_false, decide_false, Bool.false_eq_true, if_false, if_true]
      rw [h] at ih
      simp only [List.map_map, Function.comp_def, Nat.succ_eq_add_one, List.getElem!_cons_succ]
      exact ih
    · simp only [h, ne_eq, not_false_eq_true, decide_true, if_true, if_false, List.map_cons, List.map_map, Function.comp_def, List.getElem!_cons_succ, List.getElem!_cons_zero]
      exact congrArg (b :: ·) ih
theorem compact_eq (l : List Int) : Lib.compact l = cmpI l := by
  cases l with
  | nil => rfl
  | cons a r =>
    have ih := cmpP_eq r a
    simp only [Lib.compact, Lib.compactUpTo, List.length_cons, List.range_succ_eq_map, List.filter_cons, List.filter_map, Function.comp_def, Nat.succ_eq_add_one]
    have h0 : Lib.keeps (a :: r).toArray 0 = true := by simp [Lib.keeps]
    have hk : ∀ j, Lib.keeps (a :: r).toArray (j + 1) = decide (r[j]! ≠ (a :: r)[j]!) := by
      intro j; simp [Lib.keeps]
    simp only [h0, hk, if_true, List.map_cons, List.map_map, Function.comp_def]
    show _ = a :: cmpP a r
    rw [← ih]
    simp
theorem cmpP_len : ∀ (r : List Int) (a : Int), (cmpP a r).length ≤ r.length
  | [], _ => Nat.le_refl _
  | b :: r, a => by
    have := cmpP_len r b
    unfold cmpP
    split <;> simp <;> omega
theorem cmpI_len (l : List Int) : (cmpI l).length ≤ l.length := by
  cases l with
  | nil => exact Nat.le_refl _
  | cons a r => have := cmpP_len r a; simp [cmpI]; exact this
/-- slices.Compact of what is owned. -/
theorem comp_ok {ad : Option Addr} {c : Nat} {ys : List Int} (hl : ys.length ≤ 100000000000) : Spx Try.prog 71 #[.slice ad ys.length c] [] [Res.arr (elI .i64) 3 ad c ys] (fun v fs' own' => v = .slice ad (cmpI ys).length c ∧ fs' = [] ∧ own' = [Res.arr (elI .i64) 3 ad c (cmpI ys)]) := by
  refine ⟨⟨Try.f71, Try.func71, by kernel_rfl, by kernel_rfl⟩, fun gw ha ho => ?_⟩
  obtain ⟨h1, h2⟩ := ho.p _ (.head _)
  rcases h2 with ⟨hv, hn⟩ | ⟨gg, cap, cur, hv, hbase, hgg, r1, r2, r3, r4⟩
  · have hz : ys = [] := List.eq_nil_of_length_eq_zero hn
    subst hz
    refine (Any.slices_Compact_int_empty compA ad c gw.w).mono ?_
    rintro e w' ⟨rfl, rfl⟩
    exact ret_same ho ⟨rfl, rfl, rfl⟩
  · injection hv with e1 e2 e3
    subst e1 e3
    have r4' : cur.toList.take ys.length = ys.map (Value.int .i64) := by
      have := r4
      rw [← map_encZ] at this
      simpa [elI] using this
    have hH : Holds (Value.int .i64) gw.w gg 0 ys.toArray := holds_of_block_i hgg r4'
    refine (Any.slices_Compact_int compA gg 0 c ys gw.w hH (by omega) r1).mono ?_
    rintro e w' ⟨rfl, q, rfl⟩
    rw [compact_eq]
    have hcl := cmpI_len ys
    obtain ⟨ts, hts⟩ : ∃ ts, cmpI ys ++ List.replicate (ys.length - (cmpI ys).length) 0 = ts := ⟨_, rfl⟩
    have htl : ts.length = ys.length := by rw [← hts]; simp; omega
    rw [hts]
    have hgl := (Array.getElem?_eq_some_iff.1 hgg).1
    have hg0 : grow (putRow encZ (Sort.ahead gw.w q) gg 0 ts.toArray) #[] = putRow encZ (Sort.ahead gw.w q) gg 0 ts.toArray := by
      unfold grow
      simp only [Array.append_empty]
    refine ret_turn (b := gg) ho (by simp [Res.arr, vbs]) (r' := Res.arr (elI .i64) 3 (some ⟨gg, 0, none⟩) c (cmpI ys)) (by simp [Res.arr, vbs]) ?_ ?_ ⟨rfl, rfl, rfl⟩
    · have := grownBy_sorted_i (w := gw.w) (g := gg) (n := q) (os := #[]) ts.toArray
      rw [hg0] at this
      exact this
    · have hr := ownsRow_sorted_i (base := 0) (n := q) (os := #[]) (ts := ts) (ss := ys) htl (Nat.zero_le _) hgg r1 r2 r3
      rw [hg0] at hr
      obtain ⟨_, h5⟩ := hr
      rcases h5 with ⟨h6, _⟩ | ⟨g3, cap3, cur3, h6, _, h7, h8, h9, h10, h11⟩
      · cases h6
      · injection h6 with e1 e2 e3
        injection e1 with e1
        injection e1 with e1
        subst e1 e3
        refine ⟨by rw [flat_len], .inr ⟨gg, c, cur3, rfl, Nat.zero_le _, h7, by omega, h9, h10, ?_⟩⟩
        show cur3.toList.take ((cmpI ys).length * 1) = flat (elI .i64) (cmpI ys)
        rw [← map_encZ, Nat.mul_one]
        have h12 := congrArg (List.take (cmpI ys).length) h11
        rw [Nat.mul_one, List.take_take, ← hts, List.map_append, Nat.min_eq_left hcl] at h12
        rw [h12]
        exact List.take_left' (by simp)
end Go.Proofs.Ytlgbhceifnjdnaa
