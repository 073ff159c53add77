/- HE HG HL PX WA. -/
import Derived.Test.YtomkgfdigldhcaaGreatDoorLIJ
import Derived.Laws.Bits64b
set_option maxRecDepth 100000
namespace Go.Proofs.YtomkgfdigldhcaaGreatDoor
open Go.KX
theorem xK {P X M Y Z : List Lb} {n cf : Nat} {a b k : Int} (hn : n = (P ++ (X ++ (M ++ (Y ++ Z)))).length) (ha : a = P.length) (hb : b = ((P.length + X.length + M.length : Nat) : Int)) (hk : k = X.length) (hXY : X.length = Y.length) (hz : n ≤ 10000000000000) : Fp Tryz.prog gT 342 [.o 1000 n, nI a, nI b, nI k, .f cf [] []] (.r 138 2 ((P ++ (X ++ (M ++ (Y ++ Z)))).map aY)) (.t []) (.r 138 2 ((P ++ (Y ++ (M ++ (X ++ Z)))).map aY)) := by
 refine lU aA (fn := Tryz.f342) 38 [] Tryz.func342 Tryz.results342 (fun g0 B0 Q ρ0 R => ?_)
 rw [show (P ++ (X ++ (M ++ (Y ++ Z)))).map aY = (jO P X M Y Z 0).map aY by rw [J5]]
 refine en aA 0 1 [] ?_
 refine sl 0 ?_
 refine aD (σ := Nat) (fun i => i ≤ X.length) (fun i => X.length - i)
  (fun i => [(0, .o 1000 n), (1, nI a), (2, nI b), (3, nI k), (10, nI i)])
  (fun i => [(1000, .r 138 2 ((jO P X M Y Z i).map aY))]) 0 ?_ ?_
 ·exact Nat.zero_le _
 ·rintro J i hi0 hJ
  refine en aA 0 3 [] ?_
  refine si 0 rfl rfl (fun h13 => ?_) (fun h13 => ?_)
  ·have hi : i < X.length := by omega
   have hlen := zM (P := P) (M := M) (Q := Z) hXY (i := i) (by omega)
   obtain ⟨U, V, x, y, hx, hy, e1, hU, V2, W, eV, hU2, e2⟩ := FA (P := P) (M := M) (Q := Z) hXY hi
   subst eV
   refine c6 1000 (mb' := .r 138 2 ((U ++ x :: (V2 ++ y :: W)).map aY)) ?_ ?_
   ·rw [e1]
   have hRl : ((U ++ x :: (V2 ++ y :: W)).map aY).length = n := by rw [List.length_map, ← e1, hlen, hn]
   have hbn : (P.length + X.length + M.length + i) < n := by
    rw [hn]
    simp only [List.length_append]
    omega
   refine jH 0 10485760 [0, 0, 0, 6, 0, 0, 0, 96, 0, 0, 0, 1536, 3840, 7936, 0, 0, 0, 98304, 245760, 507904, 1048335, 2096911, 4194303, 8388607] [0, 1, 2, 3, 4, 5, 6, 7, 8, 9, 10, 11, 12, 13, 14, 15, 16, 17, 18, 19, 20, 21, 22, 23] ?_
   refine xd aA 12 [] ?_
   refine mB aA (P.length + X.length + M.length + i) 0 [] (n := n) (z := b + (i : Int)) (rows := ((U ++ x :: (V2 ++ y :: W)).map aY)) (by omega) (by omega) (by omega) ?_
   refine r6 aA (P.length + X.length + M.length + i) 0 4 [] (row := aY y) (BQ hU2) ?_ (hφ := by unfold aE; omega)
   refine mB aA (P.length + i) 0 [] (n := n) (z := a + (i : Int)) (rows := ((U ++ x :: (V2 ++ y :: W)).map aY)) (by omega) (by omega) (by omega) ?_
   refine r6 aA (P.length + i) 0 0 [] (row := aY x) (fJ hU) ?_
   refine mB aA U.length 0 [] (n := n) (z := a + (i : Int)) (rows := ((U ++ x :: (V2 ++ y :: W)).map aY)) (by omega) (by omega) (by omega) ?_
   refine GP aA U.length 0 0 [] (row := aY x) (fJ rfl) ?_
   refine FG aA (P.length + X.length + M.length + i) 0 [] (n := n) (z := b + (i : Int)) (rows := ((U ++ x :: (V2 ++ y :: W)).map aY).set U.length (aY y)) (by omega) (by rw [List.length_set]; omega) (by rw [List.length_set]; omega) ?_
   refine GP aA (P.length + X.length + M.length + i) 0 0 [] (row := aY y) (J6 hU2) ?_
   refine xe ?_
   refine sn aA 0 3 [] ?_
   refine sl 0 ?_
   refine c6 1000 (mb' := .r 138 2 ((jO P X M Y Z (i + 1)).map aY)) ?_ ?_
   ·rw [e2, ← FB (f := aY) (U := U) (x := x) (y := y) (j := (P.length + X.length + M.length + i)) (by rw [hU2])]; rfl
   exact hJ (i + 1) (by omega) (by omega)
  ·have hi : i = X.length := by omega
   subst hi
   rw [zL hXY]
   refine HM 0 R ?_
   exact ⟨rfl, rfl⟩
theorem VJ {P Lw Rw Z : List Lb} {n cf : Nat} {a m b : Int} (hn : n = (P ++ (Lw ++ (Rw ++ Z))).length) (ha : a = P.length) (hm : m = ((P.length + Lw.length : Nat) : Int)) (hb : b = ((P.length + Lw.length + Rw.length : Nat) : Int)) (hl : 0 < Lw.length) (hr : 0 < Rw.length) (hz : n ≤ 10000000000000) : Fp Tryz.prog gT 330 [.o 1000 n, nI a, nI m, nI b, .f cf [] []] (.r 138 2 ((P ++ (Lw ++ (Rw ++ Z))).map aY)) (.t []) (.r 138 2 ((P ++ (Rw ++ (Lw ++ Z))).map aY)) := by
 refine lU aA (fn := Tryz.f330) 58 [] Tryz.func330 Tryz.results330 (fun g0 B0 Q ρ0 R => ?_)
 have hn2 := hn
 simp only [List.length_append] at hn2
 refine en aA 0 4 [] ?_
 refine sn aA 0 4 [] ?_
 refine sl 0 ?_
 rw [show m - a = (Lw.length : Int) by omega, show b - m = (Rw.length : Int) by omega]
 refine aD (σ := GQ Lb) (fun s => s.ok Lw Rw) (fun s => s.L.length + s.R.length)
  (fun s => [(0, .o 1000 n), (2, nI m), (4, .f cf [] []), (10, nI s.L.length), (11, nI s.R.length)])
  (fun s => [(1000, .r 138 2 ((P ++ (s.A ++ (s.L ++ (s.R ++ (s.B ++ Z))))).map aY))]) ⟨[], Lw, Rw, []⟩ ?_ ?_
 ·exact ⟨by simp, by simp, hl, hr⟩
 ·rintro J s hs hJ
  have hlen := hs.len
  have hsm := hs.m
  have hsl := hs.l
  have hsr := hs.r
  refine en aA 0 3 [] ?_
  refine si 0 rfl rfl (fun h20 => ?_) (fun h20 => ?_)
  ·have hne : s.L.length ≠ s.R.length := by omega
   refine en aA 0 3 [] ?_
   refine si 0 rfl rfl (fun h23 => ?_) (fun h23 => ?_)
   ·have hgt : s.R.length < s.L.length := by omega
    obtain ⟨X, M, hX, hXl, hMl, hok⟩ := GQ.ge hs hgt
    have hLl : s.L.length = X.length + M.length := by rw [hX, List.length_append]
    refine c6 1000 (mb' := .r 138 2 (((P ++ s.A) ++ (X ++ (M ++ (s.R ++ (s.B ++ Z))))).map aY)) ?_ ?_
    ·rw [hX]; simp only [List.append_assoc]
    refine en aA 0 7 [] ?_
    refine fp aA 1000 0 [] (xK (P := P ++ s.A) (X := X) (M := M) (Y := s.R) (Z := s.B ++ Z) (n := n) (a := m - s.L.length) (b := m) (k := s.R.length) (by simp only [List.length_append]; omega) (by simp only [List.length_append]; omega) (by simp only [List.length_append]; omega) (by omega) hXl (by omega)) ?_
    refine sn aA 0 4 [] ?_
    refine sl 0 ?_
    first
    | (rw [show (s.L.length : Int) - s.R.length = (M.length : Int) by omega, ← hXl]; refine c6 1000 (mb' := .r 138 2 ((P ++ ((s.A ++ s.R) ++ (M ++ (X ++ (s.B ++ Z))))).map aY)) ?_ ?_; rotate_left; exact hJ ⟨s.A ++ s.R, M, X, s.B⟩ hok (by show M.length + X.length < _; omega); simp only [List.append_assoc])
    | (rw [show (s.R.length : Int) - s.L.length = (M.length : Int) by omega, ← hYl]; refine c6 1000 (mb' := .r 138 2 ((P ++ (s.A ++ (Y ++ (M ++ ((s.L ++ s.B) ++ Z))))).map aY)) ?_ ?_; rotate_left; exact hJ ⟨s.A, Y, M, s.L ++ s.B⟩ hok (by show Y.length + M.length < _; omega); simp only [List.append_assoc])
   ·have hlt : s.L.length < s.R.length := by omega
    obtain ⟨M, Y, hY, hYl, hMl, hok⟩ := GQ.le hs hlt
    have hRl : s.R.length = M.length + Y.length := by rw [hY, List.length_append]
    refine c6 1000 (mb' := .r 138 2 (((P ++ s.A) ++ (s.L ++ (M ++ (Y ++ (s.B ++ Z))))).map aY)) ?_ ?_
    ·rw [hY]; simp only [List.append_assoc]
    refine en aA 0 11 [] ?_
    refine fp aA 1000 0 [] (xK (P := P ++ s.A) (X := s.L) (M := M) (Y := Y) (Z := s.B ++ Z) (n := n) (a := m - s.L.length) (b := m + s.R.length - s.L.length) (k := s.L.length) (by simp only [List.length_append]; omega) (by simp only [List.length_append]; omega) (by simp only [List.length_append]; omega) rfl hYl.symm (by omega)) ?_
    refine sn aA 0 4 [] ?_
    refine sl 0 ?_
    first
    | (rw [show (s.L.length : Int) - s.R.length = (M.length : Int) by omega, ← hXl]; refine c6 1000 (mb' := .r 138 2 ((P ++ ((s.A ++ s.R) ++ (M ++ (X ++ (s.B ++ Z))))).map aY)) ?_ ?_; rotate_left; exact hJ ⟨s.A ++ s.R, M, X, s.B⟩ hok (by show M.length + X.length < _; omega); simp only [List.append_assoc])
    | (rw [show (s.R.length : Int) - s.L.length = (M.length : Int) by omega, ← hYl]; refine c6 1000 (mb' := .r 138 2 ((P ++ (s.A ++ (Y ++ (M ++ ((s.L ++ s.B) ++ Z))))).map aY)) ?_ ?_; rotate_left; exact hJ ⟨s.A, Y, M, s.L ++ s.B⟩ hok (by show Y.length + M.length < _; omega); simp only [List.append_assoc])
  ·have heq : s.L.length = s.R.length := by omega
   refine c6 1000 (mb' := .r 138 2 (((P ++ s.A) ++ (s.L ++ ([] ++ (s.R ++ (s.B ++ Z))))).map aY)) ?_ ?_
   ·simp only [List.append_assoc, List.nil_append]
   refine en aA 0 7 [] ?_
   refine fp aA 1000 0 [] (xK (P := P ++ s.A) (X := s.L) (M := []) (Y := s.R) (Z := s.B ++ Z) (n := n) (a := m - s.L.length) (b := m) (k := s.L.length) (by simp only [List.length_append, List.length_nil]; omega) (by simp only [List.length_append]; omega) (by simp only [List.length_append, List.length_nil]; omega) rfl heq (by omega)) ?_
   refine PU 0 R ?_
   refine ⟨rfl, ?_⟩
   rw [show (P ++ s.A) ++ (s.R ++ ([] ++ (s.L ++ (s.B ++ Z)))) = P ++ ((s.A ++ (s.R ++ (s.L ++ s.B))) ++ Z) by simp only [List.append_assoc, List.nil_append], hs.e]
   simp only [List.append_assoc]
theorem KT {P S Z : List Lb} {n cf : Nat} {a b : Int} {c : Lb → Lb → Int} (hc : ∀ x y : Lb, Fc Tryz.prog gT cf [.a (aY x), .a (aY y)] (nI (c x y))) (hn : n = (P ++ (S ++ Z)).length) (ha : a = P.length) (hb : b = ((P.length + S.length : Nat) : Int)) (hz : n ≤ 10000000000000) : Fp Tryz.prog gT 315 [.o 1000 n, nI a, nI b, .f cf [] []] (.r 138 2 ((P ++ (S ++ Z)).map aY)) (.t []) (.r 138 2 ((P ++ (bG (cH c) S ++ Z)).map aY)) := by
 refine lU aA (fn := Tryz.f315) 53 [] Tryz.func315 Tryz.results315 (fun g0 B0 Q ρ0 R => ?_)
 have hn2 := hn
 simp only [List.length_append] at hn2
 refine en aA 0 3 [] ?_
 refine sl 0 ?_
 rw [show a + 1 = ((P.length + 1 : Nat) : Int) by omega]
 refine c6 1000 (mb' := .r 138 2 ((P ++ (bG (cH c) (S.take 1) ++ (S.drop 1 ++ Z))).map aY)) ?_ ?_
 ·rw [show bG (cH c) (S.take 1) = S.take 1 by (cases S <;> rfl), ← List.append_assoc (S.take 1), List.take_append_drop]
 refine aD (σ := Nat) (fun k => 1 ≤ k ∧ k ≤ S.length + 1) (fun k => S.length + 1 - k)
  (fun k => [(0, .o 1000 n), (1, nI a), (2, nI b), (3, .f cf [] []), (8, nI ((P.length + k : Nat) : Int))])
  (fun k => [(1000, .r 138 2 ((P ++ (bG (cH c) (S.take k) ++ (S.drop k ++ Z))).map aY))]) 1 ?_ ?_
 ·exact ⟨Nat.le_refl _, by omega⟩
 ·rintro J k ⟨hk1, hk2⟩ hJ
  refine en aA 0 3 [] ?_
  refine si 0 rfl rfl (fun h14 => ?_) (fun h14 => ?_)
  ·have hkS : k < S.length := by omega
   obtain ⟨x, hx⟩ : ∃ q, q = S[k] := ⟨_, rfl⟩
   have hlen : (bG (cH c) (S.take k)).length = k := by rw [eE, List.length_take]; omega
   have hnx := wZ (lt := (cH c)) hkS
   rw [← hx] at hnx
   refine en aA 0 2 [] ?_
   refine sl 0 ?_
   rw [show ((9 : Nat), nI ((P.length + k : Nat) : Int)) = (9, nI ((P.length + (bG (cH c) (S.take k)).length : Nat) : Int)) by rw [hlen]]
   refine c6 1000 (mb' := .r 138 2 ((P ++ (bG (cH c) (S.take k) ++ (x :: ([] ++ (S.drop (k + 1) ++ Z))))).map aY)) ?_ ?_
   ·rw [List.drop_eq_getElem_cons hkS, ← hx]; rfl
   refine aD (σ := List Lb × List Lb) (fun s => (lE (cH c) x s.1.reverse).reverse ++ s.2 = bG (cH c) (S.take (k + 1)) ∧ s.1.length + s.2.length = k) (fun s => s.1.length)
    (fun s => [(0, .o 1000 n), (1, nI a), (2, nI b), (3, .f cf [] []), (8, nI ((P.length + k : Nat) : Int)), (9, nI ((P.length + s.1.length : Nat) : Int))])
    (fun s => [(1000, .r 138 2 ((P ++ (s.1 ++ (x :: (s.2 ++ (S.drop (k + 1) ++ Z))))).map aY))]) (bG (cH c) (S.take k), []) ?_ ?_
   ·exact ⟨by rw [List.append_nil]; exact hnx.symm, by show (bG (cH c) (S.take k)).length + 0 = k; omega⟩
   ·rintro J s ⟨hT, hAl⟩ hJ2
    by_cases hA : s.1 = []
    ·refine jH 0 0 [0, 0, 3, 7, 15, 15, 15, 111, 239, 15, 15, 1039, 3599, 7695, 16383, 32767, 65535] [0, 1, 2, 3, 4, 5, 6, 7, 8, 9, 10, 11, 12, 13, 14, 15, 16] ?_
     refine xd aA 4 [] ?_
     have hA0 : s.1.length = 0 := by rw [hA]; rfl
     rw [decide_eq_false (show ¬ (a < ((P.length + s.1.length : Nat) : Int)) by omega)]
     iterate 12 refine aAM aA (.v (.bool false)) 0 [] ?_
     refine xd aA 1 [] ?_
     refine xe ?_
     refine uC 1000 (mb' := .r 138 2 ((P ++ (bG (cH c) (S.take (k + 1)) ++ (S.drop (k + 1) ++ Z))).map aY)) ?_ ?_
     ·rw [hA] at hT ⊢; rw [← J8 hT]; simp only [List.cons_append, List.nil_append]
     refine sn aA 1 3 [] ?_
     refine sl 0 ?_
     rw [show ((P.length + k : Nat) : Int) + 1 = ((P.length + (k + 1) : Nat) : Int) by omega]
     exact hJ (k + 1) ⟨by omega, by omega⟩ (by omega)
    ·obtain ⟨A, y, hAy⟩ := BP hA
     have hAl2 : s.1.length = A.length + 1 := by rw [hAy]; simp
     obtain ⟨jn, hjn⟩ : ∃ q, q = P.length + s.1.length := ⟨_, rfl⟩
     rw [← hjn]
     obtain ⟨U, hU⟩ : ∃ q, q = P ++ A := ⟨_, rfl⟩
     obtain ⟨V, hV⟩ : ∃ q, q = s.2 ++ (S.drop (k + 1) ++ Z) := ⟨_, rfl⟩
     refine c6 1000 (mb' := .r 138 2 ((U ++ y :: x :: V).map aY)) ?_ ?_
     ·rw [hAy, hU, hV]; simp only [List.append_assoc, List.cons_append, List.nil_append]
     have hUl : U.length = P.length + A.length := by rw [hU, List.length_append]
     have hVl : V.length = s.2.length + (S.length - (k + 1) + Z.length) := by rw [hV]; simp only [List.length_append, List.length_drop]
     have hRl : ((U ++ y :: x :: V).map aY).length = n := by
      rw [List.length_map, List.length_append, List.length_cons, List.length_cons]
      omega
     rw [hAy] at hT
     refine jH 0 0 [0, 0, 3, 7, 15, 15, 15, 111, 239, 15, 15, 1039, 3599, 7695, 16383, 32767, 65535] [0, 1, 2, 3, 4, 5, 6, 7, 8, 9, 10, 11, 12, 13, 14, 15, 16] ?_
     refine xd aA 4 [] ?_
     rw [decide_eq_true (show a < (jn : Int) by omega)]
     refine Y8 aA 3 [] ?_
     refine UY aA jn 0 [] (n := n) (z := (jn : Int)) (rows := ((U ++ y :: x :: V).map aY)) rfl (by omega) (by omega) ?_
     refine UZ aA jn 0 0 [] (row := aY x) (iM (U := U) (V := V) (x := y) (y := x) (by omega)) ?_
     refine Y8 aA 3 [] ?_ (hφ := by unfold aE; omega)
     refine UY aA U.length 0 [] (n := n) (z := (jn : Int) - 1) (rows := ((U ++ y :: x :: V).map aY)) (by omega) (by omega) (by omega) ?_
     refine UZ aA U.length 0 0 [] (row := aY y) (fJ rfl) ?_
     refine dgc aA (hc x y) ?_
     refine Y8 aA 1 [] ?_
     refine xd aA 1 [] ?_
     refine xe ?_
     refine bM 0 rfl rfl (fun h34 => ?_) (fun h34 => ?_)
     ·refine jH 0 163840 [0, 0, 0, 0, 8, 0, 0, 64, 224, 480, 0, 0, 3072, 7168, 16355, 32739, 65535, 131071] [0, 1, 2, 3, 4, 5, 6, 7, 8, 9, 10, 11, 12, 13, 14, 15, 16, 17] ?_
      refine xd aA 8 [] ?_
      refine mB aA U.length 0 [] (n := n) (z := (jn : Int) - 1) (rows := ((U ++ y :: x :: V).map aY)) (by omega) (by omega) (by omega) ?_
      refine r6 aA U.length 0 2 [] (row := aY y) (fJ rfl) ?_
      refine mB aA jn 0 [] (n := n) (z := (jn : Int)) (rows := ((U ++ y :: x :: V).map aY)) rfl (by omega) (by omega) ?_
      refine r6 aA jn 0 0 [] (row := aY x) (iM (U := U) (V := V) (x := y) (y := x) (by omega)) ?_
      refine mB aA jn 0 [] (n := n) (z := (jn : Int)) (rows := ((U ++ y :: x :: V).map aY)) rfl (by omega) (by omega) ?_
      refine GP aA jn 0 0 [] (row := aY x) (iM (U := U) (V := V) (x := y) (y := x) (by omega)) ?_
      refine FG aA U.length 0 [] (n := n) (z := (jn : Int) - 1) (rows := ((U ++ y :: x :: V).map aY).set jn (aY y)) (by omega) (by rw [List.length_set]; omega) (by rw [List.length_set]; omega) ?_
      refine GP aA U.length 0 0 [] (row := aY y) (uY (U := U) (V := V) (x := y) (y := x) (i := U.length) (j := jn) rfl (by omega)) ?_
      refine xe ?_
      refine sn aA 0 3 [] ?_
      refine sl 0 ?_
      rw [show (jn : Int) - 1 = ((P.length + A.length : Nat) : Int) by omega]
      refine c6 1000 (mb' := .r 138 2 ((P ++ (A ++ (x :: ((y :: s.2) ++ (S.drop (k + 1) ++ Z))))).map aY)) ?_ ?_
      ·rw [show P ++ (A ++ (x :: ((y :: s.2) ++ (S.drop (k + 1) ++ Z)))) = U ++ x :: y :: V by (rw [hU, hV]; simp only [List.append_assoc, List.cons_append]), ← oW (f := aY) (U := U) (V := V) (x := y) (y := x) (i := U.length) (j := jn) rfl (by omega)]; rfl
      exact hJ2 (A, y :: s.2) ⟨QJ hT h34, by show A.length + (s.2.length + 1) = k; omega⟩ (by show A.length < s.1.length; omega)
     ·refine c6 1000 (mb' := .r 138 2 ((P ++ (bG (cH c) (S.take (k + 1)) ++ (S.drop (k + 1) ++ Z))).map aY)) ?_ ?_
      ·rw [← FC hT h34, hU, hV]; simp only [List.append_assoc, List.cons_append]
      refine en aA 0 3 [] ?_
      refine sl 0 ?_
      rw [show ((P.length + k : Nat) : Int) + 1 = ((P.length + (k + 1) : Nat) : Int) by omega]
      exact hJ (k + 1) ⟨by omega, by omega⟩ (by omega)
  ·have hk : S.length ≤ k := by omega
   rw [List.take_of_length_le hk, List.drop_of_length_le hk, List.nil_append]
   refine HM 0 R ?_
   exact ⟨rfl, rfl⟩
set_option maxHeartbeats 4000000 in
theorem VK {P Lw Rw Z : List Lb} {n cf f : Nat} {a m b : Int} {c : Lb → Lb → Int} (hc : ∀ x y : Lb, Fc Tryz.prog gT cf [.a (aY x), .a (aY y)] (nI (c x y))) (ih : ∀ {P Lw Rw Z : List Lb} {n : Nat} {a m b : Int}, n = (P ++ (Lw ++ (Rw ++ Z))).length → a = P.length → m = ((P.length + Lw.length : Nat) : Int) → b = ((P.length + Lw.length + Rw.length : Nat) : Int) → 0 < Lw.length → 0 < Rw.length → Lw.length + Rw.length ≤ f → n ≤ 10000000000000 → Fp Tryz.prog gT 316 [.o 1000 n, nI a, nI m, nI b, .f cf [] []] (.r 138 2 ((P ++ (Lw ++ (Rw ++ Z))).map aY)) (.t []) (.r 138 2 ((P ++ (m6 (cH c) f Lw Rw ++ Z)).map aY))) (hn : n = (P ++ (Lw ++ (Rw ++ Z))).length) (ha : a = P.length) (hm : m = ((P.length + Lw.length : Nat) : Int)) (hb : b = ((P.length + Lw.length + Rw.length : Nat) : Int)) (hl : 0 < Lw.length) (hr : 0 < Rw.length) (hf : Lw.length + Rw.length ≤ f + 1) (hz : n ≤ 10000000000000) : Fp Tryz.prog gT 316 [.o 1000 n, nI a, nI m, nI b, .f cf [] []] (.r 138 2 ((P ++ (Lw ++ (Rw ++ Z))).map aY)) (.t []) (.r 138 2 ((P ++ (m6 (cH c) (f + 1) Lw Rw ++ Z)).map aY)) := by
 refine lU aA (fn := Tryz.f316) 220 [] Tryz.func316 Tryz.results316 (fun g0 B0 Q ρ0 R => ?_)
 have hn2 := hn
 simp only [List.length_append] at hn2
 refine en aA 0 4 [] ?_
 refine si 0 rfl rfl (fun h28 => ?_) (fun h28 => ?_)
 ·have hL1 : Lw.length = 1 := by omega
  obtain ⟨x, hLx⟩ := List.length_eq_one_iff.1 hL1
  have hx0 : Lw[0]? = some x := by rw [hLx]; rfl
  obtain ⟨K, hK⟩ : ∃ q, q = gA (fun h => uD (cH c) Rw h x) (Rw.length + 1) 0 Rw.length := ⟨_, rfl⟩
  refine en aA 0 2 [] ?_
  refine sn aA 0 2 [] ?_
  refine sl 0 ?_
  refine aD (σ := Nat × Nat) (fun s => uG (fun h => uD (cH c) Rw h x) K s.1 s.2 ∧ s.2 ≤ Rw.length) (fun s => s.2 - s.1)
   (fun s => [(0, .o 1000 n), (1, nI a), (4, .f cf [] []), (10, nI ((P.length + 1 + s.1 : Nat) : Int)), (11, nI ((P.length + 1 + s.2 : Nat) : Int))])
   (fun s => [(1000, .r 138 2 ((P ++ (Lw ++ (Rw ++ Z))).map aY))]) (0, Rw.length) ?_ ?_
  ·exact ⟨by rw [hK]; exact uG.mk' _ _ (Nat.zero_le _) (by show Rw.length - 0 < _; omega), Nat.le_refl _⟩
  ·rintro J s ⟨hI, hsR⟩ hJ
   refine en aA 0 3 [] ?_
   refine si 0 rfl rfl (fun h33 => ?_) (fun h33 => ?_)
   ·have hij : s.1 < s.2 := by omega
    obtain ⟨y, hy⟩ := jN (show (s.1 + s.2) / 2 < Rw.length by omega)
    have hRl : ((P ++ (Lw ++ (Rw ++ Z))).map aY).length = n := by rw [List.length_map, hn]
    refine en aA 0 4 [] ?_
    rw [wrap_u64]
    rotate_left
    ·omega
    ·omega
    refine go aA 2 [] ?_
    rw [kZ (P.length + 1)]
    refine go aA 1 [] ?_
    refine DZ 0 0 [0, 0, 0, 6, 14, 0, 0, 96, 224, 511, 1023] [0, 1, 2, 3, 4, 5, 6, 7, 8, 9, 10] ?_
    refine xd aA 3 [] ?_
    refine mB aA (P.length + 1 + (s.1 + s.2) / 2) 0 [] (n := n) (z := ((P.length + 1 + (s.1 + s.2) / 2 : Nat) : Int)) (rows := ((P ++ (Lw ++ (Rw ++ Z))).map aY)) (by omega) (by omega) (by omega) ?_
    refine r6 aA (P.length + 1 + (s.1 + s.2) / 2) 0 2 [] (row := aY y) (oY (P := P) (L := Lw) (W := Z) (i := (s.1 + s.2) / 2) hy (by omega)) ?_
    refine mB aA (P.length) 0 [] (n := n) (z := a) (rows := ((P ++ (Lw ++ (Rw ++ Z))).map aY)) (by omega) (by omega) (by omega) ?_
    refine r6 aA (P.length) 0 0 [] (row := aY x) (mK (P := P) (L := Lw) (W := Rw ++ Z) (i := 0) hx0 (by omega)) ?_
    refine dc aA 1 [] (hc y x) ?_
    refine xe ?_
    refine bM 0 rfl rfl (fun h50 => ?_) (fun h50 => ?_)
    ·refine en aA 0 3 [] ?_
     refine sl 0 ?_
     first
     | exact hJ ((s.1 + s.2) / 2 + 1, s.2) ⟨hI.t hij ((kW hy).trans h50), hsR⟩ (by show s.2 - ((s.1 + s.2) / 2 + 1) < s.2 - s.1; omega)
     | exact hJ (s.1, (s.1 + s.2) / 2) ⟨hI.f hij ((kW hy).trans h50), by show (s.1 + s.2) / 2 ≤ _; omega⟩ (by show (s.1 + s.2) / 2 - s.1 < s.2 - s.1; omega)
    ·refine en aA 0 2 [] ?_
     refine sl 0 ?_
     first
     | exact hJ ((s.1 + s.2) / 2 + 1, s.2) ⟨hI.t hij ((kW hy).trans h50), hsR⟩ (by show s.2 - ((s.1 + s.2) / 2 + 1) < s.2 - s.1; omega)
     | exact hJ (s.1, (s.1 + s.2) / 2) ⟨hI.f hij ((kW hy).trans h50), by show (s.1 + s.2) / 2 ≤ _; omega⟩ (by show (s.1 + s.2) / 2 - s.1 < s.2 - s.1; omega)
   ·have hK1 := hI.e (show ¬ s.1 < s.2 by omega)
    have hKR := hI.b
    refine en aA 0 2 [] ?_
    refine sl 0 ?_
    refine c6 1000 (mb' := .r 138 2 ((P ++ (Rw.take 0 ++ (x :: (Rw.drop 0 ++ Z)))).map aY)) ?_ ?_
    ·rw [hLx]; rfl
    refine aD (σ := Nat) (fun t => t ≤ K) (fun t => K - t)
     (fun t => [(0, .o 1000 n), (10, nI ((P.length + 1 + K : Nat) : Int)), (13, nI ((P.length + t : Nat) : Int))])
     (fun t => [(1000, .r 138 2 ((P ++ (Rw.take t ++ (x :: (Rw.drop t ++ Z)))).map aY))]) 0 ?_ ?_
    ·exact Nat.zero_le _
    ·rintro J t htK hJ2
     refine en aA 0 4 [] ?_
     refine si 0 rfl rfl (fun h58 => ?_) (fun h58 => ?_)
     ·have ht : t < K := by omega
      obtain ⟨y, hy⟩ := jN (show t < Rw.length by omega)
      obtain ⟨U, hU⟩ : ∃ q, q = P ++ Rw.take t := ⟨_, rfl⟩
      obtain ⟨V, hV⟩ : ∃ q, q = Rw.drop (t + 1) ++ Z := ⟨_, rfl⟩
      refine c6 1000 (mb' := .r 138 2 ((U ++ x :: y :: V).map aY)) ?_ ?_
      ·rw [hU, hV, drop_at hy]; simp only [List.append_assoc, List.cons_append]
      have hUl : U.length = P.length + t := by rw [hU, List.length_append, List.length_take]; omega
      have hVl : V.length = Rw.length - (t + 1) + Z.length := by rw [hV, List.length_append, List.length_drop]
      have hRl : ((U ++ x :: y :: V).map aY).length = n := by
       rw [List.length_map, List.length_append, List.length_cons, List.length_cons]
       omega
      refine jH 0 163840 [0, 0, 0, 0, 8, 0, 0, 64, 224, 480, 0, 0, 3072, 7168, 16355, 32739, 65535, 131071] [0, 1, 2, 3, 4, 5, 6, 7, 8, 9, 10, 11, 12, 13, 14, 15, 16, 17] ?_
      refine xd aA 8 [] ?_ (hφ := by simp only [aE]; omega)
      refine mB aA (P.length + t + 1) 0 [] (n := n) (z := ((P.length + t : Nat) : Int) + 1) (rows := ((U ++ x :: y :: V).map aY)) (by omega) (by omega) (by omega) ?_
      refine r6 aA (P.length + t + 1) 0 2 [] (row := aY y) (iM (U := U) (V := V) (x := x) (y := y) (by omega)) ?_
      refine mB aA (U.length) 0 [] (n := n) (z := ((P.length + t : Nat) : Int)) (rows := ((U ++ x :: y :: V).map aY)) (by omega) (by omega) (by omega) ?_
      refine r6 aA (U.length) 0 0 [] (row := aY x) (fJ (U := U) (V := y :: V) (x := x) rfl) ?_
      refine mB aA (U.length) 0 [] (n := n) (z := ((P.length + t : Nat) : Int)) (rows := ((U ++ x :: y :: V).map aY)) (by omega) (by omega) (by omega) ?_
      refine GP aA (U.length) 0 0 [] (row := aY x) (fJ (U := U) (V := y :: V) (x := x) rfl) ?_
      refine FG aA (P.length + t + 1) 0 [] (n := n) (z := ((P.length + t : Nat) : Int) + 1) (rows := ((U ++ x :: y :: V).map aY).set U.length (aY y)) (by omega) (by rw [List.length_set]; omega) (by rw [List.length_set]; omega) ?_
      refine GP aA (P.length + t + 1) 0 0 [] (row := aY y) (J7 (U := U) (V := V) (x := x) (y := y) (i := U.length) (j := P.length + t + 1) rfl (by omega)) ?_
      refine xe ?_
      refine sn aA 0 3 [] ?_
      refine sl 0 ?_
      refine c6 1000 (mb' := .r 138 2 ((P ++ (Rw.take (t + 1) ++ (x :: (Rw.drop (t + 1) ++ Z)))).map aY)) ?_ ?_
      ·rw [show (P ++ (Rw.take (t + 1) ++ (x :: (Rw.drop (t + 1) ++ Z)))) = U ++ y :: x :: V by (rw [hU, hV, take_at hy]; simp only [List.append_assoc, List.cons_append, List.nil_append]), ← zN (f := aY) (U := U) (V := V) (x := x) (y := y) (i := U.length) (j := P.length + t + 1) rfl (by omega)]; rfl
      exact hJ2 (t + 1) (by omega) (by omega)
     ·have htK2 : t = K := by omega
      refine Z8 0 R ?_
      refine ⟨rfl, ?_⟩
      rw [htK2, hLx, BR hr hK]
      simp only [List.append_assoc, List.cons_append]
 ·have hl2 : 2 ≤ Lw.length := by omega
  refine en aA 0 4 [] ?_
  refine si 0 rfl rfl (fun h80 => ?_) (fun h80 => ?_)
  ·have hR1 : Rw.length = 1 := by omega
   obtain ⟨y, hRy⟩ := List.length_eq_one_iff.1 hR1
   have hy0 : Rw[0]? = some y := by rw [hRy]; rfl
   obtain ⟨K, hK⟩ : ∃ q, q = gA (uE (cH c) y Lw) (Lw.length + 1) 0 Lw.length := ⟨_, rfl⟩
   refine en aA 0 2 [] ?_
   refine sn aA 0 2 [] ?_
   refine sl 0 ?_
   refine aD (σ := Nat × Nat) (fun s => uG (uE (cH c) y Lw) K s.1 s.2 ∧ s.2 ≤ Lw.length) (fun s => s.2 - s.1)
    (fun s => [(0, .o 1000 n), (2, nI m), (4, .f cf [] []), (14, nI ((P.length + s.1 : Nat) : Int)), (15, nI ((P.length + s.2 : Nat) : Int))])
    (fun s => [(1000, .r 138 2 ((P ++ (Lw ++ (Rw ++ Z))).map aY))]) (0, Lw.length) ?_ ?_
   ·exact ⟨by rw [hK]; exact uG.mk' _ _ (Nat.zero_le _) (by show Lw.length - 0 < _; omega), Nat.le_refl _⟩
   ·rintro J s ⟨hI, hsR⟩ hJ
    refine en aA 0 3 [] ?_
    refine si 0 rfl rfl (fun h85 => ?_) (fun h85 => ?_)
    ·have hij : s.1 < s.2 := by omega
     obtain ⟨x, hx⟩ := jN (show (s.1 + s.2) / 2 < Lw.length by omega)
     have hRl : ((P ++ (Lw ++ (Rw ++ Z))).map aY).length = n := by rw [List.length_map, hn]
     refine en aA 0 4 [] ?_
     rw [wrap_u64]
     rotate_left
     ·omega
     ·omega
     refine go aA 2 [] ?_
     rw [kZ P.length]
     refine go aA 1 [] ?_
     refine DZ 0 0 [0, 0, 0, 6, 14, 0, 0, 96, 224, 511, 1023, 2047] [0, 1, 2, 3, 4, 5, 6, 7, 8, 9, 10, 11] ?_
     refine xd aA 3 [] ?_
     refine mB aA (P.length + Lw.length) 0 [] (n := n) (z := m) (rows := ((P ++ (Lw ++ (Rw ++ Z))).map aY)) (by omega) (by omega) (by omega) ?_
     refine r6 aA (P.length + Lw.length) 0 2 [] (row := aY y) (oY (P := P) (L := Lw) (W := Z) (i := 0) hy0 (by omega)) ?_
     refine mB aA (P.length + (s.1 + s.2) / 2) 0 [] (n := n) (z := ((P.length + (s.1 + s.2) / 2 : Nat) : Int)) (rows := ((P ++ (Lw ++ (Rw ++ Z))).map aY)) (by omega) (by omega) (by omega) ?_
     refine r6 aA (P.length + (s.1 + s.2) / 2) 0 0 [] (row := aY x) (mK (P := P) (L := Lw) (W := Rw ++ Z) (i := (s.1 + s.2) / 2) hx (by omega)) ?_
     refine dc aA 2 [] (hc y x) ?_
     refine xe ?_
     refine bM 0 rfl rfl (fun h103 => ?_) (fun h103 => ?_)
     ·refine en aA 0 3 [] ?_
      refine sl 0 ?_
      first
      | exact hJ ((s.1 + s.2) / 2 + 1, s.2) ⟨hI.t hij ((kX hx).trans h103), hsR⟩ (by show s.2 - ((s.1 + s.2) / 2 + 1) < s.2 - s.1; omega)
      | exact hJ (s.1, (s.1 + s.2) / 2) ⟨hI.f hij ((kX hx).trans h103), by show (s.1 + s.2) / 2 ≤ _; omega⟩ (by show (s.1 + s.2) / 2 - s.1 < s.2 - s.1; omega)
     ·refine en aA 0 2 [] ?_
      refine sl 0 ?_
      first
      | exact hJ ((s.1 + s.2) / 2 + 1, s.2) ⟨hI.t hij ((kX hx).trans h103), hsR⟩ (by show s.2 - ((s.1 + s.2) / 2 + 1) < s.2 - s.1; omega)
      | exact hJ (s.1, (s.1 + s.2) / 2) ⟨hI.f hij ((kX hx).trans h103), by show (s.1 + s.2) / 2 ≤ _; omega⟩ (by show (s.1 + s.2) / 2 - s.1 < s.2 - s.1; omega)
    ·have hK1 := hI.e (show ¬ s.1 < s.2 by omega)
     have hKR := hI.b
     refine en aA 0 2 [] ?_
     refine sl 0 ?_
     refine c6 1000 (mb' := .r 138 2 ((P ++ (Lw.take Lw.length ++ (y :: (Lw.drop Lw.length ++ Z)))).map aY)) ?_ ?_
     ·rw [hRy, List.take_of_length_le (Nat.le_refl _), List.drop_of_length_le (Nat.le_refl _)]; rfl
     refine aD (σ := Nat) (fun t => K ≤ t ∧ t ≤ Lw.length) (fun t => t)
      (fun t => [(0, .o 1000 n), (14, nI ((P.length + K : Nat) : Int)), (17, nI ((P.length + t : Nat) : Int))])
      (fun t => [(1000, .r 138 2 ((P ++ (Lw.take t ++ (y :: (Lw.drop t ++ Z)))).map aY))]) Lw.length ?_ ?_
     ·exact ⟨by omega, Nat.le_refl _⟩
     ·rintro J t ⟨htK, htl⟩ hJ2
      refine en aA 0 3 [] ?_
      refine si 0 rfl rfl (fun h110 => ?_) (fun h110 => ?_)
      ·have ht : K < t := by omega
       obtain ⟨u, hu⟩ : ∃ u, t = u + 1 := ⟨t - 1, by omega⟩
       subst hu
       obtain ⟨x, hx⟩ := jN (show u < Lw.length by omega)
       obtain ⟨U, hU⟩ : ∃ q, q = P ++ Lw.take u := ⟨_, rfl⟩
       obtain ⟨V, hV⟩ : ∃ q, q = Lw.drop (u + 1) ++ Z := ⟨_, rfl⟩
       refine c6 1000 (mb' := .r 138 2 ((U ++ x :: y :: V).map aY)) ?_ ?_
       ·rw [hU, hV, take_at hx]; simp only [List.append_assoc, List.cons_append, List.nil_append]
       have hUl : U.length = P.length + u := by rw [hU, List.length_append, List.length_take]; omega
       have hVl : V.length = Lw.length - (u + 1) + Z.length := by rw [hV, List.length_append, List.length_drop]
       have hRl : ((U ++ x :: y :: V).map aY).length = n := by
        rw [List.length_map, List.length_append, List.length_cons, List.length_cons]
        omega
       refine jH 0 163840 [0, 0, 0, 0, 8, 0, 0, 64, 224, 480, 0, 0, 3072, 7168, 16355, 32739, 65535, 131071] [0, 1, 2, 3, 4, 5, 6, 7, 8, 9, 10, 11, 12, 13, 14, 15, 16, 17] ?_
       refine xd aA 8 [] ?_
       refine mB aA (U.length) 0 [] (n := n) (z := ((P.length + (u + 1) : Nat) : Int) - 1) (rows := ((U ++ x :: y :: V).map aY)) (by omega) (by omega) (by omega) ?_
       refine r6 aA (U.length) 0 2 [] (row := aY x) (fJ (U := U) (V := y :: V) (x := x) rfl) ?_
       refine mB aA (P.length + (u + 1)) 0 [] (n := n) (z := ((P.length + (u + 1) : Nat) : Int)) (rows := ((U ++ x :: y :: V).map aY)) (by omega) (by omega) (by omega) ?_
       refine r6 aA (P.length + (u + 1)) 0 0 [] (row := aY y) (iM (U := U) (V := V) (x := x) (y := y) (by omega)) ?_
       refine mB aA (P.length + (u + 1)) 0 [] (n := n) (z := ((P.length + (u + 1) : Nat) : Int)) (rows := ((U ++ x :: y :: V).map aY)) (by omega) (by omega) (by omega) ?_
       refine GP aA (P.length + (u + 1)) 0 0 [] (row := aY y) (iM (U := U) (V := V) (x := x) (y := y) (by omega)) ?_
       refine FG aA (U.length) 0 [] (n := n) (z := ((P.length + (u + 1) : Nat) : Int) - 1) (rows := ((U ++ x :: y :: V).map aY).set (P.length + (u + 1)) (aY x)) (by omega) (by rw [List.length_set]; omega) (by rw [List.length_set]; omega) ?_
       refine GP aA (U.length) 0 0 [] (row := aY x) (uY (U := U) (V := V) (x := x) (y := y) (i := U.length) (j := P.length + (u + 1)) rfl (by omega)) ?_
       refine xe ?_
       refine sn aA 0 3 [] ?_
       refine sl 0 ?_
       refine c6 1000 (mb' := .r 138 2 ((P ++ (Lw.take u ++ (y :: (Lw.drop u ++ Z)))).map aY)) ?_ ?_
       ·rw [show (P ++ (Lw.take u ++ (y :: (Lw.drop u ++ Z)))) = U ++ y :: x :: V by (rw [hU, hV, drop_at hx]; simp only [List.append_assoc, List.cons_append, List.nil_append]), ← oW (f := aY) (U := U) (V := V) (x := x) (y := y) (i := U.length) (j := P.length + (u + 1)) rfl (by omega)]; rfl
       exact hJ2 u ⟨by omega, by omega⟩ (by omega)
      ·have htK2 : t = K := by omega
       refine Z8 0 R ?_
       refine ⟨rfl, ?_⟩
       rw [htK2, hRy, BS hl2 hK]
       simp only [List.append_assoc, List.cons_append]
  ·have hr2 : 2 ≤ Rw.length := by omega
   obtain ⟨h2, hh2⟩ : ∃ q, q = (Lw.length + Rw.length) / 2 := ⟨_, rfl⟩
   refine en aA 0 4 [] ?_
   rw [wrap_u64]
   rotate_left
   ·omega
   ·omega
   refine go aA 2 [] ?_
   rw [show a + b = ((P.length + 0 : Nat) : Int) + ((P.length + (Lw.length + Rw.length) : Nat) : Int) by omega, kZ P.length, show (0 + (Lw.length + Rw.length)) / 2 = h2 by omega]
   refine go aA 1 [] ?_
   refine sn aA 0 4 [] ?_
   refine sn aA 0 2 [] ?_
   refine sn aA 0 3 [] ?_
   refine sl 0 ?_
   refine pY (σ := Nat × Nat) (fun s => (h2 < Lw.length ∧ s.1 = h2 + Lw.length - (Lw.length + Rw.length) ∧ s.2 = h2) ∨ (¬ h2 < Lw.length ∧ s.1 = 0 ∧ s.2 = Lw.length)) (fun s => [(0, .o 1000 n), (1, nI a), (2, nI m), (3, nI b), (4, .f cf [] []), (18, nI ((P.length + h2 : Nat) : Int)), (19, nI ((P.length + h2 + (P.length + Lw.length) : Nat) : Int)), (20, nI ((P.length + s.1 : Nat) : Int)), (21, nI ((P.length + s.2 : Nat) : Int))])
    (fun s => [(1000, .r 138 2 ((P ++ (Lw ++ (Rw ++ Z))).map aY))]) (fun J hJ => ?_) (fun s hs => ?_)
   ·refine ei 0 rfl rfl (fun h140 => ?_) (fun h140 => ?_)
    ·refine en aA 0 4 [] ?_
     refine sn aA 0 2 [] ?_
     refine sl 0 ?_
     first
     | exact hJ (h2 + Lw.length - (Lw.length + Rw.length), h2) (.inl ⟨by omega, rfl, rfl⟩)
     | exact hJ (0, Lw.length) (.inr ⟨by omega, rfl, rfl⟩)
    ·refine en aA 0 2 [] ?_
     refine sn aA 0 2 [] ?_
     refine sl 0 ?_
     first
     | exact hJ (h2 + Lw.length - (Lw.length + Rw.length), h2) (.inl ⟨by omega, rfl, rfl⟩)
     | exact hJ (0, Lw.length) (.inr ⟨by omega, rfl, rfl⟩)
   ·have hI0 := W8 (lt := (cH c)) hl hr s.1 s.2 (by rw [← hh2]; exact hs)
    have hSb := W7 (lt := (cH c)) hl hr
    rw [← hh2] at hI0 hSb
    obtain ⟨K, hK⟩ : ∃ q, q = E4 (cH c) Lw Rw := ⟨_, rfl⟩
    rw [← hK] at hI0 hSb
    obtain ⟨hS1, hS2, hS3⟩ := hSb
    refine en aA 0 3 [] ?_
    refine sl 0 ?_
    refine aD (σ := Nat × Nat) (fun u => uG (uF (cH c) Lw Rw h2) K u.1 u.2 ∧ s.1 ≤ u.1 ∧ u.2 ≤ s.2) (fun u => u.2 - u.1)
     (fun u => [(0, .o 1000 n), (1, nI a), (2, nI m), (3, nI b), (4, .f cf [] []), (18, nI ((P.length + h2 : Nat) : Int)), (19, nI ((P.length + h2 + (P.length + Lw.length) : Nat) : Int)), (20, nI ((P.length + u.1 : Nat) : Int)), (21, nI ((P.length + u.2 : Nat) : Int)), (22, nI (((P.length + h2 + (P.length + Lw.length) : Nat) : Int) - 1))])
     (fun u => [(1000, .r 138 2 ((P ++ (Lw ++ (Rw ++ Z))).map aY))]) s ?_ ?_
    ·exact ⟨hI0, Nat.le_refl _, Nat.le_refl _⟩
    ·rintro J u ⟨hI, hu1, hu2⟩ hJ2
     refine en aA 0 3 [] ?_
     refine si 0 rfl rfl (fun h151 => ?_) (fun h151 => ?_)
     ·have hij : u.1 < u.2 := by omega
      obtain ⟨x, hx⟩ := jN (show (u.1 + u.2) / 2 < Lw.length by omega)
      obtain ⟨y, hy⟩ := jN (show h2 - 1 - (u.1 + u.2) / 2 < Rw.length by omega)
      have hRl : ((P ++ (Lw ++ (Rw ++ Z))).map aY).length = n := by rw [List.length_map, hn]
      refine en aA 0 4 [] ?_
      rw [wrap_u64]
      rotate_left
      ·omega
      ·omega
      refine go aA 2 [] ?_
      rw [kZ P.length]
      refine go aA 1 [] ?_
      refine DZ 0 0 [0, 0, 0, 0, 12, 30, 62, 0, 0, 384, 896, 2047, 4095, 8191] [0, 1, 2, 3, 4, 5, 6, 7, 8, 9, 10, 11, 12, 13] ?_
      refine xd aA 5 [] ?_
      refine mB aA (P.length + Lw.length + (h2 - 1 - (u.1 + u.2) / 2)) 0 [] (n := n) (z := ((P.length + h2 + (P.length + Lw.length) : Nat) : Int) - 1 - ((P.length + (u.1 + u.2) / 2 : Nat) : Int)) (rows := ((P ++ (Lw ++ (Rw ++ Z))).map aY)) (by omega) (by omega) (by omega) ?_
      refine r6 aA (P.length + Lw.length + (h2 - 1 - (u.1 + u.2) / 2)) 0 2 [] (row := aY y) (oY (P := P) (L := Lw) (W := Z) (i := h2 - 1 - (u.1 + u.2) / 2) hy (by omega)) ?_
      refine mB aA (P.length + (u.1 + u.2) / 2) 0 [] (n := n) (z := ((P.length + (u.1 + u.2) / 2 : Nat) : Int)) (rows := ((P ++ (Lw ++ (Rw ++ Z))).map aY)) (by omega) (by omega) (by omega) ?_
      refine r6 aA (P.length + (u.1 + u.2) / 2) 0 0 [] (row := aY x) (mK (P := P) (L := Lw) (W := Rw ++ Z) (i := (u.1 + u.2) / 2) hx (by omega)) ?_
      refine dc aA 2 [] (hc y x) ?_
      refine xe ?_
      refine bM 0 rfl rfl (fun h171 => ?_) (fun h171 => ?_)
      ·refine en aA 0 3 [] ?_
       refine sl 0 ?_
       first
       | exact hJ2 ((u.1 + u.2) / 2 + 1, u.2) ⟨hI.t hij ((kY hy hx).trans h171), by show s.1 ≤ (u.1 + u.2) / 2 + 1; omega, hu2⟩ (by show u.2 - ((u.1 + u.2) / 2 + 1) < u.2 - u.1; omega)
       | exact hJ2 (u.1, (u.1 + u.2) / 2) ⟨hI.f hij ((kY hy hx).trans h171), hu1, by show (u.1 + u.2) / 2 ≤ _; omega⟩ (by show (u.1 + u.2) / 2 - u.1 < u.2 - u.1; omega)
      ·refine en aA 0 2 [] ?_
       refine sl 0 ?_
       first
       | exact hJ2 ((u.1 + u.2) / 2 + 1, u.2) ⟨hI.t hij ((kY hy hx).trans h171), by show s.1 ≤ (u.1 + u.2) / 2 + 1; omega, hu2⟩ (by show u.2 - ((u.1 + u.2) / 2 + 1) < u.2 - u.1; omega)
       | exact hJ2 (u.1, (u.1 + u.2) / 2) ⟨hI.f hij ((kY hy hx).trans h171), hu1, by show (u.1 + u.2) / 2 ≤ _; omega⟩ (by show (u.1 + u.2) / 2 - u.1 < u.2 - u.1; omega)
     ·have hK1 := hI.e (show ¬ u.1 < u.2 by omega)
      obtain ⟨e, he⟩ : ∃ q, q = h2 - K := ⟨_, rfl⟩
      obtain ⟨L1, hL1⟩ : ∃ q, q = Lw.take K := ⟨_, rfl⟩
      obtain ⟨L2, hL2⟩ : ∃ q, q = Lw.drop K := ⟨_, rfl⟩
      obtain ⟨R1, hR1⟩ : ∃ q, q = Rw.take e := ⟨_, rfl⟩
      obtain ⟨R2, hR2⟩ : ∃ q, q = Rw.drop e := ⟨_, rfl⟩
      have l1 : L1.length = K := by rw [hL1, List.length_take]; omega
      have l2 : L2.length = Lw.length - K := by rw [hL2, List.length_drop]
      have r1 : R1.length = e := by rw [hR1, List.length_take]; omega
      have r2 : R2.length = Rw.length - e := by rw [hR2, List.length_drop]
      have eL : Lw = L1 ++ L2 := by rw [hL1, hL2, List.take_append_drop]
      have eR : Rw = R1 ++ R2 := by rw [hR1, hR2, List.take_append_drop]
      have hn3 : n = (P ++ (L1 ++ (R1 ++ (L2 ++ (R2 ++ Z))))).length := by simp only [List.length_append]; omega
      refine en aA 0 4 [] ?_ (hφ := by simp only [aE]; omega)
      refine sn aA 0 8 [] ?_
      refine sl 0 ?_
      refine pY (σ := Unit) (fun _ => True) (fun _ => [(0, .o 1000 n), (1, nI a), (2, nI m), (3, nI b), (4, .f cf [] []), (18, nI ((P.length + h2 : Nat) : Int)), (20, nI ((P.length + K : Nat) : Int)), (24, nI ((P.length + Lw.length + e : Nat) : Int))])
       (fun _ => [(1000, .r 138 2 ((P ++ (L1 ++ (R1 ++ (L2 ++ (R2 ++ Z))))).map aY))]) (fun J hJ => ?_) (fun _ _ => ?_)
      ·refine Z2 0 rfl rfl (fun h185 => ?_) (fun h185 => ?_)
       ·rw [Bool.and_eq_true, decide_eq_true_eq, decide_eq_true_eq] at h185
        refine c6 1000 (mb' := .r 138 2 (((P ++ L1) ++ (L2 ++ (R1 ++ (R2 ++ Z)))).map aY)) ?_ ?_
        ·rw [eL, eR]; simp only [List.append_assoc]
        refine en aA 0 5 [] ?_
        refine fp aA 1000 0 [] (VJ (P := P ++ L1) (Lw := L2) (Rw := R1) (Z := R2 ++ Z) (n := n) (a := ((P.length + u.1 : Nat) : Int)) (m := m) (b := ((P.length + h2 + (P.length + Lw.length) : Nat) : Int) - ((P.length + u.1 : Nat) : Int)) (by rw [hn3]; simp only [List.length_append]; omega) (by simp only [List.length_append]; omega) (by simp only [List.length_append]; omega) (by simp only [List.length_append]; omega) (by omega) (by omega) hz) ?_
        refine sl 0 ?_
        refine c6 1000 (mb' := .r 138 2 ((P ++ (L1 ++ (R1 ++ (L2 ++ (R2 ++ Z))))).map aY)) ?_ ?_
        ·first
         | (simp only [List.append_assoc]; done)
         | (rw [Bool.and_eq_false_iff, decide_eq_false_iff_not, decide_eq_false_iff_not] at h185; rw [eL, eR, List.append_assoc, List.append_assoc, mL (A := L2) (B := R1) (by rw [← List.length_eq_zero_iff, ← List.length_eq_zero_iff]; omega)])
        exact hJ () trivial
       ·refine el 0 ?_
        refine c6 1000 (mb' := .r 138 2 ((P ++ (L1 ++ (R1 ++ (L2 ++ (R2 ++ Z))))).map aY)) ?_ ?_
        ·first
         | (simp only [List.append_assoc]; done)
         | (rw [Bool.and_eq_false_iff, decide_eq_false_iff_not, decide_eq_false_iff_not] at h185; rw [eL, eR, List.append_assoc, List.append_assoc, mL (A := L2) (B := R1) (by rw [← List.length_eq_zero_iff, ← List.length_eq_zero_iff]; omega)])
        exact hJ () trivial
      ·refine en aA 0 8 [] ?_
       refine sl 0 ?_
       refine pY (σ := Unit) (fun _ => True) (fun _ => [(0, .o 1000 n), (1, nI a), (2, nI m), (3, nI b), (4, .f cf [] []), (18, nI ((P.length + h2 : Nat) : Int)), (24, nI ((P.length + Lw.length + e : Nat) : Int))])
        (fun _ => [(1000, .r 138 2 ((P ++ (m6 (cH c) f L1 R1 ++ (L2 ++ (R2 ++ Z)))).map aY))]) (fun J hJ => ?_) (fun _ _ => ?_)
       ·refine Z2 0 rfl rfl (fun h199 => ?_) (fun h199 => ?_)
        ·rw [Bool.and_eq_true, decide_eq_true_eq, decide_eq_true_eq] at h199
         refine en aA 0 5 [] ?_
         refine fp aA 1000 0 [] (ih (P := P) (Lw := L1) (Rw := R1) (Z := L2 ++ (R2 ++ Z)) (n := n) (a := a) (m := ((P.length + K : Nat) : Int)) (b := ((P.length + h2 : Nat) : Int)) hn3 ha (by omega) (by omega) (by omega) (by omega) (by omega) hz) ?_
         refine sl 0 ?_
         first
         | exact hJ () trivial
         | (refine c6 1000 (mb' := .r 138 2 ((P ++ (m6 (cH c) f L1 R1 ++ (L2 ++ (R2 ++ Z)))).map aY)) ?_ ?_; rotate_left; exact hJ () trivial; rw [Bool.and_eq_false_iff, decide_eq_false_iff_not, decide_eq_false_iff_not] at h199; rw [eP (f := f) (L := L1) (R := R1) (by rw [← List.length_eq_zero_iff, ← List.length_eq_zero_iff]; omega), List.append_assoc])
        ·refine el 0 ?_
         first
         | exact hJ () trivial
         | (refine c6 1000 (mb' := .r 138 2 ((P ++ (m6 (cH c) f L1 R1 ++ (L2 ++ (R2 ++ Z)))).map aY)) ?_ ?_; rotate_left; exact hJ () trivial; rw [Bool.and_eq_false_iff, decide_eq_false_iff_not, decide_eq_false_iff_not] at h199; rw [eP (f := f) (L := L1) (R := R1) (by rw [← List.length_eq_zero_iff, ← List.length_eq_zero_iff]; omega), List.append_assoc])
       ·refine en aA 0 8 [] ?_
        refine bM 0 rfl rfl (fun h213 => ?_) (fun h213 => ?_)
        ·rw [Bool.and_eq_true, decide_eq_true_eq, decide_eq_true_eq] at h213
         refine c6 1000 (mb' := .r 138 2 (((P ++ m6 (cH c) f L1 R1) ++ (L2 ++ (R2 ++ Z))).map aY)) ?_ ?_
         ·simp only [List.append_assoc]
         refine en aA 0 5 [] ?_
         refine fp aA 1000 0 [] (ih (P := P ++ m6 (cH c) f L1 R1) (Lw := L2) (Rw := R2) (Z := Z) (n := n) (a := ((P.length + h2 : Nat) : Int)) (m := ((P.length + Lw.length + e : Nat) : Int)) (b := b) (by rw [hn3]; simp only [List.length_append, gV]; omega) (by simp only [List.length_append, gV]; omega) (by simp only [List.length_append, gV]; omega) (by simp only [List.length_append, gV]; omega) (by omega) (by omega) (by omega) hz) ?_
         refine PU 0 R ?_
         refine ⟨rfl, ?_⟩
         rw [q8 hl2 hr2 hK (show e = (Lw.length + Rw.length) / 2 - K by omega), ← hL1, ← hL2, ← hR1, ← hR2]
         first
         | (simp only [List.append_assoc]; done)
         | (rw [Bool.and_eq_false_iff, decide_eq_false_iff_not, decide_eq_false_iff_not] at h213; rw [eP (f := f) (L := L2) (R := R2) (by rw [← List.length_eq_zero_iff, ← List.length_eq_zero_iff]; omega)]; simp only [List.append_assoc])
        ·refine HM 0 R ?_
         refine ⟨rfl, ?_⟩
         rw [q8 hl2 hr2 hK (show e = (Lw.length + Rw.length) / 2 - K by omega), ← hL1, ← hL2, ← hR1, ← hR2]
         first
         | (simp only [List.append_assoc]; done)
         | (rw [Bool.and_eq_false_iff, decide_eq_false_iff_not, decide_eq_false_iff_not] at h213; rw [eP (f := f) (L := L2) (R := R2) (by rw [← List.length_eq_zero_iff, ← List.length_eq_zero_iff]; omega)]; simp only [List.append_assoc])
theorem B7 {cf : Nat} {c : Lb → Lb → Int} (hc : ∀ x y : Lb, Fc Tryz.prog gT cf [.a (aY x), .a (aY y)] (nI (c x y))) : ∀ F, ∀ {P Lw Rw Z : List Lb} {n : Nat} {a m b : Int}, n = (P ++ (Lw ++ (Rw ++ Z))).length → a = P.length → m = ((P.length + Lw.length : Nat) : Int) → b = ((P.length + Lw.length + Rw.length : Nat) : Int) → 0 < Lw.length → 0 < Rw.length → Lw.length + Rw.length ≤ F → n ≤ 10000000000000 → Fp Tryz.prog gT 316 [.o 1000 n, nI a, nI m, nI b, .f cf [] []] (.r 138 2 ((P ++ (Lw ++ (Rw ++ Z))).map aY)) (.t []) (.r 138 2 ((P ++ (m6 (cH c) F Lw Rw ++ Z)).map aY))
 | 0 => fun _ _ _ _ hl _ hf _ => absurd hf (by omega)
 | F + 1 => fun hn ha hm hb hl hr hf hz => VK hc (B7 hc F) hn ha hm hb hl hr hf hz
set_option maxHeartbeats 1000000 in
theorem VL {S : List Lb} {n cf : Nat} {c : Lb → Lb → Int} (hc : ∀ x y : Lb, Fc Tryz.prog gT cf [.a (aY x), .a (aY y)] (nI (c x y))) (hn : n = S.length) (hz : n ≤ 10000000000000) : Fp Tryz.prog gT 283 [.o 1000 n, nI n, .f cf [] []] (.r 138 2 (S.map aY)) (.t []) (.r 138 2 ((dD (cH c) S).map aY)) := by
 refine lU aA (fn := Tryz.f283) 63 [] Tryz.func283 Tryz.results283 (fun g0 B0 Q ρ0 R => ?_)
 obtain ⟨T0, hT0⟩ : ∃ q, q = wW (cH c) (S.length + 1) S := ⟨_, rfl⟩
 obtain ⟨T, hT⟩ : ∃ q, q = dD (cH c) S := ⟨_, rfl⟩
 rw [← hT] at R
 have hTl : T0.length = n := by rw [hT0, hn]; exact rC _ _ (Nat.lt_succ_self _)
 refine en aA 0 1 [] ?_
 refine sn aA 0 3 [] ?_
 refine sl 0 ?_
 refine aD (σ := List Lb × List Lb) (fun s => YB (cH c) T0 s.1 s.2 ∧ s.1.length + s.2.length = n) (fun s => s.2.length)
  (fun s => [(0, .o 1000 n), (1, nI n), (2, .f cf [] []), (6, nI 20), (7, nI ((s.1.length : Nat) : Int)), (8, nI ((s.1.length + 20 : Nat) : Int))])
  (fun s => [(1000, .r 138 2 ((s.1 ++ s.2).map aY))]) ([], S) ?_ ?_
 ·exact ⟨⟨S.length + 1, Nat.lt_succ_self _, hT0.symm⟩, by rw [hn]; exact Nat.zero_add _⟩
 ·rintro J s ⟨hI, hl⟩ hJ
  refine en aA 0 3 [] ?_
  refine si 0 rfl rfl (fun h13 => ?_) (fun h13 => ?_)
  ·have h20 : 20 ≤ s.2.length := by omega
   refine c6 1000 (mb' := .r 138 2 ((s.1 ++ (s.2.take 20 ++ s.2.drop 20)).map aY)) ?_ ?_
   ·rw [List.take_append_drop]
   refine en aA 0 4 [] ?_
   refine fp aA 1000 0 [] (KT (P := s.1) (S := s.2.take 20) (Z := s.2.drop 20) (n := n) (a := ((s.1.length : Nat) : Int)) (b := ((s.1.length + 20 : Nat) : Int)) hc (by rw [List.take_append_drop, List.length_append]; omega) rfl (by rw [List.length_take]; omega) hz) ?_
   refine sn aA 0 2 [] ?_
   refine sn aA 0 4 [] ?_
   refine sl 0 ?_
   refine c6 1000 (mb' := .r 138 2 (((s.1 ++ bG (cH c) (s.2.take 20)) ++ s.2.drop 20).map aY)) ?_ ?_
   ·simp only [List.append_assoc]
   exact hJ (s.1 ++ bG (cH c) (s.2.take 20), s.2.drop 20) ⟨hI.go h20, by rw [List.length_append, eE, List.length_take, List.length_drop]; omega⟩ (by rw [List.length_drop]; omega) (by first | exact ⟨rfl, rfl, rfl, rfl, vO (by rw [List.length_append, eE, List.length_take]; omega), vO (by rw [List.length_append, eE, List.length_take]; omega), trivial⟩)
  ·have h20 : ¬ 20 ≤ s.2.length := by omega
   refine c6 1000 (mb' := .r 138 2 ((s.1 ++ (s.2 ++ [])).map aY)) ?_ ?_
   ·rw [List.append_nil]
   refine en aA 0 4 [] ?_
   refine fp aA 1000 0 [] (KT (P := s.1) (S := s.2) (Z := []) (n := n) (a := ((s.1.length : Nat) : Int)) (b := n) hc (by rw [List.append_nil, List.length_append]; omega) rfl (by omega) hz) ?_
   refine sl 0 ?_
   refine c6 1000 (mb' := .r 138 2 (T0.map aY)) ?_ ?_
   ·rw [List.append_nil, hI.stop h20]
   refine aD (σ := Nat × List Lb) (fun u => 0 < u.1 ∧ YC (cH c) T u.1 u.2 ∧ u.2.length = n) (fun u => n - u.1)
    (fun u => [(0, .o 1000 n), (1, nI n), (2, .f cf [] []), (6, nI ((u.1 : Nat) : Int))])
    (fun u => [(1000, .r 138 2 (u.2.map aY))]) (20, T0) ?_ ?_
   ·exact ⟨Nat.zero_lt_succ 19, ⟨S.length + 1, by rw [hTl, hn]; omega, by rw [hT, hT0]; rfl⟩, hTl⟩
   ·rintro J u ⟨hu0, hP, hul⟩ hJ2
    refine en aA 0 3 [] ?_
    refine si 0 rfl rfl (fun h30 => ?_) (fun h30 => ?_)
    ·have hzn : u.1 < u.2.length := by omega
     have hbl := q9 (lt := (cH c)) hu0 (u.2.length + 1) u.2 (Nat.lt_succ_self _)
     refine en aA 0 4 [] ?_
     refine sl 0 ?_
     refine aD (σ := List Lb × List Lb) (fun v => U1 (cH c) u.1 (jC (cH c) u.1 (u.2.length + 1) u.2) v.1 v.2 ∧ v.1.length + v.2.length = n) (fun v => v.2.length)
      (fun v => [(0, .o 1000 n), (1, nI n), (2, .f cf [] []), (6, nI ((u.1 : Nat) : Int)), (7, nI ((v.1.length : Nat) : Int)), (8, nI ((v.1.length + 2 * u.1 : Nat) : Int))])
      (fun v => [(1000, .r 138 2 ((v.1 ++ v.2).map aY))]) ([], u.2) ?_ ?_
     ·exact ⟨⟨u.2.length + 1, Nat.lt_succ_self _, rfl⟩, by rw [← hul]; exact Nat.zero_add _⟩
     ·rintro J v ⟨hM, hvl⟩ hJ3
      refine en aA 0 3 [] ?_
      refine si 0 rfl rfl (fun h35 => ?_) (fun h35 => ?_)
      ·have h2z : 2 * u.1 ≤ v.2.length := by omega
       refine c6 1000 (mb' := .r 138 2 ((v.1 ++ (v.2.take u.1 ++ ((v.2.drop u.1).take u.1 ++ v.2.drop (2 * u.1)))).map aY)) ?_ ?_
       ·rw [U2]
       refine en aA 0 7 [] ?_
       refine fp aA 1000 0 [] (B7 hc ((v.2.take u.1).length + ((v.2.drop u.1).take u.1).length) (P := v.1) (Lw := v.2.take u.1) (Rw := (v.2.drop u.1).take u.1) (Z := v.2.drop (2 * u.1)) (n := n) (a := ((v.1.length : Nat) : Int)) (m := ((v.1.length : Nat) : Int) + ((u.1 : Nat) : Int)) (b := ((v.1.length + 2 * u.1 : Nat) : Int)) (by rw [U2, List.length_append]; omega) rfl (by simp only [List.length_take]; omega) (by simp only [List.length_take, List.length_drop]; omega) (by simp only [List.length_take]; omega) (by simp only [List.length_take, List.length_drop]; omega) (Nat.le_refl _) hz) ?_
       refine sn aA 0 2 [] ?_
       refine sn aA 0 5 [] ?_
       refine sl 0 ?_
       refine c6 1000 (mb' := .r 138 2 (((v.1 ++ yO (cH c) (v.2.take u.1) ((v.2.drop u.1).take u.1)) ++ v.2.drop (2 * u.1)).map aY)) ?_ ?_
       ·simp only [List.append_assoc]; rfl
       exact hJ3 (v.1 ++ yO (cH c) (v.2.take u.1) ((v.2.drop u.1).take u.1), v.2.drop (2 * u.1)) ⟨hM.go hu0 h2z, by rw [List.length_append, jD]; simp only [List.length_take, List.length_drop]; omega⟩ (by rw [List.length_drop]; omega) (by first | exact ⟨rfl, rfl, rfl, rfl, vO (by rw [List.length_append, jD]; simp only [List.length_take, List.length_drop]; omega), vO (by rw [List.length_append, jD]; simp only [List.length_take, List.length_drop]; omega), trivial⟩)
      ·have h2z : ¬ 2 * u.1 ≤ v.2.length := by omega
       refine en aA 0 4 [] ?_
       refine sn aA 0 3 [] ?_
       refine si 0 rfl rfl (fun h54 => ?_) (fun h54 => ?_)
       ·have hzl : u.1 < v.2.length := by omega
        refine c6 1000 (mb' := .r 138 2 ((v.1 ++ (v.2.take u.1 ++ (v.2.drop u.1 ++ []))).map aY)) ?_ ?_
        ·rw [List.append_nil, List.take_append_drop]
        refine en aA 0 5 [] ?_
        refine fp aA 1000 0 [] (B7 hc ((v.2.take u.1).length + (v.2.drop u.1).length) (P := v.1) (Lw := v.2.take u.1) (Rw := v.2.drop u.1) (Z := []) (n := n) (a := ((v.1.length : Nat) : Int)) (m := ((v.1.length : Nat) : Int) + ((u.1 : Nat) : Int)) (b := n) (by rw [List.append_nil, List.take_append_drop, List.length_append]; omega) rfl (by simp only [List.length_take]; omega) (by simp only [List.length_take, List.length_drop]; omega) (by simp only [List.length_take]; omega) (by simp only [List.length_drop]; omega) (Nat.le_refl _) hz) ?_
        refine sn aA 0 3 [] ?_
        refine sl 0 ?_
        refine c6 1000 (mb' := .r 138 2 ((jC (cH c) u.1 (u.2.length + 1) u.2).map aY)) ?_ ?_
        ·first
         | rw [← hM.stop h2z hzl]
         | rw [← hM.one h2z hzl, List.append_nil]; rfl
        exact hJ2 (2 * u.1, jC (cH c) u.1 (u.2.length + 1) u.2) ⟨by show 0 < 2 * u.1; omega, hP.go hu0 hzn hbl, by show (jC (cH c) u.1 (u.2.length + 1) u.2).length = n; omega⟩ (by show n - 2 * u.1 < n - u.1; omega)
       ·have hzl : ¬ u.1 < v.2.length := by omega
        refine en aA 0 3 [] ?_
        refine sl 0 ?_
        refine c6 1000 (mb' := .r 138 2 ((jC (cH c) u.1 (u.2.length + 1) u.2).map aY)) ?_ ?_
        ·first
         | rw [← hM.stop h2z hzl]
         | rw [← hM.one h2z hzl, List.append_nil]; rfl
        exact hJ2 (2 * u.1, jC (cH c) u.1 (u.2.length + 1) u.2) ⟨by show 0 < 2 * u.1; omega, hP.go hu0 hzn hbl, by show (jC (cH c) u.1 (u.2.length + 1) u.2).length = n; omega⟩ (by show n - 2 * u.1 < n - u.1; omega)
    ·have hzn : ¬ u.1 < u.2.length := by omega
     refine HM 0 R ?_
     exact ⟨rfl, by rw [hP.stop hzn]⟩
theorem VM {S : List Lb} {n cf : Nat} {c : Lb → Lb → Int} (hc : ∀ x y : Lb, Fc Tryz.prog gT cf [.a (aY x), .a (aY y)] (nI (c x y))) (hn : n = S.length) (hz : n ≤ 10000000000000) : Fp Tryz.prog gT 220 [.o 1000 n, .f cf [] []] (.r 138 2 (S.map aY)) (.t []) (.r 138 2 ((dD (cH c) S).map aY)) := by
 refine lU aA (fn := Tryz.f220) 9 [] Tryz.func220 Tryz.results220 (fun g0 B0 Q ρ0 R => ?_)
 refine en aA 0 4 [] ?_
 refine fp aA 1000 0 [] (VL (n := n) hc hn hz) ?_
 refine PU 0 R ?_
 exact ⟨rfl, rfl⟩
end Go.Proofs.YtomkgfdigldhcaaGreatDoor
namespace Go.Proofs.YtomkgfdigldhcaaGreatDoor
open Go.KX
theorem KU {w : World} (a b : Lb) : (Op.eqFields 9999 #[str a.n, str a.v] #[str b.n, str b.v] (match Tryz.prog.underlying 138 with | some (.struct fl) => fl | _ => #[]).toList).run Tryz.prog w = .ok (decide (a = b)) w := by
 rw [Tryz.underlying138]
 dsimp only
 rw [I0 (by decide) Tryz.underlying9 rfl rfl, I0 (by decide) Tryz.underlying9 rfl rfl]
 obtain ⟨a1, a2⟩ := a
 obtain ⟨b1, b2⟩ := b
 simp only [Lb.mk.injEq, decide_eq_true_eq]
 repeat (split <;> (try simp_all [Op.eqFields]))
theorem M7 {s : Bytes} (hs : s.length ≤ jZ) : Fc Tryz.prog gT 219 [.str s] (bS (nameB s)) := by
 refine fb aA (fn := Tryz.f219) 46 [.tmp 2] Tryz.func219 Tryz.results219 (fun g0 B0 Q ρ0 R => ?_)
 unfold jZ at hs
 refine en aA 0 1 [] ?_
 refine sn aA 0 3 [] ?_
 refine sl 0 ?_
 refine aD (σ := Nat) (fun j => j ≤ s.length ∧ l3 true (s.take j) = true) (fun j => s.length - j)
  (fun j => [(0, .str s), (6, nI s.length), (7, nI j)])
  (fun j => []) 0 ?_ ?_
 ·exact ⟨Nat.zero_le _, by cases s <;> rfl⟩
 ·rintro J j ⟨hj0, hj1⟩ hJ
  refine en aA 0 1 [] ?_
  refine si 0 rfl rfl (fun h8 => ?_) (fun h8 => ?_)
  ·have hj : j < s.length := by omega
   have ec : s.getD j 0 = s[j] := by rw [List.getD_eq_getElem?_getD, List.getElem?_eq_getElem hj]; rfl
   obtain ⟨z, hz⟩ : ∃ q, q = ((s[j].toNat : Nat) : Int) := ⟨_, rfl⟩
   refine en aA 0 2 [] ?_
   refine sn aA 0 4 [] ?_
   refine jR 4 rfl (v' := .v (.int .u8 z)) (by rw [hz, ← ec]; rfl) ?_
   refine sn aA 0 7 [] ?_
   refine bM 0 rfl rfl (fun h13 => ?_) (fun h13 => ?_)
   ·have hc : mX (decide (j = 0)) s[j] = true := by
     simp only [Bool.and_eq_true, decide_eq_true_eq] at h13
     unfold mX
     rw [← hz]
     exact decide_eq_true (.inl (by omega))
    refine jG 13 rfl (v' := bS true) (congrArg bS h13) ?_
    refine en aA 1 2 [] ?_
    refine sl 0 ?_
    exact hJ (j + 1) ⟨by omega, kH hj hj1 (by rw [Bool.true_and]; exact hc)⟩ (by omega)
   ·have q1 := h13
    refine en aA 0 7 [] ?_
    refine bM 0 rfl rfl (fun h13 => ?_) (fun h13 => ?_)
    ·have hc : mX (decide (j = 0)) s[j] = true := by
      simp only [Bool.and_eq_true, decide_eq_true_eq] at h13
      unfold mX
      rw [← hz]
      exact decide_eq_true (.inr (.inl (by omega)))
     refine jG 13 rfl (v' := bS true) (congrArg bS h13) ?_
     refine en aA 1 2 [] ?_
     refine sl 0 ?_
     exact hJ (j + 1) ⟨by omega, kH hj hj1 (by rw [Bool.true_and]; exact hc)⟩ (by omega)
    ·have q2 := h13
     refine en aA 0 3 [] ?_
     refine bM 0 rfl rfl (fun h13 => ?_) (fun h13 => ?_)
     ·have hc : mX (decide (j = 0)) s[j] = true := by
       simp only [decide_eq_true_eq] at h13
       unfold mX
       rw [← hz]
       exact decide_eq_true (.inr (.inr (.inl (by omega))))
      refine jG 13 rfl (v' := bS true) (congrArg bS h13) ?_
      refine en aA 1 2 [] ?_
      refine sl 0 ?_
      exact hJ (j + 1) ⟨by omega, kH hj hj1 (by rw [Bool.true_and]; exact hc)⟩ (by omega)
     ·have q3 := h13
      refine en aA 0 11 [] ?_
      refine bM 0 rfl rfl (fun h13 => ?_) (fun h13 => ?_)
      ·have hc : mX (decide (j = 0)) s[j] = true := by
        simp only [Bool.and_eq_true, decide_eq_true_eq] at h13
        unfold mX
        rw [← hz]
        exact decide_eq_true (.inr (.inr (.inr ⟨by simp only [decide_eq_false_iff_not]; omega, by omega, by omega⟩)))
       refine en aA 0 2 [] ?_
       refine sl 0 ?_
       exact hJ (j + 1) ⟨by omega, kH hj hj1 (by rw [Bool.true_and]; exact hc)⟩ (by omega)
      ·have hb : nameB s = false := by
        have hc : mX (decide (j = 0)) s[j] = false := by
         simp only [Bool.and_eq_false_iff, decide_eq_false_iff_not] at q1 q2 q3 h13
         unfold mX
         rw [← hz]
         refine decide_eq_false ?_
         rintro (h | h | h | ⟨h0, h⟩)
         ·omega
         ·omega
         ·omega
         ·simp only [decide_eq_false_iff_not] at h0
          omega
        unfold nameB
        rw [zU hj (by rw [Bool.true_and]; exact hc)]
        rfl
       refine en aA 0 1 [] ?_
       refine sr 0 R ?_
       rw [hb]; rfl
  ·have hb : l3 true s = true := by
    rw [List.take_of_length_le (by omega)] at hj1
    exact hj1
   refine en aA 0 8 [] ?_
   refine sr 0 R ?_
   refine congrArg bS ?_
   unfold nameB
   rw [hb, Bool.true_and]
   refine congrArg (fun b => decide (¬ s = []) && b) ?_
   exact decide_eq_decide.2 (by omega)
theorem AB {x y : Lb} : Fc Tryz.prog gT 153 [.a (aY x), .a (aY y)] (nI (eZ x y)) := by
 refine fb aA (fn := Tryz.f153) 10 [.tmp 4] Tryz.func153 Tryz.results153 (fun g0 B0 Q ρ0 R => ?_)
 refine en aA 0 3 [] ?_
 refine sn aA 0 4 [] ?_
 refine fc aA 1 [] (KR (a := x.n) (b := y.n)) ?_
 refine sr 0 R ?_
 rfl
theorem Q3 {x y : Lb} : Fc Tryz.prog gT 152 [.a (aY x), .a (aY y)] (nI (eQ x y)) := by
 refine fb aA (fn := Tryz.f152) 17 [.tmp 4] Tryz.func152 Tryz.results152 (fun g0 B0 Q ρ0 R => ?_)
 refine en aA 0 3 [] ?_
 refine sn aA 0 2 [] ?_
 refine fc aA 1 [] (AB) ?_
 refine sn aA 0 2 [] ?_
 refine si 0 rfl rfl (fun h10 => ?_) (fun h10 => ?_)
 ·have e : eQ x y = eZ x y := if_neg h10
  refine en aA 0 2 [] ?_
  refine sr 0 R ?_
  rw [e]; rfl
 ·have e : eQ x y = gZ x.v y.v := if_pos (by simpa [eZ] using h10)
  refine en aA 0 4 [] ?_
  refine fc aA 1 [] (KR) ?_
  refine sr 0 R ?_
  rw [e]; rfl
theorem Q4 {l m : List Lb} {cf : Nat} {c : Lb → Lb → Int} (hc : ∀ x y : Lb, Fc Tryz.prog gT cf [.a (aY x), .a (aY y)] (nI (c x y))) : Fc Tryz.prog gT 151 [rL l, rL m, .f cf [] []] (nI (dS c l m)) := by
 refine fb aA (fn := Tryz.f151) 39 [.tmp 6] Tryz.func151 Tryz.results151 (fun g0 B0 Q ρ0 R => ?_)
 refine lM 0 rfl (fun hl => ?_)
 refine lM 1 rfl (fun hm => ?_)
 simp only [List.length_map] at hl hm
 refine en aA 0 1 [] ?_
 refine sn aA 0 3 [] ?_
 refine sl 0 ?_
 refine jG 12 rfl (v' := nI l.length) (by simp) ?_
 refine aD (σ := Nat) (fun i => i ≤ l.length ∧ i ≤ m.length ∧ dS c l m = dS c (l.drop i) (m.drop i)) (fun i => l.length - i)
  (fun i => [(0, rL l), (1, rL m), (2, .f cf [] []), (11, rL l), (12, nI l.length), (13, nI i)])
  (fun i => []) 0 ?_ ?_
 ·exact ⟨Nat.zero_le _, Nat.zero_le _, rfl⟩
 ·rintro J i ⟨hi0, hi1, hi2⟩ hJ
  refine en aA 0 1 [] ?_
  refine si 0 rfl rfl (fun h14 => ?_) (fun h14 => ?_)
  ·have hi : i < l.length := by omega
   refine en aA 0 6 [aY l[i]] ?_ (hφ := by exact ⟨by omega, aO _ hi⟩)
   refine sn aA 0 4 [] ?_
   refine si 0 rfl rfl (fun h21 => ?_) (fun h21 => ?_)
   ·have e : dS c l m = 1 := by
     rw [hi2]
     simp only [List.length_map] at h21
     exact QP hi (by omega)
    refine en aA 0 1 [] ?_
    refine sr 0 R ?_
    rw [e]; rfl
   ·have him : i < m.length := by
     simp only [List.length_map] at h21
     omega
    refine en aA 0 6 [aY m[i]] ?_ (hφ := by exact ⟨by omega, aO _ him⟩)
    refine sn aA 0 3 [] ?_
    refine fc aA 1 [] (hc l[i] m[i]) ?_
    refine sn aA 0 2 [] ?_
    refine si 0 rfl rfl (fun h31 => ?_) (fun h31 => ?_)
    ·have e : dS c l m = c l[i] m[i] := by rw [hi2, o4 hi him, if_neg h31]
     refine en aA 0 2 [] ?_
     refine sr 0 R ?_
     rw [e]; rfl
    ·refine en aA 0 2 [] ?_
     refine sl 0 ?_
     exact hJ (i + 1) ⟨by omega, by omega, by rw [hi2, o4 hi him, if_pos (by simpa using h31)]⟩ (by omega)
  ·have e := hi2.trans (H6 (by omega))
   refine en aA 0 5 [] ?_
   refine si 0 rfl rfl (fun h38 => ?_) (fun h38 => ?_)
   ·simp only [List.length_map] at h38
    have e2 : i < m.length := by omega
    rw [if_pos e2] at e
    refine en aA 0 1 [] ?_
    refine sr 0 R ?_
    rw [e]; rfl
   ·simp only [List.length_map] at h38
    have e2 : ¬ i < m.length := by omega
    rw [if_neg e2] at e
    refine en aA 0 1 [] ?_
    refine sr 0 R ?_
    rw [e]; rfl
theorem tW {l m : List Lb} : Fc Tryz.prog gT 105 [rL l, rL m] (nI (KC l m)) := by
 refine fb aA (fn := Tryz.f105) 8 [.tmp 4] Tryz.func105 Tryz.results105 (fun g0 B0 Q ρ0 R => ?_)
 refine en aA 0 1 [] ?_
 refine sn aA 0 2 [] ?_
 refine fc aA 1 [] (Q4 (l := l) (m := m) (fun x y => Q3)) ?_
 refine sr 0 R ?_
 rfl
theorem Q5 {x : Lb} (hx : x.n.length ≤ jZ) : Fc Tryz.prog gT 218 [.a (aY x)] (bS (!lG x)) := by
 refine fb aA (fn := Tryz.f218) 18 [.tmp 2] Tryz.func218 Tryz.results218 (fun g0 B0 Q ρ0 R => ?_)
 refine en aA 0 2 [] ?_
 refine sn aA 0 2 [] ?_
 refine fc aA 13 [] (M7 (s := x.n) hx) ?_
 refine sr 0 R ?_
 refine congrArg bS ?_
 unfold lG
 cases nameB x.n <;> by_cases h1 : x.v = [] <;> by_cases h2 : x.v.length ≤ 128 <;> simp [h1, h2] <;> omega
theorem KV {l : List Lb} {fn : FuncId} {ca : List SV} {p : Lb → Bool} (hs : ∀ v ∈ l, Fc Tryz.prog gT fn (.a (aY v) :: ca) (bS (p v))) : Fc Tryz.prog gT 252 [rL l, .f fn [] ca] (nI (jS p l)) := by
 refine fb aA (fn := Tryz.f252) 19 [.tmp 4] Tryz.func252 Tryz.results252 (fun g0 B0 Q ρ0 R => ?_)
 refine en aA 0 1 [] ?_
 refine sn aA 0 3 [] ?_
 refine sl 0 ?_
 refine aD (σ := Nat) (fun j => j ≤ l.length ∧ ∀ x ∈ l.take j, p x = false) (fun j => l.length - j)
  (fun j => [(0, rL l), (1, .f fn [] ca), (4, nI 0), (7, nI l.length), (8, nI j)])
  (fun j => []) 0 ?_ ?_
 ·exact ⟨Nat.zero_le _, by simp⟩
 ·rintro J j ⟨hj0, hj1⟩ hJ
  refine lM 0 rfl (fun hl => ?_)
  simp only [List.length_map] at hl
  refine en aA 0 1 [] ?_
  refine si 0 rfl rfl (fun h9 => ?_) (fun h9 => ?_)
  ·have hj : j < l.length := by omega
   refine en aA 0 2 [] ?_
   refine sn aA 0 5 [aY l[j]] ?_ (hφ := by exact ⟨by omega, aO _ hj⟩)
   refine fc aA 0 [] (hs l[j] (List.getElem_mem hj)) ?_
   refine bM 0 rfl rfl (fun h16 => ?_) (fun h16 => ?_)
   ·have e := iK hj hj1 h16
    refine en aA 0 2 [] ?_
    refine sr 0 R ?_
    rw [e]; rfl
   ·have hx := h16
    refine en aA 0 2 [] ?_
    exact hJ (j + 1) ⟨by omega, bH hj hj1 hx⟩ (by omega)
  ·have e := iJ (p := p) (fun x hx => hj1 x (by rw [List.take_of_length_le (by omega)]; exact hx))
   refine en aA 0 1 [] ?_
   refine sr 0 R ?_
   rw [e]; rfl
theorem FS {l : List Lb} {fn : FuncId} {ca : List SV} {p : Lb → Bool} (hs : ∀ v ∈ l, Fc Tryz.prog gT fn (.a (aY v) :: ca) (bS (p v))) : Fc Tryz.prog gT 159 [rL l, .f fn [] ca] (bS (l.any p)) := by
 refine fb aA (fn := Tryz.f159) 9 [.tmp 4] Tryz.func159 Tryz.results159 (fun g0 B0 Q ρ0 R => ?_)
 refine en aA 0 1 [] ?_
 refine sn aA 0 2 [] ?_
 refine fc aA 2 [] (KV (p := p) hs) ?_
 refine sr 0 R ?_
 rw [← kA]; rfl
theorem VN {x : Lb} {n : Bytes} : Fc Tryz.prog gT 254 [.a (aY x), .p [.str n]] (bS (decide (x.n = n))) := by
 refine fb aA (fn := Tryz.f254) 8 [.tmp 3] Tryz.func254 Tryz.results254 (fun g0 B0 Q ρ0 R => ?_)
 refine en aA 0 2 [] ?_
 refine sn aA 0 5 [] ?_
 refine sr 0 R ?_
 rfl
theorem get_ok {l : List Lb} {n : Bytes} : Fc Tryz.prog gT 163 [rL l, .str n] (.str (bN l n)) := by
 refine fb aA (fn := Tryz.f163) 16 [.tmp 4] Tryz.func163 Tryz.results163 (fun g0 B0 Q ρ0 R => ?_)
 refine en aA 0 2 [] ?_
 refine sz 3 ?_
 refine sn aA 0 2 [] ?_
 obtain ⟨i, hi⟩ : ∃ q, q = jS (fun x : Lb => decide (x.n = n)) l := ⟨_, rfl⟩
 have hg := QQ hi.symm
 have hge := uO (fun x : Lb => decide (x.n = n)) l
 rw [← hi] at hge
 refine fc aA 1 [] (KV (l := l) (p := fun x => decide (x.n = n)) (fun v _ => VN)) ?_
 rw [← hi]
 refine sn aA 0 2 [] ?_
 refine si 0 rfl rfl (fun h10 => ?_) (fun h10 => ?_)
 ·have e := hg.1 h10
  refine en aA 0 1 [] ?_
  refine sr 0 R ?_
  rw [e]; rfl
 ·obtain ⟨j, hj⟩ : ∃ j : Nat, i = j := ⟨i.toNat, by omega⟩
  obtain ⟨hjl, e⟩ := hg.2 j hj
  subst hj
  refine en aA 0 6 [aY l[j]] ?_ (hφ := by exact ⟨by omega, aO _ hjl⟩)
  refine sr 0 R ?_
  rw [e]; rfl
theorem AC {l : List Lb} (hb : l.length * 32 ≤ 140737488351232) : P4 Tryz.prog gT 162 [rL l] (.o 903 l.length) 903 (.r 138 2 (l.map aY)) := by
 refine fnb aA (fn := Tryz.f162) 8 [.tmp 2] Tryz.func162 Tryz.results162 (fun g0 B0 Q ρ0 R => ?_)
 refine en aA 0 1 [] ?_
 rcases l with _ | ⟨x, l⟩
 ·refine snl 0 rfl (fun ad c => ?_)
  refine sn aA 0 0 [] ?_
  rcases ad with _ | ad
  ·refine go aA 1 [] ?_
   refine knv aA 0 [] (.bool true) (fun w => by kernel_rfl) ?_
   refine sn aA 1 1 [] ?_
   refine MJ 2 903 138 2 ?_
   refine TK 0 R ?_
   exact ⟨rfl, rfl⟩
  ·refine go aA 1 [] ?_
   refine knv aA 0 [] (.bool false) (fun w => by kernel_rfl) ?_
   refine uB 0 rfl (v' := rL []) (fun _ _ _ h => QO (by decide) h) ?_
   refine sn aA 1 0 [] ?_
   refine aA7 aA 903 ?_
   refine go aA 1 [] ?_
   refine P1 aA (rows := []) 1 [] rfl (fun _ => rfl) ?_ ?_
   ·simp only [List.length_nil, Nat.zero_add, List.length_map]
    show _ * 32 ≤ _
    omega
   refine TK 0 R ?_
   exact ⟨by simp; rfl, by simp⟩
 ·refine sn aA 0 1 [] ?_
  refine knn aA 0 [] false (fun a n c w => by kernel_rfl) ?_
  refine sn aA 1 0 [] ?_
  refine aA7 aA 903 ?_
  refine go aA 1 [] ?_
  refine P1 aA (rows := []) 1 [] rfl (fun _ => rfl) ?_ ?_
  ·simp only [List.length_nil, Nat.zero_add, List.length_map]
   show _ * 32 ≤ _
   omega
  refine TK 0 R ?_
  exact ⟨by simp; rfl, by simp⟩
theorem FT {l : List Lb} (hB : fO l) : Fc Tryz.prog gT 144 [rL l] (.t [rL (gW l).1, nI (gW l).2]) := by
 refine fb aA (fn := Tryz.f144) 33 [.tmp 2, .tmp 3] Tryz.func144 Tryz.results144 (fun g0 B0 Q ρ0 R => ?_)
 have hb := hB.2
 unfold jZ at hb
 refine en aA 0 2 [] ?_
 refine sn aA 0 1 [] ?_
 refine fc aA 0 [] (FS (l := l) (p := fun x => !lG x) (fun v hv => Q5 (hB.1 v hv))) ?_
 refine bM 0 rfl rfl (fun h6 => ?_) (fun h6 => ?_)
 ·have e : gW l = ([], 90) := if_pos h6
  refine en aA 0 2 [] ?_
  refine uB 2 rfl (v' := rL []) (fun _ _ _ h => cS (by decide) h) ?_
  refine sr 0 R ?_
  rw [e]; rfl
 ·have e0 := h6
  refine en aA 0 1 [] ?_
  refine TL aA 1 [] (AC hb) ?_
  refine sn aA 0 1 [] ?_
  refine fp aA 903 0 [] (VM (S := l) (n := l.length) (c := eZ) (fun x y => AB) rfl (by omega)) ?_
  obtain ⟨T, hT⟩ : ∃ q, q = dD H4 l := ⟨_, rfl⟩
  have hTl : T.length = l.length := by rw [hT]; exact FH _
  refine uC 903 (mb' := .r 138 2 (T.map aY)) ?_ ?_
  ·rw [hT]
  refine sn aA 0 1 [] ?_
  refine sl 0 ?_
  refine aD (σ := Nat) (fun j => 0 < j ∧ (∀ (i : Nat) (h : i + 1 < T.length), i + 1 < j → eZ (T[i]'(by omega)) (T[i + 1]) ≠ 0)) (fun j => T.length - j)
   (fun j => [(0, .o 903 l.length), (4, nI j)])
   (fun j => [(903, .r 138 2 (T.map aY))]) 1 ?_ ?_
  ·exact ⟨by omega, fun i h h2 => by omega⟩
  ·rintro J j ⟨hj0, hj1⟩ hJ
   refine en aA 0 4 [] ?_
   refine si 0 rfl rfl (fun h14 => ?_) (fun h14 => ?_)
   ·have hj : j < T.length := by omega
    refine jH 0 0 [0, 0, 3, 7, 15, 0, 0, 64, 224, 480, 992, 2047] [0, 1, 2, 3, 4, 5, 6, 7, 8, 9, 10, 11] ?_
    refine xd aA 2 [] ?_
    refine mB aA j 1 [] (n := l.length) (z := (j : Int)) (rows := T.map aY) rfl (by rw [List.length_map]; omega) (by rw [List.length_map]; omega) ?_
    refine drl aA j 0 3 [] (row := aY T[j]) (rows := T.map aY) (by simp [hj]) rfl ?_ (hφ := by unfold aE; omega)
    refine mB aA (j - 1) 1 [] (n := l.length) (z := (j : Int) - 1) (rows := T.map aY) (by omega) (by rw [List.length_map]; omega) (by rw [List.length_map]; omega) ?_
    refine drl aA (j - 1) 0 1 [] (row := aY (T[j - 1]'(by omega))) (rows := T.map aY) (by rw [List.getElem?_map, List.getElem?_eq_getElem (by omega)]; rfl) rfl ?_
    refine xe ?_
    refine si 0 rfl rfl (fun h28 => ?_) (fun h28 => ?_)
    ·have e : gW l = ([], 8) := by
      unfold gW
      rw [if_neg (by simpa using e0), ← hT, if_pos (BW hj0 hj ((cR.eq _ _).2 h28.symm))]
     refine en aA 0 2 [] ?_
     refine uB 2 rfl (v' := rL []) (fun _ _ _ h => cS (by decide) h) ?_
     refine sr 0 R ?_
     rw [e]; rfl
    ·refine en aA 0 3 [] ?_
     refine sl 0 ?_
     exact hJ (j + 1) ⟨by omega, fun i h h2 => by
      by_cases hi : i + 1 < j
      ·exact hj1 i h hi
      ·have : i + 1 = j := by omega
       subst this
       exact fun e => h28 ((cR.eq _ _).1 e).symm⟩ (by omega)
   ·have hd : fX eZ T = false := BX (fun i h => hj1 i h (by omega))
    have e1 : gW l = if 16 < l.length then ([], 6) else (T, 0) := by
     unfold gW
     rw [if_neg (by simpa using e0), ← hT, if_neg (by rw [hd]; decide)]
    refine en aA 0 3 [] ?_
    refine si 0 rfl rfl (fun h31 => ?_) (fun h31 => ?_)
    ·have e : gW l = ([], 6) := by rw [e1, if_pos (by omega)]
     refine en aA 0 2 [] ?_
     refine uB 2 rfl (v' := rL []) (fun _ _ _ h => cS (by decide) h) ?_
     refine sr 0 R ?_
     rw [e]; rfl
    ·have e : gW l = (T, 0) := by rw [e1, if_neg (by omega)]
     refine wJ 0 (rows := T.map aY) ?_ ?_ (hr := fun r hr => by
      obtain ⟨n, _, rfl⟩ := List.mem_map.1 hr
      rfl)
     ·simp [hTl]
     refine en aA 0 3 [] ?_
     refine sr 0 R ?_
     rw [e]; rfl
theorem AD {a b : Bytes} : Fc Tryz.prog gT 165 [.str a, .str b] (nI (gZ a b)) := by
 refine fb aA (fn := Tryz.f165) 13 [.tmp 4] Tryz.func165 Tryz.results165 (fun g0 B0 Q ρ0 R => ?_)
 refine en aA 0 1 [] ?_
 refine sn aA 0 4 [] ?_
 refine bM 0 rfl rfl (fun h5 => ?_) (fun h5 => ?_)
 ·have e : gZ a b = -1 := by rw [xJ, if_pos h5]
  refine en aA 0 1 [] ?_
  refine sr 0 R ?_
  rw [e]; rfl
 ·refine en aA 0 4 [] ?_
  refine bM 0 rfl rfl (fun h9 => ?_) (fun h9 => ?_)
  ·have e : gZ a b = 1 := by rw [xJ, if_neg (by simpa using h5), if_pos (J0.1 h9)]
   refine en aA 0 1 [] ?_
   refine sr 0 R ?_
   rw [e]; rfl
  ·have e : gZ a b = 0 := by
    rw [xJ, if_neg (by simpa using h5), if_neg]
    intro h
    have := J0.2 h
    unfold gtB at this
    rw [h9] at this
    cases this
   refine en aA 0 1 [] ?_
   refine sr 0 R ?_
   rw [e]; rfl
theorem Q6 {s : Bytes} : Fc Tryz.prog gT 255 [.str s] (bS (nameB s)) := by
 refine fb aA (fn := Tryz.f255) 53 [.tmp 2] Tryz.func255 Tryz.results255 (fun g0 B0 Q ρ0 R => ?_)
 refine en aA 0 1 [] ?_
 refine sn aA 0 8 [] ?_
 refine bM 0 rfl rfl (fun h12 => ?_) (fun h12 => ?_)
 ·have e : nameB s = false := by
   simp only [Bool.or_eq_true, decide_eq_true_eq] at h12
   unfold nameB
   rcases h12 with h | h
   ·have : s = [] := List.eq_nil_of_length_eq_zero (by omega)
    subst this
    rfl
   ·rw [decide_eq_false (show ¬ s.length ≤ 64 by omega), Bool.and_false]
  refine en aA 0 1 [] ?_
  refine sr 0 R ?_
  rw [e]; rfl
 ·simp only [Bool.or_eq_false_iff, decide_eq_false_iff_not] at h12
  obtain ⟨hs1, hs2⟩ := h12
  refine en aA 0 1 [] ?_
  refine sl 0 ?_
  refine aD (σ := Nat) (fun j => j ≤ s.length ∧ l3 true (s.take j) = true) (fun j => s.length - j)
   (fun j => [(0, .str s), (3, nI j)])
   (fun j => []) 0 ?_ ?_
  ·exact ⟨Nat.zero_le _, by cases s <;> rfl⟩
  ·rintro J j ⟨hj0, hj1⟩ hJ
   refine en aA 0 4 [] ?_
   refine si 0 rfl rfl (fun h16 => ?_) (fun h16 => ?_)
   ·have hj : j < s.length := by omega
    have ec : s.getD j 0 = s[j] := by rw [List.getD_eq_getElem?_getD, List.getElem?_eq_getElem hj]; rfl
    obtain ⟨z, hz⟩ : ∃ q, q = ((s[j].toNat : Nat) : Int) := ⟨_, rfl⟩
    refine en aA 0 4 [] ?_
    refine jR 4 rfl (v' := .v (.int .u8 z)) (by rw [hz, ← ec]; rfl) ?_
    refine sn aA 0 31 [] ?_
    refine bM 0 rfl rfl (fun h52 => ?_) (fun h52 => ?_)
    ·have hc : mX (decide (j = 0)) s[j] = false := by
      simp only [Bool.not_eq_true', Bool.or_eq_false_iff, Bool.and_eq_false_iff, decide_eq_false_iff_not] at h52
      unfold mX
      rw [← hz]
      refine decide_eq_false ?_
      simp only [decide_eq_false_iff_not]
      omega
     have e : nameB s = false := by
      unfold nameB
      rw [zU hj (by rw [Bool.true_and]; exact hc)]
      rfl
     refine en aA 0 1 [] ?_
     refine sr 0 R ?_
     rw [e]; rfl
    ·have hc : mX (decide (j = 0)) s[j] = true := by
      simp only [Bool.not_eq_false', Bool.or_eq_true, Bool.and_eq_true, decide_eq_true_eq] at h52
      unfold mX
      rw [← hz]
      refine decide_eq_true ?_
      simp only [decide_eq_false_iff_not]
      omega
     refine en aA 0 3 [] ?_
     refine sl 0 ?_
     exact hJ (j + 1) ⟨by omega, kH hj hj1 (by rw [Bool.true_and]; exact hc)⟩ (by omega)
   ·have e : nameB s = true := by
     rw [List.take_of_length_le (by omega)] at hj1
     unfold nameB
     rw [hj1, decide_eq_true (show s.length ≤ 64 by omega), decide_eq_true (show ¬ s = [] from fun e => by subst e; simp at hs1)]
     rfl
    refine en aA 0 1 [] ?_
    refine sr 0 R ?_
    rw [e]; rfl
theorem Q7 {x : Lb} : Fc Tryz.prog gT 164 [.a (aY x)] (bS (lG x)) := by
 refine fb aA (fn := Tryz.f164) 18 [.tmp 2] Tryz.func164 Tryz.results164 (fun g0 B0 Q ρ0 R => ?_)
 refine en aA 0 2 [] ?_
 refine sn aA 0 2 [] ?_
 refine fc aA 13 [] (Q6 (s := x.n)) ?_
 refine sr 0 R ?_
 refine congrArg bS ?_
 unfold lG
 cases nameB x.n <;> by_cases h1 : x.v = [] <;> by_cases h2 : x.v.length ≤ 128 <;> simp [h1, h2] <;> first | omega | (have := List.length_pos_iff.2 h1; omega)
theorem VO {l : List Lb} : Fc Tryz.prog gT 110 [rL l] (bS (eG l)) := by
 refine fb aA (fn := Tryz.f110) 37 [.tmp 2] Tryz.func110 Tryz.results110 (fun g0 B0 Q ρ0 R => ?_)
 refine lM 0 rfl (fun hl => ?_)
 simp only [List.length_map] at hl
 refine en aA 0 1 [] ?_
 refine sn aA 0 1 [] ?_
 refine sl 0 ?_
 refine aD (σ := Nat) (fun j => j ≤ l.length ∧ (∀ x ∈ l.take j, lG x = true) ∧ (∀ (k : Nat) (h : k + 1 < l.length), k + 1 < j → eZ (l[k]'(by omega)) (l[k + 1]) < 0)) (fun j => l.length - j)
  (fun j => [(0, rL l), (3, nI j)])
  (fun j => []) 0 ?_ ?_
 ·exact ⟨Nat.zero_le _, by simp, fun k h h2 => by omega⟩
 ·rintro J j ⟨hj0, hj1, hj2⟩ hJ
  refine en aA 0 4 [] ?_
  refine si 0 rfl rfl (fun h7 => ?_) (fun h7 => ?_)
  ·rw [List.length_map] at h7
   have hj : j < l.length := by omega
   refine jH 0 0 [0, 0, 3, 7, 15, 31, 63, 127, 255, 511, 1023, 1023, 4095, 8191, 16383, 1023, 1023, 66559, 230399, 492543, 1016831, 2097151, 4194303, 8388607] [0, 1, 2, 3, 4, 5, 6, 7, 8, 9, 10, 11, 12, 13, 14, 15, 16, 17, 18, 19, 20, 21, 22, 23] ?_
   refine xd aA 4 [aY l[j]] ?_ (hφ := by (repeat' refine And.intro ?_ ?_) <;> first | trivial | exact id | omega | exact aO _ hj | (intro hg; simpa using hg; done) | (intro h1 h2; rw [Bool.and_eq_true]; exact ⟨h1, h2⟩) | (intro hg; rw [Bool.and_eq_true, decide_eq_true_eq] at hg; exact ⟨by omega, aO _ hj⟩) | (intro hg; rw [Bool.and_eq_true, decide_eq_true_eq] at hg; exact ⟨by omega, l5 _ (by omega) (by omega)⟩) | (intro hg; rw [Bool.and_eq_true, decide_eq_true_eq] at hg; unfold vC; omega))
   refine dc aA 19 [aY l[j], aY (l.getD (j - 1) zLb)] (Q7 (x := l[j])) ?_ (hφ := by (repeat' refine And.intro ?_ ?_) <;> first | trivial | exact id | omega | exact aO _ hj | (intro hg; simpa using hg; done) | (intro h1 h2; rw [Bool.and_eq_true]; exact ⟨h1, h2⟩) | (intro hg; rw [Bool.and_eq_true, decide_eq_true_eq] at hg; exact ⟨by omega, aO _ hj⟩) | (intro hg; rw [Bool.and_eq_true, decide_eq_true_eq] at hg; exact ⟨by omega, l5 _ (by omega) (by omega)⟩) | (intro hg; rw [Bool.and_eq_true, decide_eq_true_eq] at hg; unfold vC; omega))
   refine xe ?_
   refine bM 0 rfl rfl (fun h33 => ?_) (fun h33 => ?_)
   ·have e : eG l = false := by
     refine VC hj ?_
     simp only [Bool.or_eq_true, Bool.not_eq_true', Bool.and_eq_true, decide_eq_true_eq] at h33
     rcases h33 with h | ⟨h0, h⟩
     ·exact .inl h
     ·refine .inr ⟨by omega, fun hc => ?_⟩
      rw [getD_at (by omega)] at h
      have hc := FQ.1 hc
      rcases h with h | h
      ·rw [sY h] at hc
       cases hc
      ·rw [h, kF] at hc
       cases hc
    refine en aA 0 1 [] ?_
    refine sr 0 R ?_
    rw [e]; first | rfl | (refine congrArg bS (decide_eq_decide.2 ?_); rw [List.length_map]; omega)
   ·have hx : lG l[j] = true ∧ (∀ h0 : 0 < j, eZ (l[j - 1]'(by omega)) l[j] < 0) := by
     simp only [Bool.or_eq_false_iff, Bool.not_eq_false', Bool.and_eq_false_iff, decide_eq_false_iff_not] at h33
     refine ⟨h33.1, fun h0 => ?_⟩
     rcases h33.2 with h | h
     ·omega
     ·rw [getD_at (by omega)] at h
      refine FQ.2 ?_
      rcases sX (l[j - 1]'(by omega)).n l[j].n with q | q | q
      ·exact q
      ·exact absurd q.symm h.2
      ·rw [h.1] at q
       cases q
    refine en aA 0 3 [] ?_
    refine sl 0 ?_
    exact hJ (j + 1) ⟨by omega, bH (P := fun x => lG x = true) hj hj1 hx.1, fun k h h2 => by
     by_cases hk : k + 1 < j
     ·exact hj2 k h hk
     ·have : k + 1 = j := by omega
      subst this
      exact hx.2 (by omega)⟩ (by omega)
  ·rw [List.length_map] at h7
   have hup := FP (l := l) (fun k h => hj2 k h (by omega))
   have hok : ∀ x ∈ l, lG x = true := fun x hx => hj1 x (by rw [List.take_of_length_le (by omega)]; exact hx)
   have e : eG l = decide (l.length ≤ 16) := by
    by_cases h16 : l.length ≤ 16
    ·rw [decide_eq_true h16]; exact l4.2 ⟨hok, hup, h16⟩
    ·rw [decide_eq_false h16]
     cases hb : eG l with
     | false => rfl
     | true => exact absurd (l4.1 hb).few h16
   refine en aA 0 4 [] ?_
   refine sr 0 R ?_
   rw [e]; first | rfl | (refine congrArg bS (decide_eq_decide.2 ?_); rw [List.length_map]; omega)
theorem tX {l m : List Lb} : Fc Tryz.prog gT 111 [rL l, rL m] (nI (KC l m)) := by
 refine fb aA (fn := Tryz.f111) 58 [.tmp 4] Tryz.func111 Tryz.results111 (fun g0 B0 Q ρ0 R => ?_)
 refine lM 0 rfl (fun hl => ?_)
 simp only [List.length_map] at hl
 refine lM 1 rfl (fun hm => ?_)
 simp only [List.length_map] at hm
 refine en aA 0 1 [] ?_
 refine sn aA 0 1 [] ?_
 refine sl 0 ?_
 refine aD (σ := Nat) (fun j => j ≤ l.length ∧ j ≤ m.length ∧ dS eQ l m = dS eQ (l.drop j) (m.drop j)) (fun j => l.length - j)
  (fun j => [(0, rL l), (1, rL m), (5, nI j)])
  (fun j => []) 0 ?_ ?_
 ·exact ⟨Nat.zero_le _, Nat.zero_le _, rfl⟩
 ·rintro J j ⟨hj0, hj1, hj2⟩ hJ
  refine en aA 0 10 [] ?_
  refine bM 0 rfl rfl (fun h16 => ?_) (fun h16 => ?_)
  ·simp only [Bool.and_eq_true, decide_eq_true_eq, List.length_map] at h16
   have hj : j < l.length := by omega
   have hjm : j < m.length := by omega
   obtain ⟨c, hc⟩ : ∃ q, q = eQ l[j] m[j] := ⟨_, rfl⟩
   refine jH 0 0 [0, 0, 3, 7, 15, 0, 0, 96, 224, 480, 1023, 2047] [0, 1, 2, 3, 4, 5, 6, 7, 8, 9, 10, 11] ?_
   refine xd aA 10 [aY l[j], aY m[j]] ?_ (hφ := by (repeat' refine And.intro ?_ ?_) <;> first | trivial | omega | exact aO _ hj | exact aO _ hjm)
   refine dc aA 1 [] (AD (a := l[j].n) (b := m[j].n)) ?_
   refine xe ?_
   refine sn aA 0 2 [] ?_
   refine si 0 rfl rfl (fun h31 => ?_) (fun h31 => ?_)
   ·have hcv : eQ l[j] m[j] = gZ l[j].v m[j].v := if_pos h31
    refine jH 0 0 [0, 0, 3, 7, 15, 0, 0, 96, 224, 480, 1023, 2047] [0, 1, 2, 3, 4, 5, 6, 7, 8, 9, 10, 11] ?_
    refine xd aA 10 [aY l[j], aY m[j]] ?_ (hφ := by (repeat' refine And.intro ?_ ?_) <;> first | trivial | omega | exact aO _ hj | exact aO _ hjm)
    refine dc aA 1 [] (AD (a := l[j].v) (b := m[j].v)) ?_
    refine xe ?_
    refine jR 6 rfl (v' := nI c) (by rw [hc, hcv]) ?_
    refine sn aA 0 2 [] ?_
    refine si 0 rfl rfl (fun h44 => ?_) (fun h44 => ?_)
    ·have e : dS eQ l m = c := by rw [hj2, o4 hj hjm, ← hc, if_neg h44]
     refine en aA 0 2 [] ?_
     refine sr 0 R ?_
     show _ = nI (dS eQ l m)
     rw [e]; rfl
    ·rw [hc] at h44
     refine en aA 0 3 [] ?_
     refine sl 0 ?_
     exact hJ (j + 1) ⟨by omega, by omega, by rw [hj2, o4 hj hjm, if_pos (by simpa using h44)]⟩ (by omega)
   ·have hcv : eQ l[j] m[j] = gZ l[j].n m[j].n := if_neg h31
    refine jG 6 rfl (v' := nI c) (by rw [hc, hcv]) ?_
    refine en aA 0 2 [] ?_
    refine si 0 rfl rfl (fun h44 => ?_) (fun h44 => ?_)
    ·have e : dS eQ l m = c := by rw [hj2, o4 hj hjm, ← hc, if_neg h44]
     refine en aA 0 2 [] ?_
     refine sr 0 R ?_
     show _ = nI (dS eQ l m)
     rw [e]; rfl
    ·rw [hc] at h44
     refine en aA 0 3 [] ?_
     refine sl 0 ?_
     exact hJ (j + 1) ⟨by omega, by omega, by rw [hj2, o4 hj hjm, if_pos (by simpa using h44)]⟩ (by omega)
  ·simp only [Bool.and_eq_false_iff, decide_eq_false_iff_not, List.length_map] at h16
   refine en aA 0 6 [] ?_
   refine si 0 rfl rfl (fun h46 => ?_) (fun h46 => ?_)
   ·simp only [List.length_map] at h46
    have e : dS eQ l m = -1 := by rw [hj2, H6 (by omega), if_pos (by omega)]
    refine en aA 0 1 [] ?_
    refine sr 0 R ?_
    show _ = nI (dS eQ l m)
    rw [e]; rfl
   ·simp only [List.length_map] at h46
    refine en aA 0 6 [] ?_
    refine si 0 rfl rfl (fun h52 => ?_) (fun h52 => ?_)
    ·simp only [List.length_map] at h52
     have e : dS eQ l m = 1 := by rw [hj2, QP (by omega) (by omega)]
     refine en aA 0 1 [] ?_
     refine sr 0 R ?_
     show _ = nI (dS eQ l m)
     rw [e]; rfl
    ·simp only [List.length_map] at h52
     have e : dS eQ l m = 0 := by rw [hj2, H6 (by omega), if_neg (by omega)]
     refine en aA 0 1 [] ?_
     refine sr 0 R ?_
     show _ = nI (dS eQ l m)
     rw [e]; rfl
theorem VP {l : List Lb} {n : Bytes} : Fc Tryz.prog gT 166 [rL l, .str n] (.str (bN l n)) := by
 refine fb aA (fn := Tryz.f166) 24 [.tmp 4] Tryz.func166 Tryz.results166 (fun g0 B0 Q ρ0 R => ?_)
 refine lM 0 rfl (fun hl => ?_)
 simp only [List.length_map] at hl
 refine en aA 0 1 [] ?_
 refine sn aA 0 1 [] ?_
 refine sl 0 ?_
 refine aD (σ := Nat) (fun j => j ≤ l.length ∧ ∀ x ∈ l.take j, decide (x.n = n) = false) (fun j => l.length - j)
  (fun j => [(0, rL l), (1, .str n), (5, nI j)])
  (fun j => []) 0 ?_ ?_
 ·exact ⟨Nat.zero_le _, by simp⟩
 ·rintro J j ⟨hj0, hj1⟩ hJ
  refine en aA 0 4 [] ?_
  refine si 0 rfl rfl (fun h9 => ?_) (fun h9 => ?_)
  ·rw [List.length_map] at h9
   have hj : j < l.length := by omega
   refine en aA 0 7 [aY l[j]] ?_ (hφ := by exact ⟨by omega, aO _ hj⟩)
   refine si 0 rfl rfl (fun h18 => ?_) (fun h18 => ?_)
   ·have e := IB hj hj1 h18
    refine en aA 0 6 [aY l[j]] ?_ (hφ := by exact ⟨by omega, aO _ hj⟩)
    refine sr 0 R ?_
    rw [e]; rfl
   ·refine en aA 0 3 [] ?_
    refine sl 0 ?_
    exact hJ (j + 1) ⟨by omega, bH hj hj1 (by simpa using h18)⟩ (by omega)
  ·rw [List.length_map] at h9
   have e := VD (l := l) (n := n) (fun x hx => hj1 x (by rw [List.take_of_length_le (by omega)]; exact hx))
   refine en aA 0 1 [] ?_
   refine sr 0 R ?_
   rw [e]; rfl
theorem xN {a b : List Lb} (ha : dQ a) (hb : dQ b) : Fc Tryz.prog gT 112 [rL a, rL b] (bS (a6 a b)) := by
 refine fb aA (fn := Tryz.f112) 25 [.tmp 4] Tryz.func112 Tryz.results112 (fun g0 B0 Q ρ0 R => ?_)
 refine lM 0 rfl (fun hl => ?_)
 simp only [List.length_map] at hl
 refine en aA 0 1 [] ?_
 refine sn aA 0 1 [] ?_
 refine sl 0 ?_
 refine aD (σ := Nat) (fun j => j ≤ a.length ∧ ∀ x ∈ a.take j, bN b x.n = x.v) (fun j => a.length - j)
  (fun j => [(0, rL a), (1, rL b), (5, nI j)])
  (fun j => []) 0 ?_ ?_
 ·exact ⟨Nat.zero_le _, by simp⟩
 ·rintro J j ⟨hj0, hj1⟩ hJ
  refine en aA 0 4 [] ?_
  refine si 0 rfl rfl (fun h9 => ?_) (fun h9 => ?_)
  ·rw [List.length_map] at h9
   have hj : j < a.length := by omega
   refine jH 0 0 [0, 0, 0, 6, 14, 30, 63, 0, 0, 384, 896, 1920, 4095] [0, 1, 2, 3, 4, 5, 6, 7, 8, 9, 10, 11, 12] ?_
   refine xd aA 6 [aY a[j]] ?_ (hφ := by (repeat' refine And.intro ?_ ?_) <;> first | trivial | omega | exact aO _ hj)
   refine dc aA 6 [aY a[j]] (VP (l := b) (n := a[j].n)) ?_ (hφ := by (repeat' refine And.intro ?_ ?_) <;> first | trivial | omega | exact aO _ hj)
   refine xe ?_
   refine si 0 rfl rfl (fun h24 => ?_) (fun h24 => ?_)
   ·have e : a6 a b = false := by
     rw [← xG ha hb, List.all_eq_false]
     exact ⟨a[j], List.getElem_mem hj, by simpa using h24⟩
    refine en aA 0 1 [] ?_
    refine sr 0 R ?_
    rw [e]; rfl
   ·refine en aA 0 3 [] ?_
    refine sl 0 ?_
    exact hJ (j + 1) ⟨by omega, bH (P := fun x => bN b x.n = x.v) hj hj1 (by simpa using h24)⟩ (by omega)
  ·rw [List.length_map] at h9
   have e : a6 a b = true := by
    rw [← xG ha hb, List.all_eq_true]
    intro x hx
    exact decide_eq_true (hj1 x (by rw [List.take_of_length_le (by omega)]; exact hx))
   refine en aA 0 1 [] ?_
   refine sr 0 R ?_
   rw [e]; rfl
end Go.Proofs.YtomkgfdigldhcaaGreatDoor
namespace Go.KX
theorem aBY {N Q r : Nat} (h : N * 4194304 = 4194304000 * Q + r) (hr : r < 4194304000) : Q = N / 1000 := by omega
theorem VQ {hi lo u v q1 r1 w q0 r0 : Nat} (hlo : lo < 18446744073709551616) (h : hi < 1000) (hu : u = hi * 18014398509481984 + lo / 1024) (hv : v = lo % 1024 * 4194304) (h1 : u = 4194304000 * q1 + r1) (h2 : r1 < 4194304000) (hw : w = r1 * 4294967296 + v) (h3 : w = 4194304000 * q0 + r0) (h4 : r0 < 4194304000) :
 q1 < 4294967296 ∧ q0 < 4294967296 ∧ w < 18014398509481984000 ∧ q1 * 4294967296 + q0 = (hi * 18446744073709551616 + lo) / 1000 := by
 have hv2 : v < 4294967296 := by omega
 have hu2 : u < 18014398509481984000 := by omega
 have hq1 : q1 < 4294967296 := by omega
 have hw2 : w < 18014398509481984000 := by omega
 have hq0 : q0 < 4294967296 := by omega
 have hm : lo = lo / 1024 * 1024 + lo % 1024 := by omega
 have e1 : (hi * 18446744073709551616 + lo) * 4194304 = 4194304000 * (q1 * 4294967296 + q0) + r0 := by
  generalize lo / 1024 = x at hm hu
  generalize lo % 1024 = y at hm hv
  subst hm hv
  omega
 exact ⟨hq1, hq0, hw2, aBY e1 h4⟩
theorem YO {a b : Nat} (ha : a < 1024) (hb : b < 18014398509481984) : bits .or .u64 ((a * 18014398509481984 : Nat) : Int) (b : Int) = ((a * 18014398509481984 + b : Nat) : Int) := by
 rw [bits_or_u64_nat _ _ (by omega) (by omega)]
 congr 1
 have := Nat.shiftLeft_add_eq_or_of_lt (i := 54) (b := b) (by omega) a
 rw [Nat.shiftLeft_eq] at this
 exact this.symm
theorem wrapN {a : Nat} (ha : a < 18446744073709551616) : IntKind.wrap .u64 (a : Int) = (a : Int) := by rw [IntKind.wrap_u64]; omega
theorem aDV {hi lo : Nat} (hh : hi < 1000) (hl : lo < 18446744073709551616) : bits .or .u64 (IntKind.wrap .u64 ((hi : Int) * 2 ^ (54 : Int).toNat)) ((lo : Int) / 2 ^ (IntKind.wrap .u64 (64 - 54)).toNat) = ((hi * 18014398509481984 + lo / 1024 : Nat) : Int) := by
 rw [show (IntKind.wrap .u64 (64 - 54)).toNat = 10 from rfl, show (54 : Int).toNat = 54 from rfl, show (hi : Int) * 2 ^ 54 = ((hi * 18014398509481984 : Nat) : Int) by omega, wrapN (by omega), show (lo : Int) / 2 ^ 10 = ((lo / 1024 : Nat) : Int) by omega]
 exact YO (by omega) (by omega)
theorem YP (lo : Nat) : IntKind.wrap .u64 ((lo : Int) * 2 ^ (54 : Int).toNat) = ((lo % 1024 * 18014398509481984 : Nat) : Int) := by
 rw [IntKind.wrap_u64, show (54 : Int).toNat = 54 from rfl]; omega
theorem YQ (lo : Nat) : ((lo % 1024 * 18014398509481984 : Nat) : Int) / 2 ^ (32 : Int).toNat = ((lo % 1024 * 4194304 : Nat) : Int) := by
 rw [show (32 : Int).toNat = 32 from rfl]; omega
theorem VR (lo : Nat) : bits .and .u64 ((lo % 1024 * 18014398509481984 : Nat) : Int) 4294967295 = 0 := by
 have h := bits_and_u64_nat (lo % 1024 * 18014398509481984) 4294967295 (by omega) (by omega)
 have e : (lo % 1024 * 18014398509481984) &&& 4294967295 = 0 := by
  rw [show (4294967295 : Nat) = 2 ^ 32 - 1 from rfl, Nat.and_two_pow_sub_one_eq_mod]; omega
 rw [e] at h
 exact h
theorem Q8 {u : Nat} (h : u < 18446744073709551616) : IntKind.wrap .u64 ((u : Int).tdiv 4194304000) = ((u / 4194304000 : Nat) : Int) := by
 rw [show (4194304000 : Int) = ((4194304000 : Nat) : Int) from rfl, ← Int.ofNat_tdiv, wrapN (by omega)]
theorem Q9 {u : Nat} (h : u < 18446744073709551616) : IntKind.wrap .u64 ((u : Int) - IntKind.wrap .u64 (((u / 4194304000 : Nat) : Int) * 4194304000)) = ((u % 4194304000 : Nat) : Int) := by
 rw [show ((u / 4194304000 : Nat) : Int) * 4194304000 = ((u / 4194304000 * 4194304000 : Nat) : Int) by omega, wrapN (by omega), show (u : Int) - ((u / 4194304000 * 4194304000 : Nat) : Int) = ((u % 4194304000 : Nat) : Int) by omega, wrapN (by omega)]
theorem VS {lo : Nat} (hl : lo < 18446744073709551616) : IntKind.wrap .u64 ((lo : Int).tdiv 1000) = (((0 * 18446744073709551616 + lo) / 1000 : Nat) : Int) := by
 rw [show (1000 : Int) = ((1000 : Nat) : Int) from rfl, ← Int.ofNat_tdiv, wrapN (by omega)]
 congr 2
 omega
theorem aBZ {u v q1 r1 w : Nat} (hu : u = 4194304000 * q1 + r1) (_hr : r1 < 4194304000) (hw : w = r1 * 4294967296 + v) (bw : w < 18014398509481984000) : IntKind.wrap .u64 (IntKind.wrap .u64 (IntKind.wrap .u64 ((u : Int) * 4294967296) + (v : Int)) - IntKind.wrap .u64 ((q1 : Int) * 18014398509481984000)) = (w : Int) := by
 simp only [IntKind.wrap_u64]
 omega
theorem aDW {q1 q0 Q : Nat} (b1 : q1 < 4294967296) (b0 : q0 < 4294967296) (hQ : q1 * 4294967296 + q0 = Q) : IntKind.wrap .u64 (IntKind.wrap .u64 ((q1 : Int) * 4294967296) + (q0 : Int)) = (Q : Int) := by
 simp only [IntKind.wrap_u64]
 omega
theorem aC0 {w q0 r0 : Nat} (h : w = 4194304000 * q0 + r0) (hr : r0 < 4194304000) : IntKind.wrap .u64 (IntKind.wrap .u64 (IntKind.wrap .u64 ((w : Int) * 4294967296) + 0) - IntKind.wrap .u64 ((q0 : Int) * 18014398509481984000)) = ((r0 * 4294967296 : Nat) : Int) := by
 simp only [IntKind.wrap_u64]
 omega
theorem aDX {x y x' y' : Int} (h : x = x') (h2 : y = y') : SV.t [.v (.int .u64 x), .v (.int .u64 y)] = SV.t [.v (.int .u64 x'), .v (.int .u64 y')] := by rw [h, h2]
def u4 (hi lo : Nat) : Int := if hi = 0 then (lo : Int).tmod 1000 else (((hi * 18014398509481984 + lo / 1024) % 4194304000 * 4294967296 + lo % 1024 * 4194304) % 4194304000 / 4194304 : Nat)
theorem aDY {hi lo u v r1 w q0 r0 : Nat} (h0 : hi ≠ 0) (hu : u = hi * 18014398509481984 + lo / 1024) (hv : v = lo % 1024 * 4194304) (hr1 : r1 = u % 4194304000) (hw : w = r1 * 4294967296 + v) (hq0 : q0 = w / 4194304000) (hr0 : r0 = w % 4194304000) :
 IntKind.wrap .u64 (IntKind.wrap .u64 (IntKind.wrap .u64 ((w : Int) * 4294967296) + 0) - IntKind.wrap .u64 ((q0 : Int) * 18014398509481984000)) / 2 ^ (54 : Int).toNat = u4 hi lo := by
 rw [aC0 (r0 := r0) (by omega) (by omega), u4, if_neg h0, ← hu, ← hv, ← hr1, ← hw, ← hr0, show (54 : Int).toNat = 54 from rfl]
 omega
end Go.KX
namespace Go.Proofs.YtomkgfdigldhcaaGreatDoor
open Go.KX
theorem o5  : Fc Tryz.prog gT 205 [] (vS fG) := by
 refine fb aA (fn := Tryz.f205) 2 [.cell 0 26] Tryz.func205 Tryz.results205 (fun g0 B0 Q ρ0 R => ?_)
 refine en aA 0 1 [] ?_
 refine sn aA 0 2 [] ?_
 refine sr 0 R ?_
 rfl
theorem xO  : Fc Tryz.prog gT 226 [] (vS fE) := by
 refine fb aA (fn := Tryz.f226) 2 [.cell 0 26] Tryz.func226 Tryz.results226 (fun g0 B0 Q ρ0 R => ?_)
 refine en aA 0 1 [] ?_
 refine sn aA 0 2 [] ?_
 refine sr 0 R ?_
 rfl
theorem AE  : Fc Tryz.prog gT 227 [] (vS eF) := by
 refine fb aA (fn := Tryz.f227) 2 [.cell 0 26] Tryz.func227 Tryz.results227 (fun g0 B0 Q ρ0 R => ?_)
 refine en aA 0 1 [] ?_
 refine sn aA 0 2 [] ?_
 refine sr 0 R ?_
 rfl
theorem xQ  : Fc Tryz.prog gT 87 [] (vS eI) := by
 refine fb aA (fn := Tryz.f87) 2 [.cell 0 26] Tryz.func87 Tryz.results87 (fun g0 B0 Q ρ0 R => ?_)
 refine en aA 0 1 [] ?_
 refine sn aA 0 2 [] ?_
 refine sr 0 R ?_
 rfl
theorem eK {n : Int} : Fc Tryz.prog gT 156 [nI n] (vS (aK n)) := by
 refine fb aA (fn := Tryz.f156) 13 [.cell 2 26] Tryz.func156 Tryz.results156 (fun g0 B0 Q ρ0 R => ?_)
 refine en aA 0 1 [] ?_
 refine sn aA 0 3 [] ?_
 refine si 0 rfl rfl (fun h3 => ?_) (fun h3 => ?_)
 ·have e : aK n = fE := by unfold aK; rw [if_pos h3]
  refine en aA 0 0 [] ?_
  refine fc aA 1 [] (xO) ?_
  refine sr 0 R ?_
  rw [e]; rfl
 ·refine en aA 0 3 [] ?_
  refine si 0 rfl rfl (fun h7 => ?_) (fun h7 => ?_)
  ·have e : aK n = eF := by unfold aK; rw [if_neg h3, if_pos h7]
   refine en aA 0 0 [] ?_
   refine fc aA 1 [] (AE) ?_
   refine sr 0 R ?_
   rw [e]; rfl
  ·have e : aK n = ⟨1, n⟩ := by unfold aK; rw [if_neg h3, if_neg h7]
   refine en aA 0 3 [] ?_
   refine sr 0 R ?_
   rw [e]; rfl
theorem j1 {b : Bool} : Fc Tryz.prog gT 234 [.v (.bool b)] (vS (aL b)) := by
 refine fb aA (fn := Tryz.f234) 6 [.cell 2 26] Tryz.func234 Tryz.results234 (fun g0 B0 Q ρ0 R => ?_)
 refine en aA 0 1 [] ?_
 refine sn aA 0 1 [] ?_
 refine bM 0 rfl rfl (fun h3 => ?_) (fun h3 => ?_)
 ·refine en aA 0 0 [] ?_
  refine fc aA 1 [] (eK) ?_
  refine sr 0 R ?_
  rw [h3]; rfl
 ·refine en aA 0 0 [] ?_
  refine fc aA 1 [] (eK) ?_
  refine sr 0 R ?_
  rw [h3]; rfl
theorem rJ {n : Int} : Fc Tryz.prog gT 239 [nI n] (vS (aK n)) := by
 refine fb aA (fn := Tryz.f239) 5 [.cell 2 26] Tryz.func239 Tryz.results239 (fun g0 B0 Q ρ0 R => ?_)
 refine en aA 0 1 [] ?_
 refine sn aA 0 1 [] ?_
 refine fc aA 1 [] (eK) ?_
 refine sr 0 R ?_
 rfl
theorem l6 {v : Val} : Fc Tryz.prog gT 240 [vS v] (nI (cJ v)) := by
 refine fb aA (fn := Tryz.f240) 11 [.tmp 2] Tryz.func240 Tryz.results240 (fun g0 B0 Q ρ0 R => ?_)
 refine en aA 0 2 [] ?_
 refine sn aA 0 2 [] ?_
 refine sn aA 0 2 [] ?_
 refine si 0 rfl rfl (fun h5 => ?_) (fun h5 => ?_)
 ·refine en aA 0 1 [] ?_
  refine sr 0 R ?_
  simp [bB, cJ, *]
 ·refine en aA 0 2 [] ?_
  refine si 0 rfl rfl (fun h7 => ?_) (fun h7 => ?_)
  ·refine en aA 0 1 [] ?_
   refine sr 0 R ?_
   simp [bB, cJ, *]
  ·refine en aA 0 3 [] ?_
   refine sr 0 R ?_
   simp [bB, cJ, *]
theorem rK {v : Val} : Fc Tryz.prog gT 293 [vS v] (nI (cK v)) := by
 refine fb aA (fn := Tryz.f293) 7 [.tmp 2] Tryz.func293 Tryz.results293 (fun g0 B0 Q ρ0 R => ?_)
 refine en aA 0 2 [] ?_
 refine sn aA 0 1 [] ?_
 refine fc aA 3 [] (l6) ?_
 refine sr 0 R ?_
 simp only [bB]; rw [PE]; rfl
theorem u5 {n : Int} : Fc Tryz.prog gT 294 [nI n] (vS (mV n)) := by
 refine fb aA (fn := Tryz.f294) 11 [.cell 2 26] Tryz.func294 Tryz.results294 (fun g0 B0 Q ρ0 R => ?_)
 refine en aA 0 1 [] ?_
 refine sn aA 0 2 [] ?_
 refine si 0 rfl rfl (fun h4 => ?_) (fun h4 => ?_)
 ·have e : mV n = fG := by unfold mV; rw [if_pos h4]
  refine en aA 0 0 [] ?_
  refine fc aA 1 [] (o5) ?_
  refine sr 0 R ?_
  rw [← e]; rfl
 ·have e : aK (min (max n (-1)) 1 * 1000000000000001) = mV n := XW h4
  refine en aA 0 4 [] ?_
  refine fc aA 1 [] (rJ) ?_
  refine sr 0 R ?_
  rw [← e]; rfl
theorem fC {v : Val} : Fc Tryz.prog gT 232 [vS v] (SV.v (.bool (fL v))) := by
 refine fb aA (fn := Tryz.f232) 6 [.tmp 2] Tryz.func232 Tryz.results232 (fun g0 B0 Q ρ0 R => ?_)
 refine en aA 0 2 [] ?_
 refine sn aA 0 4 [] ?_
 refine sr 0 R ?_
 rfl
theorem nZ {v : Val} : Fc Tryz.prog gT 89 [vS v] (SV.v (.bool (kS v))) := by
 refine fb aA (fn := Tryz.f89) 21 [.tmp 2] Tryz.func89 Tryz.results89 (fun g0 B0 Q ρ0 R => ?_)
 refine en aA 0 2 [] ?_
 refine sn aA 0 19 [] ?_
 refine sr 0 R ?_
 simp [bB, kS, Bool.and_assoc]
theorem RA {v : Val} : Fc Tryz.prog gT 117 [vS v] (SV.v (.bool (cE v))) := by
 refine fb aA (fn := Tryz.f117) 23 [.tmp 2] Tryz.func117 Tryz.results117 (fun g0 B0 Q ρ0 R => ?_)
 refine en aA 0 2 [] ?_
 refine sn aA 0 2 [] ?_
 refine sn aA 0 2 [] ?_
 refine si 0 rfl rfl (fun h5 => ?_) (fun h5 => ?_)
 ·refine en aA 0 9 [] ?_
  refine sr 0 R ?_
  simp [bB, cE, *] <;> omega
 ·refine en aA 0 2 [] ?_
  refine si 0 rfl rfl (fun h15 => ?_) (fun h15 => ?_)
  ·refine ei 0 rfl rfl (fun h15 => ?_) (fun h15 => ?_)
   ·refine en aA 0 4 [] ?_
    refine sr 0 R ?_
    simp [bB, cE, *] <;> omega
   ·refine en aA 0 1 [] ?_
    refine sr 0 R ?_
    simp [bB, cE, *] <;> omega
  ·refine en aA 0 2 [] ?_
   refine si 0 rfl rfl (fun h15 => ?_) (fun h15 => ?_)
   ·refine ei 0 rfl rfl (fun h15 => ?_) (fun h15 => ?_)
    ·refine en aA 0 4 [] ?_
     refine sr 0 R ?_
     simp [bB, cE, *] <;> omega
    ·refine en aA 0 1 [] ?_
     refine sr 0 R ?_
     simp [bB, cE, *] <;> omega
   ·refine en aA 0 2 [] ?_
    refine si 0 rfl rfl (fun h15 => ?_) (fun h15 => ?_)
    ·refine ei 0 rfl rfl (fun h15 => ?_) (fun h15 => ?_)
     ·refine en aA 0 4 [] ?_
      refine sr 0 R ?_
      simp [bB, cE, *] <;> omega
     ·refine en aA 0 1 [] ?_
      refine sr 0 R ?_
      simp [bB, cE, *] <;> omega
    ·refine en aA 0 2 [] ?_
     refine si 0 rfl rfl (fun h15 => ?_) (fun h15 => ?_)
     ·refine en aA 0 4 [] ?_
      refine sr 0 R ?_
      simp [bB, cE, *] <;> omega
     ·refine en aA 0 1 [] ?_
      refine sr 0 R ?_
      simp [bB, cE, *] <;> omega
end Go.Proofs.YtomkgfdigldhcaaGreatDoor
