/- UF UG UH UI WK WL WJ WM WN. -/
import Derived.Test.YtomkgfdigldhcaaGreatDoorLIM
set_option maxRecDepth 100000
namespace Go.Proofs.YtomkgfdigldhcaaGreatDoor
open Go.KX
theorem WB {s : Bytes} {sub : Pd → Ex × Pd} {p : Pd} {dp : Nat} (fs : lH s sub) (hsub : ∀ p : Pd, p.i ≤ s.length → Fp Tryz.prog gT 141 [.l 1000 0, nI dp] (dE s p) (eD (sub p).1) (dE s (sub p).2)) (hi : p.i ≤ s.length) (hs : s.length ≤ 1024) : Fp Tryz.prog gT 93 [.l 1000 0, nI dp] (dE s p) (eD (bD (qC s) sub [gY] false (s.length + 1) (sub p).1 (sub p).2).1) (dE s (bD (qC s) sub [gY] false (s.length + 1) (sub p).1 (sub p).2).2) := by
 refine lU aA (fn := Tryz.f93) 20 [.cell 4 29] Tryz.func93 Tryz.results93 (fun g0 B0 Q ρ0 R => ?_)
 refine en aA 0 1 [] ?_
 refine sn aA 0 2 [] ?_
 refine fp aA 1000 2 [] (hsub p hi) ?_
 refine sl 0 ?_
 refine aD (σ := Nat × Ex × Pd) (fun t => t.2.2.i ≤ s.length ∧ s.length < t.1 + t.2.2.i ∧ bD (qC s) sub [gY] false t.1 t.2.1 t.2.2 = bD (qC s) sub [gY] false (s.length + 1) (sub p).1 (sub p).2) (fun t => t.1)
  (fun t => [(0, .l 1000 0), (1, nI dp), (4, .l 4 0), (5, .l 5 0)])
  (fun t => [(5, .c 29 (kP t.2.1)), (4, .c 29 [nI 0, .str [], nI 0, nI 0, .s 0 []]), (1000, dE s t.2.2)]) (s.length + 1, (sub p).1, (sub p).2) ?_ ?_
 ·exact ⟨(fs p hi).2, by simp only; omega, rfl⟩
 ·rintro J t ⟨ht1, ht2, ht3⟩ hJ
  obtain ⟨k, hk⟩ : ∃ k, t.1 = k + 1 := ⟨t.1 - 1, by omega⟩
  have htf := cD (l := [gY]) ht1
  have hsf := fs _ htf.2
  rw [hk] at ht3
  refine en aA 0 2 [] ?_
  refine fp aA 1000 1 [] (fQ (l := [gY]) xX ht1 hs) ?_
  refine si 0 rfl rfl (fun h12 => ?_) (fun h12 => ?_)
  ·obtain ⟨o, e1⟩ : ∃ o, aS s [gY] t.2.2 = some o := Option.ne_none_iff_exists'.1 (fun h => h12 (bP.2 h))
   obtain rfl : o = gY := List.mem_singleton.1 (iQ e1).2
   refine jH 0 72 [0, 0, 0, 6, 15, 31, 63] [1, 2, 3, 0, 4, 5, 6] ?_
   refine xd aA 2 [] ?_
   refine XY aA 1000 0 [] (hsub (aJ s [gY] t.2.2) htf.2) ?_
   refine dl aA 1 [] ?_
   refine dc aA 1 [] (j3) ?_
   refine xe ?_
   refine sl 0 ?_
   exact hJ (k, eU gY [t.2.1, (sub (aJ s [gY] t.2.2)).1], (sub (aJ s [gY] t.2.2)).2) ⟨hsf.2, by simp only; have := kK ht1 e1; omega, by rw [← ht3, kM e1]⟩ (by simp only; omega)
  ·have e1 : aS s [gY] t.2.2 = none := bP.1 (Decidable.not_not.1 h12)
   have e2 : bD (qC s) sub [gY] false (s.length + 1) (sub p).1 (sub p).2 = (t.2.1, aJ s [gY] t.2.2) := by rw [← ht3, iS e1]
   refine en aA 0 2 [] ?_
   refine fW 0 R ?_
   exact ⟨by rw [e2] <;> rfl, by rw [e2] <;> rfl⟩
theorem WC {s : Bytes} {sub : Pd → Ex × Pd} {p : Pd} {dp : Nat} (fs : lH s sub) (hsub : ∀ p : Pd, p.i ≤ s.length → Fp Tryz.prog gT 217 [.l 1000 0, nI dp] (dE s p) (eD (sub p).1) (dE s (sub p).2)) (hi : p.i ≤ s.length) (hs : s.length ≤ 1024) : Fp Tryz.prog gT 141 [.l 1000 0, nI dp] (dE s p) (eD (bD (qC s) sub [yI, yJ, yK, yL, yE, yF] true (s.length + 1) (sub p).1 (sub p).2).1) (dE s (bD (qC s) sub [yI, yJ, yK, yL, yE, yF] true (s.length + 1) (sub p).1 (sub p).2).2) := by
 refine lU aA (fn := Tryz.f141) 23 [.cell 4 29] Tryz.func141 Tryz.results141 (fun g0 B0 Q ρ0 R => ?_)
 refine en aA 0 1 [] ?_
 refine sn aA 0 2 [] ?_
 refine fp aA 1000 2 [] (hsub p hi) ?_
 have ht1 := (fs p hi).2
 have htf := cD (l := [yI, yJ, yK, yL, yE, yF]) ht1
 have hsf := fs _ htf.2
 refine sn aA 0 2 [] ?_
 refine fp aA 1000 1 [] (fQ (l := [yI, yJ, yK, yL, yE, yF]) YR ht1 hs) ?_
 refine sn aA 0 2 [] ?_
 refine si 0 rfl rfl (fun h14 => ?_) (fun h14 => ?_)
 ·obtain ⟨o, e1⟩ : ∃ o, aS s [yI, yJ, yK, yL, yE, yF] (sub p).2 = some o := Option.ne_none_iff_exists'.1 (fun h => h14 (bP.2 h))
  have e2 := FY (f := sub) (n := s.length) (x := (sub p).1) e1
  refine jG 6 rfl (v' := .str o) ?_ ?_
  ·rw [e1]; rfl
  refine jH 0 144 [0, 0, 0, 0, 12, 30, 63, 127] [0, 2, 3, 4, 1, 5, 6, 7] ?_
  refine xd aA 3 [] ?_
  refine XY aA 1000 0 [] (hsub (aJ s [yI, yJ, yK, yL, yE, yF] (sub p).2) htf.2) ?_
  refine dl aA 1 [] ?_
  refine dc aA 1 [] (j3) ?_
  refine xe ?_
  refine sn aA 0 2 [] ?_
  refine fW 0 R ?_
  exact ⟨by rw [e2] <;> rfl, by rw [e2] <;> rfl⟩
 ·have e1 : aS s [yI, yJ, yK, yL, yE, yF] (sub p).2 = none := bP.1 (Decidable.not_not.1 h14)
  have e2 := iS (f := sub) (alone := true) (n := s.length) (x := (sub p).1) e1
  refine en aA 0 2 [] ?_
  refine fW 0 R ?_
  exact ⟨by rw [e2] <;> rfl, by rw [e2] <;> rfl⟩
theorem WE {s : Bytes} {sub : Pd → Ex × Pd} {p : Pd} {dp : Nat} (fs : lH s sub) (hsub : ∀ p : Pd, p.i ≤ s.length → Fp Tryz.prog gT 282 [.l 1000 0, nI dp] (dE s p) (eD (sub p).1) (dE s (sub p).2)) (hi : p.i ≤ s.length) (hs : s.length ≤ 1024) : Fp Tryz.prog gT 217 [.l 1000 0, nI dp] (dE s p) (eD (bD (qC s) sub [iH, a8] false (s.length + 1) (sub p).1 (sub p).2).1) (dE s (bD (qC s) sub [iH, a8] false (s.length + 1) (sub p).1 (sub p).2).2) := by
 refine lU aA (fn := Tryz.f217) 23 [.cell 4 29] Tryz.func217 Tryz.results217 (fun g0 B0 Q ρ0 R => ?_)
 refine en aA 0 1 [] ?_
 refine sn aA 0 2 [] ?_
 refine fp aA 1000 2 [] (hsub p hi) ?_
 refine sl 0 ?_
 refine aD (σ := Nat × Ex × Pd) (fun t => t.2.2.i ≤ s.length ∧ s.length < t.1 + t.2.2.i ∧ bD (qC s) sub [iH, a8] false t.1 t.2.1 t.2.2 = bD (qC s) sub [iH, a8] false (s.length + 1) (sub p).1 (sub p).2) (fun t => t.1)
  (fun t => [(0, .l 1000 0), (1, nI dp), (4, .l 4 0), (5, .l 5 0)])
  (fun t => [(5, .c 29 (kP t.2.1)), (4, .c 29 [nI 0, .str [], nI 0, nI 0, .s 0 []]), (1000, dE s t.2.2)]) (s.length + 1, (sub p).1, (sub p).2) ?_ ?_
 ·exact ⟨(fs p hi).2, by simp only; omega, rfl⟩
 ·rintro J t ⟨ht1, ht2, ht3⟩ hJ
  obtain ⟨k, hk⟩ : ∃ k, t.1 = k + 1 := ⟨t.1 - 1, by omega⟩
  have htf := cD (l := [iH, a8]) ht1
  have hsf := fs _ htf.2
  rw [hk] at ht3
  refine en aA 0 2 [] ?_
  refine fp aA 1000 1 [] (fQ (l := [iH, a8]) CH ht1 hs) ?_
  refine sn aA 0 2 [] ?_
  refine si 0 rfl rfl (fun h14 => ?_) (fun h14 => ?_)
  ·have e1 : aS s [iH, a8] t.2.2 = none := bP.1 h14
   have e2 : bD (qC s) sub [iH, a8] false (s.length + 1) (sub p).1 (sub p).2 = (t.2.1, aJ s [iH, a8] t.2.2) := by rw [← ht3, iS e1]
   refine en aA 0 2 [] ?_
   refine fW 0 R ?_
   exact ⟨by rw [e2] <;> rfl, by rw [e2] <;> rfl⟩
  ·obtain ⟨o, e1⟩ : ∃ o, aS s [iH, a8] t.2.2 = some o := Option.ne_none_iff_exists'.1 (fun h => h14 (bP.2 h))
   refine jG 6 rfl (v' := .str o) ?_ ?_
   ·rw [e1]; rfl
   refine jH 0 144 [0, 0, 0, 0, 12, 30, 63, 127] [0, 2, 3, 4, 1, 5, 6, 7] ?_
   refine xd aA 3 [] ?_
   refine XY aA 1000 0 [] (hsub (aJ s [iH, a8] t.2.2) htf.2) ?_
   refine dl aA 1 [] ?_
   refine dc aA 1 [] (j3) ?_
   refine xe ?_
   refine sl 0 ?_
   exact hJ (k, eU o [t.2.1, (sub (aJ s [iH, a8] t.2.2)).1], (sub (aJ s [iH, a8] t.2.2)).2) ⟨hsf.2, by simp only; have := kK ht1 e1; omega, by rw [← ht3, kM e1]⟩ (by simp only; omega)
theorem SN {s : Bytes} {sub : Pd → Ex × Pd} {p : Pd} {dp : Nat} (fs : lH s sub) (hsub : ∀ p : Pd, p.i ≤ s.length → Fp Tryz.prog gT 314 [.l 1000 0, nI dp] (dE s p) (eD (sub p).1) (dE s (sub p).2)) (hi : p.i ≤ s.length) (hs : s.length ≤ 1024) : Fp Tryz.prog gT 282 [.l 1000 0, nI dp] (dE s p) (eD (bD (qC s) sub [iI, jL] false (s.length + 1) (sub p).1 (sub p).2).1) (dE s (bD (qC s) sub [iI, jL] false (s.length + 1) (sub p).1 (sub p).2).2) := by
 refine lU aA (fn := Tryz.f282) 23 [.cell 4 29] Tryz.func282 Tryz.results282 (fun g0 B0 Q ρ0 R => ?_)
 refine en aA 0 1 [] ?_
 refine sn aA 0 2 [] ?_
 refine fp aA 1000 2 [] (hsub p hi) ?_
 refine sl 0 ?_
 refine aD (σ := Nat × Ex × Pd) (fun t => t.2.2.i ≤ s.length ∧ s.length < t.1 + t.2.2.i ∧ bD (qC s) sub [iI, jL] false t.1 t.2.1 t.2.2 = bD (qC s) sub [iI, jL] false (s.length + 1) (sub p).1 (sub p).2) (fun t => t.1)
  (fun t => [(0, .l 1000 0), (1, nI dp), (4, .l 4 0), (5, .l 5 0)])
  (fun t => [(5, .c 29 (kP t.2.1)), (4, .c 29 [nI 0, .str [], nI 0, nI 0, .s 0 []]), (1000, dE s t.2.2)]) (s.length + 1, (sub p).1, (sub p).2) ?_ ?_
 ·exact ⟨(fs p hi).2, by simp only; omega, rfl⟩
 ·rintro J t ⟨ht1, ht2, ht3⟩ hJ
  obtain ⟨k, hk⟩ : ∃ k, t.1 = k + 1 := ⟨t.1 - 1, by omega⟩
  have htf := cD (l := [iI, jL]) ht1
  have hsf := fs _ htf.2
  rw [hk] at ht3
  refine en aA 0 2 [] ?_
  refine fp aA 1000 1 [] (fQ (l := [iI, jL]) CH ht1 hs) ?_
  refine sn aA 0 2 [] ?_
  refine si 0 rfl rfl (fun h14 => ?_) (fun h14 => ?_)
  ·have e1 : aS s [iI, jL] t.2.2 = none := bP.1 h14
   have e2 : bD (qC s) sub [iI, jL] false (s.length + 1) (sub p).1 (sub p).2 = (t.2.1, aJ s [iI, jL] t.2.2) := by rw [← ht3, iS e1]
   refine en aA 0 2 [] ?_
   refine fW 0 R ?_
   exact ⟨by rw [e2] <;> rfl, by rw [e2] <;> rfl⟩
  ·obtain ⟨o, e1⟩ : ∃ o, aS s [iI, jL] t.2.2 = some o := Option.ne_none_iff_exists'.1 (fun h => h14 (bP.2 h))
   refine jG 6 rfl (v' := .str o) ?_ ?_
   ·rw [e1]; rfl
   refine jH 0 144 [0, 0, 0, 0, 12, 30, 63, 127] [0, 2, 3, 4, 1, 5, 6, 7] ?_
   refine xd aA 3 [] ?_
   refine XY aA 1000 0 [] (hsub (aJ s [iI, jL] t.2.2) htf.2) ?_
   refine dl aA 1 [] ?_
   refine dc aA 1 [] (j3) ?_
   refine xe ?_
   refine sl 0 ?_
   exact hJ (k, eU o [t.2.1, (sub (aJ s [iI, jL] t.2.2)).1], (sub (aJ s [iI, jL] t.2.2)).2) ⟨hsf.2, by simp only; have := kK ht1 e1; omega, by rw [← ht3, kM e1]⟩ (by simp only; omega)
end Go.Proofs.YtomkgfdigldhcaaGreatDoor
namespace Go.Proofs.YtomkgfdigldhcaaGreatDoor
open Go.KX
theorem x4 {s : Bytes} (hs : s.length ≤ 1000000) : Fc Tryz.prog gT 339 [.str s] (.t [vS (aB s).1, nI (aB s).2]) := by
 refine fb aA (fn := Tryz.f339) 131 [.cell 2 26, .tmp 3] Tryz.func339 Tryz.results339 (fun g0 B0 Q ρ0 R => ?_)
 refine en aA 0 2 [] ?_
 refine sn aA 0 0 [] ?_
 refine fc aA 0 [] (xU) ?_
 refine fc aA 0 [] (o7) ?_
 refine fc aA 0 [] (n0) ?_
 refine fc aA 2 [] (o8) ?_
 refine sn aA 0 1 [] ?_
 refine sl 0 ?_
 refine aD (σ := Nat) (fun j => j ≤ 4 ∧ ∀ v ∈ c4.take j, ¬ aG v = s) (fun j => 4 - j)
  (fun j => [(0, .str s), (2, .l 2 0), (4, rV c4), (5, nI j)])
  (fun j => [(2, .c 26 [nI 0, nI 0])]) 0 ?_ ?_
 ·exact ⟨Nat.zero_le _, by simp⟩
 ·rintro J j ⟨hj0, hj1⟩ hJ
  refine en aA 0 4 [] ?_
  refine si 0 rfl rfl (fun h18 => ?_) (fun h18 => ?_)
  ·have h4l : (List.map (fun v : Val => [nI v.k, nI v.n]) c4).length = 4 := rfl
   have hjl : j < 4 := by omega
   have hj : j < c4.length := hjl
   refine en aA 0 4 [[nI c4[j].k, nI c4[j].n]] ?_ (hφ := by exact ⟨by omega, aO _ hj⟩)
   refine fc aA 2 [] (l7) ?_
   refine si 0 rfl rfl (fun h27 => ?_) (fun h27 => ?_)
   ·have e := EW hj h27.symm
    refine en aA 0 6 [[nI c4[j].k, nI c4[j].n]] ?_ (hφ := by exact ⟨by omega, aO _ hj⟩)
    refine sr 0 R ?_
    rw [e]; rfl
   ·have hx := h27
    refine en aA 0 3 [] ?_
    refine sl 0 ?_
    exact hJ (j + 1) ⟨by omega, bH hj hj1 hx⟩ (by omega)
  ·have h4l : (List.map (fun v : Val => [nI v.k, nI v.n]) c4).length = 4 := rfl
   have hn4 := SE (fun v hv => hj1 v (by rw [List.take_of_length_le (show c4.length ≤ j by show 4 ≤ j; omega)]; exact hv))
   refine en aA 0 3 [] ?_
   refine si 0 rfl rfl (fun h34 => ?_) (fun h34 => ?_)
   ·have e := SG hn4 (by omega)
    refine en aA 0 3 [] ?_
    refine sr 0 R ?_
    rw [e]; rfl
   ·have h20 : ¬ 20 < s.length := by omega
    refine en aA 0 1 [] ?_
    refine sn aA 0 1 [] ?_
    refine sn aA 0 1 [] ?_
    refine sl 0 ?_
    refine aD (σ := Nat × Int × Int) (fun t => t.1 ≤ s.length ∧ 0 ≤ t.2.1 ∧ t.2.1 ≤ 10000000000000009 ∧ -1 ≤ t.2.2 ∧ t.2.2 ≤ 3 ∧ dN (decide (t.1 = 0)) t.2.1 t.2.2 (s.drop t.1) = dN true 0 (-1) s) (fun t => s.length - t.1)
     (fun t => [(0, .str s), (2, .l 2 0), (6, nI t.2.1), (7, nI t.2.2), (8, nI t.1)])
     (fun t => [(2, .c 26 [nI 0, nI 0])]) (0, 0, -1) ?_ ?_
    ·exact ⟨Nat.zero_le _, by decide, by decide, by decide, by decide, rfl⟩
    ·rintro J t ⟨ht1, ht2, ht3, ht4, ht5, ht6⟩ hJ
     refine en aA 0 4 [] ?_
     refine si 0 rfl rfl (fun h39 => ?_) (fun h39 => ?_)
     ·have hk : t.1 < s.length := by omega
      have ha := V9 (n := t.2.1) (left := t.2.2) hk
      obtain ⟨c, hc⟩ : ∃ c, c = s.getD t.1 0 := ⟨_, rfl⟩
      have hc8 := UInt8.toNat_lt c
      rw [ht6] at ha
      refine en aA 0 9 [] ?_ (hφ := by (repeat' refine And.intro ?_ ?_) <;> first | exact id | trivial | omega | (intro hg; omega) | (intro hg; exact ⟨by omega, by omega⟩))
      refine bM 0 rfl rfl (fun h43 => ?_) (fun h43 => ?_)
      ·simp only [Bool.and_eq_true, decide_eq_true_eq] at h43
       have hi1 : (fun t : Nat × Int × Int => t.1 ≤ s.length ∧ 0 ≤ t.2.1 ∧ t.2.1 ≤ 10000000000000009 ∧ -1 ≤ t.2.2 ∧ t.2.2 ≤ 3 ∧ dN (decide (t.1 = 0)) t.2.1 t.2.2 (s.drop t.1) = dN true 0 (-1) s) (t.1 + 1, t.2.1, t.2.2) := ⟨hk, ht2, ht3, ht4, ht5, by rw [ha, if_pos]; exact ⟨UInt8.toNat_inj.1 (Int.ofNat.inj h43.1), by omega⟩⟩
       refine en aA 0 3 [] ?_
       refine sl 0 ?_
       first | exact hJ (t.1 + 1, t.2.1, t.2.2) hi1 (by simp only; omega) | exact hJ (t.1 + 1, t.2.1, 3) hi2 (by simp only; omega) | exact hJ (t.1 + 1, 10 * t.2.1 + (((s.getD t.1 0).toNat : Int) - 48), t.2.2 - 1) hi3 (by simp only; omega) | exact hJ (t.1 + 1, 10 * t.2.1 + (((s.getD t.1 0).toNat : Int) - 48), t.2.2) hi4 (by simp only; omega)
      ·have h43 : (decide (((s.getD t.1 0).toNat : Int) = 45) && decide ((t.1 : Int) = 0)) = false := h43
       have h45 : ¬ (s.getD t.1 0 = 45 ∧ t.1 = 0) := fun hh => by
        rw [decide_eq_true (show ((s.getD t.1 0).toNat : Int) = 45 by rw [hh.1]; rfl), decide_eq_true (show (t.1 : Int) = 0 by omega)] at h43
        cases h43
       rw [if_neg h45] at ha
       refine en aA 0 9 [] ?_ (hφ := by (repeat' refine And.intro ?_ ?_) <;> first | exact id | trivial | omega | (intro hg; omega) | (intro hg; exact ⟨by omega, by omega⟩))
       refine bM 0 rfl rfl (fun h52 => ?_) (fun h52 => ?_)
       ·simp only [Bool.and_eq_true, decide_eq_true_eq] at h52
        have hi2 : (fun t : Nat × Int × Int => t.1 ≤ s.length ∧ 0 ≤ t.2.1 ∧ t.2.1 ≤ 10000000000000009 ∧ -1 ≤ t.2.2 ∧ t.2.2 ≤ 3 ∧ dN (decide (t.1 = 0)) t.2.1 t.2.2 (s.drop t.1) = dN true 0 (-1) s) (t.1 + 1, t.2.1, 3) := ⟨hk, ht2, ht3, (by show (-1 : Int) ≤ 3; decide), (by show (3 : Int) ≤ 3; decide), by rw [ha, if_pos]; exact ⟨UInt8.toNat_inj.1 (Int.ofNat.inj h52.1), h52.2⟩⟩
        refine en aA 0 1 [] ?_
        refine sn aA 0 3 [] ?_
        refine sl 0 ?_
        first | exact hJ (t.1 + 1, t.2.1, t.2.2) hi1 (by simp only; omega) | exact hJ (t.1 + 1, t.2.1, 3) hi2 (by simp only; omega) | exact hJ (t.1 + 1, 10 * t.2.1 + (((s.getD t.1 0).toNat : Int) - 48), t.2.2 - 1) hi3 (by simp only; omega) | exact hJ (t.1 + 1, 10 * t.2.1 + (((s.getD t.1 0).toNat : Int) - 48), t.2.2) hi4 (by simp only; omega)
       ·have h52 : (decide (((s.getD t.1 0).toNat : Int) = 46) && decide (t.2.2 < 0)) = false := h52
        have h46 : ¬ (s.getD t.1 0 = 46 ∧ t.2.2 < 0) := fun hh => by
         rw [decide_eq_true (show ((s.getD t.1 0).toNat : Int) = 46 by rw [hh.1]; rfl), decide_eq_true hh.2] at h52
         cases h52
        rw [if_neg h46] at ha
        refine en aA 0 19 [] ?_ (hφ := by (repeat' refine And.intro ?_ ?_) <;> first | exact id | trivial | omega | (intro hg; omega) | (intro hg; exact ⟨by omega, by omega⟩))
        refine bM 0 rfl rfl (fun h61 => ?_) (fun h61 => ?_)
        ·simp only [Bool.and_eq_true, decide_eq_true_eq, ne_eq, Bool.not_eq_true', decide_eq_false_iff_not] at h61
         obtain ⟨⟨⟨g1, g2⟩, g3⟩, g4⟩ := h61
         have g1 : (48 : Int) ≤ ((s.getD t.1 0).toNat : Int) := g1
         have g2 : ((s.getD t.1 0).toNat : Int) ≤ 57 := g2
         have hw8 : IntKind.u8.wrap (((s.getD (t.1 : Int).toNat 0).toNat : Int) - 48) = ((s.getD t.1 0).toNat : Int) - 48 := wrap_u8 (x := ((s.getD t.1 0).toNat : Int) - 48) (by omega) (by omega)
         rw [if_pos ⟨by omega, by omega, g3, g4⟩] at ha
         refine en aA 0 9 [] ?_ (hφ := by (try simp only [hw8]); (repeat' refine And.intro ?_ ?_) <;> first | exact id | trivial | omega)
         refine jR 6 rfl (v' := nI (10 * t.2.1 + (((s.getD t.1 0).toNat : Int) - 48))) ?_ ?_
         ·rw [hw8]
         refine sn aA 0 2 [] ?_
         refine si 0 rfl rfl (fun h89 => ?_) (fun h89 => ?_)
         ·have hi3 : (fun t : Nat × Int × Int => t.1 ≤ s.length ∧ 0 ≤ t.2.1 ∧ t.2.1 ≤ 10000000000000009 ∧ -1 ≤ t.2.2 ∧ t.2.2 ≤ 3 ∧ dN (decide (t.1 = 0)) t.2.1 t.2.2 (s.drop t.1) = dN true 0 (-1) s) (t.1 + 1, 10 * t.2.1 + (((s.getD t.1 0).toNat : Int) - 48), t.2.2 - 1) := ⟨hk, by simp only; omega, by simp only; omega, by simp only; omega, by simp only; omega, by rw [ha, if_pos h89]⟩
          refine en aA 0 3 [] ?_
          refine sn aA 0 3 [] ?_
          refine sl 0 ?_
          first | exact hJ (t.1 + 1, t.2.1, t.2.2) hi1 (by simp only; omega) | exact hJ (t.1 + 1, t.2.1, 3) hi2 (by simp only; omega) | exact hJ (t.1 + 1, 10 * t.2.1 + (((s.getD t.1 0).toNat : Int) - 48), t.2.2 - 1) hi3 (by simp only; omega) | exact hJ (t.1 + 1, 10 * t.2.1 + (((s.getD t.1 0).toNat : Int) - 48), t.2.2) hi4 (by simp only; omega)
         ·have hi4 : (fun t : Nat × Int × Int => t.1 ≤ s.length ∧ 0 ≤ t.2.1 ∧ t.2.1 ≤ 10000000000000009 ∧ -1 ≤ t.2.2 ∧ t.2.2 ≤ 3 ∧ dN (decide (t.1 = 0)) t.2.1 t.2.2 (s.drop t.1) = dN true 0 (-1) s) (t.1 + 1, 10 * t.2.1 + (((s.getD t.1 0).toNat : Int) - 48), t.2.2) := ⟨hk, by simp only; omega, by simp only; omega, by simp only; omega, by simp only; omega, by rw [ha, if_neg h89]⟩
          refine en aA 0 3 [] ?_
          refine sl 0 ?_
          first | exact hJ (t.1 + 1, t.2.1, t.2.2) hi1 (by simp only; omega) | exact hJ (t.1 + 1, t.2.1, 3) hi2 (by simp only; omega) | exact hJ (t.1 + 1, 10 * t.2.1 + (((s.getD t.1 0).toNat : Int) - 48), t.2.2 - 1) hi3 (by simp only; omega) | exact hJ (t.1 + 1, 10 * t.2.1 + (((s.getD t.1 0).toNat : Int) - 48), t.2.2) hi4 (by simp only; omega)
        ·have h61 : (decide ((48 : Int) ≤ ((s.getD t.1 0).toNat : Int)) && decide (((s.getD t.1 0).toNat : Int) ≤ 57) && decide (¬ t.2.2 = 0) && decide (t.2.1 ≤ 1000000000000000)) = false := h61
         have h61n : ¬ (48 ≤ (s.getD t.1 0).toNat ∧ (s.getD t.1 0).toNat ≤ 57 ∧ t.2.2 ≠ 0 ∧ t.2.1 ≤ 1000000000000000) := fun hh => by
          rw [decide_eq_true (show (48 : Int) ≤ ((s.getD t.1 0).toNat : Int) by omega), decide_eq_true (show ((s.getD t.1 0).toNat : Int) ≤ 57 by omega), decide_eq_true hh.2.2.2, decide_eq_true hh.2.2.1] at h61
          cases h61
         rw [if_neg h61n] at ha
         have e := V8 hn4 h20 ha
         refine en aA 0 3 [] ?_
         refine sr 0 R ?_
         rw [e]; rfl
     ·have hd : dN true 0 (-1) s = some (t.2.1, t.2.2) := by rw [← ht6]; exact SH (by omega)
      refine en aA 0 2 [] ?_
      refine si 0 rfl rfl (fun h93 => ?_) (fun h93 => ?_)
      ·obtain ⟨l0, hl0⟩ : ∃ l0 : Int, l0 = 3 := ⟨_, rfl⟩
       have hl : (if t.2.2 < 0 then 3 else t.2.2) = l0 := by rw [if_pos h93, hl0]
       have hlb : 0 ≤ l0 ∧ l0 ≤ 3 := by omega
       refine en aA 0 1 [] ?_
       refine sl 0 ?_
       rw [← hl0]
       refine aD (σ := Nat × Int × Int) (fun u => u.2.2 ≤ u.1 ∧ 0 ≤ u.2.1 ∧ u.2.1 ≤ 10000000000000009 ∧ 0 ≤ u.2.2 ∧ u.2.2 ≤ 3 ∧ i8 u.1 u.2.1 u.2.2 = i8 3 t.2.1 l0) (fun u => u.1)
        (fun u => [(0, .str s), (2, .l 2 0), (6, nI u.2.1), (7, nI u.2.2)])
        (fun u => [(2, .c 26 [nI 0, nI 0])]) (3, t.2.1, l0) ?_ ?_
       ·exact ⟨by simp only; omega, ht2, ht3, hlb.1, hlb.2, rfl⟩
       ·rintro J u ⟨hu1, hu2, hu3, hu4, hu5, hu6⟩ hJ
        refine en aA 0 6 [] ?_
        refine bM 0 rfl rfl (fun h99 => ?_) (fun h99 => ?_)
        ·simp only [Bool.and_eq_true, decide_eq_true_eq] at h99
         obtain ⟨hg1, hg2⟩ := h99
         obtain ⟨q, hq⟩ : ∃ q, u.1 = q + 1 := ⟨u.1 - 1, by omega⟩
         rw [hq] at hu6
         refine en aA 0 3 [] ?_
         refine sn aA 0 3 [] ?_
         refine sl 0 ?_
         exact hJ (q, 10 * u.2.1, u.2.2 - 1) ⟨by simp only; omega, by simp only; omega, by simp only; omega, by simp only; omega, by simp only; omega, by rw [← hu6, K2 hg1 hg2]⟩ (by simp only; omega)
        ·have hT : i8 3 t.2.1 (if t.2.2 < 0 then 3 else t.2.2) = (u.2.1, u.2.2) := by
          rw [hl, ← hu6]
          refine K3 (fun hh => ?_)
          rw [decide_eq_true hh.1, decide_eq_true hh.2] at h99
          cases h99
         refine en aA 0 1 [] ?_
         refine fc aA 2 [] (b6) ?_
         refine sn aA 0 7 [] ?_ (hφ := by (repeat' refine And.intro ?_ ?_) <;> first | exact id | trivial | omega | (intro hg; have hg := List.length_pos_iff.2 (of_decide_eq_true hg); exact ⟨by omega, by omega⟩))
         refine bM 0 rfl rfl (fun h112 => ?_) (fun h112 => ?_)
         ·simp only [Bool.and_eq_true, decide_eq_true_eq] at h112
          have hx : (if s.head? = some 45 then -u.2.1 else u.2.1) = 0 - u.2.1 := by
           rw [if_pos (pA.2 ⟨by simpa using h112.1, UInt8.toNat_inj.1 (Int.ofNat.inj h112.2)⟩)]; omega
          have e0 := u6 hn4 h20 hd hT hx
          refine en aA 0 2 [] ?_
          refine fc aA 1 [] (b6) ?_
          refine sn aA 0 4 [] ?_
          refine fg aA 4 [] (fun hg => b7) ?_
          refine fg aA 3 [] (fun hg => l7) ?_
          refine bM 0 rfl rfl (fun h128 => ?_) (fun h128 => ?_)
          ·have e := e0
           rw [if_pos (by simpa [or_assoc, and_assoc] using h128)] at e
           refine en aA 0 3 [] ?_
           refine sr 0 R ?_
           rw [e]; rfl
          ·have e := e0
           rw [if_neg (by simpa [or_assoc, and_assoc] using h128)] at e
           refine en aA 0 3 [] ?_
           refine sr 0 R ?_
           rw [e]; rfl
         ·have hx : (if s.head? = some 45 then -u.2.1 else u.2.1) = u.2.1 := if_neg (fun hh => by
           have hh := pA.1 hh
           have h112 : (decide (¬ s = []) && decide (((s.getD 0 0).toNat : Int) = 45)) = false := h112
           rw [decide_eq_true hh.1, decide_eq_true (show ((s.getD 0 0).toNat : Int) = 45 by rw [hh.2]; rfl)] at h112
           cases h112)
          have e0 := u6 hn4 h20 hd hT hx
          refine en aA 0 4 [] ?_
          refine fg aA 4 [] (fun hg => b7) ?_
          refine fg aA 3 [] (fun hg => l7) ?_
          refine bM 0 rfl rfl (fun h128 => ?_) (fun h128 => ?_)
          ·have e := e0
           rw [if_pos (by simpa [or_assoc, and_assoc] using h128)] at e
           refine en aA 0 3 [] ?_
           refine sr 0 R ?_
           rw [e]; rfl
          ·have e := e0
           rw [if_neg (by simpa [or_assoc, and_assoc] using h128)] at e
           refine en aA 0 3 [] ?_
           refine sr 0 R ?_
           rw [e]; rfl
      ·obtain ⟨l0, hl0⟩ : ∃ l0 : Int, l0 = t.2.2 := ⟨_, rfl⟩
       have hl : (if t.2.2 < 0 then 3 else t.2.2) = l0 := by rw [if_neg h93, hl0]
       have hlb : 0 ≤ l0 ∧ l0 ≤ 3 := by omega
       refine el 0 ?_
       rw [← hl0]
       refine aD (σ := Nat × Int × Int) (fun u => u.2.2 ≤ u.1 ∧ 0 ≤ u.2.1 ∧ u.2.1 ≤ 10000000000000009 ∧ 0 ≤ u.2.2 ∧ u.2.2 ≤ 3 ∧ i8 u.1 u.2.1 u.2.2 = i8 3 t.2.1 l0) (fun u => u.1)
        (fun u => [(0, .str s), (2, .l 2 0), (6, nI u.2.1), (7, nI u.2.2)])
        (fun u => [(2, .c 26 [nI 0, nI 0])]) (3, t.2.1, l0) ?_ ?_
       ·exact ⟨by simp only; omega, ht2, ht3, hlb.1, hlb.2, rfl⟩
       ·rintro J u ⟨hu1, hu2, hu3, hu4, hu5, hu6⟩ hJ
        refine en aA 0 6 [] ?_
        refine bM 0 rfl rfl (fun h99 => ?_) (fun h99 => ?_)
        ·simp only [Bool.and_eq_true, decide_eq_true_eq] at h99
         obtain ⟨hg1, hg2⟩ := h99
         obtain ⟨q, hq⟩ : ∃ q, u.1 = q + 1 := ⟨u.1 - 1, by omega⟩
         rw [hq] at hu6
         refine en aA 0 3 [] ?_
         refine sn aA 0 3 [] ?_
         refine sl 0 ?_
         exact hJ (q, 10 * u.2.1, u.2.2 - 1) ⟨by simp only; omega, by simp only; omega, by simp only; omega, by simp only; omega, by simp only; omega, by rw [← hu6, K2 hg1 hg2]⟩ (by simp only; omega)
        ·have hT : i8 3 t.2.1 (if t.2.2 < 0 then 3 else t.2.2) = (u.2.1, u.2.2) := by
          rw [hl, ← hu6]
          refine K3 (fun hh => ?_)
          rw [decide_eq_true hh.1, decide_eq_true hh.2] at h99
          cases h99
         refine en aA 0 1 [] ?_
         refine fc aA 2 [] (b6) ?_
         refine sn aA 0 7 [] ?_ (hφ := by (repeat' refine And.intro ?_ ?_) <;> first | exact id | trivial | omega | (intro hg; have hg := List.length_pos_iff.2 (of_decide_eq_true hg); exact ⟨by omega, by omega⟩))
         refine bM 0 rfl rfl (fun h112 => ?_) (fun h112 => ?_)
         ·simp only [Bool.and_eq_true, decide_eq_true_eq] at h112
          have hx : (if s.head? = some 45 then -u.2.1 else u.2.1) = 0 - u.2.1 := by
           rw [if_pos (pA.2 ⟨by simpa using h112.1, UInt8.toNat_inj.1 (Int.ofNat.inj h112.2)⟩)]; omega
          have e0 := u6 hn4 h20 hd hT hx
          refine en aA 0 2 [] ?_
          refine fc aA 1 [] (b6) ?_
          refine sn aA 0 4 [] ?_
          refine fg aA 4 [] (fun hg => b7) ?_
          refine fg aA 3 [] (fun hg => l7) ?_
          refine bM 0 rfl rfl (fun h128 => ?_) (fun h128 => ?_)
          ·have e := e0
           rw [if_pos (by simpa [or_assoc, and_assoc] using h128)] at e
           refine en aA 0 3 [] ?_
           refine sr 0 R ?_
           rw [e]; rfl
          ·have e := e0
           rw [if_neg (by simpa [or_assoc, and_assoc] using h128)] at e
           refine en aA 0 3 [] ?_
           refine sr 0 R ?_
           rw [e]; rfl
         ·have hx : (if s.head? = some 45 then -u.2.1 else u.2.1) = u.2.1 := if_neg (fun hh => by
           have hh := pA.1 hh
           have h112 : (decide (¬ s = []) && decide (((s.getD 0 0).toNat : Int) = 45)) = false := h112
           rw [decide_eq_true hh.1, decide_eq_true (show ((s.getD 0 0).toNat : Int) = 45 by rw [hh.2]; rfl)] at h112
           cases h112)
          have e0 := u6 hn4 h20 hd hT hx
          refine en aA 0 4 [] ?_
          refine fg aA 4 [] (fun hg => b7) ?_
          refine fg aA 3 [] (fun hg => l7) ?_
          refine bM 0 rfl rfl (fun h128 => ?_) (fun h128 => ?_)
          ·have e := e0
           rw [if_pos (by simpa [or_assoc, and_assoc] using h128)] at e
           refine en aA 0 3 [] ?_
           refine sr 0 R ?_
           rw [e]; rfl
          ·have e := e0
           rw [if_neg (by simpa [or_assoc, and_assoc] using h128)] at e
           refine en aA 0 3 [] ?_
           refine sr 0 R ?_
           rw [e]; rfl
theorem NI {s : Bytes} {ex : Pd → Ex × Pd} {p : Pd} {dp : Nat} (hi : p.i ≤ s.length) (hs : s.length ≤ 1024) (hd : p.e ≠ 0) : Fp Tryz.prog gT 329 [.l 1000 0, nI dp] (dE s p) (eD (c7 aB s ex p).1) (dE s (c7 aB s ex p).2) := by
 refine lU aA (fn := Tryz.f329) 215 [.cell 4 29] Tryz.func329 Tryz.results329 (fun g0 B0 Q ρ0 R => ?_)
 have e2 := xZ (pv := aB) (s := s) (ex := ex) hd
 refine en aA 0 1 [] ?_
 refine sn aA 0 1 [] ?_
 refine fp aA 1000 0 [] (fY hi hs) ?_
 refine sn aA 0 5 [] ?_
 refine sn aA 0 5 [] ?_
 refine si 0 rfl rfl (fun h24 => ?_) (fun h24 => ?_)
 ·refine en aA 0 2 [] ?_
  refine fW 0 R ?_
  exact ⟨by rw [e2] <;> rfl, by rw [e2] <;> rfl⟩
 ·exact absurd hd h24
theorem SO {s : Bytes} {p : Pd} {ex : Pd → Ex × Pd} {dp : Nat} (hdp : dp ≤ 33) (fx : lH s ex) (hex : ∀ p : Pd, p.i ≤ s.length → Fp Tryz.prog gT 50 [.l 1000 0, nI ((dp : Int) + 1)] (dE s p) (eD (ex p).1) (dE s (ex p).2)) (hi : p.i ≤ s.length) (hs : s.length ≤ 1024) : Fp Tryz.prog gT 329 [.l 1000 0, nI dp] (dE s p) (eD (c7 aB s ex p).1) (dE s (c7 aB s ex p).2) := by
 refine lU aA (fn := Tryz.f329) 215 [.cell 4 29] Tryz.func329 Tryz.results329 (fun g0 B0 Q ρ0 R => ?_)
 obtain ⟨q, hq⟩ : ∃ q, q = p.blanks s := ⟨_, rfl⟩
 have hbf := iP hi
 have hqe : q.e = p.e := by rw [hq]; rfl
 rw [← hq] at hbf
 refine en aA 0 1 [] ?_
 refine sn aA 0 1 [] ?_
 refine fp aA 1000 0 [] (fY hi hs) ?_
 rw [← hq]
 refine sn aA 0 5 [] ?_
 refine sn aA 0 5 [] ?_
 refine si 0 rfl rfl (fun h24 => ?_) (fun h24 => ?_)
 ·have e2 := xZ (pv := aB) (s := s) (ex := ex) (p := p) (hqe ▸ h24)
  rw [← hq] at e2
  refine en aA 0 2 [] ?_
  refine fW 0 R ?_
  exact ⟨by rw [e2] <;> rfl, by rw [e2] <;> first | rfl | (rw [hp2i] <;> rfl) | (rw [hfi] <;> rfl)⟩
 ·have hd : p.e = 0 := hqe ▸ Decidable.not_not.1 h24
  refine en aA 0 2 [] ?_
  refine fp aA 1000 1 [] (fQ (l := [iZ]) xX hbf.2 hs) ?_
  refine si 0 rfl rfl (fun h29 => ?_) (fun h29 => ?_)
  ·obtain ⟨o, e1⟩ : ∃ o, aS s [iZ] q = some o := Option.ne_none_iff_exists'.1 (fun h => h29 (bP.2 h))
   have e2 := NF (pv := aB) (ex := ex) hd (hq ▸ e1)
   rw [← hq] at e2
   have htf := cD (l := [iZ]) hbf.2
   have hx1 := fx _ htf.2
   refine en aA 0 3 [] ?_
   refine fp aA 1000 2 [] (hex (aJ s [iZ] q) htf.2) ?_
   refine sn aA 0 1 [] ?_
   refine fp aA 1000 0 [] (x3 (x := GO) (p := (ex (aJ s [iZ] q)).2) hx1.2 hs) ?_
   refine sn aA 0 2 [] ?_
   refine fW 0 R ?_
   exact ⟨by rw [e2] <;> rfl, by rw [e2] <;> first | rfl | (rw [hp2i] <;> rfl) | (rw [hfi] <;> rfl)⟩
  ·have e1 : aS s [iZ] q = none := bP.1 (Decidable.not_not.1 h29)
   have e1p : aS s [iZ] (p.blanks s) = none := hq ▸ e1
   have etp : aJ s [iZ] q = q := by rw [hq]; exact xY e1p
   rw [etp]
   refine en aA 0 7 [] ?_
   refine si 0 rfl rfl (fun h43 => ?_) (fun h43 => ?_)
   ·have e2 := NG (pv := aB) (ex := ex) hd e1p (by rw [← hq]; exact List.drop_eq_nil_of_le (by omega))
    rw [← hq] at e2
    refine en aA 0 2 [] ?_
    refine fp aA 1000 0 [] (fP) ?_
    refine sn aA 0 2 [] ?_
    refine fW 0 R ?_
    exact ⟨by rw [e2] <;> rfl, by rw [e2] <;> first | rfl | (rw [hp2i] <;> rfl) | (rw [hfi] <;> rfl)⟩
   ·have hlt : q.i < s.length := by omega
    obtain ⟨c, hc⟩ : ∃ c, c = s.getD q.i 0 := ⟨_, rfl⟩
    obtain ⟨r, hr⟩ : ∃ r, r = s.drop (q.i + 1) := ⟨_, rfl⟩
    have hcr : s.drop q.i = c :: r := by rw [hc, hr]; exact mP hlt
    have e0 := IJ (pv := aB) (ex := ex) hd e1p (by rw [← hq]; exact hcr)
    rw [← hq] at e0
    refine en aA 0 7 [] ?_ (hφ := by (repeat' refine And.intro ?_ ?_) <;> first | exact id | trivial | omega | (intro hg h2; rw [hg, h2]; rfl) | (intro hg; rw [hg]; rfl) | (intro hg; simp only [Bool.and_eq_true, decide_eq_true_eq] at hg; refine ⟨?_, ?_⟩ <;> omega))
    refine jR 7 rfl (v' := .v (.int .u8 (c.toNat : Int))) ?_ ?_
    ·rw [hc] <;> rfl
    refine sn aA 0 1 [] ?_
    refine fc aA 1 [] (digit_ok (c := c) rfl) ?_
    refine bM 0 rfl rfl (fun h54 => ?_) (fun h54 => ?_)
    ·have hg : c ∈ b8 := of_decide_eq_true h54
     refine en aA 0 2 [] ?_
     refine sl 0 ?_
     refine aD (σ := Nat) (fun k => q.i + k ≤ s.length ∧ ∀ x ∈ (s.drop (q.i)).take k, x ∈ b8) (fun k => s.length - k)
      (fun k => [(0, .l 1000 0), (1, nI dp), (4, .l 4 0), (5, nI q.i), (8, nI ((q.i + k : Nat) : Int))])
      (fun k => [(4, .c 29 [nI 0, .str [], nI 0, nI 0, .s 0 []]), (1000, dE s q)]) 0 ?_ ?_
     ·exact ⟨by omega, by simp⟩
     ·rintro J k ⟨hk0, hk1⟩ hK
      refine en aA 0 14 [] ?_ (hφ := by (repeat' refine And.intro ?_ ?_) <;> first | exact id | trivial | omega | (intro hg h2; rw [hg, h2]; rfl) | (intro hg; rw [hg]; rfl) | (intro hg; simp only [Bool.and_eq_true, decide_eq_true_eq] at hg; refine ⟨?_, ?_⟩ <;> omega))
      refine fg aA 1 [] (fun hg => digit_ok (c := s.getD (q.i + k) 0) rfl) ?_ (hφ := by (repeat' refine And.intro ?_ ?_) <;> first | exact id | trivial | omega | (intro hg h2; rw [hg, h2]; rfl) | (intro hg; rw [hg]; rfl) | (intro hg; simp only [Bool.and_eq_true, decide_eq_true_eq] at hg; refine ⟨?_, ?_⟩ <;> omega))
      refine bM 0 rfl rfl (fun h73 => ?_) (fun h73 => ?_)
      ·simp only [Bool.and_eq_true] at h73
       have q1 := of_decide_eq_true h73.1
       have hld1 := of_decide_eq_true h73.2
       refine en aA 0 3 [] ?_ (hφ := by (repeat' refine And.intro ?_ ?_) <;> first | omega | exact id | trivial)
       refine sl 0 ?_
       refine jG 8 rfl (v' := nI ((q.i + (k + 1) : Nat) : Int)) (congrArg (fun z : Int => nI z) (by omega)) ?_
       exact hK (k + 1) ⟨by omega, fun x hx => by
        have hkl : k < (s.drop (q.i)).length := by rw [List.length_drop]; omega
        rw [List.take_succ_eq_append_getElem hkl] at hx
        rcases List.mem_append.1 hx with hx | hx
        ·exact hk1 x hx
        ·simp only [List.mem_singleton] at hx
         rw [hx, f8 (by omega)]; exact hld1⟩ (by omega)
      ·have ek : a7 b8 (s.drop (q.i)) = k := o9 (by rw [List.length_drop]; omega) hk1 (fun hh hm => by
        rw [List.length_drop] at hh
        rw [f8 (by omega)] at hm
        rcases Bool.and_eq_false_iff.1 h73 with q | q
        ·exact of_decide_eq_false q (by omega)
        ·exact of_decide_eq_false q hm)
       refine en aA 0 25 [] ?_ (hφ := by (repeat' refine And.intro ?_ ?_) <;> first | exact id | trivial | omega | (intro hg h2; rw [hg, h2]; rfl) | (intro hg; rw [hg]; rfl) | (intro hg; simp only [Bool.and_eq_true, decide_eq_true_eq] at hg; refine ⟨?_, ?_⟩ <;> omega))
       refine fg aA 1 [] (fun hg => digit_ok (c := s.getD (q.i + k + 1) 0) rfl) ?_ (hφ := by (repeat' refine And.intro ?_ ?_) <;> first | exact id | trivial | omega | (intro hg h2; rw [hg, h2]; rfl) | (intro hg; rw [hg]; rfl) | (intro hg; simp only [Bool.and_eq_true, decide_eq_true_eq] at hg; refine ⟨?_, ?_⟩ <;> omega))
       refine bM 0 rfl rfl (fun h102 => ?_) (fun h102 => ?_)
       ·simp only [Bool.and_eq_true, decide_eq_true_eq] at h102
        obtain ⟨⟨g1, g2⟩, g3⟩ := h102
        have g1 : q.i + k + 1 < s.length := by omega
        have g2 : s.getD (q.i + k) 0 = 46 := UInt8.toNat_inj.1 (Int.ofNat.inj g2)
        refine en aA 0 3 [] ?_ (hφ := by (repeat' refine And.intro ?_ ?_) <;> first | omega | exact id | trivial)
        refine sl 0 ?_
        refine aD (σ := Nat) (fun m => q.i + k + 1 + m ≤ s.length ∧ ∀ x ∈ (s.drop (q.i + k + 1)).take m, x ∈ b8) (fun m => s.length - m)
         (fun m => [(0, .l 1000 0), (1, nI dp), (4, .l 4 0), (5, nI q.i), (8, nI ((q.i + k + 1 + m : Nat) : Int))])
         (fun m => [(4, .c 29 [nI 0, .str [], nI 0, nI 0, .s 0 []]), (1000, dE s q)]) 0 ?_ ?_
        ·exact ⟨by omega, by simp⟩
        ·rintro J m ⟨hm0, hm1⟩ hM
         refine en aA 0 14 [] ?_ (hφ := by (repeat' refine And.intro ?_ ?_) <;> first | exact id | trivial | omega | (intro hg h2; rw [hg, h2]; rfl) | (intro hg; rw [hg]; rfl) | (intro hg; simp only [Bool.and_eq_true, decide_eq_true_eq] at hg; refine ⟨?_, ?_⟩ <;> omega))
         refine fg aA 1 [] (fun hg => digit_ok (c := s.getD (q.i + k + 1 + m) 0) rfl) ?_ (hφ := by (repeat' refine And.intro ?_ ?_) <;> first | exact id | trivial | omega | (intro hg h2; rw [hg, h2]; rfl) | (intro hg; rw [hg]; rfl) | (intro hg; simp only [Bool.and_eq_true, decide_eq_true_eq] at hg; refine ⟨?_, ?_⟩ <;> omega))
         refine bM 0 rfl rfl (fun h120 => ?_) (fun h120 => ?_)
         ·simp only [Bool.and_eq_true] at h120
          have q1 := of_decide_eq_true h120.1
          have hld2 := of_decide_eq_true h120.2
          refine en aA 0 3 [] ?_ (hφ := by (repeat' refine And.intro ?_ ?_) <;> first | omega | exact id | trivial)
          refine sl 0 ?_
          refine jG 8 rfl (v' := nI ((q.i + k + 1 + (m + 1) : Nat) : Int)) (congrArg (fun z : Int => nI z) (by omega)) ?_
          exact hM (m + 1) ⟨by omega, fun x hx => by
           have hkl : m < (s.drop (q.i + k + 1)).length := by rw [List.length_drop]; omega
           rw [List.take_succ_eq_append_getElem hkl] at hx
           rcases List.mem_append.1 hx with hx | hx
           ·exact hm1 x hx
           ·simp only [List.mem_singleton] at hx
            rw [hx, f8 (by omega)]; exact hld2⟩ (by omega)
         ·have em : a7 b8 (s.drop (q.i + k + 1)) = m := o9 (by rw [List.length_drop]; omega) hm1 (fun hh hm => by
           rw [List.length_drop] at hh
           rw [f8 (by omega)] at hm
           rcases Bool.and_eq_false_iff.1 h120 with q | q
           ·exact of_decide_eq_false q (by omega)
           ·exact of_decide_eq_false q hm)
          obtain ⟨nl, hnl⟩ : ∃ nl, nl = bE (s.drop q.i) := ⟨_, rfl⟩
          have enl : nl = k + 1 + m := by rw [hnl]; exact F3 ek g1 g2 g3 em
          refine jG 8 rfl (v' := nI ((q.i + nl : Nat) : Int)) ?_ ?_
          ·exact E1 (by omega)
          refine en aA 0 7 [] ?_ (hφ := by (repeat' refine And.intro ?_ ?_) <;> first | exact id | trivial | omega | (intro hg h2; rw [hg, h2]; rfl) | (intro hg; rw [hg]; rfl) | (intro hg; simp only [Bool.and_eq_true, decide_eq_true_eq] at hg; refine ⟨?_, ?_⟩ <;> omega))
          obtain ⟨W, hW⟩ : ∃ W, W = (s.drop q.i).take nl := ⟨_, rfl⟩
          have hWl : W.length ≤ 1000000 := by rw [hW, List.length_take, List.length_drop]; omega
          have e3 : c7 aB s ex p = (mG (aB W).1, { (if (aB W).2 = 0 then q else q.fail 110 q.i) with i := q.i + nl }) := by rw [e0, if_pos hg, ← hcr, hW, hnl]; rfl
          refine jR 130 rfl (v' := .str W) ?_ ?_
          ·rw [hW, show ((q.i + nl : Nat) : Int).toNat - (q.i : Int).toNat = nl by omega] <;> rfl
          refine fc aA 6 [] (x4 (s := W) hWl) ?_
          refine sn aA 0 2 [] ?_
          refine si 0 rfl rfl (fun h135 => ?_) (fun h135 => ?_)
          ·have hfi := k9 q 110 q.i
           have e2 := e3
           rw [if_neg h135] at e2
           refine en aA 0 2 [] ?_
           refine fp aA 1000 0 [] (fP) ?_
           refine sn aA 0 5 [] ?_
           refine sn aA 0 3 [] ?_
           refine fW 0 R ?_
           exact ⟨by rw [e2] <;> rfl, by rw [e2] <;> first | rfl | (rw [hp2i] <;> rfl) | (rw [hfi] <;> rfl)⟩
          ·have e2 := e3
           rw [if_pos (Decidable.not_not.1 h135)] at e2
           refine en aA 0 5 [] ?_
           refine sn aA 0 3 [] ?_
           refine fW 0 R ?_
           exact ⟨by rw [e2] <;> rfl, by rw [e2] <;> first | rfl | (rw [hp2i] <;> rfl) | (rw [hfi] <;> rfl)⟩
       ·obtain ⟨nl, hnl⟩ : ∃ nl, nl = bE (s.drop q.i) := ⟨_, rfl⟩
        have enl : nl = k := by
         rw [hnl]
         refine CJ ek (fun hh => ?_)
         have h102 : (decide ((q.i : Int) + k + 1 < s.length) && decide (((s.getD (q.i + k) 0).toNat : Int) = 46) && decide (s.getD (q.i + k + 1) 0 ∈ b8)) = false := h102
         rw [decide_eq_true (show (q.i : Int) + k + 1 < s.length by omega), decide_eq_true (show ((s.getD (q.i + k) 0).toNat : Int) = 46 by rw [hh.2.1]; rfl), decide_eq_true hh.2.2] at h102
         cases h102
        refine jG 8 rfl (v' := nI ((q.i + nl : Nat) : Int)) ?_ ?_
        ·exact E1 (by omega)
        refine en aA 0 7 [] ?_ (hφ := by (repeat' refine And.intro ?_ ?_) <;> first | exact id | trivial | omega | (intro hg h2; rw [hg, h2]; rfl) | (intro hg; rw [hg]; rfl) | (intro hg; simp only [Bool.and_eq_true, decide_eq_true_eq] at hg; refine ⟨?_, ?_⟩ <;> omega))
        obtain ⟨W, hW⟩ : ∃ W, W = (s.drop q.i).take nl := ⟨_, rfl⟩
        have hWl : W.length ≤ 1000000 := by rw [hW, List.length_take, List.length_drop]; omega
        have e3 : c7 aB s ex p = (mG (aB W).1, { (if (aB W).2 = 0 then q else q.fail 110 q.i) with i := q.i + nl }) := by rw [e0, if_pos hg, ← hcr, hW, hnl]; rfl
        refine jR 130 rfl (v' := .str W) ?_ ?_
        ·rw [hW, show ((q.i + nl : Nat) : Int).toNat - (q.i : Int).toNat = nl by omega] <;> rfl
        refine fc aA 6 [] (x4 (s := W) hWl) ?_
        refine sn aA 0 2 [] ?_
        refine si 0 rfl rfl (fun h135 => ?_) (fun h135 => ?_)
        ·have hfi := k9 q 110 q.i
         have e2 := e3
         rw [if_neg h135] at e2
         refine en aA 0 2 [] ?_
         refine fp aA 1000 0 [] (fP) ?_
         refine sn aA 0 5 [] ?_
         refine sn aA 0 3 [] ?_
         refine fW 0 R ?_
         exact ⟨by rw [e2] <;> rfl, by rw [e2] <;> first | rfl | (rw [hp2i] <;> rfl) | (rw [hfi] <;> rfl)⟩
        ·have e2 := e3
         rw [if_pos (Decidable.not_not.1 h135)] at e2
         refine en aA 0 5 [] ?_
         refine sn aA 0 3 [] ?_
         refine fW 0 R ?_
         exact ⟨by rw [e2] <;> rfl, by rw [e2] <;> first | rfl | (rw [hp2i] <;> rfl) | (rw [hfi] <;> rfl)⟩
    ·have hg : c ∉ b8 := of_decide_eq_false h54
     refine en aA 0 3 [] ?_
     refine si 0 rfl rfl (fun h145 => ?_) (fun h145 => ?_)
     ·have hc2 : c = 36 := QD (k := 36) h145
      obtain ⟨w, hw⟩ : ∃ w, w = r.take (a7 kB r) := ⟨_, rfl⟩
      have hwl : w.length ≤ s.length - (q.i + 1) := by rw [hw, List.length_take, hr, List.length_drop]; omega
      obtain ⟨p2, hp2⟩ : ∃ p2, p2 = (if lN w then q else q.fail 110 q.i) := ⟨_, rfl⟩
      have hp2i : p2.i = q.i := by rw [hp2]; split <;> simp [k9]
      have e2 : c7 aB s ex p = (sK w, { p2 with i := q.i + (1 + w.length) }) := by rw [e0, if_neg hg, if_pos hc2, hp2, hw]; rfl
      refine en aA 0 3 [] ?_ (hφ := by (repeat' refine And.intro ?_ ?_) <;> first | omega | exact id | trivial)
      refine jR 150 rfl (v' := nI ((q.i + 1 : Nat) : Int)) ?_ ?_
      ·rfl
      refine fp aA 1000 1 [] (F9 (fr := q.i + 1) (by omega) hs) ?_
      refine jR 11 rfl (v' := .str w) ?_ ?_
      ·rw [hw, hr]
      refine sn aA 0 1 [] ?_
      refine fc aA 1 [] (WA (w := w) (by omega)) ?_
      refine bM 0 rfl rfl (fun h154 => ?_) (fun h154 => ?_)
      ·refine en aA 0 2 [] ?_
       refine fp aA 1000 0 [] (fP) ?_
       refine uC 1000 (mb' := dE s p2) ?_ ?_
       ·rw [hp2]; first | rw [if_pos (by simpa using h154)] | rw [if_neg (by simpa using h154)]
       refine sn aA 0 9 [] ?_ (hφ := by (repeat' refine And.intro ?_ ?_) <;> omega)
       refine uC 1000 (mb' := dE s { p2 with i := q.i + (1 + w.length) }) ?_ ?_
       ·exact congrArg (fun z : Int => MB.c 101 [.str s, nI z, nI p2.e, nI p2.at_]) (by show ((q.i : Int) + 1 + w.length) = ((q.i + (1 + w.length) : Nat) : Int); omega)
       refine sn aA 0 3 [] ?_
       refine fW 0 R ?_
       exact ⟨by rw [e2] <;> rfl, by rw [e2] <;> first | rfl | (rw [hp2i] <;> rfl) | (rw [hfi] <;> rfl)⟩
      ·refine c6 1000 (mb' := dE s p2) ?_ ?_
       ·rw [hp2]; first | rw [if_pos (by simpa using h154)] | rw [if_neg (by simpa using h154)]
       refine en aA 0 9 [] ?_ (hφ := by (repeat' refine And.intro ?_ ?_) <;> omega)
       refine uC 1000 (mb' := dE s { p2 with i := q.i + (1 + w.length) }) ?_ ?_
       ·exact congrArg (fun z : Int => MB.c 101 [.str s, nI z, nI p2.e, nI p2.at_]) (by show ((q.i : Int) + 1 + w.length) = ((q.i + (1 + w.length) : Nat) : Int); omega)
       refine sn aA 0 3 [] ?_
       refine fW 0 R ?_
       exact ⟨by rw [e2] <;> rfl, by rw [e2] <;> first | rfl | (rw [hp2i] <;> rfl) | (rw [hfi] <;> rfl)⟩
     ·have hc2 : c ≠ 36 := fun h => h145 (by rw [h]; rfl)
      refine en aA 0 1 [] ?_
      refine fc aA 1 [] (tH (c := c) rfl) ?_
      refine bM 0 rfl rfl (fun h168 => ?_) (fun h168 => ?_)
      ·have hg2 : c ∈ pD := of_decide_eq_true h168
       obtain ⟨w, hw⟩ : ∃ w, w = (s.drop q.i).take (a7 kB (s.drop q.i)) := ⟨_, rfl⟩
       have hwl : w.length ≤ s.length - q.i := by rw [hw, List.length_take, List.length_drop]; omega
       obtain ⟨p1, hp1⟩ : ∃ p1 : Pd, p1 = { q with i := q.i + w.length } := ⟨_, rfl⟩
       have hp1i : p1.i = q.i + w.length := by rw [hp1]
       have e4 : c7 aB s ex p = lO s ex (s.drop q.i) q := by rw [e0, if_neg hg, if_neg hc2, if_pos hg2, hcr]
       have hm1 := tC (s := s) (x := iZ) (p := p1) (by omega)
       have hx1 := fx _ hm1.2
       refine en aA 0 2 [] ?_
       refine fp aA 1000 1 [] (F9 (fr := q.i) (by omega) hs) ?_
       refine jR 12 rfl (v' := .str w) ?_ ?_
       ·rw [hw]
       refine sn aA 0 8 [] ?_ (hφ := by (repeat' refine And.intro ?_ ?_) <;> omega)
       refine uC 1000 (mb' := dE s p1) ?_ ?_
       ·rw [hp1]; rfl
       refine sn aA 0 3 [] ?_
       refine si 0 rfl rfl (fun h181 => ?_) (fun h181 => ?_)
       ·have e2 : c7 aB s ex p = (mG eI, p1) := by rw [e4]; unfold lO; simp only; rw [← hw, if_pos h181, hp1]
        refine en aA 0 0 [] ?_
        refine fc aA 2 [] (xU) ?_
        refine fW 0 R ?_
        exact ⟨by rw [e2] <;> rfl, by rw [e2] <;> first | rfl | (rw [hp2i] <;> rfl) | (rw [hfi] <;> rfl)⟩
       ·refine en aA 0 3 [] ?_
        refine si 0 rfl rfl (fun h186 => ?_) (fun h186 => ?_)
        ·have e2 : c7 aB s ex p = (mG fG, p1) := by rw [e4]; unfold lO; simp only; rw [← hw, if_neg h181, if_pos h186, hp1]
         refine en aA 0 0 [] ?_
         refine fc aA 2 [] (o7) ?_
         refine fW 0 R ?_
         exact ⟨by rw [e2] <;> rfl, by rw [e2] <;> first | rfl | (rw [hp2i] <;> rfl) | (rw [hfi] <;> rfl)⟩
        ·refine en aA 0 3 [] ?_
         refine si 0 rfl rfl (fun h191 => ?_) (fun h191 => ?_)
         ·have e2 : c7 aB s ex p = (mG fE, p1) := by rw [e4]; unfold lO; simp only; rw [← hw, if_neg h181, if_neg h186, if_pos h191, hp1]
          refine en aA 0 0 [] ?_
          refine fc aA 2 [] (n0) ?_
          refine fW 0 R ?_
          exact ⟨by rw [e2] <;> rfl, by rw [e2] <;> first | rfl | (rw [hp2i] <;> rfl) | (rw [hfi] <;> rfl)⟩
         ·refine en aA 0 1 [] ?_
          refine fc aA 1 [] (CL) ?_
          refine bM 0 rfl rfl (fun h196 => ?_) (fun h196 => ?_)
          ·have e2 : c7 aB s ex p = (eU w [(EJ s ex (i7 s iZ p1)).1], (EJ s ex (i7 s iZ p1)).2) := by rw [e4]; unfold lO; simp only; rw [← hw, if_neg h181, if_neg h186, if_neg h191, if_pos h196, hp1]
           refine en aA 0 1 [] ?_
           refine fp aA 1000 0 [] (x3 (x := iZ) (p := p1) (by omega) hs) ?_
           refine sn aA 0 3 [] ?_
           refine fp aA 1000 2 [] (hex (i7 s iZ p1) hm1.2) ?_
           refine sn aA 0 1 [] ?_
           refine fp aA 1000 0 [] (x3 (x := GO) (p := (ex (i7 s iZ p1)).2) hx1.2 hs) ?_
           refine sn aA 0 3 [] ?_
           refine fc aA 1 [] (AM) ?_
           refine fW 0 R ?_
           exact ⟨by rw [e2] <;> rfl, by rw [e2] <;> first | rfl | (rw [hp2i] <;> rfl) | (rw [hfi] <;> rfl)⟩
          ·have e2 : c7 aB s ex p = (mY, p1.fail 110 q.i) := by rw [e4]; unfold lO; simp only; rw [← hw, if_neg h181, if_neg h186, if_neg h191, if_neg (by rw [h196]; decide), hp1]
           refine en aA 0 2 [] ?_
           refine fp aA 1000 0 [] (fP) ?_
           refine sn aA 0 2 [] ?_
           refine fW 0 R ?_
           exact ⟨by rw [e2] <;> rfl, by rw [e2] <;> first | rfl | (rw [hp2i] <;> rfl) | (rw [hfi] <;> rfl)⟩
      ·have hg2 : c ∉ pD := of_decide_eq_false h168
       have e2 : c7 aB s ex p = (mY, q.fail 110 q.i) := by rw [e0, if_neg hg, if_neg hc2, if_neg hg2]
       refine en aA 0 2 [] ?_
       refine fp aA 1000 0 [] (fP) ?_
       refine sn aA 0 2 [] ?_
       refine fW 0 R ?_
       exact ⟨by rw [e2] <;> rfl, by rw [e2] <;> first | rfl | (rw [hp2i] <;> rfl) | (rw [hfi] <;> rfl)⟩
theorem SQ {s : Bytes} {u : Pd → Ex × Pd} {dp : Nat} (hs : s.length ≤ 1024) (fu : lH s u) (hu : (∀ p : Pd, p.i ≤ s.length → Fp Tryz.prog gT 314 [.l 1000 0, nI dp] (dE s p) (eD (u p).1) (dE s (u p).2))) (p : Pd) (hi : p.i ≤ s.length) : Fp Tryz.prog gT 282 [.l 1000 0, nI dp] (dE s p) (eD (eW s u 1 p).1) (dE s (eW s u 1 p).2) := SN (sub := u) fu hu hi hs
theorem SR {s : Bytes} {u : Pd → Ex × Pd} {dp : Nat} (hs : s.length ≤ 1024) (fu : lH s u) (hu : (∀ p : Pd, p.i ≤ s.length → Fp Tryz.prog gT 314 [.l 1000 0, nI dp] (dE s p) (eD (u p).1) (dE s (u p).2))) (p : Pd) (hi : p.i ≤ s.length) : Fp Tryz.prog gT 217 [.l 1000 0, nI dp] (dE s p) (eD (eW s u 2 p).1) (dE s (eW s u 2 p).2) := WE (sub := eW s u 1) (kL fu 1) (SQ hs fu hu) hi hs
theorem SS {s : Bytes} {u : Pd → Ex × Pd} {dp : Nat} (hs : s.length ≤ 1024) (fu : lH s u) (hu : (∀ p : Pd, p.i ≤ s.length → Fp Tryz.prog gT 314 [.l 1000 0, nI dp] (dE s p) (eD (u p).1) (dE s (u p).2))) (p : Pd) (hi : p.i ≤ s.length) : Fp Tryz.prog gT 141 [.l 1000 0, nI dp] (dE s p) (eD (eW s u 3 p).1) (dE s (eW s u 3 p).2) := WC (sub := eW s u 2) (kL fu 2) (SR hs fu hu) hi hs
theorem rR {s : Bytes} {u : Pd → Ex × Pd} {dp : Nat} (hs : s.length ≤ 1024) (fu : lH s u) (hu : (∀ p : Pd, p.i ≤ s.length → Fp Tryz.prog gT 314 [.l 1000 0, nI dp] (dE s p) (eD (u p).1) (dE s (u p).2))) (p : Pd) (hi : p.i ≤ s.length) : Fp Tryz.prog gT 93 [.l 1000 0, nI dp] (dE s p) (eD (eW s u 4 p).1) (dE s (eW s u 4 p).2) := WB (sub := eW s u 3) (kL fu 3) (SS hs fu hu) hi hs
theorem GA {s : Bytes} {u : Pd → Ex × Pd} {p : Pd} {dp : Nat} (fu : lH s u) (hu : (∀ p : Pd, p.i ≤ s.length → Fp Tryz.prog gT 314 [.l 1000 0, nI dp] (dE s p) (eD (u p).1) (dE s (u p).2))) (hi : p.i ≤ s.length) (hs : s.length ≤ 1024) : Fp Tryz.prog gT 50 [.l 1000 0, nI dp] (dE s p) (eD (kV s u dp p).1) (dE s (kV s u dp p).2) := by
 refine lU aA (fn := Tryz.f50) 30 [.cell 4 29] Tryz.func50 Tryz.results50 (fun g0 B0 Q ρ0 R => ?_)
 obtain ⟨E, hE⟩ : ∃ E, E = cM s dp p := ⟨_, rfl⟩
 have he := iR (s := s) (d := dp) hi
 rw [← hE] at he
 have hf4 := kL fu 4
 have e3 : kV s u dp p = bD (qC s) (eW s u 4) [mU] false (s.length + 1) (eW s u 4 E).1 (eW s u 4 E).2 := by rw [hE]; rfl
 refine en aA 0 1 [] ?_
 refine sn aA 0 1 [] ?_
 refine fp aA 1000 0 [] (fY hi hs) ?_
 refine sn aA 0 2 [] ?_
 refine si 0 rfl rfl (fun h9 => ?_) (fun h9 => ?_)
 ·have ee : (p.blanks s).fail 111 (p.blanks s).i = E := by rw [hE]; unfold cM; rw [if_pos (by omega)]
  refine en aA 0 5 [] ?_
  refine fp aA 1000 0 [] (fP) ?_
  refine uC 1000 (mb' := dE s E) ?_ ?_
  ·rw [ee]
  refine sn aA 0 2 [] ?_
  refine fp aA 1000 2 [] (rR hs fu hu E he.2) ?_
  refine sl 0 ?_
  refine aD (σ := Nat × Ex × Pd) (fun t => t.2.2.i ≤ s.length ∧ s.length < t.1 + t.2.2.i ∧ bD (qC s) (eW s u 4) [mU] false t.1 t.2.1 t.2.2 = bD (qC s) (eW s u 4) [mU] false (s.length + 1) (eW s u 4 E).1 (eW s u 4 E).2) (fun t => t.1)
   (fun t => [(0, .l 1000 0), (1, nI dp), (4, .l 4 0), (5, .l 5 0)])
   (fun t => [(5, .c 29 (kP t.2.1)), (4, .c 29 [nI 0, .str [], nI 0, nI 0, .s 0 []]), (1000, dE s t.2.2)]) (s.length + 1, (eW s u 4 E).1, (eW s u 4 E).2) ?_ ?_
  ·exact ⟨(hf4 E he.2).2, by simp only; omega, rfl⟩
  ·rintro J t ⟨ht1, ht2, ht3⟩ hJ
   obtain ⟨k, hk⟩ : ∃ k, t.1 = k + 1 := ⟨t.1 - 1, by omega⟩
   have htf := cD (l := [mU]) ht1
   have hsf := hf4 _ htf.2
   rw [hk] at ht3
   refine en aA 0 2 [] ?_
   refine fp aA 1000 1 [] (fQ (l := [mU]) xX ht1 hs) ?_
   refine si 0 rfl rfl (fun h22 => ?_) (fun h22 => ?_)
   ·obtain ⟨o, e1⟩ : ∃ o, aS s [mU] t.2.2 = some o := Option.ne_none_iff_exists'.1 (fun h => h22 (bP.2 h))
    obtain rfl : o = mU := List.mem_singleton.1 (iQ e1).2
    refine jH 0 72 [0, 0, 0, 6, 15, 31, 63] [1, 2, 3, 0, 4, 5, 6] ?_
    refine xd aA 2 [] ?_
    refine XY aA 1000 0 [] (rR hs fu hu (aJ s [mU] t.2.2) htf.2) ?_
    refine dl aA 1 [] ?_
    refine dc aA 1 [] (j3) ?_
    refine xe ?_
    refine sl 0 ?_
    exact hJ (k, eU mU [t.2.1, (eW s u 4 (aJ s [mU] t.2.2)).1], (eW s u 4 (aJ s [mU] t.2.2)).2) ⟨hsf.2, by simp only; have := kK ht1 e1; omega, by rw [← ht3, kM e1]⟩ (by simp only; omega)
   ·have e1 : aS s [mU] t.2.2 = none := bP.1 (Decidable.not_not.1 h22)
    have e2 : kV s u dp p = (t.2.1, aJ s [mU] t.2.2) := by rw [e3, ← ht3, iS e1]
    refine en aA 0 2 [] ?_
    refine fW 0 R ?_
    exact ⟨by rw [e2] <;> rfl, by rw [e2] <;> rfl⟩
 ·have ee : p.blanks s = E := by rw [hE]; unfold cM; rw [if_neg (by omega)]
  refine c6 1000 (mb' := dE s E) ?_ ?_
  ·rw [ee]
  refine en aA 0 2 [] ?_
  refine fp aA 1000 2 [] (rR hs fu hu E he.2) ?_
  refine sl 0 ?_
  refine aD (σ := Nat × Ex × Pd) (fun t => t.2.2.i ≤ s.length ∧ s.length < t.1 + t.2.2.i ∧ bD (qC s) (eW s u 4) [mU] false t.1 t.2.1 t.2.2 = bD (qC s) (eW s u 4) [mU] false (s.length + 1) (eW s u 4 E).1 (eW s u 4 E).2) (fun t => t.1)
   (fun t => [(0, .l 1000 0), (1, nI dp), (4, .l 4 0), (5, .l 5 0)])
   (fun t => [(5, .c 29 (kP t.2.1)), (4, .c 29 [nI 0, .str [], nI 0, nI 0, .s 0 []]), (1000, dE s t.2.2)]) (s.length + 1, (eW s u 4 E).1, (eW s u 4 E).2) ?_ ?_
  ·exact ⟨(hf4 E he.2).2, by simp only; omega, rfl⟩
  ·rintro J t ⟨ht1, ht2, ht3⟩ hJ
   obtain ⟨k, hk⟩ : ∃ k, t.1 = k + 1 := ⟨t.1 - 1, by omega⟩
   have htf := cD (l := [mU]) ht1
   have hsf := hf4 _ htf.2
   rw [hk] at ht3
   refine en aA 0 2 [] ?_
   refine fp aA 1000 1 [] (fQ (l := [mU]) xX ht1 hs) ?_
   refine si 0 rfl rfl (fun h22 => ?_) (fun h22 => ?_)
   ·obtain ⟨o, e1⟩ : ∃ o, aS s [mU] t.2.2 = some o := Option.ne_none_iff_exists'.1 (fun h => h22 (bP.2 h))
    obtain rfl : o = mU := List.mem_singleton.1 (iQ e1).2
    refine jH 0 72 [0, 0, 0, 6, 15, 31, 63] [1, 2, 3, 0, 4, 5, 6] ?_
    refine xd aA 2 [] ?_
    refine XY aA 1000 0 [] (rR hs fu hu (aJ s [mU] t.2.2) htf.2) ?_
    refine dl aA 1 [] ?_
    refine dc aA 1 [] (j3) ?_
    refine xe ?_
    refine sl 0 ?_
    exact hJ (k, eU mU [t.2.1, (eW s u 4 (aJ s [mU] t.2.2)).1], (eW s u 4 (aJ s [mU] t.2.2)).2) ⟨hsf.2, by simp only; have := kK ht1 e1; omega, by rw [← ht3, kM e1]⟩ (by simp only; omega)
   ·have e1 : aS s [mU] t.2.2 = none := bP.1 (Decidable.not_not.1 h22)
    have e2 : kV s u dp p = (t.2.1, aJ s [mU] t.2.2) := by rw [e3, ← ht3, iS e1]
    refine en aA 0 2 [] ?_
    refine fW 0 R ?_
    exact ⟨by rw [e2] <;> rfl, by rw [e2] <;> rfl⟩
theorem GB {s : Bytes} {p : Pd} (hi : p.i ≤ s.length) (hs : s.length ≤ 1024) : Fp Tryz.prog gT 314 [.l 1000 0, nI ((33 : Nat) : Int)] (dE s p) (eD (r5 aB s 0 p).1) (dE s (r5 aB s 0 p).2) := by
 refine lU aA (fn := Tryz.f314) 31 [.cell 4 29] Tryz.func314 Tryz.results314 (fun g0 B0 Q ρ0 R => ?_)
 obtain ⟨E, hE⟩ : ∃ E, E = cM s 33 p := ⟨_, rfl⟩
 have he := iR (s := s) (d := 33) hi
 have hd := SI (s := s) (p := p)
 rw [← hE] at he hd
 have e1 : aS s [a8, bZ] E = none := F7 hd
 have htf := cD (l := [a8, bZ]) he.2
 have e2 : r5 aB s 0 p = c7 aB s (fun q => (mY, q)) (aJ s [a8, bZ] E) := by rw [hE]; rfl
 refine en aA 0 1 [] ?_
 refine sn aA 0 1 [] ?_
 refine fp aA 1000 0 [] (fY hi hs) ?_
 refine sn aA 0 2 [] ?_
 refine si 0 rfl rfl (fun h9 => ?_) (fun h9 => ?_)
 ·have ee : (p.blanks s).fail 111 (p.blanks s).i = E := by rw [hE]; unfold cM; rw [if_pos (by omega)]
  refine en aA 0 5 [] ?_
  refine fp aA 1000 0 [] (fP) ?_
  refine uC 1000 (mb' := dE s E) ?_ ?_
  ·rw [ee]
  refine sn aA 0 2 [] ?_
  refine fp aA 1000 1 [] (fQ (l := [a8, bZ]) CH he.2 hs) ?_
  refine sn aA 0 2 [] ?_
  refine si 0 rfl rfl (fun h20 => ?_) (fun h20 => ?_)
  ·refine en aA 0 2 [] ?_
   refine fp aA 1000 1 [] (NI (ex := fun q => (mY, q)) (dp := 33) htf.2 hs (by rw [SJ]; exact hd)) ?_
   refine fW 0 R ?_
   exact ⟨by rw [e2] <;> rfl, by rw [e2] <;> rfl⟩
  ·exact absurd (bP.2 e1) h20
 ·exact absurd h9 (by decide)
theorem GE {s : Bytes} {p : Pd} {d dp : Nat} (hdp : dp + d = 32) (hun : ∀ p : Pd, p.i ≤ s.length → Fp Tryz.prog gT 314 [.l 1000 0, nI ((dp : Int) + 1)] (dE s p) (eD (r5 aB s d p).1) (dE s (r5 aB s d p).2)) (hi : p.i ≤ s.length) (hs : s.length ≤ 1024) : Fp Tryz.prog gT 314 [.l 1000 0, nI dp] (dE s p) (eD (r5 aB s (d + 1) p).1) (dE s (r5 aB s (d + 1) p).2) := by
 refine lU aA (fn := Tryz.f314) 31 [.cell 4 29] Tryz.func314 Tryz.results314 (fun g0 B0 Q ρ0 R => ?_)
 have h32 : 32 - d = dp := by omega
 have h33 : 33 - d = dp + 1 := by omega
 obtain ⟨E, hE⟩ : ∃ E, E = cM s dp p := ⟨_, rfl⟩
 have he := iR (s := s) (d := dp) hi
 rw [← hE] at he
 have htf := cD (l := [a8, bZ]) he.2
 have hfx := rQ (pv := aB) (s := s) d
 refine en aA 0 1 [] ?_
 refine sn aA 0 1 [] ?_
 refine fp aA 1000 0 [] (fY hi hs) ?_
 refine sn aA 0 2 [] ?_
 refine si 0 rfl rfl (fun h9 => ?_) (fun h9 => ?_)
 ·exact absurd h9 (by omega)
 ·have ee : p.blanks s = E := by rw [hE]; unfold cM; rw [if_neg (by omega)]
  refine c6 1000 (mb' := dE s E) ?_ ?_
  ·rw [ee]
  refine en aA 0 2 [] ?_
  refine fp aA 1000 1 [] (fQ (l := [a8, bZ]) CH he.2 hs) ?_
  refine sn aA 0 2 [] ?_
  refine si 0 rfl rfl (fun h20 => ?_) (fun h20 => ?_)
  ·have e1 : aS s [a8, bZ] E = none := bP.1 h20
   have e2 := F6 (pv := aB) (s := s) (p := p) (d := d) (by rw [h32, ← hE]; exact e1)
   rw [h32, h33, ← hE] at e2
   refine en aA 0 2 [] ?_
   refine fp aA 1000 1 [] (SO (ex := kV s (r5 aB s d) (dp + 1)) (dp := dp) (by omega) (tG hfx (dp + 1)) (fun p hi => GA (dp := dp + 1) hfx hun hi hs) htf.2 hs) ?_
   refine fW 0 R ?_
   exact ⟨by rw [e2] <;> rfl, by rw [e2] <;> rfl⟩
  ·obtain ⟨o, e1⟩ : ∃ o, aS s [a8, bZ] E = some o := Option.ne_none_iff_exists'.1 (fun h => h20 (bP.2 h))
   have e2 := F5 (pv := aB) (s := s) (p := p) (d := d) (o := o) (by rw [h32, ← hE]; exact e1)
   rw [h32, ← hE] at e2
   refine jG 5 rfl (v' := .str o) ?_ ?_
   ·rw [e1]; rfl
   refine en aA 0 4 [] ?_
   refine fp aA 1000 1 [] (hun (aJ s [a8, bZ] E) htf.2) ?_
   refine fc aA 1 [] (AM) ?_
   refine fW 0 R ?_
   exact ⟨by rw [e2] <;> rfl, by rw [e2] <;> rfl⟩
theorem x5 {s : Bytes} (hs : s.length ≤ 1024) : ∀ (d dp : Nat), dp + d = 33 → ∀ p : Pd, p.i ≤ s.length → Fp Tryz.prog gT 314 [.l 1000 0, nI dp] (dE s p) (eD (r5 aB s d p).1) (dE s (r5 aB s d p).2)
 | 0, dp, h, p, hi => by
   have : dp = 33 := by omega
   subst this
   exact GB hi hs
 | d + 1, dp, h, p, hi => GE (by omega) (fun p hi => x5 hs d (dp + 1) (by omega) p hi) hi hs
theorem NJ {s : Bytes} : Fc Tryz.prog gT 15 [.str s] (.t [eD (bK aB s).1, nI (bK aB s).2.1, nI (bK aB s).2.2]) := by
 refine fb aA (fn := Tryz.f15) 46 [.cell 2 29, .tmp 3, .tmp 4] Tryz.func15 Tryz.results15 (fun g0 B0 Q ρ0 R => ?_)
 refine en aA 0 3 [] ?_
 refine sn aA 0 3 [] ?_
 refine si 0 rfl rfl (fun h9 => ?_) (fun h9 => ?_)
 ·have e : bK aB s = (mY, 1, 0) := by rw [nO]; unfold vZ; rw [if_pos (by omega)]
  refine en aA 0 4 [] ?_
  refine sr 0 R ?_
  rw [e]; rfl
 ·have hs : s.length ≤ 1024 := by omega
  obtain ⟨A, hA⟩ : ∃ A, A = kV s (r5 aB s 33) 0 ⟨0, 0, 0⟩ := ⟨_, rfl⟩
  have hfA : A.2.i ≤ s.length := by rw [hA]; exact (tG (rQ 33) 0 _ (Nat.zero_le _)).2
  obtain ⟨q2, hq2⟩ : ∃ q2, q2 = (if (A.2.blanks s).i < s.length then (A.2.blanks s).fail 110 (A.2.blanks s).i else A.2.blanks s) := ⟨_, rfl⟩
  have e0 := F8 (by omega) hA hq2
  have hE : Fp Tryz.prog gT 50 [.l 1000 0, nI ((0 : Nat) : Int)] (dE s ⟨0, 0, 0⟩) (eD A.1) (dE s A.2) := by rw [hA]; exact GA (rQ 33) (x5 hs 33 0 rfl) (Nat.zero_le _) hs
  refine en aA 0 4 [] ?_
  refine uC 13 (mb' := dE s ⟨0, 0, 0⟩) ?_ ?_
  ·rfl
  refine sn aA 0 1 [] ?_
  refine fp aA 13 2 [] (hE) ?_
  refine sn aA 0 1 [] ?_
  refine fp aA 13 0 [] (fY hfA hs) ?_
  refine sn aA 0 7 [] ?_
  refine si 0 rfl rfl (fun h24 => ?_) (fun h24 => ?_)
  ·rw [if_pos (by omega)] at hq2
   refine en aA 0 5 [] ?_
   refine fp aA 13 0 [] (fP) ?_
   refine uC 13 (mb' := dE s q2) ?_ ?_
   ·rw [hq2]
   refine sn aA 0 5 [] ?_
   refine si 0 rfl rfl (fun h35 => ?_) (fun h35 => ?_)
   ·have e : bK aB s = (mY, q2.e, q2.at_) := by rw [nO, e0, if_neg h35]
    refine jH 0 512 [0, 0, 2, 6, 14, 0, 32, 96, 224, 1, 543, 2047] [0, 1, 2, 3, 5, 6, 7, 9, 4, 8, 10, 11] ?_
    refine xd aA 8 [] ?_
    refine dl aA 0 [] ?_
    refine dl aA 2 [] ?_
    refine xe ?_
    refine sr 0 R ?_
    rw [e]; rfl
   ·have e : bK aB s = (A.1, 0, 0) := by rw [nO, e0, if_pos (Decidable.not_not.1 h35)]
    refine en aA 0 4 [] ?_
    refine sr 0 R ?_
    rw [e]; rfl
  ·rw [if_neg (by omega)] at hq2
   refine c6 13 (mb' := dE s q2) ?_ ?_
   ·rw [hq2]
   refine en aA 0 5 [] ?_
   refine si 0 rfl rfl (fun h35 => ?_) (fun h35 => ?_)
   ·have e : bK aB s = (mY, q2.e, q2.at_) := by rw [nO, e0, if_neg h35]
    refine jH 0 512 [0, 0, 2, 6, 14, 0, 32, 96, 224, 1, 543, 2047] [0, 1, 2, 3, 5, 6, 7, 9, 4, 8, 10, 11] ?_
    refine xd aA 8 [] ?_
    refine dl aA 0 [] ?_
    refine dl aA 2 [] ?_
    refine xe ?_
    refine sr 0 R ?_
    rw [e]; rfl
   ·have e : bK aB s = (A.1, 0, 0) := by rw [nO, e0, if_pos (Decidable.not_not.1 h35)]
    refine en aA 0 4 [] ?_
    refine sr 0 R ?_
    rw [e]; rfl
theorem tI {s g : Bytes} (hs : s.length ≤ 1000000) : Fc Tryz.prog gT 116 [.str s, .str g] (nI (a7 g s)) := by
 refine fb aA (fn := Tryz.f116) 21 [.tmp 4] Tryz.func116 Tryz.results116 (fun g0 B0 Q ρ0 R => ?_)
 refine en aA 0 1 [] ?_
 refine sn aA 0 3 [] ?_
 refine sl 0 ?_
 refine aD (σ := Nat) (fun j => j ≤ s.length ∧ ∀ x ∈ s.take j, x ∈ g) (fun j => s.length - j)
  (fun j => [(0, .str s), (1, .str g), (7, nI s.length), (8, nI j)])
  (fun j => []) 0 ?_ ?_
 ·exact ⟨Nat.zero_le _, by simp⟩
 ·rintro J j ⟨hj0, hj1⟩ hJ
  refine en aA 0 1 [] ?_
  refine si 0 rfl rfl (fun h9 => ?_) (fun h9 => ?_)
  ·have hj : j < s.length := by omega
   have ec : s.getD ((j : Int)).toNat 0 = s[j] := by simp [List.getD_eq_getElem?_getD, hj]
   refine en aA 0 2 [] ?_
   refine sn aA 0 4 [] ?_
   refine fc aA 1 [] (JH (n := ((s.getD ((j : Int)).toNat 0).toNat : Int)) (c := s[j]) (by rw [ec])) ?_
   refine si 0 rfl rfl (fun h16 => ?_) (fun h16 => ?_)
   ·have hx : s[j] ∉ g := (nS _ _).1 h16
    have e : a7 g s = j := by
     rw [wG hj0 hj1, List.drop_eq_getElem_cons hj]
     have : a7 g (s[j] :: s.drop (j + 1)) = 0 := by unfold a7; rw [if_neg hx]
     omega
    refine en aA 0 2 [] ?_
    refine sr 0 R ?_
    rw [e]; rfl
   ·have hx : s[j] ∈ g := Classical.byContradiction fun h => h16 ((nS _ _).2 h)
    refine en aA 0 2 [] ?_
    exact hJ (j + 1) ⟨by omega, bH hj hj1 hx⟩ (by omega)
  ·have e : a7 g s = s.length := by
    have hjj : j = s.length := by omega
    rw [wG hj0 hj1, hjj, List.drop_length]; rfl
   refine en aA 0 3 [] ?_
   refine sr 0 R ?_
   rw [e]; rfl
theorem WF {l : List Bytes} {v : Bytes} : Fc Tryz.prog gT 133 [rB l, .str v] (nI (jS (fun x => decide (v = x)) l)) := by
 refine fb aA (fn := Tryz.f133) 19 [.tmp 4] Tryz.func133 Tryz.results133 (fun g0 B0 Q ρ0 R => ?_)
 refine en aA 0 1 [] ?_
 refine sn aA 0 3 [] ?_
 refine sl 0 ?_
 refine aD (σ := Nat) (fun j => j ≤ l.length ∧ ∀ x ∈ l.take j, decide (v = x) = false) (fun j => l.length - j)
  (fun j => [(0, rB l), (1, .str v), (4, nI 0), (7, nI l.length), (8, nI j)])
  (fun j => []) 0 ?_ ?_
 ·exact ⟨Nat.zero_le _, by simp⟩
 ·rintro J j ⟨hj0, hj1⟩ hJ
  refine lM 0 rfl (fun hl => ?_)
  simp only [List.length_map] at hl
  refine en aA 0 1 [] ?_
  refine si 0 rfl rfl (fun h9 => ?_) (fun h9 => ?_)
  ·have hj : j < l.length := by omega
   refine en aA 0 2 [] ?_
   refine sn aA 0 6 [[.str l[j]]] ?_ (hφ := by exact ⟨by omega, aO _ hj⟩)
   refine si 0 rfl rfl (fun h16 => ?_) (fun h16 => ?_)
   ·have e := iK (p := fun x => decide (v = x)) hj hj1 (by simpa using h16)
    refine en aA 0 2 [] ?_
    refine sr 0 R ?_
    rw [e]; rfl
   ·have hx : decide (v = l[j]) = false := by simpa using h16
    refine en aA 0 2 [] ?_
    exact hJ (j + 1) ⟨by omega, bH hj hj1 hx⟩ (by omega)
  ·have e := iJ (p := fun x => decide (v = x)) (fun x hx => hj1 x (by rw [List.take_of_length_le (by omega)]; exact hx))
   refine en aA 0 1 [] ?_
   refine sr 0 R ?_
   rw [e]; rfl
theorem GF {l : List Bytes} {v : Bytes} : Fc Tryz.prog gT 81 [rB l, .str v] (bS (decide (v ∈ l))) := by
 refine fb aA (fn := Tryz.f81) 9 [.tmp 4] Tryz.func81 Tryz.results81 (fun g0 B0 Q ρ0 R => ?_)
 refine en aA 0 1 [] ?_
 refine sn aA 0 2 [] ?_
 refine fc aA 2 [] (WF) ?_
 refine sr 0 R ?_
 have e : decide (v ∈ l) = (l.any fun x => decide (v = x)) := by simp [List.any_eq, eq_comm]
 rw [e, ← kA]; rfl
theorem fR {s : Bytes} {p : Ps} {er a : Int} : Fp Tryz.prog gT 64 [.l 1000 0, nI er, nI a] (gK s p) (.t []) (gK s (p.fails er a)) := by
 refine lU aA (fn := Tryz.f64) 22 [] Tryz.func64 Tryz.results64 (fun g0 B0 Q ρ0 R => ?_)
 refine en aA 0 5 [] ?_
 refine bM 0 rfl rfl (fun h10 => ?_) (fun h10 => ?_)
 ·have hd : p.dead = false := by simpa using h10
  have ef : p.fails er a = ⟨p.i, er, a, true⟩ := by unfold Ps.fails; rw [if_neg (by simp [hd])]
  refine en aA 0 14 [] ?_
  refine PU 0 R ?_
  exact ⟨rfl, by rw [ef] <;> rfl⟩
 ·have ef : p.fails er a = p := by unfold Ps.fails; rw [if_pos (by simpa using h10)]
  refine HM 0 R ?_
  exact ⟨rfl, by rw [ef] <;> rfl⟩
theorem rS {s : Bytes} {p : Ps} (hi : p.i ≤ s.length) (hs : s.length ≤ 1024) : Fp Tryz.prog gT 63 [.l 1000 0] (gK s p) (.str (p.restT s)) (gK s (p.restP s)) := by
 refine lU aA (fn := Tryz.f63) 33 [.tmp 2] Tryz.func63 Tryz.results63 (fun g0 B0 Q ρ0 R => ?_)
 refine en aA 0 1 [] ?_
 refine sn aA 0 4 [] ?_
 refine bM 0 rfl rfl (fun h6 => ?_) (fun h6 => ?_)
 ·have e1 : p.restT s = [] := by unfold Ps.restT; rw [if_pos h6]
  have e2 : p.restP s = p := by unfold Ps.restP; rw [if_pos h6]
  refine en aA 0 1 [] ?_
  refine fW 0 R ?_
  exact ⟨by rw [e1] <;> rfl, by rw [e2] <;> rfl⟩
 ·have hr := eY [32] (s.drop p.i)
  have hr2 : (s.drop p.i).length = s.length - p.i := by simp
  have e2 : p.restP s = { p with i := p.i + a7 [32] (s.drop p.i) } := by unfold Ps.restP; rw [if_neg (by simp [h6])]
  have e1 : p.restT s = s.drop (p.i + a7 [32] (s.drop p.i)) := by unfold Ps.restT; rw [if_neg (by simp [h6]), e2]
  refine jH 0 131072 [0, 1, 3, 7, 0, 16, 48, 112, 0, 256, 768, 1792, 4080, 8176, 16383, 32767, 65535, 131071] [0, 1, 2, 3, 4, 5, 6, 7, 8, 9, 10, 11, 12, 13, 14, 15, 16, 17] ?_
  refine xd aA 13 [] ?_
  refine dc aA 4 [] (tI (s := s.drop p.i) (by omega)) ?_
  refine xe ?_
  refine DZ 0 0 [0, 1, 3, 7, 0, 16, 48, 112, 255, 511] [0, 1, 2, 3, 4, 5, 6, 7, 8, 9] ?_
  refine xd aA 10 [] ?_
  refine xe ?_
  refine fW 0 R ?_
  exact ⟨by rw [e1] <;> rfl, by rw [e2] <;> rfl⟩
theorem u7 {s : Bytes} {l : List Bytes} {p : Ps} (hi : p.i ≤ s.length) (hs : s.length ≤ 1024) : Fp Tryz.prog gT 168 [.l 1000 0, rB l] (gK s p) (.t [.str ((takeT s l p).getD []), bS (takeT s l p).isSome]) (gK s (takeP s l p)) := by
 refine lU aA (fn := Tryz.f168) 32 [.tmp 4, .tmp 5] Tryz.func168 Tryz.results168 (fun g0 B0 Q ρ0 R => ?_)
 refine en aA 0 2 [] ?_
 refine sn aA 0 1 [] ?_
 refine fp aA 1000 1 [] (rS (by omega) (by omega)) ?_
 refine sn aA 0 0 [] ?_
 have hle := qU (s := s) hi
 refine glo aA 1 [] (r := .a (bJ.map .str)) MH ?_
 refine sl 0 ?_
 refine aD (σ := Nat) (fun j => j ≤ 15 ∧ ∀ x ∈ bJ.take j, Lib.hasPrefix (p.restT s) x = false) (fun j => 15 - j)
  (fun j => [(0, .l 1000 0), (1, rB l), (6, .str (p.restT s)), (11, .a (bJ.map .str)), (12, nI j)])
  (fun j => [(1000, gK s (p.restP s))]) 0 ?_ ?_
 ·exact ⟨Nat.zero_le _, by simp⟩
 ·rintro J j ⟨hj0, hj1⟩ hJ
  refine en aA 0 1 [] ?_
  refine si 0 rfl rfl (fun h13 => ?_) (fun h13 => ?_)
  ·have hjl : j < 15 := by omega
   have hj : j < bJ.length := hjl
   refine en aA 0 0 [] ?_
   refine ixg aA 1 [] (n := 15) (z := (j : Int)) (cs := bJ.map .str) (.str bJ[j]) (by omega) (by simp [hj]) ?_
   refine sn aA 0 2 [] ?_
   refine fc aA 0 [] (aA2) ?_
   refine bM 0 rfl rfl (fun h17 => ?_) (fun h17 => ?_)
   ·have e1 : dY (p.restT s) = some bJ[j] := uT hj hj1 h17
    refine en aA 0 2 [] ?_
    refine fc aA 0 [] (GF) ?_
    refine bM 0 rfl rfl (fun h20 => ?_) (fun h20 => ?_)
    ·have h20 := of_decide_eq_true h20
     have e2 : takeT s l p = some bJ[j] := by unfold takeT; rw [e1]; simp only; rw [if_pos h20]
     have e3 : takeP s l p = { p.restP s with i := (p.restP s).i + bJ[j].length } := by unfold takeP; rw [e2]
     have hsl : bJ[j].length ≤ 2 := (show ∀ x ∈ bJ, x.length ≤ 2 by decide) _ (List.getElem_mem hj)
     refine en aA 0 10 [] ?_
     refine sn aA 0 3 [] ?_
     refine fW 0 R ?_
     exact ⟨by rw [e2] <;> rfl, by rw [e3] <;> rfl⟩
    ·have h20 := of_decide_eq_false h20
     have e2 : takeT s l p = none := by unfold takeT; rw [e1]; simp only; rw [if_neg h20]
     have e3 : takeP s l p = p.restP s := by unfold takeP; rw [e2]
     refine en aA 0 2 [] ?_
     refine fW 0 R ?_
     exact ⟨by rw [e2] <;> rfl, by rw [e3] <;> rfl⟩
   ·have hx := h17
    refine en aA 0 2 [] ?_
    exact hJ (j + 1) ⟨by omega, bH hj hj1 hx⟩ (by omega)
  ·have hj15 : bJ.take j = bJ := by rw [List.take_of_length_le]; show 15 ≤ j; omega
   rw [hj15] at hj1
   have e1 : dY (p.restT s) = none := List.find?_eq_none.2 (fun x hx => by simp [hj1 x hx])
   have e2 : takeT s l p = none := by unfold takeT; rw [e1]
   have e3 : takeP s l p = p.restP s := by unfold takeP; rw [e2]
   refine en aA 0 2 [] ?_
   refine fW 0 R ?_
   exact ⟨by rw [e2] <;> rfl, by rw [e3] <;> rfl⟩
theorem rT {s x : Bytes} {p : Ps} (hi : p.i ≤ s.length) (hs : s.length ≤ 1024) : Fp Tryz.prog gT 297 [.l 1000 0, .str x] (gK s p) (.t []) (gK s (dC s x p)) := by
 refine lU aA (fn := Tryz.f297) 21 [] Tryz.func297 Tryz.results297 (fun g0 B0 Q ρ0 R => ?_)
 refine en aA 0 3 [] ?_
 refine fp aA 1000 5 [] (u7 (l := [x]) hi hs) ?_
 refine sn aA 0 2 [] ?_
 refine bM 0 rfl rfl (fun h14 => ?_) (fun h14 => ?_)
 ·have e1 : takeT s [x] p = none := by simpa using h14
  have e2 : dC s x p = (takeP s [x] p).fails 110 (takeP s [x] p).i := by unfold dC; rw [e1]
  refine en aA 0 5 [] ?_
  refine fp aA 1000 0 [] (fR) ?_
  refine PU 0 R ?_
  exact ⟨rfl, by rw [e2] <;> rfl⟩
 ·obtain ⟨y, e1⟩ : ∃ y, takeT s [x] p = some y := Option.isSome_iff_exists.1 (by simpa using h14)
  have e2 : dC s x p = takeP s [x] p := by unfold dC; rw [e1]
  refine HM 0 R ?_
  exact ⟨rfl, by rw [e2] <;> rfl⟩
theorem x6 {s : Bytes} {p : Ps} {d : Nat} (hi : p.i ≤ s.length) (hs : s.length ≤ 1024) : Fp Tryz.prog gT 114 [.l 1000 0, nI d] (gK s p) (.t []) (gK s (bU s d p)) := by
 refine lU aA (fn := Tryz.f114) 14 [] Tryz.func114 Tryz.results114 (fun g0 B0 Q ρ0 R => ?_)
 refine en aA 0 1 [] ?_
 refine fp aA 1000 0 [] (rS (by omega) (by omega)) ?_
 refine sn aA 0 2 [] ?_
 refine si 0 rfl rfl (fun h7 => ?_) (fun h7 => ?_)
 ·have e2 : bU s d p = (p.restP s).fails 111 (p.restP s).i := by unfold bU; rw [if_pos (by omega)]
  refine en aA 0 5 [] ?_
  refine fp aA 1000 0 [] (fR) ?_
  refine PU 0 R ?_
  exact ⟨rfl, by rw [e2] <;> rfl⟩
 ·have e2 : bU s d p = p.restP s := by unfold bU; rw [if_neg (by omega)]
  refine HM 0 R ?_
  exact ⟨rfl, by rw [e2] <;> rfl⟩
theorem SU {o : Bytes} {x y : Ex} : Fc Tryz.prog gT 169 [.str o, .s 5 [kP x, kP y]] (eD (eU o [x, y])) := by
 refine fb aA (fn := Tryz.f169) 8 [.cell 4 29] Tryz.func169 Tryz.results169 (fun g0 B0 Q ρ0 R => ?_)
 refine en aA 0 1 [] ?_
 refine sn aA 0 4 [] ?_
 refine sr 0 R ?_
 rw [qT]; rfl
theorem x7 {o : Bytes} {x : Ex} : Fc Tryz.prog gT 169 [.str o, .s 5 [kP x]] (eD (eU o [x])) := by
 refine fb aA (fn := Tryz.f169) 8 [.cell 4 29] Tryz.func169 Tryz.results169 (fun g0 B0 Q ρ0 R => ?_)
 refine en aA 0 1 [] ?_
 refine sn aA 0 4 [] ?_
 refine sr 0 R ?_
 rw [nR]; rfl
theorem tY {w : Bytes} : Fc Tryz.prog gT 67 [.str w] (bS (cY w)) := by
 refine fb aA (fn := Tryz.f67) 6 [.tmp 2] Tryz.func67 Tryz.results67 (fun g0 B0 Q ρ0 R => ?_)
 refine en aA 0 1 [] ?_
 refine sn aA 0 2 [] ?_
 refine fc aA 1 [] (GF (l := [mW, fH, vV, G8, G9, HA])) ?_
 refine sr 0 R ?_
 rfl
theorem YU {w : Bytes} (hs : w.length ≤ 1000000) : Fc Tryz.prog gT 125 [.str w] (bS (lN w)) := by
 refine fb aA (fn := Tryz.f125) 23 [.tmp 2] Tryz.func125 Tryz.results125 (fun g0 B0 Q ρ0 R => ?_)
 refine en aA 0 1 [] ?_
 refine sn aA 0 10 [] ?_ (hφ := by
  refine ⟨fun h => ?_, id, id, id, id⟩
  cases w with
  | nil => simp at h
  | cons _ _ => exact ⟨by omega, by simp⟩)
 refine fg aA 4 [] (fun hg => JH (c := w.getD 0 0) rfl) ?_
 refine fg aA 5 [] (fun hg => tI hs) ?_
 refine sr 0 R ?_
 cases w with
 | nil => rfl
 | cons c r =>
   have e : (decide (¬ (c :: r : Bytes) = []) && decide (((c :: r).length : Int) ≤ 16) && decide (0 ≤ Lib.indexByte pT c) && decide ((a7 kB (c :: r) : Int) = ((c :: r).length : Int))) = lN (c :: r) := by
    have a3 := Z9 pT c
    have a2 : decide (((c :: r).length : Int) ≤ 16) = decide ((c :: r).length ≤ 16) := decide_eq_decide.2 (by omega)
    have a4 : decide ((a7 kB (c :: r) : Int) = ((c :: r).length : Int)) = decide (a7 kB (c :: r) = (c :: r).length) := decide_eq_decide.2 (by omega)
    rw [a2, a3, a4]
    simp [lN]
   exact congrArg (fun b => SV.v (.bool b)) e
theorem j4 {v : Val} : Fc Tryz.prog gT 65 [vS v] (.str (aG v)) := by
 refine fb aA (fn := Tryz.f65) 42 [.tmp 2] Tryz.func65 Tryz.results65 (fun g0 B0 Q ρ0 R => ?_)
 refine en aA 0 2 [] ?_
 refine sn aA 0 1 [] ?_
 refine fc aA 1 [] (RA) ?_
 refine bM 0 rfl rfl (fun h7 => ?_) (fun h7 => ?_)
 ·have e : aG v = [] := by unfold aG; rw [if_pos (by simpa using h7)]
  refine en aA 0 1 [] ?_
  refine sr 0 R ?_
  first | (rw [e]; rfl) | (rw [e, e0]; rfl)
 ·have hv : cE v = true := by simpa using h7
  have hnn := kU hv
  refine en aA 0 3 [] ?_
  refine si 0 rfl rfl (fun h10 => ?_) (fun h10 => ?_)
  ·have hc : v.k = 2 ∨ v.k = 3 ∨ v.k = 4 ∨ v.k = 5 := by rcases dL hv with ⟨h, _⟩ | rfl | rfl | rfl | rfl <;> first | exact absurd h h10 | simp
   rcases hc with hk | hk | hk | hk
   ·refine en aA 0 0 [] ?_
    refine bld aA 2 [] #[(2, str [110, 117, 108, 108]), (3, str [78, 97, 78]), (4, str [43, 73, 110, 102]), (5, str [45, 73, 110, 102])] (.agg #[str [], str [], str [110, 117, 108, 108], str [78, 97, 78], str [43, 73, 110, 102], str [45, 73, 110, 102]]) (fun w => by kernel_rfl) ?_
    refine jR 13 rfl (v' := nI 2) ?_ ?_
    ·rw [hk]
    refine ixa aA 1 [] (.str [110, 117, 108, 108]) (fun w => by kernel_rfl) (fun _ _ => .str) ?_
    have e : aG v = [110, 117, 108, 108] := by subst_vars; unfold aG; rw [if_neg (by simp [hv])]; simp [hk]
    refine sr 0 R ?_
    first | (rw [e]; rfl) | (rw [e, e0]; rfl)
   ·refine en aA 0 0 [] ?_
    refine bld aA 2 [] #[(2, str [110, 117, 108, 108]), (3, str [78, 97, 78]), (4, str [43, 73, 110, 102]), (5, str [45, 73, 110, 102])] (.agg #[str [], str [], str [110, 117, 108, 108], str [78, 97, 78], str [43, 73, 110, 102], str [45, 73, 110, 102]]) (fun w => by kernel_rfl) ?_
    refine jR 13 rfl (v' := nI 3) ?_ ?_
    ·rw [hk]
    refine ixa aA 1 [] (.str [78, 97, 78]) (fun w => by kernel_rfl) (fun _ _ => .str) ?_
    have e : aG v = [78, 97, 78] := by subst_vars; unfold aG; rw [if_neg (by simp [hv])]; simp [hk]
    refine sr 0 R ?_
    first | (rw [e]; rfl) | (rw [e, e0]; rfl)
   ·refine en aA 0 0 [] ?_
    refine bld aA 2 [] #[(2, str [110, 117, 108, 108]), (3, str [78, 97, 78]), (4, str [43, 73, 110, 102]), (5, str [45, 73, 110, 102])] (.agg #[str [], str [], str [110, 117, 108, 108], str [78, 97, 78], str [43, 73, 110, 102], str [45, 73, 110, 102]]) (fun w => by kernel_rfl) ?_
    refine jR 13 rfl (v' := nI 4) ?_ ?_
    ·rw [hk]
    refine ixa aA 1 [] (.str [43, 73, 110, 102]) (fun w => by kernel_rfl) (fun _ _ => .str) ?_
    have e : aG v = [43, 73, 110, 102] := by subst_vars; unfold aG; rw [if_neg (by simp [hv])]; simp [hk]
    refine sr 0 R ?_
    first | (rw [e]; rfl) | (rw [e, e0]; rfl)
   ·refine en aA 0 0 [] ?_
    refine bld aA 2 [] #[(2, str [110, 117, 108, 108]), (3, str [78, 97, 78]), (4, str [43, 73, 110, 102]), (5, str [45, 73, 110, 102])] (.agg #[str [], str [], str [110, 117, 108, 108], str [78, 97, 78], str [43, 73, 110, 102], str [45, 73, 110, 102]]) (fun w => by kernel_rfl) ?_
    refine jR 13 rfl (v' := nI 5) ?_ ?_
    ·rw [hk]
    refine ixa aA 1 [] (.str [45, 73, 110, 102]) (fun w => by kernel_rfl) (fun _ _ => .str) ?_
    have e : aG v = [45, 73, 110, 102] := by subst_vars; unfold aG; rw [if_neg (by simp [hv])]; simp [hk]
    refine sr 0 R ?_
    first | (rw [e]; rfl) | (rw [e, e0]; rfl)
  ·have h1 : v.k = 1 := Decidable.byContradiction h10
   have hm : aG v = if v.n < 0 then 45 :: dP v.n.natAbs else dP v.n.natAbs := by unfold aG; rw [if_neg (by simp [hv]), if_neg (by omega), if_neg (by omega), if_neg (by omega), if_neg (by omega)]
   obtain ⟨N, hN⟩ : ∃ N : Nat, max v.n (0 - v.n) = N := ⟨v.n.natAbs, by omega⟩
   have hN2 : v.n.natAbs = N := by omega
   have ed : ((N : Int)).tdiv 1000 = ((N / 1000 : Nat) : Int) := by rw [show (1000 : Int) = ((1000 : Nat) : Int) from rfl, ← Int.ofNat_tdiv]
   have em : ((N : Int)).tmod 1000 = ((N % 1000 : Nat) : Int) := by rw [show (1000 : Int) = ((1000 : Nat) : Int) from rfl, ← Int.ofNat_tmod]
   have hlen1 := qN (n := N / 1000) (by omega)
   have hl4 : (Lib.decDigits (1000 + N % 1000)).length = 4 := by have := congrArg List.length (HE (r := N % 1000) (by omega)); simp at this; omega
   refine en aA 0 7 [] ?_
   refine jR 3 rfl (v' := nI (N : Int)) ?_ ?_
   ·rw [hN]
   refine sn aA 0 2 [] ?_
   refine fc aA 1 [] (aA0 (p := IntKind.wrap .i64 ((N : Int).tdiv 1000)) (x := N / 1000) (by rw [ed]; exact wrap_i64 (by omega) (by omega)) (by omega)) ?_
   refine sn aA 0 3 [] ?_
   refine si 0 rfl rfl (fun h26 => ?_) (fun h26 => ?_)
   ·have hr : N % 1000 ≠ 0 := by omega
    have hlt : (Lib.trimRightB ((Lib.decDigits (1000 + N % 1000)).drop 1) 48).length ≤ 3 := by have := vY ((Lib.decDigits (1000 + N % 1000)).drop 1); rw [List.length_drop, hl4] at this; exact this
    have e0 : dP N = Lib.decDigits (N / 1000) ++ ([46] ++ Lib.trimRightB ((Lib.decDigits (1000 + N % 1000)).drop 1) 48) := by unfold dP pJ; rw [if_neg hr]; rfl
    refine en aA 0 4 [] ?_
    refine fc aA 1 [] (aA0 (p := 1000 + (N : Int).tmod 1000) (x := 1000 + N % 1000) (by rw [em]; omega) (by omega)) ?_
    refine fc aA 3 [] (PY (s := (Lib.decDigits (1000 + N % 1000)).drop 1) (by simp; omega)) ?_ (hφ := by simp only [aE, List.length_append]; show (Lib.decDigits (N / 1000)).length + (1 + (Lib.trimRightB ((Lib.decDigits (1000 + N % 1000)).drop 1) 48).length) ≤ 9223372036854775807 ∧ 1 + (Lib.trimRightB ((Lib.decDigits (1000 + N % 1000)).drop 1) 48).length ≤ 9223372036854775807; omega)
    refine sn aA 0 3 [] ?_
    refine si 0 rfl rfl (fun h38 => ?_) (fun h38 => ?_)
    ·have e : aG v = [45] ++ dP N := by rw [hm, if_pos h38, hN2]; rfl
     refine en aA 0 3 [] ?_ (hφ := by simp only [aE, List.length_append, List.length_cons, List.length_nil, List.length_drop]; omega)
     refine sr 0 R ?_
     first | (rw [e]; rfl) | (rw [e, e0]; rfl)
    ·have e : aG v = dP N := by rw [hm, if_neg h38, hN2]
     refine en aA 0 2 [] ?_
     refine sr 0 R ?_
     first | (rw [e]; rfl) | (rw [e, e0]; rfl)
   ·have e0 : dP N = Lib.decDigits (N / 1000) := by unfold dP pJ; rw [if_pos (by omega), List.append_nil]
    refine en aA 0 3 [] ?_
    refine si 0 rfl rfl (fun h38 => ?_) (fun h38 => ?_)
    ·have e : aG v = [45] ++ dP N := by rw [hm, if_pos h38, hN2]; rfl
     refine en aA 0 3 [] ?_ (hφ := by simp only [aE, List.length_append, List.length_cons, List.length_nil, List.length_drop]; omega)
     refine sr 0 R ?_
     first | (rw [e]; rfl) | (rw [e, e0]; rfl)
    ·have e : aG v = dP N := by rw [hm, if_neg h38, hN2]
     refine en aA 0 2 [] ?_
     refine sr 0 R ?_
     first | (rw [e]; rfl) | (rw [e, e0]; rfl)
theorem tJ {s : Bytes} (hs : s.length ≤ 1000000) : Fc Tryz.prog gT 320 [.str s] (.t [vS (aB s).1, nI (aB s).2]) := by
 refine fb aA (fn := Tryz.f320) 84 [.cell 2 26, .tmp 3] Tryz.func320 Tryz.results320 (fun g0 B0 Q ρ0 R => ?_)
 refine en aA 0 2 [] ?_
 refine sn aA 0 0 [] ?_
 refine fc aA 0 [] (xQ) ?_
 refine fc aA 0 [] (o5) ?_
 refine fc aA 0 [] (xO) ?_
 refine fc aA 3 [] (AE) ?_
 refine sl 0 ?_
 refine aD (σ := Nat) (fun j => j ≤ 4 ∧ ∀ v ∈ c4.take j, decide (s = aG v) = false) (fun j => 4 - j)
  (fun j => [(0, .str s), (2, .l 2 0), (18, rV c4), (19, nI 4), (20, nI j)])
  (fun j => [(2, .c 26 [nI 0, nI 0])]) 0 ?_ ?_
 ·exact ⟨Nat.zero_le _, by simp⟩
 ·rintro J j ⟨hj0, hj1⟩ hJ
  refine en aA 0 1 [] ?_
  refine si 0 rfl rfl (fun h21 => ?_) (fun h21 => ?_)
  ·have hjl : j < 4 := by omega
   have hj : j < c4.length := hjl
   refine en aA 0 4 [[nI c4[j].k, nI c4[j].n]] ?_ (hφ := by exact ⟨by omega, aO _ hj⟩)
   refine sn aA 0 2 [] ?_
   refine fc aA 1 [] (j4) ?_
   refine si 0 rfl rfl (fun h27 => ?_) (fun h27 => ?_)
   ·have e := EW hj h27
    refine en aA 0 3 [] ?_
    refine sr 0 R ?_
    first | (rw [e]; rfl) | (rw [← Int.zero_sub] at e; rw [e]; rfl)
   ·have hx : decide (s = aG c4[j]) = false := by simpa using h27
    refine en aA 0 2 [] ?_
    exact hJ (j + 1) ⟨by omega, bH hj hj1 hx⟩ (by omega)
  ·have hn4 := JQ (fun v hv => hj1 v (by rw [List.take_of_length_le (show c4.length ≤ j by show 4 ≤ j; omega)]; exact hv))
   have hbl := Lib.trimPrefix_le s [45]
   refine en aA 0 1 [] ?_
   refine fc aA 5 [] (UO) ?_
   obtain ⟨w, f, b, hcut⟩ : ∃ w f b, Lib.cut (Lib.trimPrefix s [45]) [46] = (w, f, b) := ⟨_, _, _, rfl⟩
   have hC : Fc Tryz.prog gT 333 [.str (Lib.trimPrefix s [45]), .str [46]] (.t [.str w, .str f, bS b]) := by
    have h := X1 (s := Lib.trimPrefix s [45]) (p := [46]) (by omega)
    rw [hcut] at h
    exact h
   refine sn aA 0 1 [] ?_
   refine fc aA 7 [] (hC) ?_
   refine sn aA 0 8 [] ?_
   refine bM 0 rfl rfl (fun h48 => ?_) (fun h48 => ?_)
   ·have hl : f.length ≤ 3 ∧ w.length ≤ 13 := by simp at h48; omega
    have hrl : (Lib.repeatL [48] (3 - f.length)).length = 3 - f.length := by rw [Lib.repeatL_length]; simp
    have h16 : (w ++ f ++ Lib.repeatL [48] (3 - f.length)).length ≤ 16 := by rw [List.length_append, List.length_append, hrl]; omega
    have hne : w ++ f ++ Lib.repeatL [48] (3 - f.length) ≠ [] := by
     intro h
     have h0 := congrArg List.length h
     rw [List.length_append, List.length_append, hrl] at h0
     have h1 : ([] : Bytes).length = 0 := rfl
     omega
    rcases hP : Lib.parseUintM HI 0 (w ++ f ++ Lib.repeatL [48] (3 - f.length)) with n | _ | _
    rotate_left 2
    ·exact absurd hP (EX h16).1
    ·refine en aA 0 6 [] ?_
     refine jR 55 rfl (v' := nI ((3 - f.length : Nat) : Int)) ?_ ?_
     ·rw [show (3 : Int) - f.length = ((3 - f.length : Nat) : Int) by omega]
     refine fc aA 1 [] (PZ (s := [48]) (c := 3 - f.length) (by show 1 * (3 - f.length) ≤ _; omega) (by omega) (by decide)) ?_ (hφ := by exact (show (w ++ f).length + (Lib.repeatL [48] (3 - f.length)).length ≤ 9223372036854775807 by rw [List.length_append, hrl]; omega))
     refine fc aA 5 [] (P0 hne h16 hP) ?_
     have hnb := (EX h16).2 n hP
     refine sn aA 0 2 [] ?_
     refine fc aA 2 [] (eK) ?_
     refine sn aA 0 1 [] ?_
     refine bM 0 rfl rfl (fun h64 => ?_) (fun h64 => ?_)
     ·have ez : (0 - (n : Int)) = -(n : Int) := by omega
      have e0 := JR (x := -(n : Int)) hn4 hcut hl hP (by rw [if_pos h64])
      refine en aA 0 3 [] ?_
      refine fc aA 1 [] (eK) ?_
      refine sn aA 0 1 [] ?_
      refine kn2 aA 7 [] (.bool true) (fun w => by kernel_rfl) ?_
      refine fg aA 3 [] (fun hg => j4) ?_
      refine bM 0 rfl rfl (fun h81 => ?_) (fun h81 => ?_)
      ·simp at h81
       have e := e0
       rw [if_pos ⟨h81.1, h81.2⟩] at e
       refine en aA 0 3 [] ?_
       refine sr 0 R ?_
       first | (rw [e]; rfl) | (rw [← Int.zero_sub] at e; rw [e]; rfl)
      ·simp at h81
       have e := e0
       rw [if_neg (fun h => h81 h.1 h.2)] at e
       refine en aA 0 3 [] ?_
       refine sr 0 R ?_
       first | (rw [e]; rfl) | (rw [← Int.zero_sub] at e; rw [e]; rfl)
     ·have e0 := JR (x := (n : Int)) hn4 hcut hl hP (by rw [if_neg (by simpa using h64)])
      refine en aA 0 1 [] ?_
      refine kn2 aA 7 [] (.bool true) (fun w => by kernel_rfl) ?_
      refine fg aA 3 [] (fun hg => j4) ?_
      refine bM 0 rfl rfl (fun h81 => ?_) (fun h81 => ?_)
      ·simp at h81
       have e := e0
       rw [if_pos ⟨h81.1, h81.2⟩] at e
       refine en aA 0 3 [] ?_
       refine sr 0 R ?_
       first | (rw [e]; rfl) | (rw [← Int.zero_sub] at e; rw [e]; rfl)
      ·simp at h81
       have e := e0
       rw [if_neg (fun h => h81 h.1 h.2)] at e
       refine en aA 0 3 [] ?_
       refine sr 0 R ?_
       first | (rw [e]; rfl) | (rw [← Int.zero_sub] at e; rw [e]; rfl)
    ·refine en aA 0 6 [] ?_
     refine jR 55 rfl (v' := nI ((3 - f.length : Nat) : Int)) ?_ ?_
     ·rw [show (3 : Int) - f.length = ((3 - f.length : Nat) : Int) by omega]
     refine fc aA 1 [] (PZ (s := [48]) (c := 3 - f.length) (by show 1 * (3 - f.length) ≤ _; omega) (by omega) (by decide)) ?_ (hφ := by exact (show (w ++ f).length + (Lib.repeatL [48] (3 - f.length)).length ≤ 9223372036854775807 by rw [List.length_append, hrl]; omega))
     refine fc aA 5 [] (MI hne h16 hP) ?_
     have e := QB hn4 hcut hl hP
     refine sn aA 0 2 [] ?_
     refine fc aA 2 [] (eK) ?_
     refine sn aA 0 1 [] ?_
     refine bM 0 rfl rfl (fun h64 => ?_) (fun h64 => ?_)
     ·refine en aA 0 3 [] ?_
      refine fc aA 1 [] (eK) ?_
      refine sn aA 0 1 [] ?_
      refine Z6 aA 7 [] false (by kernel_rfl) ?_
      refine fg aA 3 [] (fun hg => j4) ?_
      refine bM 0 rfl rfl (fun h81 => ?_) (fun h81 => ?_)
      ·simp at h81
      ·refine en aA 0 3 [] ?_
       refine sr 0 R ?_
       first | (rw [e]; rfl) | (rw [← Int.zero_sub] at e; rw [e]; rfl)
     ·refine en aA 0 1 [] ?_
      refine Z6 aA 7 [] false (by kernel_rfl) ?_
      refine fg aA 3 [] (fun hg => j4) ?_
      refine bM 0 rfl rfl (fun h81 => ?_) (fun h81 => ?_)
      ·simp at h81
      ·refine en aA 0 3 [] ?_
       refine sr 0 R ?_
       first | (rw [e]; rfl) | (rw [← Int.zero_sub] at e; rw [e]; rfl)
   ·have e := MN hn4 hcut (fun h => by simp at h48; omega)
    refine en aA 0 3 [] ?_
    refine sr 0 R ?_
    first | (rw [e]; rfl) | (rw [← Int.zero_sub] at e; rw [e]; rfl)
theorem NK {s r : Bytes} {p : Ps} (hi : p.i + r.length ≤ s.length) (hs : s.length ≤ 1024) : Fp Tryz.prog gT 298 [.l 1000 0, .str r] (gK s p) (eD (cG aB r p).1) (gK s (cG aB r p).2) := by
 refine lU aA (fn := Tryz.f298) 58 [.cell 4 29] Tryz.func298 Tryz.results298 (fun g0 B0 Q ρ0 R => ?_)
 have hb := eY b8 r
 have hnl := sS r
 refine en aA 0 1 [] ?_
 refine sn aA 0 1 [] ?_
 refine fc aA 1 [] (tI (g := b8) (s := r) (by omega)) ?_
 refine sn aA 0 11 [] ?_ (hφ := by exact ⟨id, id, fun h => ⟨by omega, by have := of_decide_eq_true h; omega⟩, id, id, by omega, by omega⟩)
 refine bM 0 rfl rfl (fun h21 => ?_) (fun h21 => ?_)
 ·simp only [Bool.and_eq_true, decide_eq_true_eq] at h21
  obtain ⟨q1, q2⟩ := h21
  have q3 : r.getD (a7 b8 r) 0 = 46 := UInt8.toNat_inj.1 (Int.ofNat.inj q2)
  have hb2 := eY b8 (r.drop (a7 b8 r + 1))
  have hb3 : (r.drop (a7 b8 r + 1)).length = r.length - (a7 b8 r + 1) := List.length_drop
  refine en aA 0 4 [] ?_
  refine jR 25 rfl (v' := .str (r.drop (a7 b8 r + 1))) ?_ ?_
  ·rw [show ((a7 b8 r : Int) + 1).toNat = a7 b8 r + 1 by omega]
  refine fc aA 1 [] (tI (g := b8) (s := r.drop (a7 b8 r + 1)) (by omega)) ?_
  refine sn aA 0 2 [] ?_
  refine si 0 rfl rfl (fun h28 => ?_) (fun h28 => ?_)
  ·have e : bE r = a7 b8 r + 1 + a7 b8 (r.drop (a7 b8 r + 1)) := by unfold bE; rw [if_pos ⟨by omega, q3, by omega⟩]
   refine en aA 0 5 [] ?_
   refine jR 5 rfl (v' := nI (bE r)) ?_ ?_
   ·exact E1 (by omega)
   refine sn aA 0 3 [] ?_
   refine fc aA 6 [] (tJ (s := r.take (bE r)) (by simp; omega)) ?_
   refine sn aA 0 2 [] ?_
   refine si 0 rfl rfl (fun h41 => ?_) (fun h41 => ?_)
   ·have hfi := iU p 110 p.i
    have e2 : cG aB r p = (mG (aB (r.take (bE r))).1, { p.fails 110 p.i with i := p.i + bE r }) := by unfold cG; rw [if_neg h41]
    refine en aA 0 5 [] ?_
    refine fp aA 1000 0 [] (fR) ?_
    refine sn aA 0 9 [] ?_
    refine sn aA 0 3 [] ?_
    refine fW 0 R ?_
    exact ⟨by rw [e2] <;> rfl, by rw [e2] <;> first | rfl | (rw [hfi] <;> rfl)⟩
   ·have e2 : cG aB r p = (mG (aB (r.take (bE r))).1, { p with i := p.i + bE r }) := by unfold cG; rw [if_pos (Decidable.of_not_not h41)]
    refine en aA 0 9 [] ?_
    refine sn aA 0 3 [] ?_
    refine fW 0 R ?_
    exact ⟨by rw [e2] <;> rfl, by rw [e2] <;> first | rfl | (rw [hfi] <;> rfl)⟩
  ·have e : bE r = a7 b8 r := by unfold bE; rw [if_neg (fun h => by omega)]
   refine jG 5 rfl (v' := nI (bE r)) ?_ ?_
   ·exact E1 (by omega)
   refine en aA 0 3 [] ?_
   refine fc aA 6 [] (tJ (s := r.take (bE r)) (by simp; omega)) ?_
   refine sn aA 0 2 [] ?_
   refine si 0 rfl rfl (fun h41 => ?_) (fun h41 => ?_)
   ·have hfi := iU p 110 p.i
    have e2 : cG aB r p = (mG (aB (r.take (bE r))).1, { p.fails 110 p.i with i := p.i + bE r }) := by unfold cG; rw [if_neg h41]
    refine en aA 0 5 [] ?_
    refine fp aA 1000 0 [] (fR) ?_
    refine sn aA 0 9 [] ?_
    refine sn aA 0 3 [] ?_
    refine fW 0 R ?_
    exact ⟨by rw [e2] <;> rfl, by rw [e2] <;> first | rfl | (rw [hfi] <;> rfl)⟩
   ·have e2 : cG aB r p = (mG (aB (r.take (bE r))).1, { p with i := p.i + bE r }) := by unfold cG; rw [if_pos (Decidable.of_not_not h41)]
    refine en aA 0 9 [] ?_
    refine sn aA 0 3 [] ?_
    refine fW 0 R ?_
    exact ⟨by rw [e2] <;> rfl, by rw [e2] <;> first | rfl | (rw [hfi] <;> rfl)⟩
 ·have e : bE r = a7 b8 r := by
   unfold bE
   rw [if_neg]
   intro h
   rcases Bool.and_eq_false_iff.1 h21 with q | q
   ·have q := of_decide_eq_false q
    omega
   ·exact of_decide_eq_false q (by show ((r.getD (a7 b8 r) 0).toNat : Int) = 46; rw [h.2.1]; rfl)
  refine jG 5 rfl (v' := nI (bE r)) ?_ ?_
  ·exact E1 (by omega)
  refine en aA 0 3 [] ?_
  refine fc aA 6 [] (tJ (s := r.take (bE r)) (by simp; omega)) ?_
  refine sn aA 0 2 [] ?_
  refine si 0 rfl rfl (fun h41 => ?_) (fun h41 => ?_)
  ·have hfi := iU p 110 p.i
   have e2 : cG aB r p = (mG (aB (r.take (bE r))).1, { p.fails 110 p.i with i := p.i + bE r }) := by unfold cG; rw [if_neg h41]
   refine en aA 0 5 [] ?_
   refine fp aA 1000 0 [] (fR) ?_
   refine sn aA 0 9 [] ?_
   refine sn aA 0 3 [] ?_
   refine fW 0 R ?_
   exact ⟨by rw [e2] <;> rfl, by rw [e2] <;> first | rfl | (rw [hfi] <;> rfl)⟩
  ·have e2 : cG aB r p = (mG (aB (r.take (bE r))).1, { p with i := p.i + bE r }) := by unfold cG; rw [if_pos (Decidable.of_not_not h41)]
   refine en aA 0 9 [] ?_
   refine sn aA 0 3 [] ?_
   refine fW 0 R ?_
   exact ⟨by rw [e2] <;> rfl, by rw [e2] <;> first | rfl | (rw [hfi] <;> rfl)⟩
theorem WG {s r : Bytes} {p : Ps} {ex : Ps → Ex × Ps} {dp : Nat} (hdp : dp ≤ 33) (fx : Fit s ex) (hex : ∀ p : Ps, p.i ≤ s.length → Fp Tryz.prog gT 62 [.l 1000 0, nI ((dp : Int) + 1)] (gK s p) (eD (ex p).1) (gK s (ex p).2)) (hi : p.i + r.length ≤ s.length) (hs : s.length ≤ 1024) : Fp Tryz.prog gT 299 [.l 1000 0, .str r, nI dp] (gK s p) (eD (gJ s ex r p).1) (gK s (gJ s ex r p).2) := by
 refine lU aA (fn := Tryz.f299) 57 [.cell 6 29] Tryz.func299 Tryz.results299 (fun g0 B0 Q ρ0 R => ?_)
 have hb := eY kB r
 obtain ⟨w, hw⟩ : ∃ w, w = r.take (a7 kB r) := ⟨_, rfl⟩
 have hwl : w.length ≤ r.length := by rw [hw]; simp; omega
 obtain ⟨p1, hp1⟩ : ∃ p1 : Ps, p1 = { p with i := p.i + w.length } := ⟨_, rfl⟩
 have hp1i : p1.i = p.i + w.length := by rw [hp1]
 refine en aA 0 1 [] ?_
 refine sn aA 0 5 [] ?_
 refine sn aA 0 2 [] ?_
 refine fc aA 2 [] (tI (g := kB) (s := r) (by omega)) ?_
 refine jR 1 rfl (v' := .str w) ?_ ?_
 ·rw [hw]; rfl
 refine sn aA 0 10 [] ?_
 refine uC 1000 (mb' := gK s p1) ?_ ?_
 ·rw [hp1]; rfl
 refine sn aA 0 1 [] ?_
 refine sn aA 0 2 [] ?_
 refine si 0 rfl rfl (fun h27 => ?_) (fun h27 => ?_)
 ·have e2 : gJ s ex r p = (mG eI, p1) := by unfold gJ; simp only; rw [← hw, if_pos h27, hp1]
  refine en aA 0 0 [] ?_
  refine fc aA 2 [] (xQ) ?_
  refine fW 0 R ?_
  exact ⟨by rw [e2] <;> rfl, by rw [e2] <;> rfl⟩
 ·refine en aA 0 2 [] ?_
  refine si 0 rfl rfl (fun h31 => ?_) (fun h31 => ?_)
  ·have e2 : gJ s ex r p = (mG fG, p1) := by unfold gJ; simp only; rw [← hw, if_neg h27, if_pos h31, hp1]
   refine en aA 0 0 [] ?_
   refine fc aA 2 [] (o5) ?_
   refine fW 0 R ?_
   exact ⟨by rw [e2] <;> rfl, by rw [e2] <;> rfl⟩
  ·refine en aA 0 2 [] ?_
   refine si 0 rfl rfl (fun h35 => ?_) (fun h35 => ?_)
   ·have e2 : gJ s ex r p = (mG fE, p1) := by unfold gJ; simp only; rw [← hw, if_neg h27, if_neg h31, if_pos h35, hp1]
    refine en aA 0 0 [] ?_
    refine fc aA 2 [] (xO) ?_
    refine fW 0 R ?_
    exact ⟨by rw [e2] <;> rfl, by rw [e2] <;> rfl⟩
   ·obtain ⟨p2, hp2⟩ : ∃ p2, p2 = (if cY w then p1 else p1.fails 110 p.i) := ⟨_, rfl⟩
    have e2 : gJ s ex r p = (eU w [(sM s ex (dC s iZ p2)).1], (sM s ex (dC s iZ p2)).2) := by unfold gJ; simp only; rw [← hw, if_neg h27, if_neg h31, if_neg h35, hp2, hp1]
    have hp2i : p2.i = p1.i := by rw [hp2]; split <;> simp [iU]
    have hm1 := wP (s := s) (x := iZ) (p := p2) (by omega)
    have hx1 := fx _ hm1.2
    refine en aA 0 1 [] ?_
    refine fc aA 1 [] (tY) ?_
    refine bM 0 rfl rfl (fun h41 => ?_) (fun h41 => ?_)
    ·refine en aA 0 2 [] ?_
     refine fp aA 1000 0 [] (fR) ?_
     refine uC 1000 (mb' := gK s p2) ?_ ?_
     ·rw [hp2]; first | rw [if_pos (by simpa using h41)] | rw [if_neg (by simpa using h41)]
     refine sn aA 0 1 [] ?_
     refine fp aA 1000 0 [] (rT (x := iZ) (p := p2) (by omega) hs) ?_
     refine sn aA 0 3 [] ?_
     refine fp aA 1000 2 [] (hex (dC s iZ p2) hm1.2) ?_
     refine sn aA 0 1 [] ?_
     refine fp aA 1000 0 [] (rT (x := GO) (p := (ex (dC s iZ p2)).2) hx1.2 hs) ?_
     refine sn aA 0 3 [] ?_
     refine fc aA 1 [] (x7) ?_
     refine fW 0 R ?_
     exact ⟨by rw [e2] <;> rfl, by rw [e2] <;> rfl⟩
    ·refine c6 1000 (mb' := gK s p2) ?_ ?_
     ·rw [hp2]; first | rw [if_pos (by simpa using h41)] | rw [if_neg (by simpa using h41)]
     refine en aA 0 1 [] ?_
     refine fp aA 1000 0 [] (rT (x := iZ) (p := p2) (by omega) hs) ?_
     refine sn aA 0 3 [] ?_
     refine fp aA 1000 2 [] (hex (dC s iZ p2) hm1.2) ?_
     refine sn aA 0 1 [] ?_
     refine fp aA 1000 0 [] (rT (x := GO) (p := (ex (dC s iZ p2)).2) hx1.2 hs) ?_
     refine sn aA 0 3 [] ?_
     refine fc aA 1 [] (x7) ?_
     refine fW 0 R ?_
     exact ⟨by rw [e2] <;> rfl, by rw [e2] <;> rfl⟩
theorem SX {s : Bytes} {ex : Ps → Ex × Ps} {p : Ps} {dp : Nat} (hi : p.i ≤ s.length) (hs : s.length ≤ 1024) (hd : p.dead = true) : Fp Tryz.prog gT 256 [.l 1000 0, nI dp] (gK s p) (eD (dW aB s ex p).1) (gK s (dW aB s ex p).2) := by
 refine lU aA (fn := Tryz.f256) 95 [.cell 4 29] Tryz.func256 Tryz.results256 (fun g0 B0 Q ρ0 R => ?_)
 have e2 := zD (pv := aB) (s := s) (ex := ex) hd
 have hd2 : (p.restP s).dead = true := (dG s p).trans hd
 refine en aA 0 1 [] ?_
 refine sn aA 0 1 [] ?_
 refine fp aA 1000 1 [] (rS hi hs) ?_
 refine sn aA 0 5 [] ?_
 refine bM 0 rfl rfl (fun h15 => ?_) (fun h15 => ?_)
 ·refine en aA 0 2 [] ?_
  refine fW 0 R ?_
  exact ⟨by rw [e2] <;> rfl, by rw [e2] <;> rfl⟩
 ·rw [hd2] at h15; cases h15
theorem WH {s : Bytes} {p : Ps} {ex : Ps → Ex × Ps} {dp : Nat} (hdp : dp ≤ 33) (fx : Fit s ex) (hex : ∀ p : Ps, p.i ≤ s.length → Fp Tryz.prog gT 62 [.l 1000 0, nI ((dp : Int) + 1)] (gK s p) (eD (ex p).1) (gK s (ex p).2)) (hi : p.i ≤ s.length) (hs : s.length ≤ 1024) : Fp Tryz.prog gT 256 [.l 1000 0, nI dp] (gK s p) (eD (dW aB s ex p).1) (gK s (dW aB s ex p).2) := by
 refine lU aA (fn := Tryz.f256) 95 [.cell 4 29] Tryz.func256 Tryz.results256 (fun g0 B0 Q ρ0 R => ?_)
 have hlen := sR (s := s) hi
 have hdd := dG s p
 refine en aA 0 1 [] ?_
 refine sn aA 0 1 [] ?_
 refine fp aA 1000 1 [] (rS hi hs) ?_
 refine sn aA 0 5 [] ?_
 refine bM 0 rfl rfl (fun h15 => ?_) (fun h15 => ?_)
 ·have e2 := zD (pv := aB) (s := s) (ex := ex) (p := p) (hdd ▸ h15)
  refine en aA 0 2 [] ?_
  refine fW 0 R ?_
  exact ⟨by rw [e2] <;> rfl, by rw [e2] <;> first | rfl | (rw [hp2i] <;> rfl)⟩
 ·have hd : p.dead = false := hdd ▸ h15
  refine en aA 0 3 [] ?_
  refine si 0 rfl rfl (fun h20 => ?_) (fun h20 => ?_)
  ·have e2 := E0 (pv := aB) (s := s) (ex := ex) hd h20
   refine en aA 0 5 [] ?_
   refine fp aA 1000 0 [] (fR) ?_
   refine sn aA 0 2 [] ?_
   refine fW 0 R ?_
   exact ⟨by rw [e2] <;> rfl, by rw [e2] <;> first | rfl | (rw [hp2i] <;> rfl)⟩
  ·obtain ⟨c, r, hcr⟩ : ∃ c r, p.restT s = c :: r := by
    cases hx : p.restT s with
    | nil => exact absurd hx h20
    | cons c r => exact ⟨c, r, rfl⟩
   have e0 := zE (pv := aB) (s := s) (ex := ex) hd hcr
   have hlr : (p.restP s).i + (c :: r).length ≤ s.length := by rw [hcr] at hlen; omega
   have hlr1 : (c :: r).length = r.length + 1 := rfl
   refine jG 5 rfl (v' := .str (c :: r)) ?_ ?_
   ·rw [hcr]
   refine en aA 0 4 [] ?_
   refine si 0 rfl rfl (fun h29 => ?_) (fun h29 => ?_)
   ·have hc : c = 40 := QD (k := 40) h29
    have e2 : dW aB s ex p = sM s ex { p.restP s with i := (p.restP s).i + 1 } := by rw [e0, if_pos hc]
    have hx1 := fx { p.restP s with i := (p.restP s).i + 1 } (by show (p.restP s).i + 1 ≤ _; omega)
    refine en aA 0 8 [] ?_
    refine uC 1000 (mb' := gK s { p.restP s with i := (p.restP s).i + 1 }) ?_ ?_
    ·rfl
    refine sn aA 0 3 [] ?_
    refine fp aA 1000 1 [] (hex { p.restP s with i := (p.restP s).i + 1 } (by show (p.restP s).i + 1 ≤ _; omega)) ?_
    refine sn aA 0 1 [] ?_
    refine fp aA 1000 0 [] (rT (x := GO) (p := (ex { p.restP s with i := (p.restP s).i + 1 }).2) hx1.2 hs) ?_
    refine sn aA 0 2 [] ?_
    refine fW 0 R ?_
    exact ⟨by rw [e2] <;> rfl, by rw [e2] <;> first | rfl | (rw [hp2i] <;> rfl)⟩
   ·have hc : c ≠ 40 := fun h => h29 (by rw [h]; rfl)
    refine en aA 0 4 [] ?_
    refine si 0 rfl rfl (fun h46 => ?_) (fun h46 => ?_)
    ·have hc2 : c = 36 := QD (k := 36) h46
     have hb := eY kB r
     obtain ⟨w, hw⟩ : ∃ w, w = r.take (a7 kB r) := ⟨_, rfl⟩
     have hwl : w.length ≤ r.length := by rw [hw]; simp; omega
     obtain ⟨p2, hp2⟩ : ∃ p2, p2 = (if lN w then p.restP s else (p.restP s).fails 110 (p.restP s).i) := ⟨_, rfl⟩
     have hp2i : p2.i = (p.restP s).i := by rw [hp2]; split <;> simp [iU]
     have e2 : dW aB s ex p = (sK w, { p2 with i := (p.restP s).i + (1 + w.length) }) := by rw [e0, if_neg hc, if_pos hc2, hp2, hw]; rfl
     refine en aA 0 3 [] ?_
     refine fc aA 3 [] (tI (g := kB) (s := r) (by omega)) ?_
     refine jR 6 rfl (v' := .str w) ?_ ?_
     ·rw [hw]; show SV.str (r.take ((1 + (a7 kB r : Int)).toNat - 1)) = _; rw [show (1 + (a7 kB r : Int)).toNat - 1 = a7 kB r by omega]
     refine sn aA 0 1 [] ?_
     refine fc aA 1 [] (YU (w := w) (by omega)) ?_
     refine bM 0 rfl rfl (fun h58 => ?_) (fun h58 => ?_)
     ·refine en aA 0 5 [] ?_
      refine fp aA 1000 0 [] (fR) ?_
      refine uC 1000 (mb' := gK s p2) ?_ ?_
      ·rw [hp2]; first | rw [if_pos (by simpa using h58)] | rw [if_neg (by simpa using h58)]
      refine sn aA 0 11 [] ?_ (hφ := by exact ⟨⟨by omega, by omega⟩, ⟨by omega, by omega⟩⟩)
      refine sn aA 0 3 [] ?_
      refine sn aA 0 2 [] ?_
      refine fW 0 R ?_
      exact ⟨by rw [e2] <;> rfl, by rw [e2] <;> first | rfl | (rw [hp2i] <;> rfl)⟩
     ·refine c6 1000 (mb' := gK s p2) ?_ ?_
      ·rw [hp2]; first | rw [if_pos (by simpa using h58)] | rw [if_neg (by simpa using h58)]
      refine en aA 0 11 [] ?_ (hφ := by exact ⟨⟨by omega, by omega⟩, ⟨by omega, by omega⟩⟩)
      refine sn aA 0 3 [] ?_
      refine sn aA 0 2 [] ?_
      refine fW 0 R ?_
      exact ⟨by rw [e2] <;> rfl, by rw [e2] <;> first | rfl | (rw [hp2i] <;> rfl)⟩
    ·have hc2 : c ≠ 36 := fun h => h46 (by rw [h]; rfl)
     refine en aA 0 2 [] ?_
     refine fc aA 2 [] (JH (g := b8) (c := c) rfl) ?_
     refine si 0 rfl rfl (fun h77 => ?_) (fun h77 => ?_)
     ·have hg : c ∈ b8 := Classical.byContradiction fun h => absurd ((nS _ _).2 h) (by omega)
      have e2 : dW aB s ex p = cG aB (c :: r) (p.restP s) := by rw [e0, if_neg hc, if_neg hc2, if_pos hg]
      refine en aA 0 2 [] ?_
      refine fp aA 1000 1 [] (NK (r := c :: r) hlr hs) ?_
      refine sn aA 0 2 [] ?_
      refine fW 0 R ?_
      exact ⟨by rw [e2] <;> rfl, by rw [e2] <;> first | rfl | (rw [hp2i] <;> rfl)⟩
     ·have hg : c ∉ b8 := (nS _ _).1 (by omega)
      refine en aA 0 2 [] ?_
      refine fc aA 2 [] (JH (g := pD) (c := c) rfl) ?_
      refine si 0 rfl rfl (fun h85 => ?_) (fun h85 => ?_)
      ·have hg2 : c ∈ pD := Classical.byContradiction fun h => absurd ((nS _ _).2 h) (by omega)
       have e2 : dW aB s ex p = gJ s ex (c :: r) (p.restP s) := by rw [e0, if_neg hc, if_neg hc2, if_neg hg, if_pos hg2]
       refine en aA 0 3 [] ?_
       refine fp aA 1000 1 [] (WG (r := c :: r) hdp fx hex hlr hs) ?_
       refine sn aA 0 2 [] ?_
       refine fW 0 R ?_
       exact ⟨by rw [e2] <;> rfl, by rw [e2] <;> first | rfl | (rw [hp2i] <;> rfl)⟩
      ·have hg2 : c ∉ pD := (nS _ _).1 (by omega)
       have e2 : dW aB s ex p = (mY, (p.restP s).fails 110 (p.restP s).i) := by rw [e0, if_neg hc, if_neg hc2, if_neg hg, if_neg hg2]
       refine en aA 0 5 [] ?_
       refine fp aA 1000 0 [] (fR) ?_
       refine sn aA 0 2 [] ?_
       refine fW 0 R ?_
       exact ⟨by rw [e2] <;> rfl, by rw [e2] <;> first | rfl | (rw [hp2i] <;> rfl)⟩
end Go.Proofs.YtomkgfdigldhcaaGreatDoor
