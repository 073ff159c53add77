/- WO UM WP WR WX US HA HB HC HD UT HH HI. -/
import Derived.Test.YtomkgfdigldhcaaGreatDoorLIN
set_option maxRecDepth 100000
namespace Go.Proofs.YtomkgfdigldhcaaGreatDoor
open Go.KX
theorem IK {s : Bytes} {u : Ps → Ex × Ps} {p : Ps} {q : Int} {dp : Nat} (hq : q = 5) (hu : Fp Tryz.prog gT 167 [.l 1000 0, nI dp] (gK s p) (eD (u p).1) (gK s (u p).2)) : Fp Tryz.prog gT 115 [.l 1000 0, nI q, nI dp] (gK s p) (eD (u p).1) (gK s (u p).2) := by
 refine lU aA (fn := Tryz.f115) 43 [.cell 6 29] Tryz.func115 Tryz.results115 (fun g0 B0 Q ρ0 R => ?_)
 refine en aA 0 1 [] ?_
 refine sn aA 0 2 [] ?_
 refine si 0 rfl rfl (fun h11 => ?_) (fun h11 => ?_)
 ·refine en aA 0 2 [] ?_
  refine fp aA 1000 1 [] (hu) ?_
  refine fW 0 R ?_
  exact ⟨rfl, rfl⟩
 ·exact absurd hq h11
theorem IL {s : Bytes} {sub : Ps → Ex × Ps} {p : Ps} {q : Int} {dp n : Nat} (hq : q = 4 - (n : Int)) (hn : n ≤ 4) (fs : Fit s sub) (hsub : ∀ p : Ps, p.i ≤ s.length → Fp Tryz.prog gT 115 [.l 1000 0, nI (q + 1), nI dp] (gK s p) (eD (sub p).1) (gK s (sub p).2)) (hi : p.i ≤ s.length) (hs : s.length ≤ 1024) : Fp Tryz.prog gT 115 [.l 1000 0, nI q, nI dp] (gK s p) (eD (bD (EI s) sub (bY.getD (4 - n) []) (n == 2) (s.length + 1) (sub p).1 (sub p).2).1) (gK s (bD (EI s) sub (bY.getD (4 - n) []) (n == 2) (s.length + 1) (sub p).1 (sub p).2).2) := by
 refine lU aA (fn := Tryz.f115) 43 [.cell 6 29] Tryz.func115 Tryz.results115 (fun g0 B0 Q ρ0 R => ?_)
 refine en aA 0 1 [] ?_
 refine sn aA 0 2 [] ?_
 refine si 0 rfl rfl (fun h11 => ?_) (fun h11 => ?_)
 ·exact absurd h11 (by omega)
 ·refine en aA 0 4 [] ?_
  refine fp aA 1000 2 [] (hsub p hi) ?_
  refine sl 0 ?_
  obtain ⟨ops, hops⟩ : ∃ ops, ops = bY.getD (4 - n) [] := ⟨_, rfl⟩
  obtain ⟨rest, hrest⟩ := HW hn hq
  rw [← hops] at hrest
  refine aD (σ := Nat × Ex × Ps) (fun t => t.2.2.i ≤ s.length ∧ s.length < t.1 + t.2.2.i ∧ bD (EI s) sub ops (n == 2) t.1 t.2.1 t.2.2 = bD (EI s) sub ops (n == 2) (s.length + 1) (sub p).1 (sub p).2) (fun t => t.1)
   (fun t => [(0, .l 1000 0), (1, nI q), (2, nI dp), (6, .l 6 0), (7, .l 7 0)])
   (fun t => [(7, .c 29 (kP t.2.1)), (6, .c 29 [nI 0, .str [], nI 0, nI 0, .s 0 []]), (1000, gK s t.2.2)]) (s.length + 1, (sub p).1, (sub p).2) ?_ ?_
  ·exact ⟨(fs p hi).2, by simp only; omega, rfl⟩
  ·rintro J t ⟨ht1, ht2, ht3⟩ hJ
   obtain ⟨k, hk⟩ : ∃ k, t.1 = k + 1 := ⟨t.1 - 1, by omega⟩
   have htf := kE (l := ops) ht1
   have hsf := fs _ htf.2
   rw [hk] at ht3
   refine en aA 0 2 [] ?_
   refine gix aA 1 [] (n := 5) (z := q) (rB ops :: rest) HO (by omega) hrest ?_
   refine fp aA 1000 5 [] (u7 (l := ops) ht1 hs) ?_
   refine sn aA 0 2 [] ?_
   refine bM 0 rfl rfl (fun h29 => ?_) (fun h29 => ?_)
   ·have e1 : takeT s ops t.2.2 = none := by simpa using h29
    have e2 : bD (EI s) sub (bY.getD (4 - n) []) (n == 2) (s.length + 1) (sub p).1 (sub p).2 = (t.2.1, takeP s ops t.2.2) := by rw [← hops, ← ht3, zF e1]
    refine en aA 0 2 [] ?_
    refine fW 0 R ?_
    exact ⟨by rw [e2] <;> rfl, by rw [e2] <;> rfl⟩
   ·obtain ⟨o, e1⟩ : ∃ o, takeT s ops t.2.2 = some o := Option.isSome_iff_exists.1 (by simpa using h29)
    refine jG 8 rfl (v' := .str o) ?_ ?_
    ·rw [e1]; rfl
    refine jH 0 576 [0, 0, 0, 0, 8, 0, 60, 126, 255, 511] [0, 2, 3, 4, 5, 6, 1, 7, 8, 9] ?_
    refine xd aA 5 [] ?_
    refine XY aA 1000 0 [] (hsub (takeP s ops t.2.2) htf.2) ?_
    refine dl aA 1 [] ?_
    refine dc aA 1 [] (SU) ?_
    refine xe ?_
    refine sn aA 0 2 [] ?_
    refine si 0 rfl rfl (fun h41 => ?_) (fun h41 => ?_)
    ·have hb : (n == 2) = true := by simp; omega
     have e2 : bD (EI s) sub (bY.getD (4 - n) []) (n == 2) (s.length + 1) (sub p).1 (sub p).2 = (eU o [t.2.1, (sub (takeP s ops t.2.2)).1], (sub (takeP s ops t.2.2)).2) := by rw [← hops, ← ht3, hb, wS e1]
     refine en aA 0 2 [] ?_
     refine fW 0 R ?_
     exact ⟨by rw [e2] <;> rfl, by rw [e2] <;> rfl⟩
    ·have hb : (n == 2) = false := by simp; omega
     refine el 0 ?_
     exact hJ (k, eU o [t.2.1, (sub (takeP s ops t.2.2)).1], (sub (takeP s ops t.2.2)).2) ⟨hsf.2, by simp only; have := MO e1; omega, by rw [← ht3, hb, zG e1]⟩ (by simp only; omega)
theorem AN {s : Bytes} {u : Ps → Ex × Ps} {dp : Nat} (hs : s.length ≤ 1024) (fu : Fit s u) (hu : (∀ p : Ps, p.i ≤ s.length → Fp Tryz.prog gT 167 [.l 1000 0, nI dp] (gK s p) (eD (u p).1) (gK s (u p).2))) : ∀ (n : Nat), n ≤ 5 → ∀ (q : Int), q = 5 - (n : Int) → ∀ p : Ps, p.i ≤ s.length → Fp Tryz.prog gT 115 [.l 1000 0, nI q, nI dp] (gK s p) (eD (BB s u n p).1) (gK s (BB s u n p).2)
 | 0, _, q, hq, p, hi => IK (by omega) (hu p hi)
 | n + 1, hn, q, hq, p, hi => IL (n := n) (by omega) (by omega) (uX fu n) (fun p hi => AN hs fu hu n (by omega) (q + 1) (by omega) p hi) hi hs
theorem K4 {s : Bytes} {u : Ps → Ex × Ps} {p : Ps} {dp : Nat} (fu : Fit s u) (hu : (∀ p : Ps, p.i ≤ s.length → Fp Tryz.prog gT 167 [.l 1000 0, nI dp] (gK s p) (eD (u p).1) (gK s (u p).2))) (hi : p.i ≤ s.length) (hs : s.length ≤ 1024) : Fp Tryz.prog gT 62 [.l 1000 0, nI dp] (gK s p) (eD (i6 s u dp p).1) (gK s (i6 s u dp p).2) := by
 refine lU aA (fn := Tryz.f62) 11 [.cell 4 29] Tryz.func62 Tryz.results62 (fun g0 B0 Q ρ0 R => ?_)
 refine en aA 0 1 [] ?_
 refine sn aA 0 2 [] ?_
 refine fp aA 1000 0 [] (x6 (by omega) (by omega)) ?_
 refine sn aA 0 2 [] ?_
 refine fp aA 1000 1 [] (AN hs fu hu 5 (by omega) 0 rfl (bU s dp p) (jX hi).2) ?_
 refine fW 0 R ?_
 exact ⟨rfl, rfl⟩
theorem NL {s : Bytes} {p : Ps} (hi : p.i ≤ s.length) (hs : s.length ≤ 1024) : Fp Tryz.prog gT 167 [.l 1000 0, nI ((33 : Nat) : Int)] (gK s p) (eD (mZ aB s 0 p).1) (gK s (mZ aB s 0 p).2) := by
 refine lU aA (fn := Tryz.f167) 27 [.cell 4 29] Tryz.func167 Tryz.results167 (fun g0 B0 Q ρ0 R => ?_)
 have hd := JW (s := s) (p := p)
 have he := jX (d := 33) hi
 have e1 : takeT s [a8, bZ] (bU s 33 p) = none := kC hd
 have hf := kE (l := [a8, bZ]) he.2
 refine en aA 0 1 [] ?_
 refine sn aA 0 2 [] ?_
 refine fp aA 1000 0 [] (x6 (by omega) (by omega)) ?_
 refine sn aA 0 2 [] ?_
 refine fp aA 1000 5 [] (u7 (l := [a8, bZ]) he.2 hs) ?_
 refine sn aA 0 1 [] ?_
 refine bM 0 rfl rfl (fun h16 => ?_) (fun h16 => ?_)
 ·rw [e1] at h16; cases h16
 ·refine en aA 0 2 [] ?_
  refine fp aA 1000 1 [] (SX (ex := fun q => (mY, q)) (dp := 33) hf.2 hs ((eX _ _ hd).1)) ?_
  refine fW 0 R ?_
  exact ⟨rfl, rfl⟩
theorem NM {s : Bytes} {p : Ps} {d dp : Nat} (hdp : dp + d = 32) (hun : ∀ p : Ps, p.i ≤ s.length → Fp Tryz.prog gT 167 [.l 1000 0, nI ((dp : Int) + 1)] (gK s p) (eD (mZ aB s d p).1) (gK s (mZ aB s d p).2)) (hi : p.i ≤ s.length) (hs : s.length ≤ 1024) : Fp Tryz.prog gT 167 [.l 1000 0, nI dp] (gK s p) (eD (mZ aB s (d + 1) p).1) (gK s (mZ aB s (d + 1) p).2) := by
 refine lU aA (fn := Tryz.f167) 27 [.cell 4 29] Tryz.func167 Tryz.results167 (fun g0 B0 Q ρ0 R => ?_)
 have h32 : 32 - d = dp := by omega
 have h33 : 33 - d = dp + 1 := by omega
 have he := jX (d := dp) hi
 have hf := kE (l := [a8, bZ]) he.2
 have hfx := wR (pv := aB) (s := s) d
 refine en aA 0 1 [] ?_
 refine sn aA 0 2 [] ?_
 refine fp aA 1000 0 [] (x6 (by omega) (by omega)) ?_
 refine sn aA 0 2 [] ?_
 refine fp aA 1000 5 [] (u7 (l := [a8, bZ]) he.2 hs) ?_
 refine sn aA 0 1 [] ?_
 refine bM 0 rfl rfl (fun h16 => ?_) (fun h16 => ?_)
 ·obtain ⟨o, e1⟩ : ∃ o, takeT s [a8, bZ] (bU s dp p) = some o := Option.isSome_iff_exists.1 h16
  have e2 := JU (pv := aB) (s := s) (p := p) (d := d) (o := o) (by rw [h32]; exact e1)
  rw [h32] at e2
  refine jG 5 rfl (v' := .str o) ?_ ?_
  ·rw [e1]; rfl
  refine en aA 0 4 [] ?_
  refine fp aA 1000 1 [] (hun (takeP s [a8, bZ] (bU s dp p)) hf.2) ?_
  refine fc aA 1 [] (x7) ?_
  refine fW 0 R ?_
  exact ⟨by rw [e2] <;> rfl, by rw [e2] <;> rfl⟩
 ·have e1 : takeT s [a8, bZ] (bU s dp p) = none := by simpa using h16
  have e2 := JV (pv := aB) (s := s) (p := p) (d := d) (by rw [h32]; exact e1)
  rw [h32, h33] at e2
  refine en aA 0 2 [] ?_
  refine fp aA 1000 1 [] (WH (ex := i6 s (mZ aB s d) (dp + 1)) (dp := dp) (by omega) (wQ hfx (dp + 1)) (fun p hi => K4 (dp := dp + 1) hfx hun hi hs) hf.2 hs) ?_
  refine fW 0 R ?_
  exact ⟨by rw [e2] <;> rfl, by rw [e2] <;> rfl⟩
theorem GG {s : Bytes} (hs : s.length ≤ 1024) : ∀ (d dp : Nat), dp + d = 33 → ∀ p : Ps, p.i ≤ s.length → Fp Tryz.prog gT 167 [.l 1000 0, nI dp] (gK s p) (eD (mZ aB s d p).1) (gK s (mZ aB s d p).2)
 | 0, dp, h, p, hi => by
   have : dp = 33 := by omega
   subst this
   exact NL hi hs
 | d + 1, dp, h, p, hi => NM (by omega) (fun p hi => GG hs d (dp + 1) (by omega) p hi) hi hs
theorem tK {s : Bytes} : Fc Tryz.prog gT 20 [.str s] (.t [eD (bK aB s).1, nI (bK aB s).2.1, nI (bK aB s).2.2]) := by
 refine fb aA (fn := Tryz.f20) 39 [.cell 2 29, .tmp 3, .tmp 4] Tryz.func20 Tryz.results20 (fun g0 B0 Q ρ0 R => ?_)
 refine en aA 0 3 [] ?_
 refine sn aA 0 3 [] ?_
 refine si 0 rfl rfl (fun h9 => ?_) (fun h9 => ?_)
 ·have e : bK aB s = (mY, 1, 0) := by unfold bK; rw [if_pos (by omega)]
  refine en aA 0 4 [] ?_
  refine sr 0 R ?_
  rw [e]; rfl
 ·have hs : s.length ≤ 1024 := by omega
  obtain ⟨A, hA⟩ : ∃ A, A = i6 s (mZ aB s 33) 0 ⟨0, 0, 0, false⟩ := ⟨_, rfl⟩
  have hfA : A.2.i ≤ s.length := by rw [hA]; exact (wQ (wR 33) 0 _ (Nat.zero_le _)).2
  have e0 : bK aB s = (if (if A.2.restT s = [] then A.2.restP s else (A.2.restP s).fails 110 (A.2.restP s).i).dead then (mY, (if A.2.restT s = [] then A.2.restP s else (A.2.restP s).fails 110 (A.2.restP s).i).err, (if A.2.restT s = [] then A.2.restP s else (A.2.restP s).fails 110 (A.2.restP s).i).at_) else (A.1, 0, 0)) := by unfold bK; rw [if_neg (by omega), ← hA]
  have hE : Fp Tryz.prog gT 62 [.l 1000 0, nI ((0 : Nat) : Int)] (gK s ⟨0, 0, 0, false⟩) (eD A.1) (gK s A.2) := by rw [hA]; exact K4 (wR 33) (GG hs 33 0 rfl) (Nat.zero_le _) hs
  refine en aA 0 4 [] ?_
  refine uC 13 (mb' := gK s ⟨0, 0, 0, false⟩) ?_ ?_
  ·rfl
  refine sn aA 0 1 [] ?_
  refine fp aA 13 2 [] (hE) ?_
  refine sn aA 0 1 [] ?_
  refine fp aA 13 1 [] (rS hfA hs) ?_
  refine si 0 rfl rfl (fun h18 => ?_) (fun h18 => ?_)
  ·obtain ⟨q2, hq2⟩ : ∃ q2, q2 = (A.2.restP s).fails 110 (A.2.restP s).i := ⟨_, rfl⟩
   have e3 : (if A.2.restT s = [] then A.2.restP s else (A.2.restP s).fails 110 (A.2.restP s).i) = q2 := by rw [hq2, if_neg h18]
   rw [e3] at e0
   refine en aA 0 5 [] ?_
   refine fp aA 13 0 [] (fR) ?_
   refine uC 13 (mb' := gK s q2) ?_ ?_
   ·rw [hq2]
   refine sn aA 0 4 [] ?_
   refine bM 0 rfl rfl (fun h28 => ?_) (fun h28 => ?_)
   ·have e : bK aB s = (mY, q2.err, q2.at_) := by rw [e0, if_pos h28]
    refine jH 0 512 [0, 0, 2, 6, 14, 0, 32, 96, 224, 1, 543, 2047] [0, 1, 2, 3, 5, 6, 7, 9, 4, 8, 10, 11] ?_
    refine xd aA 8 [] ?_
    refine dl aA 0 [] ?_
    refine dl aA 2 [] ?_
    refine xe ?_
    refine sr 0 R ?_
    rw [e]; rfl
   ·have e : bK aB s = (A.1, 0, 0) := by rw [e0, if_neg (by simp [h28])]
    refine en aA 0 4 [] ?_
    refine sr 0 R ?_
    rw [e]; rfl
  ·obtain ⟨q2, hq2⟩ : ∃ q2, q2 = A.2.restP s := ⟨_, rfl⟩
   have e3 : (if A.2.restT s = [] then A.2.restP s else (A.2.restP s).fails 110 (A.2.restP s).i) = q2 := by rw [hq2, if_pos (Decidable.of_not_not h18)]
   rw [e3] at e0
   refine c6 13 (mb' := gK s q2) ?_ ?_
   ·rw [hq2]
   refine en aA 0 4 [] ?_
   refine bM 0 rfl rfl (fun h28 => ?_) (fun h28 => ?_)
   ·have e : bK aB s = (mY, q2.err, q2.at_) := by rw [e0, if_pos h28]
    refine jH 0 512 [0, 0, 2, 6, 14, 0, 32, 96, 224, 1, 543, 2047] [0, 1, 2, 3, 5, 6, 7, 9, 4, 8, 10, 11] ?_
    refine xd aA 8 [] ?_
    refine dl aA 0 [] ?_
    refine dl aA 2 [] ?_
    refine xe ?_
    refine sr 0 R ?_
    rw [e]; rfl
   ·have e : bK aB s = (A.1, 0, 0) := by rw [e0, if_neg (by simp [h28])]
    refine en aA 0 4 [] ?_
    refine sr 0 R ?_
    rw [e]; rfl
end Go.Proofs.YtomkgfdigldhcaaGreatDoor
namespace Go.Proofs.YtomkgfdigldhcaaGreatDoor
open Go.KX
theorem mQ {x : Ex} (hl : (bA x).length ≤ 1000000) (h : Fc Tryz.prog gT 21 [eD x] (.str (bA x))) : Fc Tryz.prog gT 66 [eD x] (.str (nT x)) := by
 refine fb aA (fn := Tryz.f66) 13 [.tmp 2] Tryz.func66 Tryz.results66 (fun g0 B0 Q ρ0 R => ?_)
 refine en aA 0 2 [] ?_
 refine sn aA 0 4 [] ?_
 refine si 0 rfl rfl (fun h6 => ?_) (fun h6 => ?_)
 ·have hk : x.kids.length = 2 := by have h6 := h6; rw [oS] at h6; omega
  have e : nT x = 40 :: (bA x ++ [41]) := by unfold nT; rw [if_pos hk]
  refine en aA 0 1 [] ?_
  refine fc aA 3 [] (h) ?_
  refine sr 0 R ?_
  rw [e]; rfl
 ·have hk : ¬ x.kids.length = 2 := by have h6 := h6; rw [oS] at h6; omega
  have e : nT x = bA x := nW hk
  refine en aA 0 1 [] ?_
  refine fc aA 1 [] (h) ?_
  refine sr 0 R ?_
  rw [e]; rfl
theorem CM {n : Bytes} (hl : n.length ≤ 1000000) : Fc Tryz.prog gT 21 [.a [nI 2, .str n, nI 0, nI 0, .s 0 []]] (.str (36 :: n)) := by
 refine fb aA (fn := Tryz.f21) 80 [.tmp 2] Tryz.func21 Tryz.results21 (fun g0 B0 Q ρ0 R => ?_)
 refine en aA 0 2 [] ?_
 refine sn aA 0 4 [] ?_
 refine sn aA 1 4 [] ?_
 refine sr 0 R ?_
 rfl
theorem CN {v : Val} : Fc Tryz.prog gT 21 [.a [nI 1, .str [], nI v.k, nI v.n, .s 0 []]] (.str (bA (mG v))) := by
 refine fb aA (fn := Tryz.f21) 80 [.tmp 2] Tryz.func21 Tryz.results21 (fun g0 B0 Q ρ0 R => ?_)
 have e0 : bA (mG v) = _ := wV [] v []
 refine en aA 0 2 [] ?_
 refine sn aA 0 4 [] ?_
 refine sn aA 1 10 [] ?_
 refine bM 0 rfl rfl (fun h10 => ?_) (fun h10 => ?_)
 ·rw [if_pos (by simpa using h10)] at e0
  refine en aA 0 1 [] ?_
  refine sr 0 R ?_
  rw [e0]; rfl
 ·rw [if_neg (by simpa using h10)] at e0
  refine en aA 0 10 [] ?_
  refine bM 0 rfl rfl (fun h20 => ?_) (fun h20 => ?_)
  ·rw [if_pos (by simpa using h20)] at e0
   refine en aA 0 1 [] ?_
   refine sr 0 R ?_
   rw [e0]; rfl
  ·rw [if_neg (by simpa using h20)] at e0
   refine en aA 0 4 [] ?_
   refine sn aA 1 2 [] ?_
   refine fc aA 1 [] (j4 (v := v)) ?_
   refine sr 0 R ?_
   rw [e0]; rfl
theorem CO {n : Bytes} {a b : Ex} (hl : (bA (eU n [a, b])).length ≤ 1000000) (ha : Fc Tryz.prog gT 66 [eD a] (.str (nT a))) (hb : Fc Tryz.prog gT 66 [eD b] (.str (nT b))) : Fc Tryz.prog gT 21 [.a [nI 3, .str n, nI 0, nI 0, .s 5 [kP a, kP b]]] (.str (bA (eU n [a, b]))) := by
 refine fb aA (fn := Tryz.f21) 80 [.tmp 2] Tryz.func21 Tryz.results21 (fun g0 B0 Q ρ0 R => ?_)
 rw [jY] at hl
 simp only [List.length_append, List.length_cons] at hl
 refine en aA 0 2 [] ?_
 refine sn aA 0 4 [] ?_
 refine sn aA 1 10 [] ?_
 refine sn aA 1 10 [] ?_
 refine sn aA 1 4 [] ?_
 refine sn aA 1 5 [] ?_
 refine DZ 1 0 [0, 1, 3, 7, 15, 31, 0, 64, 255, 511, 0, 1024, 3072, 7168, 15391, 32767, 65535] [0, 1, 2, 3, 4, 5, 6, 7, 8, 9, 10, 11, 12, 13, 14, 15, 16] ?_
 refine xd aA 4 [kP a] ?_
 refine dc aA 9 [kP b] (ha) ?_
 refine dc aA 2 [] (hb) ?_
 refine xe ?_
 refine sr 0 R ?_
 rw [jY]
 show SV.str _ = SV.str _
 simp
theorem rU {n : Bytes} {a : Ex} (hl : (bA (eU n [a])).length ≤ 1000000) (ho : Fc Tryz.prog gT 66 [eD a] (.str (nT a))) (hp : Fc Tryz.prog gT 21 [eD a] (.str (bA a))) : Fc Tryz.prog gT 21 [.a [nI 3, .str n, nI 0, nI 0, .s 5 [kP a]]] (.str (bA (eU n [a]))) := by
 refine fb aA (fn := Tryz.f21) 80 [.tmp 2] Tryz.func21 Tryz.results21 (fun g0 B0 Q ρ0 R => ?_)
 have e0 := zI n a
 rw [e0] at hl
 refine en aA 0 2 [] ?_
 refine sn aA 0 4 [] ?_
 refine sn aA 1 10 [] ?_
 refine sn aA 1 10 [] ?_
 refine sn aA 1 4 [] ?_
 refine sn aA 1 5 [] ?_
 refine sn aA 1 2 [] ?_
 refine fc aA 1 [] (tY) ?_
 refine bM 0 rfl rfl (fun h58 => ?_) (fun h58 => ?_)
 ·rw [if_pos (by simpa using h58)] at e0 hl
  simp only [List.length_append, List.length_cons] at hl
  refine jH 0 0 [0, 1, 3, 0, 8, 24, 56, 120, 255, 511, 1023] [0, 1, 2, 3, 4, 5, 6, 7, 8, 9, 10] ?_
  refine xd aA 7 [kP a] ?_
  refine dc aA 3 [] (hp) ?_
  refine xe ?_
  refine sr 0 R ?_
  rw [e0]
  show SV.str _ = SV.str _
  simp
 ·rw [if_neg (by simpa using h58)] at e0 hl
  simp only [List.length_append, List.length_cons] at hl
  refine jH 0 0 [0, 1, 0, 4, 12, 28, 60, 127, 255] [0, 1, 2, 3, 4, 5, 6, 7, 8] ?_
  refine xd aA 6 [kP a] ?_
  refine dc aA 2 [] (ho) ?_
  refine xe ?_
  refine sr 0 R ?_
  rw [e0]
  show SV.str _ = SV.str _
  simp
theorem NN {x : Ex} (h : Wf x) (hl : (bA x).length ≤ 1000000) : Fc Tryz.prog gT 21 [eD x] (.str (bA x)) := by
 induction h with
 | num h => exact CN
 | @ref n h =>
   have e : bA (sK n) = 36 :: n := sW n zeroV []
   rw [e] at hl ⊢
   exact CM (n := n) (by simp only [List.length_cons] at hl; omega)
 | @sign o x ho hx ih =>
   have h1 := pN o x
   rw [nR]
   exact rU hl (mQ (by omega) (ih (by omega))) (ih (by omega))
 | @fn o x ho hx ih =>
   have h1 := pN o x
   rw [nR]
   exact rU hl (mQ (by omega) (ih (by omega))) (ih (by omega))
 | @bin o x y m hm ho hx hy ihx ihy =>
   have h1 := yP o x y
   rw [qT]
   exact CO hl (mQ (by omega) (ihx (by omega))) (mQ (by omega) (ihy (by omega)))
theorem NP {x : Ex} (ih : ∀ y : Ex, lD y < lD x → Fc Tryz.prog gT 24 [eD y] (rB (dX y))) (hz : lD x ≤ 100000) : Fc Tryz.prog gT 24 [eD x] (rB (dX x)) := by
 refine fb aA (fn := Tryz.f24) 27 [.tmp 2] Tryz.func24 Tryz.results24 (fun g0 B0 Q ρ0 R => ?_)
 have e0 := lX x
 have hsz := sU x
 have hkl := E3 x.kids
 refine en aA 0 2 [] ?_
 refine sn aA 0 3 [] ?_
 refine si 0 rfl rfl (fun h7 => ?_) (fun h7 => ?_)
 ·have e : dX x = [x.name] := by rw [e0, if_pos h7]
  refine en aA 0 4 [] ?_
  refine sr 0 R ?_
  rw [e]; rfl
 ·have e : dX x = mJ (f4 (eO x.kids)) := by rw [e0, if_neg h7]
  refine en aA 0 4 [] ?_
  refine sl 0 ?_
  refine jG 13 rfl (v' := nI x.kids.length) ?_ ?_
  ·rw [oS]
  refine HQ 2 902 9 1 ?_
  refine aD (σ := Nat) (fun j => j ≤ x.kids.length) (fun j => x.kids.length - j)
   (fun j => [(1, .l 1 0), (2, .o 902 (gQ (eO (x.kids.take j))).length), (12, .s (kz x.kids 5) (qS x.kids)), (13, nI x.kids.length), (14, nI j)])
   (fun j => [(902, .r 9 1 (gQ (eO (x.kids.take j)))), (1, .c 29 (kP x))]) 0 ?_ ?_
  ·exact Nat.zero_le _
  ·rintro J j hj0 hJ
   refine en aA 0 1 [] ?_
   refine si 0 rfl rfl (fun h15 => ?_) (fun h15 => ?_)
   ·have hj : j < x.kids.length := by omega
    have hks := wT hj
    have hl1 := oV (x.kids.take j)
    have hl2 := BL (l := x.kids) j
    have hl3 := E2 x.kids[j]
    refine en aA 0 4 [kP x.kids[j]] ?_ (hφ := by exact ⟨by omega, by simpa using zB hj⟩)
    refine sn aA 0 2 [] ?_
    refine fc aA 0 [] (ih x.kids[j] (by omega)) ?_
    refine P1 aA 1 [] rfl (fun _ => rfl) ?_ ?_
    ·show ((gQ (eO (x.kids.take j))).length + (gQ (dX x.kids[j])).length) * 16 ≤ _
     simp only [List.length_map]
     omega
    refine sn aA 0 2 [] ?_
    refine jR 2 rfl (v' := .o 902 (gQ (eO (x.kids.take (j + 1)))).length) ?_ ?_
    ·rw [wU hj]; simp
    refine uC 902 (mb' := .r 9 1 (gQ (eO (x.kids.take (j + 1))))) ?_ ?_
    ·rw [wU hj]; simp
    exact hJ (j + 1) (by omega) (by omega)
   ·have ej : x.kids.take j = x.kids := List.take_of_length_le (by omega)
    rw [ej]
    have hl1 := oV x.kids
    refine jG 2 rfl (v' := .o 902 (eO x.kids).length) ?_ ?_
    ·simp
    refine en aA 0 1 [] ?_
    refine fp aA 902 0 [] (P3 (l := eO x.kids) (by omega)) ?_
    refine jR 2 rfl (v' := .o 902 (f4 (eO x.kids)).length) ?_ ?_
    ·rw [lV]
    refine sn aA 0 1 [] ?_
    refine fp aA 902 1 [] (ER (l := f4 (eO x.kids)) (by rw [lV]; omega)) ?_
    refine BH 2 ?_ ?_ (hr := MP)
    ·simp
    refine sr 0 R ?_
    rw [e]; rfl
theorem SY {x : Ex} (hz : lD x ≤ 100000) : Fc Tryz.prog gT 24 [eD x] (rB (dX x)) := by
 have key : ∀ (n : Nat) (x : Ex), lD x ≤ n → n ≤ 100000 → Fc Tryz.prog gT 24 [eD x] (rB (dX x)) := by
  intro n
  induction n with
  | zero => intro x h _; have := sU x; omega
  | succ n ih => intro x h hn; exact NP (fun y hy => ih y (by omega) (by omega)) (by omega)
 exact key _ x (Nat.le_refl _) hz
theorem den_nil : ∀ g ρ x, bC g ρ (.s 0 []) x → bC g ρ (.v (.slice none 0 0)) x := fun g ρ x h => by
 cases h with
 | s xs _ _ _ _ ho _ _ =>
   obtain ⟨rfl, rfl⟩ := ho.2 rfl
   exact .v
theorem SZ {a b : List Bytes} : Fc Tryz.prog gT 31 [rB a, rB b] (bS (decide (a = b))) := by
 refine fb aA (fn := Tryz.f31) 26 [.tmp 4] Tryz.func31 Tryz.results31 (fun g0 B0 Q ρ0 R => ?_)
 refine lM 0 rfl (fun hl => ?_)
 rw [List.length_map] at hl
 refine en aA 0 1 [] ?_
 refine sn aA 0 5 [] ?_
 refine si 0 rfl rfl (fun h10 => ?_) (fun h10 => ?_)
 ·rw [List.length_map, List.length_map] at h10
  have e : decide (a = b) = false := decide_eq_false (fun h => h10 (by rw [h]))
  refine en aA 0 1 [] ?_
  refine sr 0 R ?_
  rw [e]; rfl
 ·rw [List.length_map, List.length_map] at h10
  have hab : a.length = b.length := by omega
  refine en aA 0 1 [] ?_
  refine sl 0 ?_
  refine aD (σ := Nat) (fun j => j ≤ a.length ∧ a.take j = b.take j) (fun j => a.length - j)
   (fun j => [(0, rB a), (1, rB b), (5, nI j)])
   (fun j => []) 0 ?_ ?_
  ·exact ⟨Nat.zero_le _, by simp⟩
  ·rintro J j ⟨hj0, hj1⟩ hJ
   refine en aA 0 4 [] ?_
   refine si 0 rfl rfl (fun h14 => ?_) (fun h14 => ?_)
   ·rw [List.length_map] at h14
    have hj : j < a.length := by omega
    have hjb : j < b.length := by omega
    refine jH 0 0 [0, 0, 3, 7, 0, 0, 48, 112, 255] [0, 1, 2, 3, 4, 5, 6, 7, 8] ?_
    refine xd aA 9 [[.str a[j]], [.str b[j]]] ?_ (hφ := by (repeat' refine And.intro ?_ ?_) <;> first | omega | simp [hj] | simp [hjb])
    refine xe ?_
    refine si 0 rfl rfl (fun h25 => ?_) (fun h25 => ?_)
    ·have e : decide (a = b) = false := decide_eq_false (fun h => by subst h; exact h25 rfl)
     refine en aA 0 1 [] ?_
     refine sr 0 R ?_
     rw [e]; rfl
    ·have h25 : a[j] = b[j] := Decidable.not_not.1 h25
     refine en aA 0 3 [] ?_
     refine sl 0 ?_
     exact hJ (j + 1) ⟨by omega, UU hj (by omega) hj1 h25⟩ (by omega)
   ·rw [List.length_map] at h14
    have e : decide (a = b) = true := decide_eq_true (by rw [List.take_of_length_le (by omega), List.take_of_length_le (by omega)] at hj1; exact hj1)
    refine en aA 0 1 [] ?_
    refine sr 0 R ?_
    rw [e]; rfl
theorem NQ : Fc Tryz.prog gT 20 [.str sA] (.t [eD xA, nI 0, nI 0]) := by
 have h := tK (s := sA)
 rw [YG] at h
 exact h
theorem NR : Fc Tryz.prog gT 20 [.str sB] (.t [eD (bK aB sB).1, nI 110, nI 4]) := by
 have h := tK (s := sB)
 rw [YH] at h
 exact h
theorem NS : Fc Tryz.prog gT 20 [.str sC] (.t [eD xC, nI 0, nI 0]) := by
 have h := tK (s := sC)
 rw [YI] at h
 exact h
theorem x8 {P X M Y Z : List Se} {n cf : Nat} {a b k : Int} (hn : n = (P ++ (X ++ (M ++ (Y ++ Z)))).length) (ha : a = P.length) (hb : b = ((P.length + X.length + M.length : Nat) : Int)) (hk : k = X.length) (hXY : X.length = Y.length) (hz : n ≤ 10000000000000) : Fp Tryz.prog gT 331 [.o 1000 n, nI a, nI b, nI k, .f cf [] []] (.r 98 3 ((P ++ (X ++ (M ++ (Y ++ Z)))).map aP)) (.t []) (.r 98 3 ((P ++ (Y ++ (M ++ (X ++ Z)))).map aP)) := by
 refine lU aA (fn := Tryz.f331) 38 [] Tryz.func331 Tryz.results331 (fun g0 B0 Q ρ0 R => ?_)
 rw [show (P ++ (X ++ (M ++ (Y ++ Z)))).map aP = (jO P X M Y Z 0).map aP by rw [J5]]
 refine en aA 0 1 [] ?_
 refine sl 0 ?_
 refine aD (σ := Nat) (fun i => i ≤ X.length) (fun i => X.length - i)
  (fun i => [(0, .o 1000 n), (1, nI a), (2, nI b), (3, nI k), (10, nI i)])
  (fun i => [(1000, .r 98 3 ((jO P X M Y Z i).map aP))]) 0 ?_ ?_
 ·exact Nat.zero_le _
 ·rintro J i hi0 hJ
  refine en aA 0 3 [] ?_
  refine si 0 rfl rfl (fun h13 => ?_) (fun h13 => ?_)
  ·have hi : i < X.length := by omega
   have hlen := zM (P := P) (M := M) (Q := Z) hXY (i := i) (by omega)
   obtain ⟨U, V, x, y, hx, hy, e1, hU, V2, W, eV, hU2, e2⟩ := FA (P := P) (M := M) (Q := Z) hXY hi
   subst eV
   refine c6 1000 (mb' := .r 98 3 ((U ++ x :: (V2 ++ y :: W)).map aP)) ?_ ?_
   ·rw [e1]
   have hRl : ((U ++ x :: (V2 ++ y :: W)).map aP).length = n := by rw [List.length_map, ← e1, hlen, hn]
   have hbn : (P.length + X.length + M.length + i) < n := by
    rw [hn]
    simp only [List.length_append]
    omega
   refine jH 0 10485760 [0, 0, 0, 6, 0, 0, 0, 96, 0, 0, 0, 1536, 3840, 7936, 0, 0, 0, 98304, 245760, 507904, 1048335, 2096911, 4194303, 8388607] [0, 1, 2, 3, 4, 5, 6, 7, 8, 9, 10, 11, 12, 13, 14, 15, 16, 17, 18, 19, 20, 21, 22, 23] ?_
   refine xd aA 12 [] ?_
   refine mB aA (P.length + X.length + M.length + i) 0 [] (n := n) (z := b + (i : Int)) (rows := ((U ++ x :: (V2 ++ y :: W)).map aP)) (by omega) (by omega) (by omega) ?_
   refine r6 aA (P.length + X.length + M.length + i) 0 4 [] (row := aP y) (BQ hU2) ?_ (hφ := by unfold aE; omega)
   refine mB aA (P.length + i) 0 [] (n := n) (z := a + (i : Int)) (rows := ((U ++ x :: (V2 ++ y :: W)).map aP)) (by omega) (by omega) (by omega) ?_
   refine r6 aA (P.length + i) 0 0 [] (row := aP x) (fJ hU) ?_
   refine mB aA U.length 0 [] (n := n) (z := a + (i : Int)) (rows := ((U ++ x :: (V2 ++ y :: W)).map aP)) (by omega) (by omega) (by omega) ?_
   refine GP aA U.length 0 0 [] (row := aP x) (fJ rfl) ?_
   refine FG aA (P.length + X.length + M.length + i) 0 [] (n := n) (z := b + (i : Int)) (rows := ((U ++ x :: (V2 ++ y :: W)).map aP).set U.length (aP y)) (by omega) (by rw [List.length_set]; omega) (by rw [List.length_set]; omega) ?_
   refine GP aA (P.length + X.length + M.length + i) 0 0 [] (row := aP y) (J6 hU2) ?_
   refine xe ?_
   refine sn aA 0 3 [] ?_
   refine sl 0 ?_
   refine c6 1000 (mb' := .r 98 3 ((jO P X M Y Z (i + 1)).map aP)) ?_ ?_
   ·rw [e2, ← FB (f := aP) (U := U) (x := x) (y := y) (j := (P.length + X.length + M.length + i)) (by rw [hU2])]; rfl
   exact hJ (i + 1) (by omega) (by omega)
  ·have hi : i = X.length := by omega
   subst hi
   rw [zL hXY]
   refine HM 0 R ?_
   exact ⟨rfl, rfl⟩
theorem WI {P Lw Rw Z : List Se} {n cf : Nat} {a m b : Int} (hn : n = (P ++ (Lw ++ (Rw ++ Z))).length) (ha : a = P.length) (hm : m = ((P.length + Lw.length : Nat) : Int)) (hb : b = ((P.length + Lw.length + Rw.length : Nat) : Int)) (hl : 0 < Lw.length) (hr : 0 < Rw.length) (hz : n ≤ 10000000000000) : Fp Tryz.prog gT 317 [.o 1000 n, nI a, nI m, nI b, .f cf [] []] (.r 98 3 ((P ++ (Lw ++ (Rw ++ Z))).map aP)) (.t []) (.r 98 3 ((P ++ (Rw ++ (Lw ++ Z))).map aP)) := by
 refine lU aA (fn := Tryz.f317) 58 [] Tryz.func317 Tryz.results317 (fun g0 B0 Q ρ0 R => ?_)
 have hn2 := hn
 simp only [List.length_append] at hn2
 refine en aA 0 4 [] ?_
 refine sn aA 0 4 [] ?_
 refine sl 0 ?_
 rw [show m - a = (Lw.length : Int) by omega, show b - m = (Rw.length : Int) by omega]
 refine aD (σ := GQ Se) (fun s => s.ok Lw Rw) (fun s => s.L.length + s.R.length)
  (fun s => [(0, .o 1000 n), (2, nI m), (4, .f cf [] []), (10, nI s.L.length), (11, nI s.R.length)])
  (fun s => [(1000, .r 98 3 ((P ++ (s.A ++ (s.L ++ (s.R ++ (s.B ++ Z))))).map aP))]) ⟨[], Lw, Rw, []⟩ ?_ ?_
 ·exact ⟨by simp, by simp, hl, hr⟩
 ·rintro J s hs hJ
  have hlen := hs.len
  have hsm := hs.m
  have hsl := hs.l
  have hsr := hs.r
  refine en aA 0 3 [] ?_
  refine si 0 rfl rfl (fun h20 => ?_) (fun h20 => ?_)
  ·have hne : s.L.length ≠ s.R.length := by omega
   refine en aA 0 3 [] ?_
   refine si 0 rfl rfl (fun h23 => ?_) (fun h23 => ?_)
   ·have hgt : s.R.length < s.L.length := by omega
    obtain ⟨X, M, hX, hXl, hMl, hok⟩ := GQ.ge hs hgt
    have hLl : s.L.length = X.length + M.length := by rw [hX, List.length_append]
    refine c6 1000 (mb' := .r 98 3 (((P ++ s.A) ++ (X ++ (M ++ (s.R ++ (s.B ++ Z))))).map aP)) ?_ ?_
    ·rw [hX]; simp only [List.append_assoc]
    refine en aA 0 7 [] ?_
    refine fp aA 1000 0 [] (x8 (P := P ++ s.A) (X := X) (M := M) (Y := s.R) (Z := s.B ++ Z) (n := n) (a := m - s.L.length) (b := m) (k := s.R.length) (by simp only [List.length_append]; omega) (by simp only [List.length_append]; omega) (by simp only [List.length_append]; omega) (by omega) hXl (by omega)) ?_
    refine sn aA 0 4 [] ?_
    refine sl 0 ?_
    first
    | (rw [show (s.L.length : Int) - s.R.length = (M.length : Int) by omega, ← hXl]; refine c6 1000 (mb' := .r 98 3 ((P ++ ((s.A ++ s.R) ++ (M ++ (X ++ (s.B ++ Z))))).map aP)) ?_ ?_; rotate_left; exact hJ ⟨s.A ++ s.R, M, X, s.B⟩ hok (by show M.length + X.length < _; omega); simp only [List.append_assoc])
    | (rw [show (s.R.length : Int) - s.L.length = (M.length : Int) by omega, ← hYl]; refine c6 1000 (mb' := .r 98 3 ((P ++ (s.A ++ (Y ++ (M ++ ((s.L ++ s.B) ++ Z))))).map aP)) ?_ ?_; rotate_left; exact hJ ⟨s.A, Y, M, s.L ++ s.B⟩ hok (by show Y.length + M.length < _; omega); simp only [List.append_assoc])
   ·have hlt : s.L.length < s.R.length := by omega
    obtain ⟨M, Y, hY, hYl, hMl, hok⟩ := GQ.le hs hlt
    have hRl : s.R.length = M.length + Y.length := by rw [hY, List.length_append]
    refine c6 1000 (mb' := .r 98 3 (((P ++ s.A) ++ (s.L ++ (M ++ (Y ++ (s.B ++ Z))))).map aP)) ?_ ?_
    ·rw [hY]; simp only [List.append_assoc]
    refine en aA 0 11 [] ?_
    refine fp aA 1000 0 [] (x8 (P := P ++ s.A) (X := s.L) (M := M) (Y := Y) (Z := s.B ++ Z) (n := n) (a := m - s.L.length) (b := m + s.R.length - s.L.length) (k := s.L.length) (by simp only [List.length_append]; omega) (by simp only [List.length_append]; omega) (by simp only [List.length_append]; omega) rfl hYl.symm (by omega)) ?_
    refine sn aA 0 4 [] ?_
    refine sl 0 ?_
    first
    | (rw [show (s.L.length : Int) - s.R.length = (M.length : Int) by omega, ← hXl]; refine c6 1000 (mb' := .r 98 3 ((P ++ ((s.A ++ s.R) ++ (M ++ (X ++ (s.B ++ Z))))).map aP)) ?_ ?_; rotate_left; exact hJ ⟨s.A ++ s.R, M, X, s.B⟩ hok (by show M.length + X.length < _; omega); simp only [List.append_assoc])
    | (rw [show (s.R.length : Int) - s.L.length = (M.length : Int) by omega, ← hYl]; refine c6 1000 (mb' := .r 98 3 ((P ++ (s.A ++ (Y ++ (M ++ ((s.L ++ s.B) ++ Z))))).map aP)) ?_ ?_; rotate_left; exact hJ ⟨s.A, Y, M, s.L ++ s.B⟩ hok (by show Y.length + M.length < _; omega); simp only [List.append_assoc])
  ·have heq : s.L.length = s.R.length := by omega
   refine c6 1000 (mb' := .r 98 3 (((P ++ s.A) ++ (s.L ++ ([] ++ (s.R ++ (s.B ++ Z))))).map aP)) ?_ ?_
   ·simp only [List.append_assoc, List.nil_append]
   refine en aA 0 7 [] ?_
   refine fp aA 1000 0 [] (x8 (P := P ++ s.A) (X := s.L) (M := []) (Y := s.R) (Z := s.B ++ Z) (n := n) (a := m - s.L.length) (b := m) (k := s.L.length) (by simp only [List.length_append, List.length_nil]; omega) (by simp only [List.length_append]; omega) (by simp only [List.length_append, List.length_nil]; omega) rfl heq (by omega)) ?_
   refine PU 0 R ?_
   refine ⟨rfl, ?_⟩
   rw [show (P ++ s.A) ++ (s.R ++ ([] ++ (s.L ++ (s.B ++ Z)))) = P ++ ((s.A ++ (s.R ++ (s.L ++ s.B))) ++ Z) by simp only [List.append_assoc, List.nil_append], hs.e]
   simp only [List.append_assoc]
theorem K5 {P S Z : List Se} {n cf : Nat} {a b : Int} {c : Se → Se → Int} (hc : ∀ x y : Se, Fc Tryz.prog gT cf [.a (aP x), .a (aP y)] (nI (c x y))) (hn : n = (P ++ (S ++ Z)).length) (ha : a = P.length) (hb : b = ((P.length + S.length : Nat) : Int)) (hz : n ≤ 10000000000000) : Fp Tryz.prog gT 284 [.o 1000 n, nI a, nI b, .f cf [] []] (.r 98 3 ((P ++ (S ++ Z)).map aP)) (.t []) (.r 98 3 ((P ++ (bG (cH c) S ++ Z)).map aP)) := by
 refine lU aA (fn := Tryz.f284) 53 [] Tryz.func284 Tryz.results284 (fun g0 B0 Q ρ0 R => ?_)
 have hn2 := hn
 simp only [List.length_append] at hn2
 refine en aA 0 3 [] ?_
 refine sl 0 ?_
 rw [show a + 1 = ((P.length + 1 : Nat) : Int) by omega]
 refine c6 1000 (mb' := .r 98 3 ((P ++ (bG (cH c) (S.take 1) ++ (S.drop 1 ++ Z))).map aP)) ?_ ?_
 ·rw [show bG (cH c) (S.take 1) = S.take 1 by (cases S <;> rfl), ← List.append_assoc (S.take 1), List.take_append_drop]
 refine aD (σ := Nat) (fun k => 1 ≤ k ∧ k ≤ S.length + 1) (fun k => S.length + 1 - k)
  (fun k => [(0, .o 1000 n), (1, nI a), (2, nI b), (3, .f cf [] []), (8, nI ((P.length + k : Nat) : Int))])
  (fun k => [(1000, .r 98 3 ((P ++ (bG (cH c) (S.take k) ++ (S.drop k ++ Z))).map aP))]) 1 ?_ ?_
 ·exact ⟨Nat.le_refl _, by omega⟩
 ·rintro J k ⟨hk1, hk2⟩ hJ
  refine en aA 0 3 [] ?_
  refine si 0 rfl rfl (fun h14 => ?_) (fun h14 => ?_)
  ·have hkS : k < S.length := by omega
   obtain ⟨x, hx⟩ : ∃ q, q = S[k] := ⟨_, rfl⟩
   have hlen : (bG (cH c) (S.take k)).length = k := by rw [eE, List.length_take]; omega
   have hnx := wZ (lt := (cH c)) hkS
   rw [← hx] at hnx
   refine en aA 0 2 [] ?_
   refine sl 0 ?_
   rw [show ((9 : Nat), nI ((P.length + k : Nat) : Int)) = (9, nI ((P.length + (bG (cH c) (S.take k)).length : Nat) : Int)) by rw [hlen]]
   refine c6 1000 (mb' := .r 98 3 ((P ++ (bG (cH c) (S.take k) ++ (x :: ([] ++ (S.drop (k + 1) ++ Z))))).map aP)) ?_ ?_
   ·rw [List.drop_eq_getElem_cons hkS, ← hx]; rfl
   refine aD (σ := List Se × List Se) (fun s => (lE (cH c) x s.1.reverse).reverse ++ s.2 = bG (cH c) (S.take (k + 1)) ∧ s.1.length + s.2.length = k) (fun s => s.1.length)
    (fun s => [(0, .o 1000 n), (1, nI a), (2, nI b), (3, .f cf [] []), (8, nI ((P.length + k : Nat) : Int)), (9, nI ((P.length + s.1.length : Nat) : Int))])
    (fun s => [(1000, .r 98 3 ((P ++ (s.1 ++ (x :: (s.2 ++ (S.drop (k + 1) ++ Z))))).map aP))]) (bG (cH c) (S.take k), []) ?_ ?_
   ·exact ⟨by rw [List.append_nil]; exact hnx.symm, by show (bG (cH c) (S.take k)).length + 0 = k; omega⟩
   ·rintro J s ⟨hT, hAl⟩ hJ2
    by_cases hA : s.1 = []
    ·refine jH 0 0 [0, 0, 3, 7, 15, 15, 15, 111, 239, 15, 15, 1039, 3599, 7695, 16383, 32767, 65535] [0, 1, 2, 3, 4, 5, 6, 7, 8, 9, 10, 11, 12, 13, 14, 15, 16] ?_
     refine xd aA 4 [] ?_
     have hA0 : s.1.length = 0 := by rw [hA]; rfl
     rw [decide_eq_false (show ¬ (a < ((P.length + s.1.length : Nat) : Int)) by omega)]
     iterate 12 refine aAM aA (.v (.bool false)) 0 [] ?_
     refine xd aA 1 [] ?_
     refine xe ?_
     refine uC 1000 (mb' := .r 98 3 ((P ++ (bG (cH c) (S.take (k + 1)) ++ (S.drop (k + 1) ++ Z))).map aP)) ?_ ?_
     ·rw [hA] at hT ⊢; rw [← J8 hT]; simp only [List.cons_append, List.nil_append]
     refine sn aA 1 3 [] ?_
     refine sl 0 ?_
     rw [show ((P.length + k : Nat) : Int) + 1 = ((P.length + (k + 1) : Nat) : Int) by omega]
     exact hJ (k + 1) ⟨by omega, by omega⟩ (by omega)
    ·obtain ⟨A, y, hAy⟩ := BP hA
     have hAl2 : s.1.length = A.length + 1 := by rw [hAy]; simp
     obtain ⟨jn, hjn⟩ : ∃ q, q = P.length + s.1.length := ⟨_, rfl⟩
     rw [← hjn]
     obtain ⟨U, hU⟩ : ∃ q, q = P ++ A := ⟨_, rfl⟩
     obtain ⟨V, hV⟩ : ∃ q, q = s.2 ++ (S.drop (k + 1) ++ Z) := ⟨_, rfl⟩
     refine c6 1000 (mb' := .r 98 3 ((U ++ y :: x :: V).map aP)) ?_ ?_
     ·rw [hAy, hU, hV]; simp only [List.append_assoc, List.cons_append, List.nil_append]
     have hUl : U.length = P.length + A.length := by rw [hU, List.length_append]
     have hVl : V.length = s.2.length + (S.length - (k + 1) + Z.length) := by rw [hV]; simp only [List.length_append, List.length_drop]
     have hRl : ((U ++ y :: x :: V).map aP).length = n := by
      rw [List.length_map, List.length_append, List.length_cons, List.length_cons]
      omega
     rw [hAy] at hT
     refine jH 0 0 [0, 0, 3, 7, 15, 15, 15, 111, 239, 15, 15, 1039, 3599, 7695, 16383, 32767, 65535] [0, 1, 2, 3, 4, 5, 6, 7, 8, 9, 10, 11, 12, 13, 14, 15, 16] ?_
     refine xd aA 4 [] ?_
     rw [decide_eq_true (show a < (jn : Int) by omega)]
     refine Y8 aA 3 [] ?_
     refine UY aA jn 0 [] (n := n) (z := (jn : Int)) (rows := ((U ++ y :: x :: V).map aP)) rfl (by omega) (by omega) ?_
     refine UZ aA jn 0 0 [] (row := aP x) (iM (U := U) (V := V) (x := y) (y := x) (by omega)) ?_
     refine Y8 aA 3 [] ?_ (hφ := by unfold aE; omega)
     refine UY aA U.length 0 [] (n := n) (z := (jn : Int) - 1) (rows := ((U ++ y :: x :: V).map aP)) (by omega) (by omega) (by omega) ?_
     refine UZ aA U.length 0 0 [] (row := aP y) (fJ rfl) ?_
     refine dgc aA (hc x y) ?_
     refine Y8 aA 1 [] ?_
     refine xd aA 1 [] ?_
     refine xe ?_
     refine bM 0 rfl rfl (fun h34 => ?_) (fun h34 => ?_)
     ·refine jH 0 163840 [0, 0, 0, 0, 8, 0, 0, 64, 224, 480, 0, 0, 3072, 7168, 16355, 32739, 65535, 131071] [0, 1, 2, 3, 4, 5, 6, 7, 8, 9, 10, 11, 12, 13, 14, 15, 16, 17] ?_
      refine xd aA 8 [] ?_
      refine mB aA U.length 0 [] (n := n) (z := (jn : Int) - 1) (rows := ((U ++ y :: x :: V).map aP)) (by omega) (by omega) (by omega) ?_
      refine r6 aA U.length 0 2 [] (row := aP y) (fJ rfl) ?_
      refine mB aA jn 0 [] (n := n) (z := (jn : Int)) (rows := ((U ++ y :: x :: V).map aP)) rfl (by omega) (by omega) ?_
      refine r6 aA jn 0 0 [] (row := aP x) (iM (U := U) (V := V) (x := y) (y := x) (by omega)) ?_
      refine mB aA jn 0 [] (n := n) (z := (jn : Int)) (rows := ((U ++ y :: x :: V).map aP)) rfl (by omega) (by omega) ?_
      refine GP aA jn 0 0 [] (row := aP x) (iM (U := U) (V := V) (x := y) (y := x) (by omega)) ?_
      refine FG aA U.length 0 [] (n := n) (z := (jn : Int) - 1) (rows := ((U ++ y :: x :: V).map aP).set jn (aP y)) (by omega) (by rw [List.length_set]; omega) (by rw [List.length_set]; omega) ?_
      refine GP aA U.length 0 0 [] (row := aP y) (uY (U := U) (V := V) (x := y) (y := x) (i := U.length) (j := jn) rfl (by omega)) ?_
      refine xe ?_
      refine sn aA 0 3 [] ?_
      refine sl 0 ?_
      rw [show (jn : Int) - 1 = ((P.length + A.length : Nat) : Int) by omega]
      refine c6 1000 (mb' := .r 98 3 ((P ++ (A ++ (x :: ((y :: s.2) ++ (S.drop (k + 1) ++ Z))))).map aP)) ?_ ?_
      ·rw [show P ++ (A ++ (x :: ((y :: s.2) ++ (S.drop (k + 1) ++ Z)))) = U ++ x :: y :: V by (rw [hU, hV]; simp only [List.append_assoc, List.cons_append]), ← oW (f := aP) (U := U) (V := V) (x := y) (y := x) (i := U.length) (j := jn) rfl (by omega)]; rfl
      exact hJ2 (A, y :: s.2) ⟨QJ hT h34, by show A.length + (s.2.length + 1) = k; omega⟩ (by show A.length < s.1.length; omega)
     ·refine c6 1000 (mb' := .r 98 3 ((P ++ (bG (cH c) (S.take (k + 1)) ++ (S.drop (k + 1) ++ Z))).map aP)) ?_ ?_
      ·rw [← FC hT h34, hU, hV]; simp only [List.append_assoc, List.cons_append]
      refine en aA 0 3 [] ?_
      refine sl 0 ?_
      rw [show ((P.length + k : Nat) : Int) + 1 = ((P.length + (k + 1) : Nat) : Int) by omega]
      exact hJ (k + 1) ⟨by omega, by omega⟩ (by omega)
  ·have hk : S.length ≤ k := by omega
   rw [List.take_of_length_le hk, List.drop_of_length_le hk, List.nil_append]
   refine HM 0 R ?_
   exact ⟨rfl, rfl⟩
set_option maxHeartbeats 4000000 in
theorem WJ {P Lw Rw Z : List Se} {n cf f : Nat} {a m b : Int} {c : Se → Se → Int} (hc : ∀ x y : Se, Fc Tryz.prog gT cf [.a (aP x), .a (aP y)] (nI (c x y))) (ih : ∀ {P Lw Rw Z : List Se} {n : Nat} {a m b : Int}, n = (P ++ (Lw ++ (Rw ++ Z))).length → a = P.length → m = ((P.length + Lw.length : Nat) : Int) → b = ((P.length + Lw.length + Rw.length : Nat) : Int) → 0 < Lw.length → 0 < Rw.length → Lw.length + Rw.length ≤ f → n ≤ 10000000000000 → Fp Tryz.prog gT 285 [.o 1000 n, nI a, nI m, nI b, .f cf [] []] (.r 98 3 ((P ++ (Lw ++ (Rw ++ Z))).map aP)) (.t []) (.r 98 3 ((P ++ (m6 (cH c) f Lw Rw ++ Z)).map aP))) (hn : n = (P ++ (Lw ++ (Rw ++ Z))).length) (ha : a = P.length) (hm : m = ((P.length + Lw.length : Nat) : Int)) (hb : b = ((P.length + Lw.length + Rw.length : Nat) : Int)) (hl : 0 < Lw.length) (hr : 0 < Rw.length) (hf : Lw.length + Rw.length ≤ f + 1) (hz : n ≤ 10000000000000) : Fp Tryz.prog gT 285 [.o 1000 n, nI a, nI m, nI b, .f cf [] []] (.r 98 3 ((P ++ (Lw ++ (Rw ++ Z))).map aP)) (.t []) (.r 98 3 ((P ++ (m6 (cH c) (f + 1) Lw Rw ++ Z)).map aP)) := by
 refine lU aA (fn := Tryz.f285) 220 [] Tryz.func285 Tryz.results285 (fun g0 B0 Q ρ0 R => ?_)
 have hn2 := hn
 simp only [List.length_append] at hn2
 refine en aA 0 4 [] ?_
 refine si 0 rfl rfl (fun h28 => ?_) (fun h28 => ?_)
 ·have hL1 : Lw.length = 1 := by omega
  obtain ⟨x, hLx⟩ := List.length_eq_one_iff.1 hL1
  have hx0 : Lw[0]? = some x := by rw [hLx]; rfl
  obtain ⟨K, hK⟩ : ∃ q, q = gA (fun h => uD (cH c) Rw h x) (Rw.length + 1) 0 Rw.length := ⟨_, rfl⟩
  refine en aA 0 2 [] ?_
  refine sn aA 0 2 [] ?_
  refine sl 0 ?_
  refine aD (σ := Nat × Nat) (fun s => uG (fun h => uD (cH c) Rw h x) K s.1 s.2 ∧ s.2 ≤ Rw.length) (fun s => s.2 - s.1)
   (fun s => [(0, .o 1000 n), (1, nI a), (4, .f cf [] []), (10, nI ((P.length + 1 + s.1 : Nat) : Int)), (11, nI ((P.length + 1 + s.2 : Nat) : Int))])
   (fun s => [(1000, .r 98 3 ((P ++ (Lw ++ (Rw ++ Z))).map aP))]) (0, Rw.length) ?_ ?_
  ·exact ⟨by rw [hK]; exact uG.mk' _ _ (Nat.zero_le _) (by show Rw.length - 0 < _; omega), Nat.le_refl _⟩
  ·rintro J s ⟨hI, hsR⟩ hJ
   refine en aA 0 3 [] ?_
   refine si 0 rfl rfl (fun h33 => ?_) (fun h33 => ?_)
   ·have hij : s.1 < s.2 := by omega
    obtain ⟨y, hy⟩ := jN (show (s.1 + s.2) / 2 < Rw.length by omega)
    have hRl : ((P ++ (Lw ++ (Rw ++ Z))).map aP).length = n := by rw [List.length_map, hn]
    refine en aA 0 4 [] ?_
    rw [wrap_u64]
    rotate_left
    ·omega
    ·omega
    refine go aA 2 [] ?_
    rw [kZ (P.length + 1)]
    refine go aA 1 [] ?_
    refine DZ 0 0 [0, 0, 0, 6, 14, 0, 0, 96, 224, 511, 1023] [0, 1, 2, 3, 4, 5, 6, 7, 8, 9, 10] ?_
    refine xd aA 3 [] ?_
    refine mB aA (P.length + 1 + (s.1 + s.2) / 2) 0 [] (n := n) (z := ((P.length + 1 + (s.1 + s.2) / 2 : Nat) : Int)) (rows := ((P ++ (Lw ++ (Rw ++ Z))).map aP)) (by omega) (by omega) (by omega) ?_
    refine r6 aA (P.length + 1 + (s.1 + s.2) / 2) 0 2 [] (row := aP y) (oY (P := P) (L := Lw) (W := Z) (i := (s.1 + s.2) / 2) hy (by omega)) ?_
    refine mB aA (P.length) 0 [] (n := n) (z := a) (rows := ((P ++ (Lw ++ (Rw ++ Z))).map aP)) (by omega) (by omega) (by omega) ?_
    refine r6 aA (P.length) 0 0 [] (row := aP x) (mK (P := P) (L := Lw) (W := Rw ++ Z) (i := 0) hx0 (by omega)) ?_
    refine dc aA 1 [] (hc y x) ?_
    refine xe ?_
    refine bM 0 rfl rfl (fun h50 => ?_) (fun h50 => ?_)
    ·refine en aA 0 3 [] ?_
     refine sl 0 ?_
     first
     | exact hJ ((s.1 + s.2) / 2 + 1, s.2) ⟨hI.t hij ((kW hy).trans h50), hsR⟩ (by show s.2 - ((s.1 + s.2) / 2 + 1) < s.2 - s.1; omega)
     | exact hJ (s.1, (s.1 + s.2) / 2) ⟨hI.f hij ((kW hy).trans h50), by show (s.1 + s.2) / 2 ≤ _; omega⟩ (by show (s.1 + s.2) / 2 - s.1 < s.2 - s.1; omega)
    ·refine en aA 0 2 [] ?_
     refine sl 0 ?_
     first
     | exact hJ ((s.1 + s.2) / 2 + 1, s.2) ⟨hI.t hij ((kW hy).trans h50), hsR⟩ (by show s.2 - ((s.1 + s.2) / 2 + 1) < s.2 - s.1; omega)
     | exact hJ (s.1, (s.1 + s.2) / 2) ⟨hI.f hij ((kW hy).trans h50), by show (s.1 + s.2) / 2 ≤ _; omega⟩ (by show (s.1 + s.2) / 2 - s.1 < s.2 - s.1; omega)
   ·have hK1 := hI.e (show ¬ s.1 < s.2 by omega)
    have hKR := hI.b
    refine en aA 0 2 [] ?_
    refine sl 0 ?_
    refine c6 1000 (mb' := .r 98 3 ((P ++ (Rw.take 0 ++ (x :: (Rw.drop 0 ++ Z)))).map aP)) ?_ ?_
    ·rw [hLx]; rfl
    refine aD (σ := Nat) (fun t => t ≤ K) (fun t => K - t)
     (fun t => [(0, .o 1000 n), (10, nI ((P.length + 1 + K : Nat) : Int)), (13, nI ((P.length + t : Nat) : Int))])
     (fun t => [(1000, .r 98 3 ((P ++ (Rw.take t ++ (x :: (Rw.drop t ++ Z)))).map aP))]) 0 ?_ ?_
    ·exact Nat.zero_le _
    ·rintro J t htK hJ2
     refine en aA 0 4 [] ?_
     refine si 0 rfl rfl (fun h58 => ?_) (fun h58 => ?_)
     ·have ht : t < K := by omega
      obtain ⟨y, hy⟩ := jN (show t < Rw.length by omega)
      obtain ⟨U, hU⟩ : ∃ q, q = P ++ Rw.take t := ⟨_, rfl⟩
      obtain ⟨V, hV⟩ : ∃ q, q = Rw.drop (t + 1) ++ Z := ⟨_, rfl⟩
      refine c6 1000 (mb' := .r 98 3 ((U ++ x :: y :: V).map aP)) ?_ ?_
      ·rw [hU, hV, drop_at hy]; simp only [List.append_assoc, List.cons_append]
      have hUl : U.length = P.length + t := by rw [hU, List.length_append, List.length_take]; omega
      have hVl : V.length = Rw.length - (t + 1) + Z.length := by rw [hV, List.length_append, List.length_drop]
      have hRl : ((U ++ x :: y :: V).map aP).length = n := by
       rw [List.length_map, List.length_append, List.length_cons, List.length_cons]
       omega
      refine jH 0 163840 [0, 0, 0, 0, 8, 0, 0, 64, 224, 480, 0, 0, 3072, 7168, 16355, 32739, 65535, 131071] [0, 1, 2, 3, 4, 5, 6, 7, 8, 9, 10, 11, 12, 13, 14, 15, 16, 17] ?_
      refine xd aA 8 [] ?_ (hφ := by simp only [aE]; omega)
      refine mB aA (P.length + t + 1) 0 [] (n := n) (z := ((P.length + t : Nat) : Int) + 1) (rows := ((U ++ x :: y :: V).map aP)) (by omega) (by omega) (by omega) ?_
      refine r6 aA (P.length + t + 1) 0 2 [] (row := aP y) (iM (U := U) (V := V) (x := x) (y := y) (by omega)) ?_
      refine mB aA (U.length) 0 [] (n := n) (z := ((P.length + t : Nat) : Int)) (rows := ((U ++ x :: y :: V).map aP)) (by omega) (by omega) (by omega) ?_
      refine r6 aA (U.length) 0 0 [] (row := aP x) (fJ (U := U) (V := y :: V) (x := x) rfl) ?_
      refine mB aA (U.length) 0 [] (n := n) (z := ((P.length + t : Nat) : Int)) (rows := ((U ++ x :: y :: V).map aP)) (by omega) (by omega) (by omega) ?_
      refine GP aA (U.length) 0 0 [] (row := aP x) (fJ (U := U) (V := y :: V) (x := x) rfl) ?_
      refine FG aA (P.length + t + 1) 0 [] (n := n) (z := ((P.length + t : Nat) : Int) + 1) (rows := ((U ++ x :: y :: V).map aP).set U.length (aP y)) (by omega) (by rw [List.length_set]; omega) (by rw [List.length_set]; omega) ?_
      refine GP aA (P.length + t + 1) 0 0 [] (row := aP y) (J7 (U := U) (V := V) (x := x) (y := y) (i := U.length) (j := P.length + t + 1) rfl (by omega)) ?_
      refine xe ?_
      refine sn aA 0 3 [] ?_
      refine sl 0 ?_
      refine c6 1000 (mb' := .r 98 3 ((P ++ (Rw.take (t + 1) ++ (x :: (Rw.drop (t + 1) ++ Z)))).map aP)) ?_ ?_
      ·rw [show (P ++ (Rw.take (t + 1) ++ (x :: (Rw.drop (t + 1) ++ Z)))) = U ++ y :: x :: V by (rw [hU, hV, take_at hy]; simp only [List.append_assoc, List.cons_append, List.nil_append]), ← zN (f := aP) (U := U) (V := V) (x := x) (y := y) (i := U.length) (j := P.length + t + 1) rfl (by omega)]; rfl
      exact hJ2 (t + 1) (by omega) (by omega)
     ·have htK2 : t = K := by omega
      refine Z8 0 R ?_
      refine ⟨rfl, ?_⟩
      rw [htK2, hLx, BR hr hK]
      simp only [List.append_assoc, List.cons_append]
 ·have hl2 : 2 ≤ Lw.length := by omega
  refine en aA 0 4 [] ?_
  refine si 0 rfl rfl (fun h80 => ?_) (fun h80 => ?_)
  ·have hR1 : Rw.length = 1 := by omega
   obtain ⟨y, hRy⟩ := List.length_eq_one_iff.1 hR1
   have hy0 : Rw[0]? = some y := by rw [hRy]; rfl
   obtain ⟨K, hK⟩ : ∃ q, q = gA (uE (cH c) y Lw) (Lw.length + 1) 0 Lw.length := ⟨_, rfl⟩
   refine en aA 0 2 [] ?_
   refine sn aA 0 2 [] ?_
   refine sl 0 ?_
   refine aD (σ := Nat × Nat) (fun s => uG (uE (cH c) y Lw) K s.1 s.2 ∧ s.2 ≤ Lw.length) (fun s => s.2 - s.1)
    (fun s => [(0, .o 1000 n), (2, nI m), (4, .f cf [] []), (14, nI ((P.length + s.1 : Nat) : Int)), (15, nI ((P.length + s.2 : Nat) : Int))])
    (fun s => [(1000, .r 98 3 ((P ++ (Lw ++ (Rw ++ Z))).map aP))]) (0, Lw.length) ?_ ?_
   ·exact ⟨by rw [hK]; exact uG.mk' _ _ (Nat.zero_le _) (by show Lw.length - 0 < _; omega), Nat.le_refl _⟩
   ·rintro J s ⟨hI, hsR⟩ hJ
    refine en aA 0 3 [] ?_
    refine si 0 rfl rfl (fun h85 => ?_) (fun h85 => ?_)
    ·have hij : s.1 < s.2 := by omega
     obtain ⟨x, hx⟩ := jN (show (s.1 + s.2) / 2 < Lw.length by omega)
     have hRl : ((P ++ (Lw ++ (Rw ++ Z))).map aP).length = n := by rw [List.length_map, hn]
     refine en aA 0 4 [] ?_
     rw [wrap_u64]
     rotate_left
     ·omega
     ·omega
     refine go aA 2 [] ?_
     rw [kZ P.length]
     refine go aA 1 [] ?_
     refine DZ 0 0 [0, 0, 0, 6, 14, 0, 0, 96, 224, 511, 1023, 2047] [0, 1, 2, 3, 4, 5, 6, 7, 8, 9, 10, 11] ?_
     refine xd aA 3 [] ?_
     refine mB aA (P.length + Lw.length) 0 [] (n := n) (z := m) (rows := ((P ++ (Lw ++ (Rw ++ Z))).map aP)) (by omega) (by omega) (by omega) ?_
     refine r6 aA (P.length + Lw.length) 0 2 [] (row := aP y) (oY (P := P) (L := Lw) (W := Z) (i := 0) hy0 (by omega)) ?_
     refine mB aA (P.length + (s.1 + s.2) / 2) 0 [] (n := n) (z := ((P.length + (s.1 + s.2) / 2 : Nat) : Int)) (rows := ((P ++ (Lw ++ (Rw ++ Z))).map aP)) (by omega) (by omega) (by omega) ?_
     refine r6 aA (P.length + (s.1 + s.2) / 2) 0 0 [] (row := aP x) (mK (P := P) (L := Lw) (W := Rw ++ Z) (i := (s.1 + s.2) / 2) hx (by omega)) ?_
     refine dc aA 2 [] (hc y x) ?_
     refine xe ?_
     refine bM 0 rfl rfl (fun h103 => ?_) (fun h103 => ?_)
     ·refine en aA 0 3 [] ?_
      refine sl 0 ?_
      first
      | exact hJ ((s.1 + s.2) / 2 + 1, s.2) ⟨hI.t hij ((kX hx).trans h103), hsR⟩ (by show s.2 - ((s.1 + s.2) / 2 + 1) < s.2 - s.1; omega)
      | exact hJ (s.1, (s.1 + s.2) / 2) ⟨hI.f hij ((kX hx).trans h103), by show (s.1 + s.2) / 2 ≤ _; omega⟩ (by show (s.1 + s.2) / 2 - s.1 < s.2 - s.1; omega)
     ·refine en aA 0 2 [] ?_
      refine sl 0 ?_
      first
      | exact hJ ((s.1 + s.2) / 2 + 1, s.2) ⟨hI.t hij ((kX hx).trans h103), hsR⟩ (by show s.2 - ((s.1 + s.2) / 2 + 1) < s.2 - s.1; omega)
      | exact hJ (s.1, (s.1 + s.2) / 2) ⟨hI.f hij ((kX hx).trans h103), by show (s.1 + s.2) / 2 ≤ _; omega⟩ (by show (s.1 + s.2) / 2 - s.1 < s.2 - s.1; omega)
    ·have hK1 := hI.e (show ¬ s.1 < s.2 by omega)
     have hKR := hI.b
     refine en aA 0 2 [] ?_
     refine sl 0 ?_
     refine c6 1000 (mb' := .r 98 3 ((P ++ (Lw.take Lw.length ++ (y :: (Lw.drop Lw.length ++ Z)))).map aP)) ?_ ?_
     ·rw [hRy, List.take_of_length_le (Nat.le_refl _), List.drop_of_length_le (Nat.le_refl _)]; rfl
     refine aD (σ := Nat) (fun t => K ≤ t ∧ t ≤ Lw.length) (fun t => t)
      (fun t => [(0, .o 1000 n), (14, nI ((P.length + K : Nat) : Int)), (17, nI ((P.length + t : Nat) : Int))])
      (fun t => [(1000, .r 98 3 ((P ++ (Lw.take t ++ (y :: (Lw.drop t ++ Z)))).map aP))]) Lw.length ?_ ?_
     ·exact ⟨by omega, Nat.le_refl _⟩
     ·rintro J t ⟨htK, htl⟩ hJ2
      refine en aA 0 3 [] ?_
      refine si 0 rfl rfl (fun h110 => ?_) (fun h110 => ?_)
      ·have ht : K < t := by omega
       obtain ⟨u, hu⟩ : ∃ u, t = u + 1 := ⟨t - 1, by omega⟩
       subst hu
       obtain ⟨x, hx⟩ := jN (show u < Lw.length by omega)
       obtain ⟨U, hU⟩ : ∃ q, q = P ++ Lw.take u := ⟨_, rfl⟩
       obtain ⟨V, hV⟩ : ∃ q, q = Lw.drop (u + 1) ++ Z := ⟨_, rfl⟩
       refine c6 1000 (mb' := .r 98 3 ((U ++ x :: y :: V).map aP)) ?_ ?_
       ·rw [hU, hV, take_at hx]; simp only [List.append_assoc, List.cons_append, List.nil_append]
       have hUl : U.length = P.length + u := by rw [hU, List.length_append, List.length_take]; omega
       have hVl : V.length = Lw.length - (u + 1) + Z.length := by rw [hV, List.length_append, List.length_drop]
       have hRl : ((U ++ x :: y :: V).map aP).length = n := by
        rw [List.length_map, List.length_append, List.length_cons, List.length_cons]
        omega
       refine jH 0 163840 [0, 0, 0, 0, 8, 0, 0, 64, 224, 480, 0, 0, 3072, 7168, 16355, 32739, 65535, 131071] [0, 1, 2, 3, 4, 5, 6, 7, 8, 9, 10, 11, 12, 13, 14, 15, 16, 17] ?_
       refine xd aA 8 [] ?_
       refine mB aA (U.length) 0 [] (n := n) (z := ((P.length + (u + 1) : Nat) : Int) - 1) (rows := ((U ++ x :: y :: V).map aP)) (by omega) (by omega) (by omega) ?_
       refine r6 aA (U.length) 0 2 [] (row := aP x) (fJ (U := U) (V := y :: V) (x := x) rfl) ?_
       refine mB aA (P.length + (u + 1)) 0 [] (n := n) (z := ((P.length + (u + 1) : Nat) : Int)) (rows := ((U ++ x :: y :: V).map aP)) (by omega) (by omega) (by omega) ?_
       refine r6 aA (P.length + (u + 1)) 0 0 [] (row := aP y) (iM (U := U) (V := V) (x := x) (y := y) (by omega)) ?_
       refine mB aA (P.length + (u + 1)) 0 [] (n := n) (z := ((P.length + (u + 1) : Nat) : Int)) (rows := ((U ++ x :: y :: V).map aP)) (by omega) (by omega) (by omega) ?_
       refine GP aA (P.length + (u + 1)) 0 0 [] (row := aP y) (iM (U := U) (V := V) (x := x) (y := y) (by omega)) ?_
       refine FG aA (U.length) 0 [] (n := n) (z := ((P.length + (u + 1) : Nat) : Int) - 1) (rows := ((U ++ x :: y :: V).map aP).set (P.length + (u + 1)) (aP x)) (by omega) (by rw [List.length_set]; omega) (by rw [List.length_set]; omega) ?_
       refine GP aA (U.length) 0 0 [] (row := aP x) (uY (U := U) (V := V) (x := x) (y := y) (i := U.length) (j := P.length + (u + 1)) rfl (by omega)) ?_
       refine xe ?_
       refine sn aA 0 3 [] ?_
       refine sl 0 ?_
       refine c6 1000 (mb' := .r 98 3 ((P ++ (Lw.take u ++ (y :: (Lw.drop u ++ Z)))).map aP)) ?_ ?_
       ·rw [show (P ++ (Lw.take u ++ (y :: (Lw.drop u ++ Z)))) = U ++ y :: x :: V by (rw [hU, hV, drop_at hx]; simp only [List.append_assoc, List.cons_append, List.nil_append]), ← oW (f := aP) (U := U) (V := V) (x := x) (y := y) (i := U.length) (j := P.length + (u + 1)) rfl (by omega)]; rfl
       exact hJ2 u ⟨by omega, by omega⟩ (by omega)
      ·have htK2 : t = K := by omega
       refine Z8 0 R ?_
       refine ⟨rfl, ?_⟩
       rw [htK2, hRy, BS hl2 hK]
       simp only [List.append_assoc, List.cons_append]
  ·have hr2 : 2 ≤ Rw.length := by omega
   obtain ⟨h2, hh2⟩ : ∃ q, q = (Lw.length + Rw.length) / 2 := ⟨_, rfl⟩
   refine en aA 0 4 [] ?_
   rw [wrap_u64]
   rotate_left
   ·omega
   ·omega
   refine go aA 2 [] ?_
   rw [show a + b = ((P.length + 0 : Nat) : Int) + ((P.length + (Lw.length + Rw.length) : Nat) : Int) by omega, kZ P.length, show (0 + (Lw.length + Rw.length)) / 2 = h2 by omega]
   refine go aA 1 [] ?_
   refine sn aA 0 4 [] ?_
   refine sn aA 0 2 [] ?_
   refine sn aA 0 3 [] ?_
   refine sl 0 ?_
   refine pY (σ := Nat × Nat) (fun s => (h2 < Lw.length ∧ s.1 = h2 + Lw.length - (Lw.length + Rw.length) ∧ s.2 = h2) ∨ (¬ h2 < Lw.length ∧ s.1 = 0 ∧ s.2 = Lw.length)) (fun s => [(0, .o 1000 n), (1, nI a), (2, nI m), (3, nI b), (4, .f cf [] []), (18, nI ((P.length + h2 : Nat) : Int)), (19, nI ((P.length + h2 + (P.length + Lw.length) : Nat) : Int)), (20, nI ((P.length + s.1 : Nat) : Int)), (21, nI ((P.length + s.2 : Nat) : Int))])
    (fun s => [(1000, .r 98 3 ((P ++ (Lw ++ (Rw ++ Z))).map aP))]) (fun J hJ => ?_) (fun s hs => ?_)
   ·refine ei 0 rfl rfl (fun h140 => ?_) (fun h140 => ?_)
    ·refine en aA 0 4 [] ?_
     refine sn aA 0 2 [] ?_
     refine sl 0 ?_
     first
     | exact hJ (h2 + Lw.length - (Lw.length + Rw.length), h2) (.inl ⟨by omega, rfl, rfl⟩)
     | exact hJ (0, Lw.length) (.inr ⟨by omega, rfl, rfl⟩)
    ·refine en aA 0 2 [] ?_
     refine sn aA 0 2 [] ?_
     refine sl 0 ?_
     first
     | exact hJ (h2 + Lw.length - (Lw.length + Rw.length), h2) (.inl ⟨by omega, rfl, rfl⟩)
     | exact hJ (0, Lw.length) (.inr ⟨by omega, rfl, rfl⟩)
   ·have hI0 := W8 (lt := (cH c)) hl hr s.1 s.2 (by rw [← hh2]; exact hs)
    have hSb := W7 (lt := (cH c)) hl hr
    rw [← hh2] at hI0 hSb
    obtain ⟨K, hK⟩ : ∃ q, q = E4 (cH c) Lw Rw := ⟨_, rfl⟩
    rw [← hK] at hI0 hSb
    obtain ⟨hS1, hS2, hS3⟩ := hSb
    refine en aA 0 3 [] ?_
    refine sl 0 ?_
    refine aD (σ := Nat × Nat) (fun u => uG (uF (cH c) Lw Rw h2) K u.1 u.2 ∧ s.1 ≤ u.1 ∧ u.2 ≤ s.2) (fun u => u.2 - u.1)
     (fun u => [(0, .o 1000 n), (1, nI a), (2, nI m), (3, nI b), (4, .f cf [] []), (18, nI ((P.length + h2 : Nat) : Int)), (19, nI ((P.length + h2 + (P.length + Lw.length) : Nat) : Int)), (20, nI ((P.length + u.1 : Nat) : Int)), (21, nI ((P.length + u.2 : Nat) : Int)), (22, nI (((P.length + h2 + (P.length + Lw.length) : Nat) : Int) - 1))])
     (fun u => [(1000, .r 98 3 ((P ++ (Lw ++ (Rw ++ Z))).map aP))]) s ?_ ?_
    ·exact ⟨hI0, Nat.le_refl _, Nat.le_refl _⟩
    ·rintro J u ⟨hI, hu1, hu2⟩ hJ2
     refine en aA 0 3 [] ?_
     refine si 0 rfl rfl (fun h151 => ?_) (fun h151 => ?_)
     ·have hij : u.1 < u.2 := by omega
      obtain ⟨x, hx⟩ := jN (show (u.1 + u.2) / 2 < Lw.length by omega)
      obtain ⟨y, hy⟩ := jN (show h2 - 1 - (u.1 + u.2) / 2 < Rw.length by omega)
      have hRl : ((P ++ (Lw ++ (Rw ++ Z))).map aP).length = n := by rw [List.length_map, hn]
      refine en aA 0 4 [] ?_
      rw [wrap_u64]
      rotate_left
      ·omega
      ·omega
      refine go aA 2 [] ?_
      rw [kZ P.length]
      refine go aA 1 [] ?_
      refine DZ 0 0 [0, 0, 0, 0, 12, 30, 62, 0, 0, 384, 896, 2047, 4095, 8191] [0, 1, 2, 3, 4, 5, 6, 7, 8, 9, 10, 11, 12, 13] ?_
      refine xd aA 5 [] ?_
      refine mB aA (P.length + Lw.length + (h2 - 1 - (u.1 + u.2) / 2)) 0 [] (n := n) (z := ((P.length + h2 + (P.length + Lw.length) : Nat) : Int) - 1 - ((P.length + (u.1 + u.2) / 2 : Nat) : Int)) (rows := ((P ++ (Lw ++ (Rw ++ Z))).map aP)) (by omega) (by omega) (by omega) ?_
      refine r6 aA (P.length + Lw.length + (h2 - 1 - (u.1 + u.2) / 2)) 0 2 [] (row := aP y) (oY (P := P) (L := Lw) (W := Z) (i := h2 - 1 - (u.1 + u.2) / 2) hy (by omega)) ?_
      refine mB aA (P.length + (u.1 + u.2) / 2) 0 [] (n := n) (z := ((P.length + (u.1 + u.2) / 2 : Nat) : Int)) (rows := ((P ++ (Lw ++ (Rw ++ Z))).map aP)) (by omega) (by omega) (by omega) ?_
      refine r6 aA (P.length + (u.1 + u.2) / 2) 0 0 [] (row := aP x) (mK (P := P) (L := Lw) (W := Rw ++ Z) (i := (u.1 + u.2) / 2) hx (by omega)) ?_
      refine dc aA 2 [] (hc y x) ?_
      refine xe ?_
      refine bM 0 rfl rfl (fun h171 => ?_) (fun h171 => ?_)
      ·refine en aA 0 3 [] ?_
       refine sl 0 ?_
       first
       | exact hJ2 ((u.1 + u.2) / 2 + 1, u.2) ⟨hI.t hij ((kY hy hx).trans h171), by show s.1 ≤ (u.1 + u.2) / 2 + 1; omega, hu2⟩ (by show u.2 - ((u.1 + u.2) / 2 + 1) < u.2 - u.1; omega)
       | exact hJ2 (u.1, (u.1 + u.2) / 2) ⟨hI.f hij ((kY hy hx).trans h171), hu1, by show (u.1 + u.2) / 2 ≤ _; omega⟩ (by show (u.1 + u.2) / 2 - u.1 < u.2 - u.1; omega)
      ·refine en aA 0 2 [] ?_
       refine sl 0 ?_
       first
       | exact hJ2 ((u.1 + u.2) / 2 + 1, u.2) ⟨hI.t hij ((kY hy hx).trans h171), by show s.1 ≤ (u.1 + u.2) / 2 + 1; omega, hu2⟩ (by show u.2 - ((u.1 + u.2) / 2 + 1) < u.2 - u.1; omega)
       | exact hJ2 (u.1, (u.1 + u.2) / 2) ⟨hI.f hij ((kY hy hx).trans h171), hu1, by show (u.1 + u.2) / 2 ≤ _; omega⟩ (by show (u.1 + u.2) / 2 - u.1 < u.2 - u.1; omega)
     ·have hK1 := hI.e (show ¬ u.1 < u.2 by omega)
      obtain ⟨e, he⟩ : ∃ q, q = h2 - K := ⟨_, rfl⟩
      obtain ⟨L1, hL1⟩ : ∃ q, q = Lw.take K := ⟨_, rfl⟩
      obtain ⟨L2, hL2⟩ : ∃ q, q = Lw.drop K := ⟨_, rfl⟩
      obtain ⟨R1, hR1⟩ : ∃ q, q = Rw.take e := ⟨_, rfl⟩
      obtain ⟨R2, hR2⟩ : ∃ q, q = Rw.drop e := ⟨_, rfl⟩
      have l1 : L1.length = K := by rw [hL1, List.length_take]; omega
      have l2 : L2.length = Lw.length - K := by rw [hL2, List.length_drop]
      have r1 : R1.length = e := by rw [hR1, List.length_take]; omega
      have r2 : R2.length = Rw.length - e := by rw [hR2, List.length_drop]
      have eL : Lw = L1 ++ L2 := by rw [hL1, hL2, List.take_append_drop]
      have eR : Rw = R1 ++ R2 := by rw [hR1, hR2, List.take_append_drop]
      have hn3 : n = (P ++ (L1 ++ (R1 ++ (L2 ++ (R2 ++ Z))))).length := by simp only [List.length_append]; omega
      refine en aA 0 4 [] ?_ (hφ := by simp only [aE]; omega)
      refine sn aA 0 8 [] ?_
      refine sl 0 ?_
      refine pY (σ := Unit) (fun _ => True) (fun _ => [(0, .o 1000 n), (1, nI a), (2, nI m), (3, nI b), (4, .f cf [] []), (18, nI ((P.length + h2 : Nat) : Int)), (20, nI ((P.length + K : Nat) : Int)), (24, nI ((P.length + Lw.length + e : Nat) : Int))])
       (fun _ => [(1000, .r 98 3 ((P ++ (L1 ++ (R1 ++ (L2 ++ (R2 ++ Z))))).map aP))]) (fun J hJ => ?_) (fun _ _ => ?_)
      ·refine Z2 0 rfl rfl (fun h185 => ?_) (fun h185 => ?_)
       ·rw [Bool.and_eq_true, decide_eq_true_eq, decide_eq_true_eq] at h185
        refine c6 1000 (mb' := .r 98 3 (((P ++ L1) ++ (L2 ++ (R1 ++ (R2 ++ Z)))).map aP)) ?_ ?_
        ·rw [eL, eR]; simp only [List.append_assoc]
        refine en aA 0 5 [] ?_
        refine fp aA 1000 0 [] (WI (P := P ++ L1) (Lw := L2) (Rw := R1) (Z := R2 ++ Z) (n := n) (a := ((P.length + u.1 : Nat) : Int)) (m := m) (b := ((P.length + h2 + (P.length + Lw.length) : Nat) : Int) - ((P.length + u.1 : Nat) : Int)) (by rw [hn3]; simp only [List.length_append]; omega) (by simp only [List.length_append]; omega) (by simp only [List.length_append]; omega) (by simp only [List.length_append]; omega) (by omega) (by omega) hz) ?_
        refine sl 0 ?_
        refine c6 1000 (mb' := .r 98 3 ((P ++ (L1 ++ (R1 ++ (L2 ++ (R2 ++ Z))))).map aP)) ?_ ?_
        ·first
         | (simp only [List.append_assoc]; done)
         | (rw [Bool.and_eq_false_iff, decide_eq_false_iff_not, decide_eq_false_iff_not] at h185; rw [eL, eR, List.append_assoc, List.append_assoc, mL (A := L2) (B := R1) (by rw [← List.length_eq_zero_iff, ← List.length_eq_zero_iff]; omega)])
        exact hJ () trivial
       ·refine el 0 ?_
        refine c6 1000 (mb' := .r 98 3 ((P ++ (L1 ++ (R1 ++ (L2 ++ (R2 ++ Z))))).map aP)) ?_ ?_
        ·first
         | (simp only [List.append_assoc]; done)
         | (rw [Bool.and_eq_false_iff, decide_eq_false_iff_not, decide_eq_false_iff_not] at h185; rw [eL, eR, List.append_assoc, List.append_assoc, mL (A := L2) (B := R1) (by rw [← List.length_eq_zero_iff, ← List.length_eq_zero_iff]; omega)])
        exact hJ () trivial
      ·refine en aA 0 8 [] ?_
       refine sl 0 ?_
       refine pY (σ := Unit) (fun _ => True) (fun _ => [(0, .o 1000 n), (1, nI a), (2, nI m), (3, nI b), (4, .f cf [] []), (18, nI ((P.length + h2 : Nat) : Int)), (24, nI ((P.length + Lw.length + e : Nat) : Int))])
        (fun _ => [(1000, .r 98 3 ((P ++ (m6 (cH c) f L1 R1 ++ (L2 ++ (R2 ++ Z)))).map aP))]) (fun J hJ => ?_) (fun _ _ => ?_)
       ·refine Z2 0 rfl rfl (fun h199 => ?_) (fun h199 => ?_)
        ·rw [Bool.and_eq_true, decide_eq_true_eq, decide_eq_true_eq] at h199
         refine en aA 0 5 [] ?_
         refine fp aA 1000 0 [] (ih (P := P) (Lw := L1) (Rw := R1) (Z := L2 ++ (R2 ++ Z)) (n := n) (a := a) (m := ((P.length + K : Nat) : Int)) (b := ((P.length + h2 : Nat) : Int)) hn3 ha (by omega) (by omega) (by omega) (by omega) (by omega) hz) ?_
         refine sl 0 ?_
         first
         | exact hJ () trivial
         | (refine c6 1000 (mb' := .r 98 3 ((P ++ (m6 (cH c) f L1 R1 ++ (L2 ++ (R2 ++ Z)))).map aP)) ?_ ?_; rotate_left; exact hJ () trivial; rw [Bool.and_eq_false_iff, decide_eq_false_iff_not, decide_eq_false_iff_not] at h199; rw [eP (f := f) (L := L1) (R := R1) (by rw [← List.length_eq_zero_iff, ← List.length_eq_zero_iff]; omega), List.append_assoc])
        ·refine el 0 ?_
         first
         | exact hJ () trivial
         | (refine c6 1000 (mb' := .r 98 3 ((P ++ (m6 (cH c) f L1 R1 ++ (L2 ++ (R2 ++ Z)))).map aP)) ?_ ?_; rotate_left; exact hJ () trivial; rw [Bool.and_eq_false_iff, decide_eq_false_iff_not, decide_eq_false_iff_not] at h199; rw [eP (f := f) (L := L1) (R := R1) (by rw [← List.length_eq_zero_iff, ← List.length_eq_zero_iff]; omega), List.append_assoc])
       ·refine en aA 0 8 [] ?_
        refine bM 0 rfl rfl (fun h213 => ?_) (fun h213 => ?_)
        ·rw [Bool.and_eq_true, decide_eq_true_eq, decide_eq_true_eq] at h213
         refine c6 1000 (mb' := .r 98 3 (((P ++ m6 (cH c) f L1 R1) ++ (L2 ++ (R2 ++ Z))).map aP)) ?_ ?_
         ·simp only [List.append_assoc]
         refine en aA 0 5 [] ?_
         refine fp aA 1000 0 [] (ih (P := P ++ m6 (cH c) f L1 R1) (Lw := L2) (Rw := R2) (Z := Z) (n := n) (a := ((P.length + h2 : Nat) : Int)) (m := ((P.length + Lw.length + e : Nat) : Int)) (b := b) (by rw [hn3]; simp only [List.length_append, gV]; omega) (by simp only [List.length_append, gV]; omega) (by simp only [List.length_append, gV]; omega) (by simp only [List.length_append, gV]; omega) (by omega) (by omega) (by omega) hz) ?_
         refine PU 0 R ?_
         refine ⟨rfl, ?_⟩
         rw [q8 hl2 hr2 hK (show e = (Lw.length + Rw.length) / 2 - K by omega), ← hL1, ← hL2, ← hR1, ← hR2]
         first
         | (simp only [List.append_assoc]; done)
         | (rw [Bool.and_eq_false_iff, decide_eq_false_iff_not, decide_eq_false_iff_not] at h213; rw [eP (f := f) (L := L2) (R := R2) (by rw [← List.length_eq_zero_iff, ← List.length_eq_zero_iff]; omega)]; simp only [List.append_assoc])
        ·refine HM 0 R ?_
         refine ⟨rfl, ?_⟩
         rw [q8 hl2 hr2 hK (show e = (Lw.length + Rw.length) / 2 - K by omega), ← hL1, ← hL2, ← hR1, ← hR2]
         first
         | (simp only [List.append_assoc]; done)
         | (rw [Bool.and_eq_false_iff, decide_eq_false_iff_not, decide_eq_false_iff_not] at h213; rw [eP (f := f) (L := L2) (R := R2) (by rw [← List.length_eq_zero_iff, ← List.length_eq_zero_iff]; omega)]; simp only [List.append_assoc])
theorem CP {cf : Nat} {c : Se → Se → Int} (hc : ∀ x y : Se, Fc Tryz.prog gT cf [.a (aP x), .a (aP y)] (nI (c x y))) : ∀ F, ∀ {P Lw Rw Z : List Se} {n : Nat} {a m b : Int}, n = (P ++ (Lw ++ (Rw ++ Z))).length → a = P.length → m = ((P.length + Lw.length : Nat) : Int) → b = ((P.length + Lw.length + Rw.length : Nat) : Int) → 0 < Lw.length → 0 < Rw.length → Lw.length + Rw.length ≤ F → n ≤ 10000000000000 → Fp Tryz.prog gT 285 [.o 1000 n, nI a, nI m, nI b, .f cf [] []] (.r 98 3 ((P ++ (Lw ++ (Rw ++ Z))).map aP)) (.t []) (.r 98 3 ((P ++ (m6 (cH c) F Lw Rw ++ Z)).map aP))
 | 0 => fun _ _ _ _ hl _ hf _ => absurd hf (by omega)
 | F + 1 => fun hn ha hm hb hl hr hf hz => WJ hc (CP hc F) hn ha hm hb hl hr hf hz
set_option maxHeartbeats 1000000 in
theorem WL {S : List Se} {n cf : Nat} {c : Se → Se → Int} (hc : ∀ x y : Se, Fc Tryz.prog gT cf [.a (aP x), .a (aP y)] (nI (c x y))) (hn : n = S.length) (hz : n ≤ 10000000000000) : Fp Tryz.prog gT 223 [.o 1000 n, nI n, .f cf [] []] (.r 98 3 (S.map aP)) (.t []) (.r 98 3 ((dD (cH c) S).map aP)) := by
 refine lU aA (fn := Tryz.f223) 63 [] Tryz.func223 Tryz.results223 (fun g0 B0 Q ρ0 R => ?_)
 obtain ⟨T0, hT0⟩ : ∃ q, q = wW (cH c) (S.length + 1) S := ⟨_, rfl⟩
 obtain ⟨T, hT⟩ : ∃ q, q = dD (cH c) S := ⟨_, rfl⟩
 rw [← hT] at R
 have hTl : T0.length = n := by rw [hT0, hn]; exact rC _ _ (Nat.lt_succ_self _)
 refine en aA 0 1 [] ?_
 refine sn aA 0 3 [] ?_
 refine sl 0 ?_
 refine aD (σ := List Se × List Se) (fun s => YB (cH c) T0 s.1 s.2 ∧ s.1.length + s.2.length = n) (fun s => s.2.length)
  (fun s => [(0, .o 1000 n), (1, nI n), (2, .f cf [] []), (6, nI 20), (7, nI ((s.1.length : Nat) : Int)), (8, nI ((s.1.length + 20 : Nat) : Int))])
  (fun s => [(1000, .r 98 3 ((s.1 ++ s.2).map aP))]) ([], S) ?_ ?_
 ·exact ⟨⟨S.length + 1, Nat.lt_succ_self _, hT0.symm⟩, by rw [hn]; exact Nat.zero_add _⟩
 ·rintro J s ⟨hI, hl⟩ hJ
  refine en aA 0 3 [] ?_
  refine si 0 rfl rfl (fun h13 => ?_) (fun h13 => ?_)
  ·have h20 : 20 ≤ s.2.length := by omega
   refine c6 1000 (mb' := .r 98 3 ((s.1 ++ (s.2.take 20 ++ s.2.drop 20)).map aP)) ?_ ?_
   ·rw [List.take_append_drop]
   refine en aA 0 4 [] ?_
   refine fp aA 1000 0 [] (K5 (P := s.1) (S := s.2.take 20) (Z := s.2.drop 20) (n := n) (a := ((s.1.length : Nat) : Int)) (b := ((s.1.length + 20 : Nat) : Int)) hc (by rw [List.take_append_drop, List.length_append]; omega) rfl (by rw [List.length_take]; omega) hz) ?_
   refine sn aA 0 2 [] ?_
   refine sn aA 0 4 [] ?_
   refine sl 0 ?_
   refine c6 1000 (mb' := .r 98 3 (((s.1 ++ bG (cH c) (s.2.take 20)) ++ s.2.drop 20).map aP)) ?_ ?_
   ·simp only [List.append_assoc]
   exact hJ (s.1 ++ bG (cH c) (s.2.take 20), s.2.drop 20) ⟨hI.go h20, by rw [List.length_append, eE, List.length_take, List.length_drop]; omega⟩ (by rw [List.length_drop]; omega) (by first | exact ⟨rfl, rfl, rfl, rfl, vO (by rw [List.length_append, eE, List.length_take]; omega), vO (by rw [List.length_append, eE, List.length_take]; omega), trivial⟩)
  ·have h20 : ¬ 20 ≤ s.2.length := by omega
   refine c6 1000 (mb' := .r 98 3 ((s.1 ++ (s.2 ++ [])).map aP)) ?_ ?_
   ·rw [List.append_nil]
   refine en aA 0 4 [] ?_
   refine fp aA 1000 0 [] (K5 (P := s.1) (S := s.2) (Z := []) (n := n) (a := ((s.1.length : Nat) : Int)) (b := n) hc (by rw [List.append_nil, List.length_append]; omega) rfl (by omega) hz) ?_
   refine sl 0 ?_
   refine c6 1000 (mb' := .r 98 3 (T0.map aP)) ?_ ?_
   ·rw [List.append_nil, hI.stop h20]
   refine aD (σ := Nat × List Se) (fun u => 0 < u.1 ∧ YC (cH c) T u.1 u.2 ∧ u.2.length = n) (fun u => n - u.1)
    (fun u => [(0, .o 1000 n), (1, nI n), (2, .f cf [] []), (6, nI ((u.1 : Nat) : Int))])
    (fun u => [(1000, .r 98 3 (u.2.map aP))]) (20, T0) ?_ ?_
   ·exact ⟨Nat.zero_lt_succ 19, ⟨S.length + 1, by rw [hTl, hn]; omega, by rw [hT, hT0]; rfl⟩, hTl⟩
   ·rintro J u ⟨hu0, hP, hul⟩ hJ2
    refine en aA 0 3 [] ?_
    refine si 0 rfl rfl (fun h30 => ?_) (fun h30 => ?_)
    ·have hzn : u.1 < u.2.length := by omega
     have hbl := q9 (lt := (cH c)) hu0 (u.2.length + 1) u.2 (Nat.lt_succ_self _)
     refine en aA 0 4 [] ?_
     refine sl 0 ?_
     refine aD (σ := List Se × List Se) (fun v => U1 (cH c) u.1 (jC (cH c) u.1 (u.2.length + 1) u.2) v.1 v.2 ∧ v.1.length + v.2.length = n) (fun v => v.2.length)
      (fun v => [(0, .o 1000 n), (1, nI n), (2, .f cf [] []), (6, nI ((u.1 : Nat) : Int)), (7, nI ((v.1.length : Nat) : Int)), (8, nI ((v.1.length + 2 * u.1 : Nat) : Int))])
      (fun v => [(1000, .r 98 3 ((v.1 ++ v.2).map aP))]) ([], u.2) ?_ ?_
     ·exact ⟨⟨u.2.length + 1, Nat.lt_succ_self _, rfl⟩, by rw [← hul]; exact Nat.zero_add _⟩
     ·rintro J v ⟨hM, hvl⟩ hJ3
      refine en aA 0 3 [] ?_
      refine si 0 rfl rfl (fun h35 => ?_) (fun h35 => ?_)
      ·have h2z : 2 * u.1 ≤ v.2.length := by omega
       refine c6 1000 (mb' := .r 98 3 ((v.1 ++ (v.2.take u.1 ++ ((v.2.drop u.1).take u.1 ++ v.2.drop (2 * u.1)))).map aP)) ?_ ?_
       ·rw [U2]
       refine en aA 0 7 [] ?_
       refine fp aA 1000 0 [] (CP hc ((v.2.take u.1).length + ((v.2.drop u.1).take u.1).length) (P := v.1) (Lw := v.2.take u.1) (Rw := (v.2.drop u.1).take u.1) (Z := v.2.drop (2 * u.1)) (n := n) (a := ((v.1.length : Nat) : Int)) (m := ((v.1.length : Nat) : Int) + ((u.1 : Nat) : Int)) (b := ((v.1.length + 2 * u.1 : Nat) : Int)) (by rw [U2, List.length_append]; omega) rfl (by simp only [List.length_take]; omega) (by simp only [List.length_take, List.length_drop]; omega) (by simp only [List.length_take]; omega) (by simp only [List.length_take, List.length_drop]; omega) (Nat.le_refl _) hz) ?_
       refine sn aA 0 2 [] ?_
       refine sn aA 0 5 [] ?_
       refine sl 0 ?_
       refine c6 1000 (mb' := .r 98 3 (((v.1 ++ yO (cH c) (v.2.take u.1) ((v.2.drop u.1).take u.1)) ++ v.2.drop (2 * u.1)).map aP)) ?_ ?_
       ·simp only [List.append_assoc]; rfl
       exact hJ3 (v.1 ++ yO (cH c) (v.2.take u.1) ((v.2.drop u.1).take u.1), v.2.drop (2 * u.1)) ⟨hM.go hu0 h2z, by rw [List.length_append, jD]; simp only [List.length_take, List.length_drop]; omega⟩ (by rw [List.length_drop]; omega) (by first | exact ⟨rfl, rfl, rfl, rfl, vO (by rw [List.length_append, jD]; simp only [List.length_take, List.length_drop]; omega), vO (by rw [List.length_append, jD]; simp only [List.length_take, List.length_drop]; omega), trivial⟩)
      ·have h2z : ¬ 2 * u.1 ≤ v.2.length := by omega
       refine en aA 0 4 [] ?_
       refine sn aA 0 3 [] ?_
       refine si 0 rfl rfl (fun h54 => ?_) (fun h54 => ?_)
       ·have hzl : u.1 < v.2.length := by omega
        refine c6 1000 (mb' := .r 98 3 ((v.1 ++ (v.2.take u.1 ++ (v.2.drop u.1 ++ []))).map aP)) ?_ ?_
        ·rw [List.append_nil, List.take_append_drop]
        refine en aA 0 5 [] ?_
        refine fp aA 1000 0 [] (CP hc ((v.2.take u.1).length + (v.2.drop u.1).length) (P := v.1) (Lw := v.2.take u.1) (Rw := v.2.drop u.1) (Z := []) (n := n) (a := ((v.1.length : Nat) : Int)) (m := ((v.1.length : Nat) : Int) + ((u.1 : Nat) : Int)) (b := n) (by rw [List.append_nil, List.take_append_drop, List.length_append]; omega) rfl (by simp only [List.length_take]; omega) (by simp only [List.length_take, List.length_drop]; omega) (by simp only [List.length_take]; omega) (by simp only [List.length_drop]; omega) (Nat.le_refl _) hz) ?_
        refine sn aA 0 3 [] ?_
        refine sl 0 ?_
        refine c6 1000 (mb' := .r 98 3 ((jC (cH c) u.1 (u.2.length + 1) u.2).map aP)) ?_ ?_
        ·first
         | rw [← hM.stop h2z hzl]
         | rw [← hM.one h2z hzl, List.append_nil]; rfl
        exact hJ2 (2 * u.1, jC (cH c) u.1 (u.2.length + 1) u.2) ⟨by show 0 < 2 * u.1; omega, hP.go hu0 hzn hbl, by show (jC (cH c) u.1 (u.2.length + 1) u.2).length = n; omega⟩ (by show n - 2 * u.1 < n - u.1; omega)
       ·have hzl : ¬ u.1 < v.2.length := by omega
        refine en aA 0 3 [] ?_
        refine sl 0 ?_
        refine c6 1000 (mb' := .r 98 3 ((jC (cH c) u.1 (u.2.length + 1) u.2).map aP)) ?_ ?_
        ·first
         | rw [← hM.stop h2z hzl]
         | rw [← hM.one h2z hzl, List.append_nil]; rfl
        exact hJ2 (2 * u.1, jC (cH c) u.1 (u.2.length + 1) u.2) ⟨by show 0 < 2 * u.1; omega, hP.go hu0 hzn hbl, by show (jC (cH c) u.1 (u.2.length + 1) u.2).length = n; omega⟩ (by show n - 2 * u.1 < n - u.1; omega)
    ·have hzn : ¬ u.1 < u.2.length := by omega
     refine HM 0 R ?_
     exact ⟨rfl, by rw [hP.stop hzn]⟩
theorem WM {S : List Se} {n cf : Nat} {c : Se → Se → Int} (hc : ∀ x y : Se, Fc Tryz.prog gT cf [.a (aP x), .a (aP y)] (nI (c x y))) (hn : n = S.length) (hz : n ≤ 10000000000000) : Fp Tryz.prog gT 149 [.o 1000 n, .f cf [] []] (.r 98 3 (S.map aP)) (.t []) (.r 98 3 ((dD (cH c) S).map aP)) := by
 refine lU aA (fn := Tryz.f149) 9 [] Tryz.func149 Tryz.results149 (fun g0 B0 Q ρ0 R => ?_)
 refine en aA 0 4 [] ?_
 refine fp aA 1000 0 [] (WL (n := n) hc hn hz) ?_
 refine PU 0 R ?_
 exact ⟨rfl, rfl⟩
theorem S0  : Fc Tryz.prog gT 225 [nU 1, nU 2] (.t [nU 0, nU 2]) := by
 refine fb aA (fn := Tryz.f225) 30 [.tmp 4, .tmp 5] Tryz.func225 Tryz.results225 (fun g0 B0 Q ρ0 R => ?_)
 refine en aA 0 2 [] ?_
 refine sn aA 1 2 [] ?_
 refine fc aA 5 [] ((wH (x := 1) (y := 2) (by decide) (by decide) : Fc Tryz.prog gT 288 [nU 1, nU 2] (.t [nU 0, nU 2]))) ?_
 refine sn aA 0 4 [] ?_
 refine sr 0 R ?_
 rfl
theorem IM {v : Val} : Fc Tryz.prog gT 155 [rV [v], nI 2] (rV [v, v]) := by
 refine fb aA (fn := Tryz.f155) 48 [.tmp 4] Tryz.func155 Tryz.results155 (fun g0 B0 Q ρ0 R => ?_)
 refine en aA 0 1 [] ?_
 refine sn aA 0 2 [] ?_
 refine sn aA 1 5 [] ?_
 refine fc aA 5 [] (S0) ?_
 refine sn aA 0 6 [] ?_
 refine sn aA 1 2 [] ?_
 refine aAA aA 902 2 (sz := 2) (by decide) [⟨[.int .i64 0, .int .i64 0], rfl, by decide⟩, ⟨[.int .i64 0, .int .i64 0], rfl, by decide⟩] rfl rfl rfl (by kernel_rfl) (by decide) (by decide) (TT.get_ok aA (rfl : tb.get 26 = some _)).ti Tryz.underlying46 ?_
 refine go aA 1 [] ?_
 refine sn aA 0 2 [] ?_
 refine aA9 aA (rows := [[nI 0, nI 0], [nI 0, nI 0]]) (rows2 := (List.map (fun v : Val => [nI v.k, nI v.n]) [v])) rfl (by simp) (by simp) ?_
 refine go aA 1 [] ?_
 refine sl 0 ?_
 refine aD (σ := Nat) (fun j => j = 1 ∨ j = 2) (fun j => 2 - j)
  (fun j => [(7, .o 902 2), (8, nI j)])
  (fun j => [(902, .r 26 2 [[nI v.k, nI v.n], if j = 1 then [nI 0, nI 0] else [nI v.k, nI v.n]])]) 1 ?_ ?_
 ·exact .inl rfl
 ·rintro J j hj0 hJ
  refine en aA 0 4 [] ?_
  refine si 0 rfl rfl (fun h37 => ?_) (fun h37 => ?_)
  ·have hj : j = 1 := by omega
   subst hj
   refine c6 902 (mb' := .r 26 2 [[nI v.k, nI v.n], [nI 0, nI 0]]) ?_ ?_
   ·simp
   refine aAK 7 902 1005 (L1 := [(8, nI 1)]) (by decide) (fun ρ1 => ?_) rfl rfl (aAL rfl)
   refine jH 0 128 [0, 0, 0, 6, 0, 0, 48, 126, 255, 511] [0, 1, 2, 3, 4, 5, 6, 7, 8, 9] ?_
   refine xd aA 3 [] ?_
   refine aD4 aA 1 2 [] (i := 1005) (n := 2) (rows := [[nI v.k, nI v.n], [nI 0, nI 0]]) (by decide) rfl (by decide) rfl ?_
   refine aD5 aA 1 0 [] (i := 1005) (n := 2) (rows := [[nI v.k, nI v.n], [nI 0, nI 0]]) (by decide) rfl (by decide) rfl (by decide) ?_
   refine aD6 aA 2 [] (i := 1005) (by decide) rfl ?_
   refine xe ?_
   refine sl 0 ?_
   refine UW (ρ0 := ρ0) 7 902 1005 (L1 := [(8, nI 2)]) (by decide) ?_ rfl rfl (aAL rfl)
   exact hJ 2 (.inr rfl) (by omega)
  ·have hj : j = 2 := by omega
   subst hj
   refine c6 902 (mb' := .r 26 2 [[nI v.k, nI v.n], [nI v.k, nI v.n]]) ?_ ?_
   ·simp
   refine en aA 0 2 [] ?_
   refine BH 4 (rows := [[nI v.k, nI v.n], [nI v.k, nI v.n]]) ?_ ?_ (hr := by simp)
   ·simp
   refine sr 0 R ?_
   rfl
theorem NT {op : Bytes} : Fc Tryz.prog gT 106 [.str op, nI 2] (bS (decide ((mA op [aK 0, aK 0]).2 = 0))) := by
 refine fb aA (fn := Tryz.f106) 18 [.tmp 4] Tryz.func106 Tryz.results106 (fun g0 B0 Q ρ0 R => ?_)
 refine en aA 0 1 [] ?_
 refine sn aA 0 1 [] ?_
 refine fc aA 2 [] (eK (n := 0)) ?_
 refine fc aA 0 [] (IM (v := aK 0)) ?_
 refine fc aA 6 [] (B9 (op := op) (l := [aK 0, aK 0])) ?_
 refine sn aA 0 3 [] ?_
 refine sr 0 R ?_
 rfl
theorem GH {l : List Se} : Fc Tryz.prog gT 103 [cI l] (.f 150 [] [.p [cI l]]) := by
 refine fb aA (fn := Tryz.f103) 4 [.tmp 2] Tryz.func103 Tryz.results103 (fun g0 B0 Q ρ0 R => ?_)
 refine en aA 0 2 [] ?_
 refine sz 1 ?_
 refine sn aA 0 2 [] ?_
 refine sr 0 R ?_
 rfl
theorem S1 {l : List Se} (hl : l.length * 40 ≤ 140737488351232) : Itr Tryz.prog gT 150 [.p [cI l]] (vsG aP l) := by
 refine aA4 aA (fn := Tryz.f150) 16 Tryz.func150 Tryz.results150 (fun lp R hR g0 B0 Q ρ0 ms0 RR => ?_)
 rw [BZ] at RR
 refine en aA 0 3 [] ?_
 refine sl 0 ?_
 refine jG 6 rfl (v' := nI l.length) (by simp) ?_
 refine JL (σ := Nat × List aH) (fun st => st.1 ≤ l.length) (fun st => l.length - st.1)
  (fun st => [(0, .v (.func (.yield lp) #[] #[])), (5, cI l), (6, nI l.length), (7, nI st.1)])
  (fun st => R.f st.1 st.2 :: gT) (fun st => st.2) (0, ms0) ?_ ?_
 ·exact Nat.zero_le _
 ·rintro J ⟨j, ms⟩ hj0 hJ
  dsimp only at hj0 ⊢
  refine en aA 0 1 [] ?_
  refine si 0 rfl rfl (fun h8 => ?_) (fun h8 => ?_)
  ·have hj : j < l.length := by omega
   refine en aA 0 4 [aP l[j]] ?_ (hφ := by exact ⟨by omega, aO _ hj⟩)
   refine sn aA 0 2 [] ?_
   refine yw hR (KH hj) (fun ms2 => ?_) (fun ms2 => ?_)
   ·refine go aA 1 [] ?_
    refine sn aA 1 2 [] ?_
    refine sl 0 ?_
    exact hJ (j + 1, ms2) (by dsimp only; omega) (by dsimp only; omega)
   ·refine go aA 1 [] ?_
    refine sl 1 ?_
    exact RR.retx
  ·have ej : j = l.length := by omega
   subst ej
   refine el 0 ?_
   exact RR.fall
theorem GI {l : List Se} (hl : l.length * 40 ≤ 140737488351232) : P4 Tryz.prog gT 222 [.s 0 [], .f 150 [] [.p [cI l]]] (.o 903 l.length) 903 (.r 98 3 (l.map aP)) := by
 refine aCX aA (fn := Tryz.f222) 13 [.tmp 4] Tryz.func222 Tryz.results222 (fun g0 B0 Q ρ0 RM => ?_)
 refine HQ 0 903 98 3 ?_
 refine en aA 0 2 [] ?_
 refine aAB 0 ?_
 refine sn aA 0 1 [] ?_
 refine sl 0 ?_
 refine P9 903 901 (fun j => [(2, .c 32 [.o 903 ((l.take j).map aP).length]), (903, .r 98 3 ((l.take j).map aP))]) (fun j => [(1002, .c 32 [.o 901 ((l.take j).map aP).length]), (901, .r 98 3 ((l.take j).map aP))]) (S1 hl) (by decide) (by decide) rfl (fun j g ρ ms h => U9 h) (fun j g ρ ms h => QR h) (fun j av hj lp g1 B1 ρ1 Q1 Q2 own1 own2 J hJ hE => ?_) (fun D => ?_) (fun a ha => by
  obtain ⟨v, hv, rfl⟩ := List.mem_map.1 ha
  rfl) (fun a ha => by
  obtain ⟨v, hv, rfl⟩ := List.mem_map.1 ha
  rfl)
 ·have hjl : j < l.length := by
   have := (List.getElem?_eq_some_iff.1 hj).1
   rwa [BZ] at this
  rw [KH hjl] at hj
  cases hj
  refine en aA 0 2 [] ?_
  refine sl 0 ?_
  refine hJ ?_
  refine en aA 0 1 [] ?_
  refine sal 1002 901 777 ?_
  refine go aA 2 [] ?_
  refine P1 aA 1 [] rfl (fun _ => rfl) ?_ ?_
  ·show (((l.take j).map aP).length + 1) * 40 ≤ _
   simp
   omega
  refine sl 0 ?_
  refine c6 901 (mb' := .r 98 3 ((l.take (j + 1)).map aP)) ?_ ?_
  ·rw [List.take_succ_eq_append_getElem hjl, List.map_append]; rfl
  refine c6 1002 (mb' := .c 32 [.o 901 ((l.take (j + 1)).map aP).length]) ?_ ?_
  ·rw [List.take_succ_eq_append_getElem hjl, List.map_append, List.length_append, List.length_append]; rfl
  exact hE rfl
 ·rw [BZ]
  show E _ _ _ [(2, .c 32 [.o 903 ((l.take l.length).map aP).length]), (903, .r 98 3 ((l.take l.length).map aP))] _ _
  refine en aA 0 2 [] ?_
  refine aCZ 0 (RM D) ?_
  exact ⟨by simp; rfl, by simp⟩
theorem CQ {l : List Se} (hl : l.length * 40 ≤ 140737488351232) : P4 Tryz.prog gT 148 [.f 150 [] [.p [cI l]]] (.o 903 l.length) 903 (.r 98 3 (l.map aP)) := by
 refine fnb aA (fn := Tryz.f148) 5 [.tmp 2] Tryz.func148 Tryz.results148 (fun g0 B0 Q ρ0 R => ?_)
 refine en aA 0 1 [] ?_
 refine sn aA 0 1 [] ?_
 refine TL aA 1 [] (GI hl) ?_
 refine TK 0 R ?_
 exact ⟨rfl, rfl⟩
theorem GK {l : List Se} {cf : Nat} {c : Se → Se → Int} (hl : l.length * 40 ≤ 140737488351232) (hc : ∀ x y : Se, Fc Tryz.prog gT cf [.a (aP x), .a (aP y)] (nI (c x y))) : P4 Tryz.prog gT 102 [.f 150 [] [.p [cI l]], .f cf [] []] (.o 903 l.length) 903 (.r 98 3 ((dD (cH c) l).map aP)) := by
 refine fnb aA (fn := Tryz.f102) 12 [.tmp 4] Tryz.func102 Tryz.results102 (fun g0 B0 Q ρ0 R => ?_)
 refine en aA 0 1 [] ?_
 refine sn aA 0 1 [] ?_
 refine TL aA 1 [] (CQ hl) ?_
 refine sn aA 0 2 [] ?_
 refine fp aA 903 0 [] (WM (S := l) (n := l.length) hc rfl (by omega)) ?_
 refine sn aA 0 2 [] ?_
 refine TK 0 R ?_
 exact ⟨rfl, rfl⟩
theorem S2 {l : List Se} {fn : FuncId} {ca : List SV} {p : Se → Bool} (hs : ∀ v ∈ l, Fc Tryz.prog gT fn (.a (aP v) :: ca) (bS (p v))) : Fc Tryz.prog gT 143 [cI l, .f fn [] ca] (nI (jS p l)) := by
 refine fb aA (fn := Tryz.f143) 19 [.tmp 4] Tryz.func143 Tryz.results143 (fun g0 B0 Q ρ0 R => ?_)
 refine en aA 0 1 [] ?_
 refine sn aA 0 3 [] ?_
 refine sl 0 ?_
 refine aD (σ := Nat) (fun j => j ≤ l.length ∧ ∀ x ∈ l.take j, p x = false) (fun j => l.length - j)
  (fun j => [(0, cI l), (1, .f fn [] ca), (4, nI 0), (7, nI l.length), (8, nI j)])
  (fun j => []) 0 ?_ ?_
 ·exact ⟨Nat.zero_le _, by simp⟩
 ·rintro J j ⟨hj0, hj1⟩ hJ
  refine lM 0 rfl (fun hl => ?_)
  simp only [List.length_map] at hl
  refine en aA 0 1 [] ?_
  refine si 0 rfl rfl (fun h9 => ?_) (fun h9 => ?_)
  ·have hj : j < l.length := by omega
   refine en aA 0 2 [] ?_
   refine sn aA 0 5 [aP l[j]] ?_ (hφ := by exact ⟨by omega, aO _ hj⟩)
   refine fc aA 0 [] (hs l[j] (List.getElem_mem hj)) ?_
   refine bM 0 rfl rfl (fun h16 => ?_) (fun h16 => ?_)
   ·have e := iK hj hj1 h16
    refine en aA 0 2 [] ?_
    refine sr 0 R ?_
    rw [e]; rfl
   ·have hx := h16
    refine en aA 0 2 [] ?_
    exact hJ (j + 1) ⟨by omega, bH hj hj1 hx⟩ (by omega)
  ·have e := iJ (p := p) (fun x hx => hj1 x (by rw [List.take_of_length_le (by omega)]; exact hx))
   refine en aA 0 1 [] ?_
   refine sr 0 R ?_
   rw [e]; rfl
theorem AO {l : List Se} {fn : FuncId} {ca : List SV} {p : Se → Bool} (hs : ∀ v ∈ l, Fc Tryz.prog gT fn (.a (aP v) :: ca) (bS (p v))) : Fc Tryz.prog gT 97 [cI l, .f fn [] ca] (bS (l.any p)) := by
 refine fb aA (fn := Tryz.f97) 9 [.tmp 4] Tryz.func97 Tryz.results97 (fun g0 B0 Q ρ0 R => ?_)
 refine en aA 0 1 [] ?_
 refine sn aA 0 2 [] ?_
 refine fc aA 2 [] (S2 (p := p) hs) ?_
 refine sr 0 R ?_
 rw [← kA]; rfl
theorem NU {a b : List Lb} : Fc Tryz.prog gT 145 [rL a, rL b] (bS (decide (a = b))) := by
 refine fb aA (fn := Tryz.f145) 26 [.tmp 4] Tryz.func145 Tryz.results145 (fun g0 B0 Q ρ0 R => ?_)
 refine lM 0 rfl (fun hl => ?_)
 refine lM 1 rfl (fun hm => ?_)
 simp only [List.length_map] at hl hm
 refine en aA 0 1 [] ?_
 refine sn aA 0 5 [] ?_
 refine si 0 rfl rfl (fun h10 => ?_) (fun h10 => ?_)
 ·have e : decide (a = b) = false := decide_eq_false (fun e => h10 (by simp [e]))
  refine en aA 0 1 [] ?_
  refine sr 0 R ?_
  rw [e]; rfl
 ·have hab : a.length = b.length := by
   simp only [List.length_map] at h10
   omega
  refine en aA 0 3 [] ?_
  refine sl 0 ?_
  refine jG 12 rfl (v' := nI a.length) (by simp) ?_
  refine aD (σ := Nat) (fun j => j ≤ a.length ∧ a.take j = b.take j) (fun j => a.length - j)
   (fun j => [(0, rL a), (1, rL b), (12, nI a.length), (13, nI j)])
   (fun j => []) 0 ?_ ?_
  ·exact ⟨Nat.zero_le _, by simp⟩
  ·rintro J j ⟨hj0, hj1⟩ hJ
   refine en aA 0 1 [] ?_
   refine si 0 rfl rfl (fun h14 => ?_) (fun h14 => ?_)
   ·have hj : j < a.length := by omega
    have hb : j < b.length := by omega
    refine en aA 0 2 [] ?_
    refine DZ 0 0 [0, 0, 3, 7, 0, 0, 48, 112, 255] [0, 1, 2, 3, 4, 5, 6, 7, 8] ?_
    refine xd aA 8 [aY a[j], aY b[j]] ?_ (hφ := by (repeat' refine And.intro ?_ ?_) <;> first | omega | exact aO _ hj | exact aO _ hb | trivial)
    refine dsq aA 0 [] true (b := decide (a[j] = b[j])) Tryz.underlying138 (by kernel_rfl) (fun w => KU _ _) ?_
    refine xe ?_
    refine bM 0 rfl rfl (fun h24 => ?_) (fun h24 => ?_)
    ·have e : decide (a = b) = false := decide_eq_false (fun e => by subst e; simp [N4] at h24)
     refine en aA 0 1 [] ?_
     refine sr 0 R ?_
     rw [e]; rfl
    ·have hx : a[j] = b[j] := by simpa [N4] using h24
     refine en aA 0 2 [] ?_
     refine sl 0 ?_
     exact hJ (j + 1) ⟨by omega, by rw [List.take_succ_eq_append_getElem hj, List.take_succ_eq_append_getElem hb, hj1, hx]⟩ (by omega)
   ·have e : decide (a = b) = true := decide_eq_true (by rw [List.take_of_length_le (by omega), List.take_of_length_le (by omega)] at hj1; exact hj1)
    refine en aA 0 1 [] ?_
    refine sr 0 R ?_
    rw [e]; rfl
theorem S3 {l : List Lb} (hb : fO l) : Fc Tryz.prog gT 99 [rL l] (bS (eG l)) := by
 refine fb aA (fn := Tryz.f99) 17 [.tmp 2] Tryz.func99 Tryz.results99 (fun g0 B0 Q ρ0 R => ?_)
 refine en aA 0 1 [] ?_
 refine sn aA 0 1 [] ?_
 refine fc aA 5 [] (FT hb) ?_
 refine sn aA 0 5 [] ?_
 refine fg aA 2 [] (fun hg => NU (a := (gW l).1) (b := l)) ?_
 refine sr 0 R ?_
 rfl
theorem NV {s : Se} (hb : fO s.l) : Fc Tryz.prog gT 98 [.a (aP s)] (bS (!eG s.l)) := by
 refine fb aA (fn := Tryz.f98) 7 [.tmp 2] Tryz.func98 Tryz.results98 (fun g0 B0 Q ρ0 R => ?_)
 refine en aA 0 2 [] ?_
 refine sn aA 0 2 [] ?_
 refine fc aA 2 [] (S3 hb) ?_
 refine sr 0 R ?_
 rfl
theorem NW {s : Se} : Fc Tryz.prog gT 100 [.a (aP s)] (bS (!cE s.v)) := by
 refine fb aA (fn := Tryz.f100) 8 [.tmp 2] Tryz.func100 Tryz.results100 (fun g0 B0 Q ρ0 R => ?_)
 refine en aA 0 2 [] ?_
 refine sn aA 0 3 [] ?_
 refine fc aA 2 [] (AG (l := [s.v])) ?_
 refine sr 0 R ?_
 cases h : cE s.v <;> simp [h] <;> rfl
theorem NX {x y : Se} : Fc Tryz.prog gT 104 [.a (aP x), .a (aP y)] (nI (f6 x y)) := by
 refine fb aA (fn := Tryz.f104) 10 [.tmp 4] Tryz.func104 Tryz.results104 (fun g0 B0 Q ρ0 R => ?_)
 refine en aA 0 3 [] ?_
 refine sn aA 0 4 [] ?_
 refine fc aA 1 [] (tW (l := x.l) (m := y.l)) ?_
 refine sr 0 R ?_
 rfl
theorem oH {l : List Se} (hb : ∀ s ∈ l, fO s.l) (hl : l.length * 40 ≤ 140737488351232) : P4 Tryz.prog gT 55 [cI l] (.t [.o 903 (aV l).1.length, nI (aV l).2]) 903 (.r 98 3 ((aV l).1.map aP)) := by
 refine fnb aA (fn := Tryz.f55) 37 [.tmp 2, .tmp 3] Tryz.func55 Tryz.results55 (fun g0 B0 Q ρ0 R => ?_)
 refine en aA 0 2 [] ?_
 refine sn aA 0 1 [] ?_
 refine fc aA 1 [] (AO (l := l) (p := fun s => !eG s.l) (fun v hv => NV (hb v hv))) ?_
 refine bM 0 rfl rfl (fun h5 => ?_) (fun h5 => ?_)
 ·have e : aV l = ([], 90) := if_pos h5
  refine en aA 0 2 [] ?_
  refine U8 [(2, .s 0 []), (3, nI 90)] ?_
  refine MJ 2 903 98 3 ?_
  refine TK 0 R ?_
  rw [e]; exact ⟨rfl, rfl⟩
 ·have e0 : ¬ l.any (fun s => !eG s.l) = true := by simpa using h5
  refine en aA 0 1 [] ?_
  refine fc aA 1 [] (AO (l := l) (p := fun s => !cE s.v) (fun v _ => NW)) ?_
  refine bM 0 rfl rfl (fun h8 => ?_) (fun h8 => ?_)
  ·have e : aV l = ([], 80) := by unfold aV; rw [if_neg e0, if_pos h8]
   refine en aA 0 2 [] ?_
   refine U8 [(2, .s 0 []), (3, nI 80)] ?_
   refine MJ 2 903 98 3 ?_
   refine TK 0 R ?_
   rw [e]; exact ⟨rfl, rfl⟩
  ·have e1 : ¬ l.any (fun s => !cE s.v) = true := by simpa using h8
   refine en aA 0 1 [] ?_
   refine fc aA 0 [] (GH (l := l)) ?_
   refine TL aA 1 [] (GK (l := l) (c := f6) hl (fun x y => NX)) ?_
   obtain ⟨T, hT⟩ : ∃ q, q = dD FK l := ⟨_, rfl⟩
   have hTl : T.length = l.length := by rw [hT]; exact FH _
   refine uC 903 (mb' := .r 98 3 (T.map aP)) ?_ ?_
   ·rw [hT]
   refine sn aA 0 1 [] ?_
   refine sl 0 ?_
   refine aD (σ := Nat) (fun j => 0 < j ∧ (∀ (i : Nat) (h : i + 1 < T.length), i + 1 < j → f6 (T[i]'(by omega)) (T[i + 1]) ≠ 0)) (fun j => T.length - j)
    (fun j => [(0, .o 903 l.length), (4, nI j)])
    (fun j => [(903, .r 98 3 (T.map aP))]) 1 ?_ ?_
   ·exact ⟨by omega, fun i h h2 => by omega⟩
   ·rintro J j ⟨hj0, hj1⟩ hJ
    refine en aA 0 4 [] ?_
    refine si 0 rfl rfl (fun h17 => ?_) (fun h17 => ?_)
    ·have hj : j < T.length := by omega
     refine jH 0 0 [0, 0, 2, 7, 15, 31, 0, 0, 192, 448, 960, 2047, 4095] [0, 1, 2, 3, 4, 5, 6, 7, 8, 9, 10, 11, 12] ?_
     refine xd aA 3 [] ?_
     refine mB aA (j - 1) 1 [] (n := l.length) (z := (j : Int) - 1) (rows := T.map aP) (by omega) (by rw [List.length_map]; omega) (by rw [List.length_map]; omega) ?_
     refine drl aA (j - 1) 0 2 [] (row := aP (T[j - 1]'(by omega))) (rows := T.map aP) (by rw [List.getElem?_map, List.getElem?_eq_getElem (by omega)]; rfl) rfl ?_
     refine mB aA j 1 [] (n := l.length) (z := (j : Int)) (rows := T.map aP) rfl (by rw [List.length_map]; omega) (by rw [List.length_map]; omega) ?_
     refine drl aA j 0 0 [] (row := aP T[j]) (rows := T.map aP) (by simp [hj]) rfl ?_
     refine dc aA 1 [] (tW (l := (T[j - 1]'(by omega)).l) (m := T[j].l)) ?_
     refine xe ?_
     refine si 0 rfl rfl (fun h32 => ?_) (fun h32 => ?_)
     ·have e : aV l = ([], 8) := by
       unfold aV
       rw [if_neg e0, if_neg e1, ← hT, if_pos (BW hj0 hj h32)]
      refine wJ 0 (rows := T.map aP) ?_ ?_ (hr := fun r hr => by
       obtain ⟨n, _, rfl⟩ := List.mem_map.1 hr
       rfl)
      ·simp [hTl]
      refine en aA 0 2 [] ?_
      refine U8 [(2, .s 0 []), (3, nI 8)] ?_
      refine MJ 2 903 98 3 ?_
      refine TK 0 R ?_
      rw [e]; exact ⟨rfl, rfl⟩
     ·refine en aA 0 3 [] ?_
      refine sl 0 ?_
      exact hJ (j + 1) ⟨by omega, fun i h h2 => by
       by_cases hi : i + 1 < j
       ·exact hj1 i h hi
       ·have : i + 1 = j := by omega
        subst this
        exact h32⟩ (by omega)
    ·have hd : fX f6 T = false := BX (fun i h => hj1 i h (by omega))
     have e2 : aV l = if 200 < l.length then ([], 6) else (T, 0) := by
      unfold aV
      rw [if_neg e0, if_neg e1, ← hT, if_neg (by rw [hd]; decide)]
     refine en aA 0 3 [] ?_
     refine si 0 rfl rfl (fun h35 => ?_) (fun h35 => ?_)
     ·have e : aV l = ([], 6) := by rw [e2, if_pos (by omega)]
      refine wJ 0 (rows := T.map aP) ?_ ?_ (hr := fun r hr => by
       obtain ⟨n, _, rfl⟩ := List.mem_map.1 hr
       rfl)
      ·simp [hTl]
      refine en aA 0 2 [] ?_
      refine U8 [(2, .s 0 []), (3, nI 6)] ?_
      refine MJ 2 903 98 3 ?_
      refine TK 0 R ?_
      rw [e]; exact ⟨rfl, rfl⟩
     ·have e : aV l = (T, 0) := by rw [e2, if_neg (by omega)]
      refine en aA 0 3 [] ?_
      refine TK 0 R ?_
      rw [e]; exact ⟨by rw [hTl]; rfl, rfl⟩
theorem S4 {l : List Lb} {v : Lb} : Fc Tryz.prog gT 253 [rL l, .a (aY v)] (nI (jS (fun x => decide (v = x)) l)) := by
 refine fb aA (fn := Tryz.f253) 19 [.tmp 4] Tryz.func253 Tryz.results253 (fun g0 B0 Q ρ0 R => ?_)
 refine lM 0 rfl (fun hl => ?_)
 simp only [List.length_map] at hl
 refine en aA 0 2 [] ?_
 refine sz 3 ?_
 refine sn aA 0 3 [] ?_
 refine sl 0 ?_
 refine jG 7 rfl (v' := nI l.length) (by simp) ?_
 refine aD (σ := Nat) (fun j => j ≤ l.length ∧ ∀ x ∈ l.take j, decide (v = x) = false) (fun j => l.length - j)
  (fun j => [(0, rL l), (3, .p (aY v)), (4, nI 0), (7, nI l.length), (8, nI j)])
  (fun j => []) 0 ?_ ?_
 ·exact ⟨Nat.zero_le _, by simp⟩
 ·rintro J j ⟨hj0, hj1⟩ hJ
  refine en aA 0 1 [] ?_
  refine si 0 rfl rfl (fun h9 => ?_) (fun h9 => ?_)
  ·have hj : j < l.length := by omega
   refine en aA 0 2 [] ?_
   refine DZ 0 0 [0, 0, 0, 6, 14, 31] [0, 1, 2, 3, 4, 5] ?_
   refine xd aA 5 [aY l[j]] ?_ (hφ := by (repeat' refine And.intro ?_ ?_) <;> first | omega | exact aO _ hj | trivial)
   refine dsq aA 0 [] false (b := decide (v = l[j])) Tryz.underlying138 (by kernel_rfl) (fun w => KU _ _) ?_
   refine xe ?_
   refine bM 0 rfl rfl (fun h16 => ?_) (fun h16 => ?_)
   ·have e := iK (p := fun x => decide (v = x)) hj hj1 (by simpa [N4] using h16)
    refine en aA 0 2 [] ?_
    refine sr 0 R ?_
    rw [e]; rfl
   ·have hx : decide (v = l[j]) = false := by simpa [N4] using h16
    refine en aA 0 2 [] ?_
    refine sl 0 ?_
    exact hJ (j + 1) ⟨by omega, bH hj hj1 hx⟩ (by omega)
  ·have e := iJ (p := fun x => decide (v = x)) (fun x hx => hj1 x (by rw [List.take_of_length_le (by omega)]; exact hx))
   refine en aA 0 1 [] ?_
   refine sr 0 R ?_
   rw [e]; rfl
theorem NY {l : List Lb} {v : Lb} : Fc Tryz.prog gT 161 [rL l, .a (aY v)] (bS (decide (v ∈ l))) := by
 refine fb aA (fn := Tryz.f161) 9 [.tmp 4] Tryz.func161 Tryz.results161 (fun g0 B0 Q ρ0 R => ?_)
 refine en aA 0 2 [] ?_
 refine sn aA 0 2 [] ?_
 refine fc aA 2 [] (S4 (l := l) (v := v)) ?_
 refine sr 0 R ?_
 rw [← YD, ← kA]; rfl
theorem IO {x : Lb} {b : List Lb} : Fc Tryz.prog gT 160 [.a (aY x), .p [rL b]] (bS (!decide (x ∈ b))) := by
 refine fb aA (fn := Tryz.f160) 8 [.tmp 3] Tryz.func160 Tryz.results160 (fun g0 B0 Q ρ0 R => ?_)
 refine en aA 0 2 [] ?_
 refine sn aA 0 2 [] ?_
 refine fc aA 2 [] (NY (l := b) (v := x)) ?_
 refine sr 0 R ?_
 rfl
theorem AP {a b : List Lb} : Fc Tryz.prog gT 108 [rL a, rL b] (bS (a6 a b)) := by
 refine fb aA (fn := Tryz.f108) 9 [.tmp 4] Tryz.func108 Tryz.results108 (fun g0 B0 Q ρ0 R => ?_)
 refine en aA 0 2 [] ?_
 refine sz 3 ?_
 refine sn aA 0 2 [] ?_
 refine fc aA 2 [] (FS (l := a) (p := fun x => !decide (x ∈ b)) (fun v _ => IO)) ?_
 refine sr 0 R ?_
 rw [← H9]; rfl
theorem S5 {a b : List Lb} (ha : dQ a) (hb : dQ b) : Fc Tryz.prog gT 109 [rL a, rL b] (.t [rL (joinL a b).1, bS (joinL a b).2]) := by
 refine fb aA (fn := Tryz.f109) 47 [.tmp 4, .tmp 5] Tryz.func109 Tryz.results109 (fun g0 B0 Q ρ0 R => ?_)
 have ha16 := ha.few
 have hb16 := hb.few
 refine en aA 0 2 [] ?_
 refine sn aA 0 1 [] ?_
 refine TL aA 1 [] (AC (l := a) (by omega)) ?_
 refine sn aA 0 3 [] ?_
 refine sl 0 ?_
 refine jG 15 rfl (v' := nI b.length) (by simp) ?_
 refine jG 6 rfl (v' := .o 903 (a ++ (b.take 0).filter fun x => decide (bN a x.n = [])).length) (by simp) ?_
 refine c6 903 (mb' := .r 138 2 ((a ++ (b.take 0).filter fun x => decide (bN a x.n = [])).map aY)) ?_ ?_
 ·simp
 refine aD (σ := Nat) (fun i => i ≤ b.length ∧ ∀ x ∈ b.take i, (decide (¬ bN a x.n = []) && decide (¬ bN a x.n = x.v)) = false) (fun i => b.length - i)
  (fun i => [(0, rL a), (6, .o 903 (a ++ (b.take i).filter fun x => decide (bN a x.n = [])).length), (14, rL b), (15, nI b.length), (16, nI i)])
  (fun i => [(903, .r 138 2 ((a ++ (b.take i).filter fun x => decide (bN a x.n = [])).map aY))]) 0 ?_ ?_
 ·exact ⟨Nat.zero_le _, by simp⟩
 ·rintro J i ⟨hi0, hi1⟩ hJ
  refine en aA 0 1 [] ?_
  refine si 0 rfl rfl (fun h17 => ?_) (fun h17 => ?_)
  ·have hi : i < b.length := by omega
   refine en aA 0 4 [aY b[i]] ?_ (hφ := by exact ⟨by omega, aO _ hi⟩)
   refine sn aA 0 3 [] ?_
   refine fc aA 1 [] (get_ok (l := a) (n := b[i].n)) ?_
   refine sn aA 0 3 [] ?_
   refine si 0 rfl rfl (fun h24 => ?_) (fun h24 => ?_)
   ·have h24 : bN a b[i].n = [] := h24
    have hgo : (decide (¬ bN a b[i].n = []) && decide (¬ bN a b[i].n = b[i].v)) = false := by simp [h24]
    have efl : (a ++ (b.take (i + 1)).filter fun x => decide (bN a x.n = [])) = (a ++ (b.take i).filter fun x => decide (bN a x.n = [])) ++ [b[i]] := by rw [k0 hi, if_pos (decide_eq_true h24), List.append_assoc]
    refine en aA 0 3 [] ?_
    refine P1 aA 1 [] (rows := (a ++ (b.take i).filter fun x => decide (bN a x.n = [])).map aY) (by rw [List.length_map]) (fun _ => rfl) ?_ ?_
    ·simp only [List.length_map, List.length_append, List.length_cons, List.length_nil]
     have := List.length_filter_le (fun x : Lb => decide (bN a x.n = [])) (b.take i)
     rw [List.length_take] at this
     show _ * 32 ≤ _
     omega
    refine jR 6 rfl (v' := .o 903 (a ++ (b.take (i + 1)).filter fun x => decide (bN a x.n = [])).length) (by rw [efl]; simp) ?_
    refine uC 903 (mb' := .r 138 2 ((a ++ (b.take (i + 1)).filter fun x => decide (bN a x.n = [])).map aY)) ?_ ?_
    ·rw [efl]; simp; rfl
    refine sn aA 0 2 [] ?_
    refine sl 0 ?_
    exact hJ (i + 1) ⟨by omega, bH (P := fun x => (decide (¬ bN a x.n = []) && decide (¬ bN a x.n = x.v)) = false) hi hi1 hgo⟩ (by omega)
   ·have h24 : ¬ bN a b[i].n = [] := h24
    have efl : (a ++ (b.take (i + 1)).filter fun x => decide (bN a x.n = [])) = (a ++ (b.take i).filter fun x => decide (bN a x.n = [])) := by rw [k0 hi, if_neg (by simpa using h24), List.append_nil]
    refine en aA 0 5 [] ?_
    refine sq aA 1 [] true (b := decide ((⟨b[i].n, bN a b[i].n⟩ : Lb) = b[i])) Tryz.underlying138 (by kernel_rfl) (fun w => KU _ _) ?_
    refine bM 0 rfl rfl (fun h31 => ?_) (fun h31 => ?_)
    ·have e : joinL a b = ([], false) := by
      unfold joinL
      rw [if_pos]
      refine List.any_eq_true.2 ⟨b[i], List.getElem_mem hi, ?_⟩
      have hv : ¬ bN a b[i].n = b[i].v := fun hv => by rw [hv] at h31; simp [N4] at h31
      simp [hv, h24]
     refine en aA 0 2 [] ?_
     refine uB 4 rfl (v' := rL []) (fun _ _ _ h => cS (by decide) h) ?_
     refine sr 0 R ?_
     rw [e]; rfl
    ·have hv : bN a b[i].n = b[i].v := by
      have : (⟨b[i].n, bN a b[i].n⟩ : Lb) = b[i] := by simpa [N4] using h31
      exact congrArg Lb.v this
     have hgo : (decide (¬ bN a b[i].n = []) && decide (¬ bN a b[i].n = b[i].v)) = false := by simp [hv]
     refine jG 6 rfl (v' := .o 903 (a ++ (b.take (i + 1)).filter fun x => decide (bN a x.n = [])).length) (by rw [efl]) ?_
     refine c6 903 (mb' := .r 138 2 ((a ++ (b.take (i + 1)).filter fun x => decide (bN a x.n = [])).map aY)) ?_ ?_
     ·rw [efl]
     refine en aA 0 2 [] ?_
     refine sl 0 ?_
     exact hJ (i + 1) ⟨by omega, bH (P := fun x => (decide (¬ bN a x.n = []) && decide (¬ bN a x.n = x.v)) = false) hi hi1 hgo⟩ (by omega)
  ·have hib : b.take i = b := List.take_of_length_le (by omega)
   rw [hib] at hi1 ⊢
   have hany : ¬ b.any (fun x => decide (¬ bN a x.n = []) && decide (¬ bN a x.n = x.v)) = true := by
    rw [Bool.not_eq_true, List.any_eq_false]
    intro x hx
    rw [hi1 x hx]
    decide
   have e : joinL a b = ((gW (a ++ b.filter fun x => decide (bN a x.n = []))).1, decide ((gW (a ++ b.filter fun x => decide (bN a x.n = []))).2 = 0)) := if_neg hany
   refine wJ 6 (rows := (a ++ b.filter fun x => decide (bN a x.n = [])).map aY) ?_ ?_ (hr := fun r hr => by
    obtain ⟨n, _, rfl⟩ := List.mem_map.1 hr
    rfl)
   ·rw [List.length_map]
   refine en aA 0 1 [] ?_
   refine fc aA 5 [] (FT (VA ha hb)) ?_
   refine sn aA 0 5 [] ?_
   refine sr 0 R ?_
   rw [e]; rfl
theorem map_ok {op : Bytes} {l : List Se} (hb : ∀ s ∈ l, fO s.l) (hl : l.length * 40 ≤ 140737488351232) : Fc Tryz.prog gT 56 [.str op, cI l] (.t [cI (jT op l).1, nI (jT op l).2]) := by
 refine fb aA (fn := Tryz.f56) 43 [.tmp 4, .tmp 5] Tryz.func56 Tryz.results56 (fun g0 B0 Q ρ0 R => ?_)
 refine en aA 0 2 [] ?_
 refine sn aA 0 1 [] ?_
 refine TL aA 5 [] (oH hb hl) ?_
 obtain ⟨p, hp⟩ : ∃ q, q = (aV l).1 := ⟨_, rfl⟩
 obtain ⟨er, her⟩ : ∃ q, q = (aV l).2 := ⟨_, rfl⟩
 rw [← hp, ← her]
 refine sn aA 0 3 [] ?_
 refine si 0 rfl rfl (fun h14 => ?_) (fun h14 => ?_)
 ·have e : jT op l = ([], er) := by unfold jT; rw [← her, if_pos h14]
  refine en aA 0 3 [] ?_
  refine uB 4 rfl (v' := cI []) (fun _ _ _ h => cS (by decide) h) ?_
  refine sr 0 R ?_
  rw [e]; rfl
 ·have h0 : er = 0 := by simpa using h14
  refine en aA 0 1 [] ?_
  refine fc aA 2 [] (NE (op := op)) ?_
  refine bM 0 rfl rfl (fun h18 => ?_) (fun h18 => ?_)
  ·have e : jT op l = ([], 2) := by
    unfold jT
    rw [← her, if_neg h14, if_pos (by simpa using h18)]
   refine en aA 0 2 [] ?_
   refine uB 4 rfl (v' := cI []) (fun _ _ _ h => cS (by decide) h) ?_
   refine sr 0 R ?_
   rw [e]; rfl
  ·have hk : (mA op [aK 0]).2 = 0 := by simpa using h18
   have hfr : rE p := by rw [hp]; exact (jE (by rw [← her]; exact h0)).1
   have hfw := hfr.few
   have e : jT op l = (p.map fun s => ⟨s.l, (mA op [s.v]).1⟩, 0) := by
    unfold jT
    rw [← her, if_neg h14, if_neg (by simpa using hk), hp]
   obtain ⟨f, hf⟩ : ∃ f : Se → Se, f = fun s => ⟨s.l, (mA op [s.v]).1⟩ := ⟨_, rfl⟩
   rw [← hf] at e
   refine en aA 0 3 [] ?_
   refine sl 0 ?_
   refine c6 903 (mb' := .r 98 3 ((pF f p 0).map aP)) ?_ ?_
   ·rw [YF]
   refine aD (σ := Nat) (fun j => j ≤ p.length) (fun j => p.length - j)
    (fun j => [(0, .str op), (1, .o 903 p.length), (22, .o 903 p.length), (23, nI p.length), (24, nI j)])
    (fun j => [(903, .r 98 3 ((pF f p j).map aP))]) 0 ?_ ?_
   ·exact Nat.zero_le _
   ·rintro J j hj0 hJ
    refine en aA 0 1 [] ?_
    refine si 0 rfl rfl (fun h25 => ?_) (fun h25 => ?_)
    ·have hj : j < p.length := by omega
     refine en aA 0 1 [] ?_
     refine sri aA j (rows := (pF f p j).map aP) rfl (by rw [List.length_map, rF]; exact hj) (by rw [List.length_map, rF]) ?_
     refine srl aA j 0 (row := aP p[j]) (KI hj) ?_
     refine go aA 3 [] ?_
     refine sn aA 0 6 [] ?_
     refine fc aA 3 [] (B9 (op := op) (l := [p[j].v])) ?_
     refine sri aA j (rows := (pF f p j).map aP) rfl (by rw [List.length_map, rF]; exact hj) (by rw [List.length_map, rF]) ?_
     refine go aA 1 [] ?_
     refine srs aA j 1 (row := aP p[j]) (KI hj) ?_
     refine sn aA 0 2 [] ?_
     refine sl 0 ?_
     refine c6 903 (mb' := .r 98 3 ((pF f p (j + 1)).map aP)) ?_ ?_
     ·rw [← QT hj rfl, hf]; rfl
     exact hJ (j + 1) (by omega) (by omega)
    ·have hj : j = p.length := by omega
     subst hj
     refine c6 903 (mb' := .r 98 3 ((p.map f).map aP)) ?_ ?_
     ·rw [QS]
     refine en aA 0 3 [] ?_
     refine BH 4 (rows := (p.map f).map aP) ?_ ?_ (hr := fun r hr => by
      obtain ⟨n, _, rfl⟩ := List.mem_map.1 hr
      rfl)
     ·simp
     refine sr 0 R ?_
     rw [e]; rfl
end Go.Proofs.YtomkgfdigldhcaaGreatDoor
