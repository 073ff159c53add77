/- HJ HK HP BZ RL RM RN RW RE. -/
import Derived.Test.YtomkgfdigldhcaaGreatDoorLIO
import Derived.ProofKit
import Derived.OpenShut
import Derived.Test.YtomkgfdigldhcaaGreatDoorRows
import Derived.Lib.LaidU8
import Derived.Shelf.Vars
import Derived.Handed
import Derived.Lay
import Derived.MakeChecks
import Derived.HandedShaped
import Derived.Stop.Joined
import Derived.JoinedOf
set_option maxRecDepth 100000
namespace Go.Proofs.YtomkgfdigldhcaaGreatDoor
open Go.KX
set_option maxHeartbeats 1000000 in
theorem WN {op : Bytes} {a b : List Se} (ha : ∀ s ∈ a, fO s.l) (hla : a.length * 40 ≤ 140737488351232) (hb : ∀ s ∈ b, fO s.l) (hlb : b.length * 40 ≤ 140737488351232) : Fc Tryz.prog gT 57 [.str op, cI a, cI b] (.t [cI (dO op a b).1, nI (dO op a b).2]) := by
 refine fb aA (fn := Tryz.f57) 93 [.tmp 6, .tmp 7] Tryz.func57 Tryz.results57 (fun g0 B0 Q ρ0 R => ?_)
 refine en aA 0 2 [] ?_
 refine sn aA 0 1 [] ?_
 refine TL aA 5 [] (oH ha hla) ?_
 obtain ⟨p, hp⟩ : ∃ q, q = (aV a).1 := ⟨_, rfl⟩
 obtain ⟨er, her⟩ : ∃ q, q = (aV a).2 := ⟨_, rfl⟩
 rw [← hp, ← her]
 refine sn aA 0 2 [] ?_
 refine si 0 rfl rfl (fun h22 => ?_) (fun h22 => ?_)
 ·have e : dO op a b = ([], er) := by unfold dO; rw [← her, if_pos h22]
  refine en aA 0 3 [] ?_
  refine uB 6 rfl (v' := cI []) (fun _ _ _ h => cS (by decide) h) ?_
  refine sr 0 R ?_
  rw [e]; rfl
 ·have h0 : er = 0 := by simpa using h22
  have hfp : rE p := by rw [hp]; exact (jE (by rw [← her]; exact h0)).1
  have hfpw := hfp.few
  refine wJ 1 (rows := p.map aP) ?_ ?_ (hr := fun r hr => by
   obtain ⟨n, _, rfl⟩ := List.mem_map.1 hr
   rfl)
  ·rw [List.length_map]
  refine X4 16 ?_
  refine X4 18 ?_
  refine X4 19 ?_
  refine en aA 0 1 [] ?_
  refine TL aA 5 [] ((oH hb hlb).ren 904) ?_
  obtain ⟨q, hq⟩ : ∃ q, q = (aV b).1 := ⟨_, rfl⟩
  obtain ⟨er2, her2⟩ : ∃ q, q = (aV b).2 := ⟨_, rfl⟩
  rw [← hq, ← her2]
  refine sn aA 0 3 [] ?_
  refine si 0 rfl rfl (fun h29 => ?_) (fun h29 => ?_)
  ·have e : dO op a b = ([], er2) := by unfold dO; rw [← her, if_neg h22, ← her2, if_pos h29]
   refine en aA 0 3 [] ?_
   refine uB 6 rfl (v' := cI []) (fun _ _ _ h => cS (by decide) h) ?_
   refine sr 0 R ?_
   rw [e]; rfl
  ·refine en aA 0 1 [] ?_
   refine fc aA 2 [] (NT (op := op)) ?_
   refine bM 0 rfl rfl (fun h33 => ?_) (fun h33 => ?_)
   ·have e : dO op a b = ([], 2) := by
     unfold dO
     rw [← her, if_neg h22, ← her2, if_neg h29, if_pos (by simpa using h33)]
    refine en aA 0 2 [] ?_
    refine uB 6 rfl (v' := cI []) (fun _ _ _ h => cS (by decide) h) ?_
    refine sr 0 R ?_
    rw [e]; rfl
   ·have hk : (mA op [aK 0, aK 0]).2 = 0 := by simpa using h33
    have hfq : rE q := by rw [hq]; exact (jE (by rw [← her2]; simpa using h29)).1
    have hfqw := hfq.few
    have e : dO op a b = aV (aQ op p q) := by
     unfold dO
     rw [← her, if_neg h22, ← her2, if_neg h29, if_neg (by simpa using hk), hp, hq]
    have hpb := zV (op := op) hfp hfq
    refine wJ 2 (rows := q.map aP) ?_ ?_ (hr := fun r hr => by
     obtain ⟨n, _, rfl⟩ := List.mem_map.1 hr
     rfl)
    ·rw [List.length_map]
    refine en aA 0 3 [] ?_
    refine sl 0 ?_
    refine HQ 6 905 98 3 ?_
    refine jG 38 rfl (v' := nI p.length) (by simp) ?_
    refine aD (σ := Nat) (fun i => i ≤ p.length) (fun i => p.length - i)
     (fun i => [(0, .str op), (2, cI q), (6, .o 905 (aQ op (p.take i) q).length), (37, cI p), (38, nI p.length), (39, nI i)])
     (fun i => [(905, .r 98 3 ((aQ op (p.take i) q).map aP))]) 0 ?_ ?_
    ·exact Nat.zero_le _
    ·rintro J i hi0 hO
     refine en aA 0 1 [] ?_
     refine si 0 rfl rfl (fun h40 => ?_) (fun h40 => ?_)
     ·have hi : i < p.length := by omega
      refine en aA 0 4 [aP p[i]] ?_ (hφ := by exact ⟨by omega, aO _ hi⟩)
      refine sn aA 0 3 [] ?_
      refine sl 0 ?_
      refine jG 44 rfl (v' := nI q.length) (by simp) ?_
      refine jG 6 rfl (v' := .o 905 (aQ op (p.take i) q ++ rowP op p[i] (q.take 0)).length) (by simp [rowP]) ?_
      refine c6 905 (mb' := .r 98 3 ((aQ op (p.take i) q ++ rowP op p[i] (q.take 0)).map aP)) ?_ ?_
      ·simp [rowP]
      refine aD (σ := Nat) (fun k => k ≤ q.length) (fun k => q.length - k)
       (fun k => [(0, .str op), (2, cI q), (6, .o 905 (aQ op (p.take i) q ++ rowP op p[i] (q.take k)).length), (9, .l 9 0), (37, cI p), (38, nI p.length), (39, nI i), (43, cI q), (44, nI q.length), (45, nI k)])
       (fun k => [(9, .c 98 (aP p[i])), (905, .r 98 3 ((aQ op (p.take i) q ++ rowP op p[i] (q.take k)).map aP))]) 0 ?_ ?_
      ·exact Nat.zero_le _
      ·rintro J k hk0 hI
       refine en aA 0 1 [] ?_
       refine si 0 rfl rfl (fun h46 => ?_) (fun h46 => ?_)
       ·have hk2 : k < q.length := by omega
        have hrl := KL op p[i] (q.take k)
        have hpl := oZ (op := op) (a := p.take i) (b := q)
        rw [List.length_take] at hrl hpl
        have hpl2 : min i p.length * q.length ≤ 200 * 200 := Nat.mul_le_mul (by omega) hfqw
        refine en aA 0 4 [aP q[k]] ?_ (hφ := by exact ⟨by omega, aO _ hk2⟩)
        refine sn aA 0 4 [] ?_
        refine fc aA 6 [] (AP (a := p[i].l) (b := q[k].l)) ?_
        refine fg aA 2 [] (fun hg => AP (a := q[k].l) (b := p[i].l)) ?_
        refine bM 0 rfl rfl (fun h62 => ?_) (fun h62 => ?_)
        ·have hw : (a6 p[i].l q[k].l || a6 q[k].l p[i].l) = false := by
          simp only [Bool.and_eq_true, Bool.not_eq_true'] at h62
          rw [h62.1, h62.2]
          rfl
         have efl : (aQ op (p.take i) q ++ rowP op p[i] (q.take (k + 1))) = (aQ op (p.take i) q ++ rowP op p[i] (q.take k)) := by rw [QU hk2 hw]
         refine jG 6 rfl (v' := .o 905 (aQ op (p.take i) q ++ rowP op p[i] (q.take (k + 1))).length) (by rw [efl]) ?_
         refine c6 905 (mb' := .r 98 3 ((aQ op (p.take i) q ++ rowP op p[i] (q.take (k + 1))).map aP)) ?_ ?_
         ·rw [efl]
         refine en aA 0 2 [] ?_
         refine sl 0 ?_
         exact hI (k + 1) (by omega) (by omega)
        ·have hw : (a6 p[i].l q[k].l || a6 q[k].l p[i].l) = true := by
          cases h1 : a6 p[i].l q[k].l
          ·cases h2 : a6 q[k].l p[i].l
           ·rw [h1, h2] at h62; simp at h62
           ·rfl
          ·rfl
         have efl : (aQ op (p.take i) q ++ rowP op p[i] (q.take (k + 1))) = (aQ op (p.take i) q ++ rowP op p[i] (q.take k)) ++ [⟨(joinL p[i].l q[k].l).1, (mA op [p[i].v, q[k].v]).1⟩] := by rw [KJ hk2 hw, List.append_assoc]
         refine en aA 0 4 [] ?_
         refine fc aA 5 [] (S5 (hfp.set _ (List.getElem_mem hi)) (hfq.set _ (List.getElem_mem hk2))) ?_
         refine sn aA 0 6 [] ?_
         refine fc aA 6 [] (B9 (op := op) (l := [p[i].v, q[k].v])) ?_
         refine sn aA 0 5 [] ?_
         refine P1 aA 1 [] (rows := (aQ op (p.take i) q ++ rowP op p[i] (q.take k)).map aP) (by rw [List.length_map]) (fun _ => rfl) ?_ ?_
         ·simp only [List.length_map, List.length_append, List.length_cons, List.length_nil]
          show _ * 40 ≤ _
          omega
         refine jR 6 rfl (v' := .o 905 (aQ op (p.take i) q ++ rowP op p[i] (q.take (k + 1))).length) (by rw [efl]; simp <;> rfl) ?_
         refine uC 905 (mb' := .r 98 3 ((aQ op (p.take i) q ++ rowP op p[i] (q.take (k + 1))).map aP)) ?_ ?_
         ·rw [efl]; simp <;> rfl
         refine sn aA 0 2 [] ?_
         refine sl 0 ?_
         exact hI (k + 1) (by omega) (by omega)
       ·have hkq : k = q.length := by omega
        subst hkq
        have efl : (aQ op (p.take (i + 1)) q) = (aQ op (p.take i) q ++ rowP op p[i] (q.take q.length)) := by rw [xI hi, List.take_of_length_le (Nat.le_refl _)]
        refine jG 6 rfl (v' := .o 905 (aQ op (p.take (i + 1)) q).length) (by rw [efl]) ?_
        refine c6 905 (mb' := .r 98 3 ((aQ op (p.take (i + 1)) q).map aP)) ?_ ?_
        ·rw [efl]
        refine en aA 0 2 [] ?_
        refine sl 0 ?_
        exact hO (i + 1) (by omega) (by omega)
     ·have hip : p.take i = p := List.take_of_length_le (by omega)
      rw [hip]
      refine wJ 6 (rows := (aQ op p q).map aP) ?_ ?_ (hr := fun r hr => by
       obtain ⟨n, _, rfl⟩ := List.mem_map.1 hr
       rfl)
      ·rw [List.length_map]
      refine en aA 0 1 [] ?_
      refine TL aA 4 [] ((oH hpb.1 (by omega)).ren 906) ?_
      refine BH 6 (rows := (aV (aQ op p q)).1.map aP) ?_ ?_ (hr := fun r hr => by
       obtain ⟨n, _, rfl⟩ := List.mem_map.1 hr
       rfl)
      ·rw [List.length_map]
      refine sr 0 R ?_
      rw [e]; rfl
end Go.Proofs.YtomkgfdigldhcaaGreatDoor
namespace Go.Proofs.YtomkgfdigldhcaaGreatDoor
open Go.KX
theorem AQ {l : List (Bytes × List Se)} : Fc Tryz.prog gT 54 [qD l] (.f 96 [] [.p [qD l]]) := by
 refine fb aA (fn := Tryz.f54) 4 [.tmp 2] Tryz.func54 Tryz.results54 (fun g0 B0 Q ρ0 R => ?_)
 refine en aA 0 2 [] ?_
 refine sz 1 ?_
 refine sn aA 0 2 [] ?_
 refine sr 0 R ?_
 rfl
theorem x9 {l : List (Bytes × List Se)} (hl : l.length ≤ 1000000) : Itr Tryz.prog gT 96 [.p [qD l]] (Y9 MX l) := by
 refine aA4 aA (fn := Tryz.f96) 19 Tryz.func96 Tryz.results96 (fun lp R hR g0 B0 Q ρ0 ms0 RR => ?_)
 rw [rG] at RR
 refine en aA 0 4 [] ?_
 refine sl 0 ?_
 refine jG 3 rfl (v' := nI ((l.length : Int) - 1 - (0 : Nat))) (by simp) ?_
 refine JL (σ := Nat × List aH) (fun st => st.1 ≤ l.length) (fun st => l.length - st.1)
  (fun st => [(0, .v (.func (.yield lp) #[] #[])), (1, .p [qD l]), (3, nI ((l.length : Int) - 1 - st.1))])
  (fun st => R.f st.1 st.2 :: gT) (fun st => st.2) (0, ms0) ?_ ?_
 ·exact Nat.zero_le _
 ·rintro J ⟨j, ms⟩ hj0 hJ
  dsimp only at hj0 ⊢
  refine en aA 0 2 [] ?_
  refine si 0 rfl rfl (fun h8 => ?_) (fun h8 => ?_)
  ·have hj : j < l.length := by omega
   refine en aA 0 6 [MX (l[l.length - 1 - j]'(by omega))] ?_ (hφ := by exact ⟨by omega, B5 (by omega)⟩)
   refine yw hR (B2 hj) (fun ms2 => ?_) (fun ms2 => ?_)
   ·refine go aA 1 [] ?_
    refine sn aA 1 3 [] ?_
    refine sl 0 ?_
    exact hJ (j + 1, ms2) (by dsimp only; omega) (by dsimp only; omega)
   ·refine go aA 1 [] ?_
    refine sl 1 ?_
    exact RR.retx
  ·have ej : j = l.length := by omega
   subst ej
   refine el 0 ?_
   exact RR.fall
theorem WO {l : List (Bytes × List Se)} (hB : yQ l) {n : Bytes} {fr : List Se} (h : aM l n = some fr) : Fc Tryz.prog gT 16 [.a [nI 2, .str n, nI 0, nI 0, .s 0 []], qD l] (.t [cI (aV fr).1, nI (aV fr).2]) := by
 refine fbm aA (fn := Tryz.f16) 79 [.cell 4 32, .cell 5 33] Tryz.func16 Tryz.results16 (fun g0 B0 Q ρ0 R RM => ?_)
 refine en aA 0 3 [] ?_
 refine sn aA 0 2 [] ?_
 refine sn aA 0 2 [] ?_
 refine sn aA 1 2 [] ?_
 refine sz 2 ?_
 refine sn aA 1 1 [] ?_
 refine fc aA 0 [] (AQ (l := l)) ?_
 refine sl 0 ?_
 refine JM (ι := Unit) (fun j => TO l n j) (fun _ => [(5, .c 33 [nI (aV fr).2]), (4, .c 32 [cI (aV fr).1])]) (x9 hB.len) (fun j av hj lp g1 B1 ρ1 Q1 Q2 own1 own2 J hJ hE hX => ?_) (fun D => ?_) (fun D i => ?_) (fun a ha => (u3 a ha).1) (fun a ha => (u3 a ha).2)
 ·have hjl : j < l.length := by
   have := (List.getElem?_eq_some_iff.1 hj).1
   rwa [rG] at this
  rw [B2 hjl] at hj
  cases hj
  show E _ _ _ (P5 (TO l n j)) _ _
  have hb : f7 l n j = true ∨ f7 l n j = false := by cases f7 l n j <;> simp
  rcases hb with hb | hb
  rotate_left
  ·rw [QV hb]
   exact QA (fun g ρ ms => BN)
  rw [FM hb]
  refine en aA 0 2 [] ?_
  refine sl 0 ?_
  refine hJ ?_
  refine en aA 0 5 [] ?_
  refine si 0 rfl rfl (fun h30 => ?_) (fun h30 => ?_)
  ·have ev : (l[l.length - 1 - j]'(by omega)).2 = fr := by
    have := FN hjl hb h30
    rw [h] at this
    cases this
    rfl
   have hbf := hB.se _ (List.getElem_mem (show l.length - 1 - j < l.length by omega))
   rw [ev] at hbf
   have e2 : cI (l[l.length - 1 - j]'(by omega)).2 = cI fr := by rw [ev]
   refine en aA 0 0 [] ?_
   refine go aA 2 [] ?_
   refine jR 32 rfl e2 ?_
   refine TL aA 2 [] (oH hbf.1 hbf.2) ?_
   refine BH 34 (rows := (aV fr).1.map aP) ?_ ?_ (hr := fun r hr => by
    obtain ⟨n, _, rfl⟩ := List.mem_map.1 hr
    rfl)
   ·rw [List.length_map]
   refine go aA 2 [] ?_
   refine sl 0 ?_
   exact hX () rfl
  ·refine el 0 ?_
   exact hE (by rw [FM (pZ hjl hb h30)]; rfl)
 ·rw [rG]
  show E _ _ _ (TO l n l.length) _ _
  rw [QV (MY h)]
  exact QA (fun g ρ ms => BN)
 ·refine erm 0 (RM D) ?_
  rfl
theorem WP {l : List (Bytes × List Se)} (hB : yQ l) {n : Bytes} (h : aM l n = none) : Fc Tryz.prog gT 16 [.a [nI 2, .str n, nI 0, nI 0, .s 0 []], qD l] (.t [cI [], nI 7]) := by
 refine fbm aA (fn := Tryz.f16) 79 [.cell 4 32, .cell 5 33] Tryz.func16 Tryz.results16 (fun g0 B0 Q ρ0 R RM => ?_)
 refine en aA 0 3 [] ?_
 refine sn aA 0 2 [] ?_
 refine sn aA 0 2 [] ?_
 refine sn aA 1 2 [] ?_
 refine sz 2 ?_
 refine sn aA 1 1 [] ?_
 refine fc aA 0 [] (AQ (l := l)) ?_
 refine sl 0 ?_
 refine JM (ι := Empty) (fun j => TO l n j) (fun _ => []) (x9 hB.len) (fun j av hj lp g1 B1 ρ1 Q1 Q2 own1 own2 J hJ hE hX => ?_) (fun D => ?_) (fun D i => ?_) (fun a ha => (u3 a ha).1) (fun a ha => (u3 a ha).2)
 ·have hjl : j < l.length := by
   have := (List.getElem?_eq_some_iff.1 hj).1
   rwa [rG] at this
  rw [B2 hjl] at hj
  cases hj
  show E _ _ _ (P5 (TO l n j)) _ _
  have hb : f7 l n j = true ∨ f7 l n j = false := by cases f7 l n j <;> simp
  rcases hb with hb | hb
  rotate_left
  ·rw [QV hb]
   exact QA (fun g ρ ms => BN)
  rw [FM hb]
  refine en aA 0 2 [] ?_
  refine sl 0 ?_
  refine hJ ?_
  refine en aA 0 5 [] ?_
  refine si 0 rfl rfl (fun h30 => ?_) (fun h30 => ?_)
  ·exact absurd h30 (zX h _ (List.getElem_mem (show l.length - 1 - j < l.length by omega)))
  ·refine el 0 ?_
   exact hE (by rw [FM (pZ hjl hb h30)]; rfl)
 ·rw [rG]
  have hna : f7 l n l.length = true := by
   unfold f7
   rw [List.all_eq_true]
   intro x hx
   have := zX h x (List.mem_reverse.1 (List.mem_of_mem_take hx))
   simpa using this
  show E _ _ _ (TO l n l.length) _ _
  rw [FM hna]
  refine en aA 0 2 [] ?_
  refine sbn 4 (mb' := .c 32 [cI []]) (fun _ _ _ h => u2 (by decide) h) ?_
  refine srm 0 (RM D) ?_
  rfl
 ·exact i.elim
theorem YV {l : List (Bytes × List Se)} {v : Val} : Fc Tryz.prog gT 16 [.a [nI 1, .str [], nI v.k, nI v.n, .s 0 []], qD l] (.t [cI [⟨[], v⟩], nI 0]) := by
 refine fbm aA (fn := Tryz.f16) 79 [.cell 4 32, .cell 5 33] Tryz.func16 Tryz.results16 (fun g0 B0 Q ρ0 R RM => ?_)
 refine en aA 0 3 [] ?_
 refine sn aA 0 2 [] ?_
 refine sn aA 0 2 [] ?_
 refine sn aA 1 2 [] ?_
 refine fc aA 2 [] (IH (v := v)) ?_
 refine sbn 4 (mb' := .c 32 [cI [⟨[], v⟩]]) (fun _ _ _ h => VB h) ?_
 refine sr 0 R ?_
 rfl
theorem S6 {l : List (Bytes × List Se)} (hB : yQ l) {o : Bytes} {a : Ex} (iha : Fc Tryz.prog gT 16 [eD a, qD l] (.t [cI (cN (aM l) a).1, nI (cN (aM l) a).2])) (hba : (∀ s ∈ (cN (aM l) a).1, fO s.l) ∧ (cN (aM l) a).1.length * 40 ≤ jZ) : Fc Tryz.prog gT 16 [.a [nI 3, .str o, nI 0, nI 0, .s 5 [kP a]], qD l] (.t [cI (cN (aM l) (eU o [a])).1, nI (cN (aM l) (eU o [a])).2]) := by
 refine fbm aA (fn := Tryz.f16) 79 [.cell 4 32, .cell 5 33] Tryz.func16 Tryz.results16 (fun g0 B0 Q ρ0 R RM => ?_)
 obtain ⟨A, hA⟩ : ∃ q, q = cN (aM l) a := ⟨_, rfl⟩
 rw [← hA] at iha hba
 have e0 := rH (aM l) o a
 rw [← hA] at e0
 refine en aA 0 3 [] ?_
 refine sn aA 0 2 [] ?_
 refine sn aA 0 2 [] ?_
 refine sn aA 1 2 [] ?_
 refine sn aA 1 1 [] ?_
 refine sz 2 ?_
 refine sn aA 0 4 [] ?_
 refine sl 0 ?_
 refine HQ 8 903 32 1 ?_
 refine aD (σ := Nat) (fun j => j ≤ 1 ∧ (j = 1 → A.2 = 0)) (fun j => 1 - j)
  (fun j => [(1, qD l), (2, .p [nI 3, .str o, nI 0, nI 0, .s 5 [kP a]]), (4, .l 4 0), (5, .l 5 0), (8, .o 903 (List.replicate j [cI A.1]).length), (37, .s 5 [kP a]), (38, nI 1), (39, nI j)])
  (fun j => [(903, .r 32 1 (List.replicate j [cI A.1])), (5, .c 33 [nI 0]), (4, .c 32 [.s 0 []])]) 0 ?_ ?_
 ·exact ⟨Nat.zero_le _, fun h => by omega⟩
 ·rintro J j ⟨hj0, hj1⟩ hJ
  refine en aA 0 1 [] ?_
  refine si 0 rfl rfl (fun h40 => ?_) (fun h40 => ?_)
  ·have hj : j = 0 := by omega
   subst hj
   refine en aA 0 4 [kP a] ?_
   refine sn aA 0 2 [] ?_
   refine fc aA 5 [] (iha) ?_
   refine sn aA 0 2 [] ?_
   refine si 0 rfl rfl (fun h50 => ?_) (fun h50 => ?_)
   ·have e : cN (aM l) (eU o [a]) = ([], A.2) := by rw [e0, if_pos h50]
    refine en aA 0 3 [] ?_
    refine sbn 4 (mb' := .c 32 [cI []]) (fun _ _ _ h => u2 (by decide) h) ?_
    refine sr 0 R ?_
    rw [e]; rfl
   ·refine en aA 0 3 [] ?_
    refine P1 aA 1 [] rfl (fun _ => rfl) ?_ ?_
    ·simp
    refine sn aA 0 2 [] ?_
    refine sl 0 ?_
    exact hJ 1 ⟨by omega, fun _ => by simpa using h50⟩ (by omega)
  ·have hj : j = 1 := by omega
   subst hj
   have e : cN (aM l) (eU o [a]) = jT o A.1 := by rw [e0, if_neg (by simpa using hj1 rfl)]
   refine wJ 8 (rows := [[cI A.1]]) rfl ?_ (hr := by simp)
   refine en aA 0 3 [] ?_
   refine DZ 1 768 [0, 1, 0, 4, 12, 31, 63, 63, 255, 511] [0, 1, 2, 3, 4, 5, 6, 7, 8, 9] ?_
   refine xd aA 5 [[cI A.1]] ?_
   refine dc aA 4 [] (map_ok (op := o) hba.1 hba.2) ?_
   refine xe ?_
   refine sr 0 R ?_
   rw [e]; rfl
theorem YW {l : List (Bytes × List Se)} (hB : yQ l) {o : Bytes} {a b : Ex} (iha : Fc Tryz.prog gT 16 [eD a, qD l] (.t [cI (cN (aM l) a).1, nI (cN (aM l) a).2])) (hba : (∀ s ∈ (cN (aM l) a).1, fO s.l) ∧ (cN (aM l) a).1.length * 40 ≤ jZ) (ihb : Fc Tryz.prog gT 16 [eD b, qD l] (.t [cI (cN (aM l) b).1, nI (cN (aM l) b).2])) (hbb : (∀ s ∈ (cN (aM l) b).1, fO s.l) ∧ (cN (aM l) b).1.length * 40 ≤ jZ) : Fc Tryz.prog gT 16 [.a [nI 3, .str o, nI 0, nI 0, .s 5 [kP a, kP b]], qD l] (.t [cI (cN (aM l) (eU o [a, b])).1, nI (cN (aM l) (eU o [a, b])).2]) := by
 refine fbm aA (fn := Tryz.f16) 79 [.cell 4 32, .cell 5 33] Tryz.func16 Tryz.results16 (fun g0 B0 Q ρ0 R RM => ?_)
 obtain ⟨A, hA⟩ : ∃ q, q = cN (aM l) a := ⟨_, rfl⟩
 obtain ⟨B, hB2⟩ : ∃ q, q = cN (aM l) b := ⟨_, rfl⟩
 rw [← hA] at iha hba
 rw [← hB2] at ihb hbb
 have e0 := B6 (aM l) o a b
 rw [← hA, ← hB2] at e0
 refine en aA 0 3 [] ?_
 refine sn aA 0 2 [] ?_
 refine sn aA 0 2 [] ?_
 refine sn aA 1 2 [] ?_
 refine sn aA 1 1 [] ?_
 refine sz 2 ?_
 refine sn aA 0 4 [] ?_
 refine sl 0 ?_
 refine HQ 8 903 32 1 ?_
 refine aD (σ := Nat) (fun j => j ≤ 2 ∧ (1 ≤ j → A.2 = 0) ∧ (2 ≤ j → B.2 = 0)) (fun j => 2 - j)
  (fun j => [(1, qD l), (2, .p [nI 3, .str o, nI 0, nI 0, .s 5 [kP a, kP b]]), (4, .l 4 0), (5, .l 5 0), (8, .o 903 (List.take j [[cI A.1], [cI B.1]]).length), (37, .s 5 [kP a, kP b]), (38, nI 2), (39, nI j)])
  (fun j => [(903, .r 32 1 (List.take j [[cI A.1], [cI B.1]])), (5, .c 33 [nI 0]), (4, .c 32 [.s 0 []])]) 0 ?_ ?_
 ·exact ⟨Nat.zero_le _, fun h => by omega, fun h => by omega⟩
 ·rintro J j ⟨hj0, hj1, hj2⟩ hJ
  refine en aA 0 1 [] ?_
  refine si 0 rfl rfl (fun h40 => ?_) (fun h40 => ?_)
  ·rcases (show j = 0 ∨ j = 1 by omega) with hj | hj <;> subst hj
   ·refine en aA 0 4 [kP a] ?_
    refine sn aA 0 2 [] ?_
    refine fc aA 5 [] (iha) ?_
    refine sn aA 0 2 [] ?_
    refine si 0 rfl rfl (fun h50 => ?_) (fun h50 => ?_)
    ·have e : cN (aM l) (eU o [a, b]) = ([], A.2) := by rw [e0, if_pos h50]
     refine en aA 0 3 [] ?_
     refine sbn 4 (mb' := .c 32 [cI []]) (fun _ _ _ h => u2 (by decide) h) ?_
     refine sr 0 R ?_
     rw [e]; rfl
    ·refine en aA 0 3 [] ?_
     refine P1 aA 1 [] rfl (fun _ => rfl) ?_ ?_
     ·simp
     refine sn aA 0 2 [] ?_
     refine sl 0 ?_
     first | exact hJ 1 ⟨by omega, fun _ => by simpa using h50, fun h => by omega⟩ (by omega) | exact hJ 2 ⟨by omega, fun _ => hj1 (by omega), fun _ => by simpa using h50⟩ (by omega)
   ·refine en aA 0 4 [kP b] ?_
    refine sn aA 0 2 [] ?_
    refine fc aA 5 [] (ihb) ?_
    refine sn aA 0 2 [] ?_
    refine si 0 rfl rfl (fun h50 => ?_) (fun h50 => ?_)
    ·have e : cN (aM l) (eU o [a, b]) = ([], B.2) := by rw [e0, if_neg (by simpa using hj1 (by omega)), if_pos h50]
     refine en aA 0 3 [] ?_
     refine sbn 4 (mb' := .c 32 [cI []]) (fun _ _ _ h => u2 (by decide) h) ?_
     refine sr 0 R ?_
     rw [e]; rfl
    ·refine en aA 0 3 [] ?_
     refine P1 aA 1 [] rfl (fun _ => rfl) ?_ ?_
     ·simp
     refine sn aA 0 2 [] ?_
     refine sl 0 ?_
     first | exact hJ 1 ⟨by omega, fun _ => by simpa using h50, fun h => by omega⟩ (by omega) | exact hJ 2 ⟨by omega, fun _ => hj1 (by omega), fun _ => by simpa using h50⟩ (by omega)
  ·have hj : j = 2 := by omega
   subst hj
   have e : cN (aM l) (eU o [a, b]) = dO o A.1 B.1 := by rw [e0, if_neg (by simpa using hj1 (by omega)), if_neg (by simpa using hj2 (by omega))]
   refine wJ 8 (rows := [[cI A.1], [cI B.1]]) rfl ?_ (hr := by simp)
   refine en aA 0 3 [] ?_
   refine DZ 1 6144 [0, 1, 0, 4, 12, 0, 32, 96, 255, 511, 511, 2047, 4095] [0, 1, 2, 3, 4, 5, 6, 7, 8, 9, 10, 11, 12] ?_
   refine xd aA 8 [[cI A.1], [cI B.1]] ?_
   refine dc aA 4 [] (WN (op := o) hba.1 hba.2 hbb.1 hbb.2) ?_
   refine xe ?_
   refine sr 0 R ?_
   rw [e]; rfl
theorem S7 {l : List (Bytes × List Se)} (hB : yQ l) {x : Ex} (h : Wf x) : Fc Tryz.prog gT 16 [eD x, qD l] (.t [cI (cN (aM l) x).1, nI (cN (aM l) x).2]) := by
 induction h with
 | @num v hv =>
   have e : cN (aM l) (mG v) = ([⟨[], v⟩], 0) := by simp [cN]
   rw [e]
   exact YV
 | @ref n hn =>
   cases hl : aM l n with
   | none =>
     have e : cN (aM l) (sK n) = ([], 7) := by simp [cN, hl]
     rw [e]
     exact WP hB hl
   | some fr =>
     have e : cN (aM l) (sK n) = aV fr := by simp [cN, hl]
     rw [e]
     exact WO hB hl
 | sign ho hx ih => rw [nR]; exact S6 hB ih (k5 hx)
 | fn ho hx ih => rw [nR]; exact S6 hB ih (k5 hx)
 | bin _ _ _ hx hy ihx ihy => rw [qT]; exact YW hB ihx (k5 hx) ihy (k5 hy)
theorem aC3 {P : Program} {fs : List MF} {f : FuncId} {args : List SV} {res res' : SV} (h : Fc P fs f args res) (hw : ∀ g ρ x, bC g ρ res x → bC g ρ res' x) : Fc P fs f args res' :=
 ⟨h.1, fun ρ g vs hf ha => (h.2 ρ g vs hf ha).mono fun e w ⟨v, g', h1, h2, h3, h4⟩ => ⟨v, g', h1, h2, h3, hw _ _ _ h4⟩⟩
theorem tZ {v : Val} : Fc Tryz.prog gT 25 [vS v] (cI [⟨[], v⟩]) := aC3 xW fun _ _ _ h => IA h
theorem WQ : Fc Tryz.prog gT 16 [eD xC, qD [([65], [⟨[], aK (-1000)⟩])]] (.t [cI [⟨[], aK 1000⟩], nI 0]) := by
 have h := S7 (l := [([65], [⟨[], aK (-1000)⟩])]) ⟨fun f hf => by
  simp only [List.mem_singleton] at hf
  subst hf
  exact ⟨fun s hs => (H8 (v := aK (-1000)) (by decide)).big s hs, by show 1 * 40 ≤ _; unfold jZ; omega⟩, by decide⟩ (x := xC) (.fn (by decide) (.ref (by decide)))
 rw [VE] at h
 exact h
theorem qB  : Fc Tryz.prog gT 14 [] (bS true) := by
 refine fb aA (fn := Tryz.f14) 76 [.tmp 0] Tryz.func14 Tryz.results14 (fun g0 B0 Q ρ0 R => ?_)
 refine en aA 0 1 [] ?_
 refine sn aA 0 0 [] ?_
 refine fc aA 8 [] (NQ) ?_
 refine sn aA 0 0 [] ?_
 refine fc aA 8 [] (NR) ?_
 refine sn aA 0 0 [] ?_
 refine fc aA 8 [] (NS) ?_
 refine DZ 0 0 [0, 0, 2, 6, 14, 31, 63, 127, 127, 255, 1023] [0, 1, 2, 3, 4, 5, 6, 7, 8, 9, 10] ?_
 refine xd aA 1 [] ?_
 refine dc aA 0 [] (b6 (n := -1000)) ?_
 refine dc aA 2 [] (tZ (v := aK (-1000))) ?_
 refine dc aA 5 [] (WQ) ?_
 refine xe ?_
 refine sn aA 0 1 [] ?_
 refine fc aA 1 [] (oC) ?_
 refine fc aA 2 [] (oC) ?_
 refine fc aA 9 [] (oC) ?_
 refine fg aA 4 [] (fun hg => NN YJ (by rw [QX]; decide)) ?_
 refine fg aA 8 [] (fun hg => oC) ?_
 refine fg aA 0 [] (fun hg => b6 (n := 1000)) ?_
 refine fg aA 0 [] (fun hg => tZ (v := aK 1000)) ?_
 refine fg aA 3 [] (fun hg => AK (a := [⟨[], aK 1000⟩])) ?_
 refine fg aA 1 [] (fun hg => SY (x := xA) (by decide)) ?_
 refine fg aA 2 [] (fun hg => SZ (a := dX xA) (b := [[65], [66]])) ?_
 refine sr 0 R ?_
 simp only [QX, YK]
 rfl
theorem IP {e : List (Bytes × List Se)} (hB : QY e) : Fc Tryz.prog gT 13 [qD e] (bS (xH e)) := by
 refine fb aA (fn := Tryz.f13) 58 [.tmp 2] Tryz.func13 Tryz.results13 (fun g0 B0 Q ρ0 R => ?_)
 have hlen := hB.2
 unfold jZ at hlen
 refine en aA 0 1 [] ?_
 refine sn aA 0 1 [] ?_
 refine sn aA 0 1 [] ?_
 refine sl 0 ?_
 refine aD (σ := Nat) (fun i => i ≤ e.length ∧ i ≤ 41) (fun i => e.length - i)
  (fun i => [(0, qD e), (3, nI ((sumF (e.take i) : Nat) : Int)), (4, nI i)])
  (fun i => []) 0 ?_ ?_
 ·exact ⟨Nat.zero_le _, Nat.zero_le _⟩
 ·rintro J i ⟨hi0, hi1⟩ hJ
  refine en aA 0 8 [] ?_
  refine bM 0 rfl rfl (fun h13 => ?_) (fun h13 => ?_)
  ·simp only [Bool.and_eq_true, decide_eq_true_eq, List.length_map] at h13
   have hi : i < e.length := by omega
   have hs1 := VG hB hi1
   have hbf := hB.1 e[i] (List.getElem_mem hi)
   have hbl := hbf.2
   unfold jZ at hbl
   refine en aA 0 10 [MX e[i]] ?_ (hφ := by (repeat' refine And.intro ?_ ?_) <;> first | trivial | exact id | omega | exact aO _ hi | exact aO _ hk | (simp only [List.length_map]; omega))
   refine jR 3 rfl (v' := nI ((sumF (e.take i) + k6 (e[i]).2 0 : Nat) : Int)) (congrArg (fun z : Int => nI z) (by rw [VF]; simp only [List.length_map]; omega)) ?_
   refine sn aA 0 1 [] ?_
   refine sl 0 ?_
   refine aD (σ := Nat) (fun k => k ≤ (e[i]).2.length ∧ k ≤ 41) (fun k => (e[i]).2.length - k)
    (fun k => [(0, qD e), (3, nI ((sumF (e.take i) + k6 (e[i]).2 k : Nat) : Int)), (4, nI i), (5, nI k)])
    (fun k => []) 0 ?_ ?_
   ·exact ⟨Nat.zero_le _, Nat.zero_le _⟩
   ·rintro J k ⟨hk0, hk1⟩ hK
    refine en aA 0 12 [MX e[i]] ?_ (hφ := by (repeat' refine And.intro ?_ ?_) <;> first | trivial | exact id | omega | exact aO _ hi | exact aO _ hk | (simp only [List.length_map]; omega))
    refine bM 0 rfl rfl (fun h36 => ?_) (fun h36 => ?_)
    ·simp only [Bool.and_eq_true, decide_eq_true_eq, List.length_map] at h36
     have hk : k < (e[i]).2.length := by omega
     have hpl := QZ hbf hk1
     have hll := (hbf.1 _ (List.getElem_mem hk)).2
     unfold jZ at hll
     refine en aA 0 13 [MX e[i], aP (e[i]).2[k]] ?_ (hφ := by (repeat' refine And.intro ?_ ?_) <;> first | trivial | exact id | omega | exact aO _ hi | exact aO _ hk | (simp only [List.length_map]; omega))
     refine sn aA 0 3 [] ?_
     refine sl 0 ?_
     refine jG 3 rfl (v' := nI ((sumF (e.take i) + k6 (e[i]).2 (k + 1) : Nat) : Int)) (congrArg (fun z : Int => nI z) (by rw [IC hk]; simp only [List.length_map]; omega)) ?_
     exact hK (k + 1) ⟨by omega, by omega⟩ (by omega)
    ·simp only [Bool.and_eq_false_iff, decide_eq_false_iff_not, List.length_map] at h36
     have hall := zZ (s := (e[i]).2) (k := k) (by omega) hk1
     refine en aA 0 3 [] ?_
     refine sl 0 ?_
     refine jG 3 rfl (v' := nI ((sumF (e.take (i + 1)) : Nat) : Int)) (congrArg (fun z : Int => nI z) (by rw [M4 hi, ← hall] <;> omega)) ?_
     exact hJ (i + 1) ⟨by omega, by omega⟩ (by omega)
  ·simp only [Bool.and_eq_false_iff, decide_eq_false_iff_not, List.length_map] at h13
   have hti : sumF (e.take i) = sumF (e.take 41) := by
    by_cases h41 : i = 41
    ·rw [h41]
    ·rw [List.take_of_length_le (by omega), List.take_of_length_le (by omega)]
   have e0 : xH e = (decide (((e.map MX).length : Int) ≤ 40) && decide (((sumF (e.take i) : Nat) : Int) ≤ 160)) := by
    unfold xH
    rw [← hti, List.length_map]
    rw [decide_eq_decide.2 (show (e.length ≤ 40) ↔ ((e.length : Int) ≤ 40) by omega), decide_eq_decide.2 (show (sumF (e.take i) ≤ 160) ↔ (((sumF (e.take i) : Nat) : Int) ≤ 160) by omega)]
   refine en aA 0 8 [] ?_
   refine sr 0 R ?_
   rw [e0]; rfl
theorem CS {s : Bytes} {e : List (Bytes × List Se)} (hB : QY e) : Fc Tryz.prog gT 3 [.str s, qD e] (bS true) := by
 refine fb aA (fn := Tryz.f3) 56 [.tmp 4] Tryz.func3 Tryz.results3 (fun g0 B0 Q ρ0 R => ?_)
 refine en aA 0 1 [] ?_
 refine sn aA 0 1 [] ?_
 refine fc aA 6 [] (IP hB) ?_
 refine bM 0 rfl rfl (fun h19 => ?_) (fun h19 => ?_)
 ·refine en aA 0 0 [] ?_
  refine fc aA 1 [] (qB) ?_
  refine sr 0 R ?_
  show bS _ = bS true
  simp
 ·simp only [Bool.or_eq_false_iff, Bool.not_eq_false', decide_eq_false_iff_not] at h19
  have hF := M5 hB h19.1
  have hlim := hB.2
  unfold jZ at hlim
  refine en aA 0 1 [] ?_
  refine fc aA 8 [] (NJ (s := s)) ?_
  refine sn aA 0 2 [] ?_
  refine si 0 rfl rfl (fun h28 => ?_) (fun h28 => ?_)
  ·refine en aA 0 0 [] ?_
   refine fc aA 1 [] (qB) ?_
   refine sr 0 R ?_
   show bS _ = bS true
   simp
  ·have h0 : (bK aB s).2.1 = 0 := Decidable.not_not.1 h28
   have hw := QG h0
   generalize hA : (bK aB s).1 = A at hw
   refine jH 0 10 [0, 0, 0, 6, 15, 31, 63, 63, 127, 511] [1, 2, 3, 0, 4, 5, 6, 7, 8, 9] ?_
   refine aA8 aA 1 [] ?_
   refine aE0 aA (rows := []) (rows2 := e.map MX) (sz := 2) 0 [] rfl (fun _ => rfl) ?_ (fun r hr => by
    obtain ⟨n, _, rfl⟩ := List.mem_map.1 hr
    rfl) ?_
   ·show ((0 : Nat) + (e.map MX).length) * 40 ≤ _
    rw [List.length_map]
    omega
   refine dl aA 0 [] ?_
   refine dc aA 5 [] (S7 (l := e) hF hw) ?_
   refine xe ?_
   refine sn aA 0 2 [] ?_
   refine fc aA 5 [] (V4 (l := e) hF hw) ?_
   refine sn aA 0 2 [] ?_
   refine fc aA 2 [] (AK (a := (cN (aM e) A).1)) ?_
   refine fg aA 4 [] (fun hg => oC) ?_
   refine fg aA 2 [] (fun hg => qB) ?_
   refine sr 0 R ?_
   show bS _ = bS true
   simp
end Go.Proofs.YtomkgfdigldhcaaGreatDoor
namespace Go.KX
open Go.RowKit
structure mR (W W' : World) : Prop where
 os : W'.os = W.os
 output : W'.output = W.output
 size : W.heap.size ≤ W'.heap.size
 same : ∀ b, b < W.heap.size → W'.heap[b]? = W.heap[b]?
def yR (W : World) : GW := ⟨W, fun b => b < W.heap.size, fun _ h => h⟩
theorem mR.kept {W W' : World} (h : mR W W') (may : MemPlace → Prop) : W.keptBut W' may := by
 refine ⟨h.os, h.output, fun i hi => ?_⟩
 rw [h.same i hi]
 cases hq : W.heap[i]? with
 | none => rfl
 | some o => cases o <;> first | exact ⟨rfl, rfl, rfl, fun _ _ => rfl⟩ | exact .inr ⟨rfl, rfl⟩ | rfl
section
variable {H : Type} {enc : TypeId × Value → H} {P : Program} {W W' : World}
theorem l8 {α β : Type} {f f' : α → Option β} : ∀ (l : List α) (ys : List β), l.mapM f = some ys → (∀ i ∈ l, ∀ y ∈ ys, f i = some y → f' i = some y) → l.mapM f' = some ys
 | [], ys, h, _ => by simpa using h
 | a :: l, ys, h, hk => by
   simp only [List.mapM_cons] at h ⊢
   cases hfa : f a with
   | none => rw [hfa] at h; cases h
   | some y =>
     rw [hfa] at h
     cases hl : l.mapM f with
     | none => rw [hl] at h; cases h
     | some zs =>
       rw [hl] at h
       cases h
       have h1 := hk a (.head _) y (.head _) hfa
       have h2 := l8 l zs hl (fun i hi z hz hz2 => hk i (.tail _ hi) z (.tail _ hz) hz2)
       rw [h1, h2]; rfl
theorem mapM_len {α β : Type} {f : α → Option β} : ∀ (l : List α) (ys : List β), l.mapM f = some ys → ys.length = l.length
 | [], ys, h => by simp at h; subst h; rfl
 | a :: l, ys, h => by
   simp only [List.mapM_cons] at h
   cases hfa : f a with
   | none => rw [hfa] at h; cases h
   | some y =>
     rw [hfa] at h
     cases hl : l.mapM f with
     | none => rw [hl] at h; cases h
     | some zs =>
       rw [hl] at h
       cases h
       simp [mapM_len l zs hl]
theorem mapM_at {α β : Type} {f : α → Option β} : ∀ (l : List α) (ys : List β), l.mapM f = some ys → ∀ (i : Nat) a, l[i]? = some a → ∃ y, ys[i]? = some y ∧ f a = some y
 | [], ys, h, i, a, ha => by simp at ha
 | b :: l, ys, h, i, a, ha => by
   simp only [List.mapM_cons] at h
   cases hfa : f b with
   | none => rw [hfa] at h; cases h
   | some y =>
     rw [hfa] at h
     cases hl : l.mapM f with
     | none => rw [hl] at h; cases h
     | some zs =>
       rw [hl] at h
       cases h
       cases i with
       | zero => simp at ha; subst ha; exact ⟨y, rfl, hfa⟩
       | succ i => simp at ha; obtain ⟨y', h1, h2⟩ := mapM_at l zs hl i a ha; exact ⟨y', by simpa using h1, h2⟩
theorem cells_at {w : World} {base : Nat} {a : Addr} {n : Nat} {cs : List Value} (h : w.cells? base a n = some cs) : cs.length = n ∧ ∀ (j : Nat) v, cs[j]? = some v → w.cell? (a.add j) = some v := by
 unfold World.cells? at h
 split at h
 ·refine ⟨by have := mapM_len _ _ h; simpa using this, fun j v hj => ?_⟩
  have hlt : j < n := by
   have := mapM_len _ _ h
   have h2 := (List.getElem?_eq_some_iff.1 hj).1
   simp at this; omega
  obtain ⟨y, h1, h2⟩ := mapM_at _ _ h j j (by simp [hlt])
  rw [hj] at h1
  cases h1
  exact h2
 ·cases h
theorem add_block (a : Addr) (i : Nat) : (a.add i).block = a.block := by unfold Addr.add; split <;> rfl
theorem IQ {base n : Nat} {a : Addr} {cs : List Value} (hW : mR W W') (h : W.cells? base a n = some cs) : W'.cells? base a n = some cs := by
 unfold World.cells? at h ⊢
 split
 ·rename_i hb
  rw [if_pos hb] at h
  refine l8 _ _ h (fun i _ y _ hy => ?_)
  unfold World.cell? at hy ⊢
  have hlt : (a.add i).block < W.heap.size := by
   rcases Nat.lt_or_ge (a.add i).block W.heap.size with h | h
   ·exact h
   ·rw [Array.getElem?_eq_none h] at hy; cases hy
  rw [hW.same _ hlt]; exact hy
 ·rename_i hb; rw [if_neg hb] at h; cases h
def tL (P : Program) : Nat → TypeId → Bool
 | 0, _ => false
 | f + 1, t => match P.underlying t with
   | some .bool => true
   | some (.int _) => true
   | some .string => true
   | some (.slice e) => decide (0 < P.cellsOf e) && tL P f e
   | some (.struct fs) => fs.toList.all fun fd => tL P f fd.type
   | _ => false
theorem row_mem {a : Addr} {n j : Nat} (h : j < n) : MemPlace.cell a.block (a.off + j) ∈ MemPlace.row a n := List.mem_map.2 ⟨j, by simp [h], rfl⟩
theorem tM (hW : mR W W') {base : Nat} {held : Bool} {sp : Nat → Bool} : ∀ (k fuel : Nat) (t : TypeId) (cs : List Value) (x : DataW H × List MemPlace), tL P k t = true → (∀ p ∈ x.2, sp p.block = true) →
 DataW.trod enc P W base (fun _ => true) held fuel t cs = some x → DataW.trod enc P W' base sp held fuel t cs = some x
 | 0, _, _, _, _, hp, _, _ => by cases hp
 | _ + 1, 0, _, _, _, _, _, h => by cases h
 | k + 1, fuel + 1, t, cs, x, hp, hs, h => by
   rw [tL] at hp
   unfold DataW.trod at h ⊢
   split at hp
   ·rename_i u; rw [u] at h ⊢; revert h; split <;> intro h <;> first | exact h | (rename_i hq; cases hq; done) | (rename_i hq _; cases hq; done) | (cases h; done)
   ·rename_i u; rw [u] at h ⊢; revert h; split <;> intro h <;> first | exact h | (rename_i hq; cases hq; done) | (rename_i hq _; cases hq; done) | (cases h; done)
   ·rename_i u; rw [u] at h ⊢; revert h; split <;> intro h <;> first | exact h | (rename_i hq; cases hq; done) | (rename_i hq _; cases hq; done) | (cases h; done)
   ·rename_i e u
    simp only [Bool.and_eq_true, decide_eq_true_eq] at hp
    obtain ⟨hz, hpe⟩ := hp
    rw [u] at h ⊢
    revert h
    split <;> intro h <;> first | exact h | (rename_i hq; cases hq; done) | (rename_i hq _; cases hq; done) | (cases h; done) | skip
    rename_i e2 a len cap heq
    injection heq with heq
    injection heq with heq
    subst heq
    dsimp only at h ⊢
    split at h
    ·rename_i hc
     rw [if_pos hc]
     simp only [if_true, Option.bind_eq_some_iff, Option.map_eq_some_iff] at h ⊢
     obtain ⟨elems, h1, rest, h2, h3⟩ := h
     subst h3
     have hel : ∀ (i : Nat) y, y ∈ elems ++ rest → ((W.cells? base (a.add (i * P.cellsOf e)) (P.cellsOf e)).bind (DataW.trod enc P W base (fun _ => true) held fuel e)) = some y → ((W'.cells? base (a.add (i * P.cellsOf e)) (P.cellsOf e)).bind (DataW.trod enc P W' base sp held fuel e)) = some y := by
      intro i y hy hyx
      simp only [Option.bind_eq_some_iff] at hyx ⊢
      obtain ⟨c, hc1, hc2⟩ := hyx
      refine ⟨c, IQ hW hc1, tM hW k fuel e c y hpe (fun p hp => hs p ?_) hc2⟩
      exact List.mem_append_right _ (List.mem_flatMap.2 ⟨y, hy, hp⟩)
     refine ⟨elems, l8 _ _ h1 (fun i _ y hy => hel i y (List.mem_append_left _ hy)), rest, ?_, rfl⟩
     have hl1 := mapM_len _ _ h1
     have hl2 := mapM_len _ _ h2
     simp only [List.length_range] at hl1 hl2
     by_cases hsb : sp a.block = true
     ·rw [if_pos hsb]
      exact l8 _ _ h2 (fun i _ y hy => hel (len + i) y (List.mem_append_right _ hy))
     ·have h0 : (elems.length + rest.length) * P.cellsOf e = 0 := by
       rcases Nat.eq_zero_or_pos ((elems.length + rest.length) * P.cellsOf e) with h | h
       ·exact h
       ·exact absurd (hs _ (List.mem_append_left _ (row_mem h))) hsb
      have h00 : elems.length + rest.length = 0 := by
       rcases Nat.mul_eq_zero.1 h0 with h | h
       ·exact h
       ·omega
      have : rest = [] := List.eq_nil_of_length_eq_zero (by omega)
      subst this
      rw [if_neg hsb]
    ·cases h
   ·rename_i fs u
    simp only [List.all_eq_true] at hp
    rw [u] at h ⊢
    dsimp only at h ⊢
    split at h
    ·rename_i hc
     rw [if_pos hc]
     simp only [Option.map_eq_some_iff] at h ⊢
     obtain ⟨xs, h1, h2⟩ := h
     subst h2
     refine ⟨xs, l8 _ _ h1 (fun fd hfd y hy hyx => tM hW k fuel _ _ y (hp fd hfd) (fun p hp => hs p (List.mem_flatMap.2 ⟨y, hy, hp⟩)) hyx), rfl⟩
    ·cases h
   ·cases hp
theorem rW (hW : mR W W') {base : Nat} {held : Bool} {sp : Nat → Bool} (k : Nat) : ∀ (ts : List TypeId) (vs : List Value) (ds : List (DataW H)) (ps : List MemPlace), (ts.all fun t => tL P k t) = true → (∀ p ∈ ps, sp p.block = true) →
 DataW.TrodAll enc P W base (fun _ => true) held ts vs ds ps → DataW.TrodAll enc P W' base sp held ts vs ds ps
 | [], [], [], ps, _, _, h => h
 | t :: ts, v :: vs, d :: ds, ps, hp, hs, h => by
   obtain ⟨p, q, ⟨fuel, h1⟩, h2, h3⟩ := h
   subst h3
   simp only [List.all_cons, Bool.and_eq_true] at hp
   exact ⟨p, q, ⟨fuel, tM hW k fuel t _ _ hp.1 (fun p' hp' => hs p' (List.mem_append_left _ hp')) h1⟩, rW hW k ts vs ds q hp.2 (fun p' hp' => hs p' (List.mem_append_right _ hp')) h2, rfl⟩
theorem S8 {f : Func} {s : ChangeSpec} {apart fresh : Bool} {args : Array Value} {ds gs : List (DataW H)} {before : List MemPlace} {ds' : List (DataW H)} (k : Nat) (hv : s.vars = [])
 (hW : DataW.Whole enc P f.params.toList s.vars apart W args.toList ds gs before) (hs : mR W W') (hpl : (f.params.toList.all fun t => tL P k t) = true)
 (hr : ∃ t, f.resultTypes = #[t] ∧ P.underlying t = some .bool) (hds : ds = ds') (hfn : s.fn H (ds' ++ []) = { results := [.lit (.bool true)], args := ds' }) :
 s.post enc P f apart fresh false false W args (.bool true) W' := by
 have hW' := hW
 obtain ⟨p, q, hA, hV, rfl, hfz, hnd⟩ := hW
 subst hds
 rw [hv] at hV
 have hg : gs = [] ∧ q = [] := by
  cases gs with
  | nil => exact ⟨rfl, hV⟩
  | cons _ _ => exact hV.elim
 obtain ⟨rfl, rfl⟩ := hg
 obtain ⟨tb, hr1, hr2⟩ := hr
 refine ⟨ds, [], p ++ [], [], p, [], hW', ?_, ?_, ?_, hs.kept _, fun h => (by cases h)⟩
 ·rw [hfn, hr1]
  exact ⟨[], [], ⟨1, by unfold DataW.trod; rw [hr2]; rfl⟩, rfl, rfl⟩
 ·rw [hfn]
  refine rW hs k _ _ _ _ hpl (fun pl hpl => ?_) hA
  have := hW'.lt pl (List.mem_append_left _ hpl)
  simpa using this
 ·rw [hfn, hv]; rfl
end
end Go.KX
namespace Go.KX
open Go.RowKit
section
variable {H : Type} {enc : TypeId × Value → H} {P : Program} {W : World}
def l9 (P : Program) (t : TypeId) (d : DataW H) : Prop := (d.weights P t).all (· ≤ reachBytes) = true
def Rd (enc : TypeId × Value → H) (P : Program) (W : World) (t : TypeId) {α : Type} (e : α → List Value) (Q : α → Prop) : Prop :=
 ∀ (fuel : Nat) (cs : List Value) (x : DataW H × List MemPlace), DataW.trod enc P W 0 (fun _ => true) true fuel t cs = some x → l9 P t x.1 → ∃ y, cs = e y ∧ Q y
theorem S9 {t : TypeId} {k : IntKind} (u : P.underlying t = some (.int k)) : Rd enc P W t (fun z : Int => [.int k z]) (fun z => (Lit.int k z).wf = true) := by
 intro fuel cs x h _
 cases fuel with
 | zero => cases h
 | succ fuel =>
   unfold DataW.trod at h
   rw [u] at h
   revert h
   split <;> intro h <;> first | (rename_i hq; cases hq; done) | (rename_i hq _; cases hq; done) | (cases h; done) | skip
   rename_i e2
   split at h
   ·rename_i hw
    obtain ⟨hk, hw⟩ := hw
    injection e2 with e2
    injection e2 with e2
    subst hk
    subst e2
    exact ⟨_, rfl, hw⟩
   ·cases h
theorem TA {t : TypeId} (u : P.underlying t = some .string) : Rd enc P W t (fun s : Bytes => [str s]) (fun s => s.length ≤ 140737488351232) := by
 intro fuel cs x h hl
 cases fuel with
 | zero => cases h
 | succ fuel =>
   unfold DataW.trod at h
   rw [u] at h
   revert h
   split <;> intro h <;> first | (rename_i hq; cases hq; done) | (rename_i hq _; cases hq; done) | (cases h; done) | skip
   rename_i s _
   split at h
   ·cases h
    obtain ⟨b, hb⟩ := GT s
    refine ⟨b, by rw [hb], ?_⟩
    have hs : s = ⟨b.toArray⟩ := by unfold str at hb; injection hb
    simp only [l9, DataW.weights, List.all_cons, List.all_nil, Bool.and_true, decide_eq_true_eq] at hl
    rw [hs] at hl
    simp only [reachBytes] at hl
    simpa using hl
   ·cases h
theorem oI {α : Type} (R : Nat → α → Prop) : ∀ (n : Nat), (∀ i, i < n → ∃ y, R i y) → ∃ ys : List α, ys.length = n ∧ ∀ (i : Nat) y, ys[i]? = some y → R i y
 | 0, _ => ⟨[], rfl, fun i y h => by simp at h⟩
 | n + 1, h => by
   obtain ⟨ys, h1, h2⟩ := oI R n (fun i hi => h i (by omega))
   obtain ⟨y, hy⟩ := h n (Nat.lt_succ_self n)
   refine ⟨ys ++ [y], by simp [h1], fun i z hz => ?_⟩
   rw [List.getElem?_append] at hz
   split at hz
   ·exact h2 i z hz
   ·rename_i hge
    have hi : i = n := by
     have := (List.getElem?_eq_some_iff.1 hz).1
     simp at this; omega
    subst hi
    rw [h1] at hz
    simp at hz; subst hz; exact hy
theorem weightsAll_mem {e : TypeId} : ∀ {l : List (DataW H)}, (DataW.weightsAll P e l).all (· ≤ reachBytes) = true → ∀ d ∈ l, l9 P e d
 | a :: l, h, d, hd => by
   simp only [DataW.weightsAll, List.all_append, Bool.and_eq_true] at h
   rcases List.mem_cons.1 hd with rfl | hd
   ·exact h.1
   ·exact weightsAll_mem h.2 d hd
def SlQ {α : Type} (E : El α) (W : World) (by_ : Nat) (Q : α → Prop) (y : SlE α) : Prop := (TU E y.1 y.2.1 y.2.2).p (yR W) ∧ (∀ z ∈ y.2.2, Q z) ∧ y.2.2.length * by_ ≤ 140737488351232
theorem TB {α : Type} {E : El α} {Q : α → Prop} {t e : TypeId} (u : P.underlying t = some (.slice e)) (hsz : P.cellsOf e = E.sz) (hE : Rd enc P W e E.enc Q) : Rd enc P W t (ZS α).enc (SlQ E W (P.bytesOf e) Q) := by
 intro fuel cs x h hl
 cases fuel with
 | zero => cases h
 | succ fuel =>
   unfold DataW.trod at h
   rw [u] at h
   revert h
   split <;> intro h <;> first | (rename_i hq; cases hq; done) | (rename_i hq _; cases hq; done) | (cases h; done) | skip
   ·exact ⟨(none, 0, []), rfl, TU.nil _ _ _ _, (fun z hz => by cases hz), by simp⟩
   ·rename_i e2 a len cap heq
    injection heq with heq
    injection heq with heq
    subst heq
    dsimp only at h
    split at h
    ·rename_i hc
     simp only [if_true, Option.bind_eq_some_iff, Option.map_eq_some_iff] at h
     obtain ⟨elems, h1, rest, h2, h3⟩ := h
     subst h3
     simp only [l9, DataW.weights, u, List.all_cons, List.all_append, Bool.and_eq_true, decide_eq_true_eq, List.length_map] at hl
     obtain ⟨hl1, hl2, _⟩ := hl
     have hlen := mapM_len _ _ h1
     simp only [List.length_range] at hlen
     obtain ⟨ys, hy1, hy2⟩ := oI (fun (i : Nat) (y : α) => W.cells? 0 (a.add (i * P.cellsOf e)) (P.cellsOf e) = some (E.enc y) ∧ Q y) len (fun i hi => by
      obtain ⟨d, hd1, hd2⟩ := mapM_at _ _ h1 i i (by simp [hi])
      simp only [Option.bind_eq_some_iff] at hd2
      obtain ⟨cl, hc1, hc2⟩ := hd2
      obtain ⟨y, rfl, hq⟩ := hE fuel cl d hc2 (weightsAll_mem hl2 d.1 (List.mem_map.2 ⟨d, List.mem_of_getElem? hd1, rfl⟩))
      exact ⟨y, hc1, hq⟩)
     refine ⟨(some a, cap, ys), by show _ = [Value.slice (some a) ys.length cap]; rw [hy1], ⟨by rw [hy1]; omega, by rw [hy1]; exact hc.2.1, fun hne => ?_⟩, fun z hz => ?_, ?_⟩
     ·have hpos : 0 < ys.length := List.length_pos_iff.2 hne
      have hcell : ∀ (i : Nat) y, ys[i]? = some y → ∀ (j : Nat) v, (E.enc y)[j]? = some v → W.cell? ((a.add (i * E.sz)).add j) = some v := by
       intro i y hy j v hv
       have := (cells_at (hy2 i y hy).1).2 j v hv
       rwa [hsz] at this
      obtain ⟨b, o, sp⟩ := a
      have hspot : sp = none ∧ b < W.heap.size := by
       obtain ⟨y0, hy0⟩ : ∃ y, ys[0]? = some y := ⟨_, List.getElem?_eq_getElem hpos⟩
       obtain ⟨v0, hv0⟩ : ∃ v, (E.enc y0)[0]? = some v := ⟨_, List.getElem?_eq_getElem (by rw [E.len]; exact E.pos)⟩
       have := hcell 0 y0 hy0 0 v0 hv0
       unfold World.cell? at this
       rw [add_block, add_block] at this
       have hlt : b < W.heap.size := by
        rcases Nat.lt_or_ge b W.heap.size with h | h
        ·exact h
        ·rw [show (⟨b, o, sp⟩ : Addr).block = b from rfl, Array.getElem?_eq_none h] at this; cases this
       refine ⟨?_, hlt⟩
       cases sp with
       | none => rfl
       | some q =>
         exfalso
         revert this
         cases W.heap[(⟨b, o, some q⟩ : Addr).block]? with
         | none => intro h; cases h
         | some ob =>
           cases ob <;> intro h <;> first | (cases h; done) | skip
           have hs : (((⟨b, o, some q⟩ : Addr).add (0 * E.sz)).add 0).spot.isSome = true := by
            rw [Nat.zero_mul]; rfl
           dsimp only at h
           rw [if_pos hs] at h
           cases h
      obtain ⟨rfl, hlt⟩ := hspot
      refine ⟨b, o, rfl, hlt, fun j v hj => ?_⟩
      have hjl := (List.getElem?_eq_some_iff.1 hj).1
      rw [eN] at hjl
      have hi : j / E.sz < ys.length := Nat.div_lt_of_lt_mul (by rw [Nat.mul_comm]; exact hjl)
      obtain ⟨y, hy⟩ : ∃ y, ys[j / E.sz]? = some y := ⟨_, List.getElem?_eq_getElem hi⟩
      have hm : j % E.sz < (E.enc y).length := by rw [E.len]; exact Nat.mod_lt _ E.pos
      obtain ⟨v', hv'⟩ : ∃ v, (E.enc y)[j % E.sz]? = some v := ⟨_, List.getElem?_eq_getElem hm⟩
      have hg := flat_get E ys _ _ y v' hy hv'
      rw [Nat.mul_comm, Nat.div_add_mod] at hg
      rw [hj] at hg
      cases hg
      have := hcell _ y hy _ _ hv'
      rw [addr_add, addr_add, Nat.add_assoc, Nat.mul_comm (j / E.sz), Nat.div_add_mod] at this
      exact this
     ·obtain ⟨i, hi⟩ := List.mem_iff_getElem?.1 hz
      exact (hy2 i z hi).2
     ·show ys.length * _ ≤ _
      rw [hy1]
      simp only [reachBytes] at hl1
      have : len * P.bytesOf e ≤ (elems.length + rest.length) * P.bytesOf e := Nat.mul_le_mul_right _ (by omega)
      omega
    ·cases h
theorem YX {t : TypeId} {α : Type} {e : α → List Value} {Q : α → Prop} (hr : Rd enc P W t e Q) {v : Value} {d : DataW H} {ps : List MemPlace} (h : DataW.Trod enc P W 0 (fun _ => true) true t v d ps) (hl : l9 P t d) : ∃ y, v.cells.toList = e y ∧ Q y := by
 obtain ⟨fuel, h⟩ := h
 exact hr fuel _ _ h hl
theorem one_cell {v u : Value} (h : v.cells.toList = [u]) (hv : ∀ cs, v ≠ .agg cs) : v = u := by
 cases v <;> first | (simp [Value.cells] at h; exact h) | exact absurd rfl (hv _)
end
end Go.KX
namespace Go.Proofs.YtomkgfdigldhcaaGreatDoor
open Go.KX Go.RowKit
abbrev GL : List (String × DataW Unit) := [("math/bits.deBruijn32tab", Rows.laid_math_bits_deBruijn32tab), ("math/bits.deBruijn64tab", Rows.laid_math_bits_deBruijn64tab), ("internal/strconv.uint64pow10", Rows.laid_internal_strconv_uint64pow10), ("unicode/utf8.acceptRanges", Rows.laid_unicode_utf8_acceptRanges), ("strconv.ErrRange", Rows.laid_strconv_ErrRange), ("strconv.ErrSyntax", Rows.laid_strconv_ErrSyntax), ("klaxon/math.levels", Rows.laid_klaxon_math_levels), ("klaxon/math.signs", Rows.laid_klaxon_math_signs), ("unicode/utf8.first", Rows.laid_unicode_utf8_first)]
theorem gg0 : Tryz.prog.globalNamed "klaxon/math.levels" = some 0 := by kernel_rfl
theorem gg1 : Tryz.prog.globalNamed "klaxon/math.signs" = some 1 := by kernel_rfl
theorem gg3 : Tryz.prog.globalNamed "internal/strconv.uint64pow10" = some 3 := by kernel_rfl
theorem aC4 : Tryz.prog.globalNamed "strconv.ErrSyntax" = some 10 := by kernel_rfl
theorem gt0 : (Tryz.prog.globals[0]?).map (·.type) = some 212 := by kernel_rfl
theorem gt1 : (Tryz.prog.globals[1]?).map (·.type) = some 262 := by kernel_rfl
theorem gt3 : (Tryz.prog.globals[3]?).map (·.type) = some 304 := by kernel_rfl
theorem aE1 : (Tryz.prog.globals[10]?).map (·.type) = some 318 := by kernel_rfl
theorem c9 : Tryz.prog.cellsOf 9 = 1 := by kernel_rfl
theorem c48 : Tryz.prog.cellsOf 48 = 1 := by kernel_rfl
section
variable {W : World} {enc : TypeId × Value → Unit} {sp : Nat → Bool} {held : Bool}
theorem AU {fuel : Nat} {cs : List Value} {x : Bytes} {p : List MemPlace} (h : DataW.trod enc Tryz.prog W 0 sp held fuel 9 cs = some (.lit (.string x), p)) : cs = [str x] := by
 obtain ⟨s, rfl, e, _⟩ := DataW.trod_string Tryz.underlying9 h
 simp only [Prod.mk.injEq, DataW.lit.injEq, Lit.string.injEq] at e
 have : s = ⟨x.toArray⟩ := by rw [e.1]
 rw [this]; rfl
theorem IR {fuel : Nat} {cs : List Value} {n : String} {d : DataW Unit} {p : List MemPlace} (h : DataW.trod enc Tryz.prog W 0 sp held fuel 318 cs = some (.iface n d, p)) : ∃ u v, cs = [.iface u v] := by
 cases fuel with
 | zero => cases h
 | succ fuel =>
   unfold DataW.trod at h
   rw [Tryz.underlying318] at h
   revert h
   split <;> intro h <;> first | (rename_i hq; cases hq; done) | (rename_i hq _; cases hq; done) | (cases h; done) | exact ⟨_, _, rfl⟩
theorem NZ {fuel : Nat} {cs : List Value} {ls : List Bytes} {rest : List (DataW Unit)} {p : List MemPlace} (h : DataW.trod enc Tryz.prog W 0 sp held fuel 48 cs = some (.slice (ls.map fun s => .lit (.string s)) rest, p)) (hne : ls ≠ []) :
 ∃ b o c, cs = [.slice (some ⟨b, o, none⟩) ls.length c] ∧ ls.length ≤ c ∧ ∀ (k : Nat) x, ls[k]? = some x → W.cell? ⟨b, o + k, none⟩ = some (str x) := by
 rcases DataW.trod_slice Tryz.underlying48 h with ⟨_, hx⟩ | ⟨a, len, cap, elems, rs, n, rfl, rfl, hx, _, hlc, _, hel, hcell, _⟩
 ·simp at hx
 ·simp only [Prod.mk.injEq, DataW.slice.injEq] at hx
  have hlen : ls.length = len := by
   have := congrArg List.length hx.1.1
   simp at this; omega
  rw [c9] at hcell
  have hk : ∀ (k : Nat) x, ls[k]? = some x → W.cell? (a.add k) = some (str x) := by
   intro k x hk
   have hkl : k < ls.length := by
    rcases Nat.lt_or_ge k ls.length with h | h
    ·exact h
    ·rw [List.getElem?_eq_none h] at hk; cases hk
   have h1 := hcell k (by omega)
   have h2 : (elems.map (·.1))[k]? = some (.lit (.string x)) := by rw [← hx.1.1]; simp [hk]
   rw [List.getElem?_map] at h2
   cases he : elems[k]? with
   | none => rw [he] at h2; cases h2
   | some y =>
     rw [he] at h1 h2
     obtain ⟨y1, y2⟩ := y
     simp only [Option.map_some, Option.some.injEq] at h2
     subst h2
     simp only [Option.bind_eq_some_iff] at h1
     obtain ⟨cl, hc1, hc2⟩ := h1
     have := AU hc2
     subst this
     have := (cells_at hc1).2 0 _ rfl
     rw [Nat.mul_one] at this
     have e : (a.add k).add 0 = a.add k := by
      obtain ⟨b, o, s⟩ := a
      cases s <;> simp [Addr.add]
     rw [e] at this
     exact this
  obtain ⟨b, o, s⟩ := a
  have h0 : s = none := by
   obtain ⟨x, hx0⟩ : ∃ x, ls[0]? = some x := ⟨_, List.getElem?_eq_getElem (List.length_pos_iff.2 hne)⟩
   have := World.cell?_spot (hk 0 x hx0)
   cases s with
   | none => rfl
   | some _ => simp [Addr.add] at this
  subst h0
  exact ⟨b, o, cap, by rw [hlen], by omega, fun k x hk' => by have := hk k x hk'; rwa [addr_add] at this⟩
end
theorem YY {W : World} (h : laidMetH Tryz.prog GL W) (hs : W.ShapedOpen Tryz.prog) : PX W := by
 rw [MakeChecks.laidMetH_plain _ _ _ (by kernel_rfl)] at h
 refine ⟨?_, ?_, ?_, fun j x hj => ?_, fun j ls hj => ?_⟩
 ·obtain ⟨g, t, cs, fuel, p, hg, ht, hv, hd⟩ := Lib.laidMet.reads h (n := "internal/strconv.uint64pow10") (.tail _ (.tail _ (.head _)))
  obtain rfl := Option.some.inj (gg3.symm.trans hg)
  obtain rfl := Option.some.inj (gt3.symm.trans ht)
  unfold Lib.TabIs
  rw [hv]
  have hd' : DataW.trod (fun _ => ()) Tryz.prog W 0 (fun _ => true) false fuel 304 cs.toList = some (Lib.tabData .u64 Lib.pow10Tab, p) := hd
  rw [← Lib.cells_of_tab Tryz.underlying304 Tryz.underlying234 (by kernel_rfl) (by kernel_rfl) hd']
 ·exact cell_of_shapedOpen_int (t := 3) (zero := #[.int .i64 0]) hs (of_decide_eq_true (by kernel_rfl)) (by kernel_rfl) rfl (by kernel_rfl) (by kernel_rfl) Tryz.underlying3
 ·obtain ⟨g, t, cs, fuel, p, hg, ht, hv, hd⟩ := Lib.laidMet.reads h (n := "strconv.ErrSyntax") (.tail _ (.tail _ (.tail _ (.tail _ (.tail _ (.head _))))))
  obtain rfl := Option.some.inj (aC4.symm.trans hg)
  obtain rfl := Option.some.inj (aE1.symm.trans ht)
  have hc := World.var?_cell aC4 hv 0
  obtain ⟨u, v, e⟩ := IR hd
  rw [hc]
  refine ⟨.iface u v, ?_, .inr ⟨u, v, rfl⟩⟩
  have : cs.toList[0]? = some (.iface u v) := by rw [e]; rfl
  simpa using this
 ·obtain ⟨g, t, cs, fuel, p, hg, ht, hv, hd⟩ := Lib.laidMet.reads h (n := "klaxon/math.signs") (.tail _ (.tail _ (.tail _ (.tail _ (.tail _ (.tail _ (.tail _ (.head _))))))))
  obtain rfl := Option.some.inj (gg1.symm.trans hg)
  obtain rfl := Option.some.inj (gt1.symm.trans ht)
  have hc := World.var?_cell gg1 hv j
  rw [hc]
  obtain ⟨xs, m, rfl, hx, hl, hn, hall⟩ := DataW.trod_array Tryz.underlying262 hd
  have e : xs.map (·.1) = bJ.map fun s => (DataW.lit (.string s) : DataW Unit) := by
   have := congrArg Prod.fst hx
   simp only [Rows.laid_klaxon_math_signs, DataW.agg.injEq] at this
   exact this.symm
  have hlt : j < bJ.length := (List.getElem?_eq_some_iff.1 hj).1
  have h15 : bJ.length = 15 := rfl
  have h1 := hall j (by omega)
  rw [c9, Nat.mul_one] at h1
  have h2 : (xs.map (·.1))[j]? = some (DataW.lit (.string x)) := by rw [e, List.getElem?_map, hj]; rfl
  rw [List.getElem?_map] at h2
  cases hy : xs[j]? with
  | none => rw [hy] at h2; cases h2
  | some y =>
    rw [hy] at h1 h2
    obtain ⟨y1, y2⟩ := y
    simp only [Option.map_some, Option.some.injEq] at h2
    subst h2
    have h3 := AU h1
    have h4 := congrArg (·[0]?) h3
    simpa [List.getElem?_take, List.getElem?_drop] using h4
 ·obtain ⟨g, t, cs, fuel, p, hg, ht, hv, hd⟩ := Lib.laidMet.reads h (n := "klaxon/math.levels") (.tail _ (.tail _ (.tail _ (.tail _ (.tail _ (.tail _ (.head _)))))))
  obtain rfl := Option.some.inj (gg0.symm.trans hg)
  obtain rfl := Option.some.inj (gt0.symm.trans ht)
  have hc := World.var?_cell gg0 hv j
  obtain ⟨xs, m, rfl, hx, hl, hn, hall⟩ := DataW.trod_array Tryz.underlying212 hd
  have e : xs.map (·.1) = bY.map fun l => (DataW.slice (l.map fun s => .lit (.string s)) [] : DataW Unit) := by
   have := congrArg Prod.fst hx
   simp only [Rows.laid_klaxon_math_levels, DataW.agg.injEq] at this
   exact this.symm
  have hlt : j < bY.length := (List.getElem?_eq_some_iff.1 hj).1
  have h5 : bY.length = 5 := rfl
  have h1 := hall j (by omega)
  rw [c48, Nat.mul_one] at h1
  have h2 : (xs.map (·.1))[j]? = some (DataW.slice (ls.map fun s => .lit (.string s)) []) := by rw [e, List.getElem?_map, hj]; rfl
  rw [List.getElem?_map] at h2
  cases hy : xs[j]? with
  | none => rw [hy] at h2; cases h2
  | some y =>
    rw [hy] at h1 h2
    obtain ⟨y1, y2⟩ := y
    simp only [Option.map_some, Option.some.injEq] at h2
    subst h2
    have hne : ls ≠ [] := by
     have hm := List.mem_of_getElem? hj
     intro he
     subst he
     exact absurd hm (by decide)
    obtain ⟨b, o, c, h3, h6, h7⟩ := NZ h1 hne
    refine ⟨b, o, c, ?_, h6, h7⟩
    rw [hc]
    have h4 := congrArg (·[0]?) h3
    simpa [List.getElem?_take, List.getElem?_drop] using h4
end Go.Proofs.YtomkgfdigldhcaaGreatDoor
namespace Go.Proofs.YtomkgfdigldhcaaGreatDoor
open Go.ChangeShapes Go.WideShapes Go.ChangeAt Go.RowKit Go.KX
theorem aE2 : ownKnob Tryz.prog.godebug = none := by kernel_rfl
theorem TC {H : Type} {enc : TypeId × Value → H} {a : Assume} {C : Checked} {os : Os} {f : FuncId} {fn : Func} {s : ChangeSpec} {conds : List PathCond} {apart fresh handsOn again : Bool} {laid : List (String × DataW Unit)}
 (own : ownKnob C.prog.godebug = none) (started : os.Started) (noInit : C.prog.inits.idxOf? f = none) (hfn : C.prog.funcs[f]? = some fn)
 (witness : ∃ (w : World) (tape : Tape) (i : Input), w.os = os ∧ (w.forCall tape i).Shaped C.prog ∧ i.vars = [] ∧ Input.okWide C.prog (w.forCall tape i) .any w.heap.size f i ∧
  ((s.pre enc C.prog fn conds apart (w.forCall tape i).memory i.args ∧ laidMetH C.prog laid (w.forCall tape i).memory) ∧ sizedMet enc C.prog fn (OpenSpec.ofChange s) apart (w.forCall tape i).memory i.args) ∧ a.holds C.prog (lone (Frame.enter C.prog f i.args .normal) [] (w.forCall tape i)))
 (contract : ∀ (W : World) (base : Nat) (args : Array Value) (ds gs : List (DataW H)) (before : List MemPlace),
  (∀ (j : Nat) t v, fn.params[j]? = some t → args[j]? = some v → Value.okWide C.prog W .any base t v) →
  DataW.Whole enc C.prog fn.params.toList s.vars apart W args.toList ds gs before →
  (DataW.weightsEach C.prog (fn.params.toList ++ s.plain.varTypes C.prog) (ds ++ gs)).all (· ≤ reachBytes) = true → laidMetH C.prog laid W → W.ShapedOpen C.prog →
  Calls C.prog f args W fun e W' => ∃ v, e = .returned v ∧ s.post enc C.prog fn apart fresh handsOn again W args v W') :
 ReturnsInHanded a C os f .any (fun w args => (s.pre enc C.prog fn conds apart w args ∧ laidMetH C.prog laid w) ∧ sizedMet enc C.prog fn (OpenSpec.ofChange s) apart w args) (s.post enc C.prog fn apart fresh handsOn again) := by
 refine returnsInHanded_of_calls own started noInit witness ?_
 intro w tape i _ hsh _ hok hpre hholds
 obtain ⟨_, _, _, fn', hfn', _, _, _, _, hval⟩ := hok
 have e : fn' = fn := Option.some.inj (hfn'.symm.trans hfn)
 subst e
 obtain ⟨⟨⟨ds, gs, before, hw, hc⟩, hx⟩, hz⟩ := hpre
 have hw' := DataW.Whole.of_heap (w' := w.forCall tape i) (by rfl) hw
 refine (contract (w.forCall tape i) w.heap.size i.args ds gs before hval hw' (hz.weights hw) (laidMetH.of_heap (by rfl) hx) hsh).mono fun e W' ⟨v, he, hp⟩ => ?_
 subst he
 exact ChangeSpec.post_blind hp
theorem IU {f : FuncId} {args : List SV} {vs : List Value} {W : World} (h : Fc Tryz.prog gT f args (bS true)) (hg : PX W) (ha : aI (yR W) (fun _ => ⟨0, none, 0⟩) args vs) :
 Calls Tryz.prog f vs.toArray W fun e W' => e = .returned (.bool true) ∧ mR W W' := by
 refine (h.2 _ (yR W) vs (fun f hf => ?_) ha).mono ?_
 ·rcases List.mem_singleton.1 hf with rfl
  exact ⟨W, hg, Below.refl _ _, fun b hb => hb⟩
 rintro e w' ⟨v, g', rfl, rfl, hE, dv⟩
 obtain rfl := eH dv
 exact ⟨rfl, hE.os, hE.output, hE.size, fun b hb => hE.same b hb⟩
end Go.Proofs.YtomkgfdigldhcaaGreatDoor
namespace Go.KX
open Go.RowKit
section
variable {H : Type} {enc : TypeId × Value → H} {P : Program} {W : World}
theorem oJ : ∀ {ts : List TypeId} {ds : List (DataW H)}, (DataW.weightsEach P ts ds).all (· ≤ reachBytes) = true → ∀ (i : Nat) t d, ts[i]? = some t → ds[i]? = some d → l9 P t d
 | [], _, _, i, t, d, h, _ => by simp at h
 | _ :: _, [], _, i, t, d, _, h => by simp at h
 | t :: ts, d :: ds, h, i, t', d', h1, h2 => by
   simp only [DataW.weightsEach, List.all_append, Bool.and_eq_true] at h
   cases i with
   | zero => simp at h1 h2; subst h1; subst h2; exact h.1
   | succ i => exact oJ h.2 i t' d' (by simpa using h1) (by simpa using h2)
theorem t6 {t : TypeId} {fs : Array Field} (u : P.underlying t = some (.struct fs)) {fuel : Nat} {cs : List Value} {x : DataW H × List MemPlace} (h : DataW.trod enc P W 0 (fun _ => true) true fuel t cs = some x) (hl : l9 P t x.1) :
 cs.length = P.cellsOf t ∧ ∃ fuel' : Nat, ∀ (i : Nat) f, fs.toList[i]? = some f → ∃ y, DataW.trod enc P W 0 (fun _ => true) true fuel' f.type ((cs.drop f.offset).take (P.cellsOf f.type)) = some y ∧ l9 P f.type y.1 := by
 cases fuel with
 | zero => cases h
 | succ fuel =>
   unfold DataW.trod at h
   rw [u] at h
   dsimp only at h
   split at h
   ·rename_i hc
    refine ⟨hc, fuel, fun i f hf => ?_⟩
    simp only [Option.map_eq_some_iff] at h
    obtain ⟨xs, h1, rfl⟩ := h
    obtain ⟨y, i0, g0⟩ := mapM_at _ _ h1 i _ hf
    simp only [l9, DataW.weights, u] at hl
    exact ⟨y, g0, oJ hl i f.type y.1 (by rw [List.getElem?_map, hf]; rfl) (by rw [List.getElem?_map, i0]; rfl)⟩
   ·cases h
theorem K6 {t : TypeId} {fs : Array Field} {fuel' : Nat} {cs : List Value} (h : ∀ (i : Nat) f, fs.toList[i]? = some f → ∃ y : DataW H × List MemPlace, DataW.trod enc P W 0 (fun _ => true) true fuel' f.type ((cs.drop f.offset).take (P.cellsOf f.type)) = some y ∧ l9 P f.type y.1)
 (i : Nat) {f : Field} (hf : fs.toList[i]? = some f) (ht : f.type = t) {α : Type} {e : α → List Value} {Q : α → Prop} (hr : Rd enc P W t e Q) : ∃ y, (cs.drop f.offset).take (P.cellsOf t) = e y ∧ Q y := by
 subst ht
 obtain ⟨y, h1, h2⟩ := h i f hf
 exact hr _ _ _ h1 h2
end
end Go.KX
namespace Go.Proofs.YtomkgfdigldhcaaGreatDoor
open Go.ChangeShapes Go.WideShapes Go.ChangeAt Go.RowKit Go.KX
theorem WR {P : Program} {W : World} {r : Reach} {base : Nat} {t e : TypeId} {v : Value} (u : P.underlying t = some (.slice e)) (h : Value.okWide P W r base t v) : ∀ cs, v ≠ .agg cs := by
 intro cs hv
 subst hv
 simp [Value.okWide, Cell.okWide, u, Cell.ok] at h
theorem rd_val {H : Type} {enc : TypeId × Value → H} {W : World} : Rd enc Tryz.prog W 26 (fun v : Val => [.int .i64 v.k, .int .i64 v.n]) (fun v => (Lit.int .i64 v.k).wf = true ∧ (Lit.int .i64 v.n).wf = true) := by
 intro fuel cs x h hl
 obtain ⟨hc, fu, hp⟩ := t6 Tryz.underlying26 h hl
 have c26 : Tryz.prog.cellsOf 26 = 2 := by kernel_rfl
 have c3 : Tryz.prog.cellsOf 3 = 1 := by kernel_rfl
 rw [c26] at hc
 obtain ⟨a, ea, qa⟩ := K6 (t := 3) hp 0 rfl rfl (S9 Tryz.underlying3)
 have c2 : Tryz.prog.cellsOf 2 = 1 := by kernel_rfl
 obtain ⟨b, eb, qb⟩ := K6 (t := 2) hp 1 rfl rfl (S9 Tryz.underlying2)
 rw [c3] at ea
 rw [c2] at eb
 match cs, hc with
 | [x, y], _ =>
   simp at ea eb
   subst ea; subst eb
   exact ⟨⟨a, b⟩, rfl, qa, qb⟩
end Go.Proofs.YtomkgfdigldhcaaGreatDoor
namespace Go.KX
open Go.RowKit
section
variable {H : Type} {enc : TypeId × Value → H} {P : Program} {W : World}
def AV (enc : TypeId × Value → H) (P : Program) (W : World) (t : TypeId) {α : Type} (s : α → List SV) (Q : α → Prop) : Prop :=
 ∀ (fuel : Nat) (cs : List Value) (x : DataW H × List MemPlace), DataW.trod enc P W 0 (fun _ => true) true fuel t cs = some x → l9 P t x.1 → ∃ y, (∀ ρ, aI (yR W) ρ (s y) cs) ∧ (∀ u ∈ cs, u.oneCell' = true) ∧ Q y
theorem AV.of {t : TypeId} {α : Type} {e : α → List Value} {s : α → List SV} {Q : α → Prop} (h : Rd enc P W t e Q) (hd : ∀ y ρ, aI (yR W) ρ (s y) (e y)) (h1 : ∀ y, ∀ u ∈ e y, u.oneCell' = true) : AV enc P W t s Q := fun fuel cs x hx hl => by
 obtain ⟨y, rfl, hq⟩ := h fuel cs x hx hl
 exact ⟨y, hd y, h1 y, hq⟩
theorem CU {t : TypeId} (u : P.underlying t = some .string) : AV enc P W t (fun s : Bytes => [.str s]) (fun s => s.length ≤ 140737488351232) :=
 .of (TA u) (fun _ _ => .cons .str .nil) (fun y u hu => by simp at hu; subst hu; rfl)
theorem tN {t e : TypeId} (u : P.underlying t = some (.slice e)) {sz : Nat} (hsz : P.cellsOf e = sz) (hpos : 0 < sz) {α : Type} {s : α → List SV} {Q : α → Prop} (hs : ∀ y, (s y).length = sz) (h : AV enc P W e s Q) :
 AV enc P W t (fun l : List α => [.s sz (l.map s)]) (fun l => (∀ y ∈ l, Q y) ∧ l.length * P.bytesOf e ≤ 140737488351232) := by
 intro fuel cs x hx hl
 have hE : Rd enc P W e (aC sz hpos).enc (fun r => ∃ y, (∀ ρ, aI (yR W) ρ (s y) r.1) ∧ Q y) := fun fuel cs x hx hl => by
  obtain ⟨y, hd, h1, hq⟩ := h fuel cs x hx hl
  exact ⟨⟨cs, by rw [(hd (fun _ => ⟨0, none, 0⟩)).1, hs], h1⟩, rfl, y, hd, hq⟩
 obtain ⟨⟨ad, c, ys⟩, e1, ⟨h1, h2, h3⟩, hq, hb⟩ := TB (E := aC sz hpos) u hsz hE fuel cs x hx hl
 dsimp only at h1 h2 h3 hq hb
 obtain ⟨l, hl1, hl2⟩ := oI (fun (i : Nat) (y : α) => ∀ r, ys[i]? = some r → (∀ ρ, aI (yR W) ρ (s y) r.1) ∧ Q y) ys.length (fun i hi => by
  obtain ⟨y, hy⟩ := hq ys[i] (List.getElem_mem hi)
  exact ⟨y, fun r hr => by rw [List.getElem?_eq_getElem hi] at hr; cases hr; exact hy⟩)
 have hm : (l.map s).length = ys.length := by rw [List.length_map, hl1]
 subst e1
 refine ⟨l, fun ρ => ?_, fun u hu => ?_, fun y hy => ?_, by rw [hl1]; exact hb⟩
 ·refine .cons ?_ .nil
  have := bC.s (g := yR W) (ρ := ρ) (sz := sz) (rows := l.map s) (ad := ad) (c := c) (flat (aC sz hpos) ys) (by rw [hm]; exact h1) (by rw [hm]; exact h2) (by rw [hm, eN]; rfl)
   (fun r hr => by obtain ⟨n, _, rfl⟩ := List.mem_map.1 hr; exact hs n) ⟨u9 _ ys, fun h0 => absurd h0 (by omega)⟩ (fun hne => h3 (fun e => hne (by rw [e] at hm; exact List.eq_nil_of_length_eq_zero hm)))
   (fun ρ' i j r sv x hi hj hx => by
    rw [List.getElem?_map] at hi
    cases hn : l[i]? with
    | none => rw [hn] at hi; cases hi
    | some n =>
      rw [hn] at hi
      cases hi
      have hil : i < ys.length := by rw [← hl1]; exact (List.getElem?_eq_some_iff.1 hn).1
      have hr : ys[i]? = some ys[i] := List.getElem?_eq_getElem hil
      obtain ⟨y, hy, hd⟩ := ((hl2 i n hn _ hr).1 ρ').get hj
      have hg := flat_get (aC sz hpos) ys i j _ y hr hy
      have e : x = y := Option.some.inj (hx.symm.trans hg)
      rw [e]; exact hd)
  rw [hm] at this
  exact this
 ·simp only [ZS, List.mem_singleton] at hu
  subst hu; rfl
 ·obtain ⟨i, hi⟩ := List.mem_iff_getElem?.1 hy
  have hil : i < ys.length := by rw [← hl1]; exact (List.getElem?_eq_some_iff.1 hi).1
  exact (hl2 i y hi _ (List.getElem?_eq_getElem hil)).2
theorem GM {t : TypeId} {fs : Array Field} {fuel' : Nat} {cs : List Value} (h : ∀ (i : Nat) f, fs.toList[i]? = some f → ∃ y : DataW H × List MemPlace, DataW.trod enc P W 0 (fun _ => true) true fuel' f.type ((cs.drop f.offset).take (P.cellsOf f.type)) = some y ∧ l9 P f.type y.1)
 (i : Nat) {f : Field} (hf : fs.toList[i]? = some f) (ht : f.type = t) {α : Type} {s : α → List SV} {Q : α → Prop} (hr : AV enc P W t s Q) : ∃ y, (∀ ρ, aI (yR W) ρ (s y) ((cs.drop f.offset).take (P.cellsOf t))) ∧ (∀ u ∈ (cs.drop f.offset).take (P.cellsOf t), u.oneCell' = true) ∧ Q y := by
 subst ht
 obtain ⟨y, h1, h2⟩ := h i f hf
 exact hr _ _ _ h1 h2
theorem CV {t a b : TypeId} {fs : Array Field} (u : P.underlying t = some (.struct fs)) {f0 f1 : Field} (hf0 : fs.toList[0]? = some f0) (hf1 : fs.toList[1]? = some f1) (h0 : f0.type = a) (h1 : f1.type = b) {n m : Nat} (hc : P.cellsOf t = n + m) (ha : P.cellsOf a = n) (hb : P.cellsOf b = m) (o0 : f0.offset = 0) (o1 : f1.offset = n)
 {α β : Type} {s : α → List SV} {s2 : β → List SV} {Q : α → Prop} {Q2 : β → Prop} (r0 : AV enc P W a s Q) (r1 : AV enc P W b s2 Q2) : AV enc P W t (fun y : α × β => s y.1 ++ s2 y.2) (fun y => Q y.1 ∧ Q2 y.2) := by
 intro fuel cs x hx hl
 obtain ⟨hcl, fu, hp⟩ := t6 u hx hl
 obtain ⟨y0, d0, c0, q0⟩ := GM hp 0 hf0 h0 r0
 obtain ⟨y1, d1, c1, q1⟩ := GM hp 1 hf1 h1 r1
 rw [o0, ha, List.drop_zero] at d0 c0
 rw [o1, hb] at d1 c1
 have e : cs = cs.take n ++ (cs.drop n).take m := by
  rw [List.take_of_length_le (l := cs.drop n) (by rw [List.length_drop]; omega), List.take_append_drop]
 refine ⟨(y0, y1), fun ρ => ?_, fun u hu => ?_, q0, q1⟩
 ·rw [e]; exact (d0 ρ).append (d1 ρ)
 ·rw [e] at hu
  rcases List.mem_append.1 hu with hu | hu
  ·exact c0 u hu
  ·exact c1 u hu
theorem AV.map {t : TypeId} {α β : Type} {s : α → List SV} {s2 : β → List SV} {Q : α → Prop} {Q2 : β → Prop} (h : AV enc P W t s Q) (f : α → β) (hs : ∀ y, s y = s2 (f y)) (hq : ∀ y, Q y → Q2 (f y)) : AV enc P W t s2 Q2 := fun fuel cs x hx hl => by
 obtain ⟨y, hd, h1, q⟩ := h fuel cs x hx hl
 exact ⟨f y, fun ρ => by rw [← hs]; exact hd ρ, h1, hq y q⟩
theorem WS {t : TypeId} {α : Type} {s : α → SV} {Q : α → Prop} (hr : AV enc P W t (fun y => [s y]) Q) {v : Value} {d : DataW H} {ps : List MemPlace} (hv : ∀ cs, v ≠ .agg cs) (h : DataW.Trod enc P W 0 (fun _ => true) true t v d ps) (hl : l9 P t d) : ∃ y, (∀ ρ, bC (yR W) ρ (s y) v) ∧ Q y := by
 obtain ⟨fuel, h⟩ := h
 obtain ⟨y, hd, _, hq⟩ := hr fuel _ _ h hl
 refine ⟨y, fun ρ => ?_, hq⟩
 obtain ⟨u, r, e, h1, h2⟩ := (hd ρ).uncons
 have := h2.unnil
 subst this
 rw [one_cell e hv]
 exact h1
end
end Go.KX
namespace Go.Proofs.YtomkgfdigldhcaaGreatDoor
open Go.ChangeShapes Go.WideShapes Go.ChangeAt Go.RowKit Go.KX
section
variable {H : Type} {enc : TypeId × Value → H} {W : World}
def YZ (l : List Se) : Prop := (∀ s ∈ l, fO s.l) ∧ l.length * 40 ≤ jZ
def FmQ (l : List (Bytes × List Se)) : Prop := (∀ f ∈ l, f.1.length ≤ jZ ∧ YZ f.2) ∧ l.length * 40 ≤ jZ
theorem Y0 : AV enc Tryz.prog W 26 (fun v : Val => [nI v.k, nI v.n]) (fun v => (Lit.int .i64 v.k).wf = true ∧ (Lit.int .i64 v.n).wf = true) :=
 .of rd_val (fun _ _ => .cons .v (.cons .v .nil)) (fun y u hu => by simp at hu; rcases hu with rfl | rfl <;> rfl)
theorem aC5 : AV enc Tryz.prog W 138 aY (fun x => x.n.length ≤ jZ) :=
 (CV (P := Tryz.prog) Tryz.underlying138 rfl rfl rfl rfl (n := 1) (m := 1) (by kernel_rfl) (by kernel_rfl) (by kernel_rfl) rfl rfl (CU Tryz.underlying9) (CU Tryz.underlying9)).map (fun y => ⟨y.1, y.2⟩) (fun _ => rfl) (fun _ h => h.1)
theorem Y1 : AV enc Tryz.prog W 91 (fun l : List Lb => [rL l]) fO :=
 (tN (P := Tryz.prog) Tryz.underlying91 (sz := 2) (by kernel_rfl) (by decide) (fun _ => rfl) aC5).map id (fun _ => rfl) (fun y h => by
  have := h.2
  rw [show Tryz.prog.bytesOf 138 = 32 by kernel_rfl] at this
  exact ⟨h.1, this⟩)
theorem aC6 : AV enc Tryz.prog W 98 aP (fun s => fO s.l) :=
 (CV (P := Tryz.prog) Tryz.underlying98 rfl rfl rfl rfl (n := 1) (m := 2) (by kernel_rfl) (by kernel_rfl) (by kernel_rfl) rfl rfl Y1 Y0).map (fun y => ⟨y.1, y.2⟩) (fun _ => rfl) (fun _ h => h.1)
theorem Y2 : AV enc Tryz.prog W 32 (fun l : List Se => [cI l]) YZ :=
 (tN (P := Tryz.prog) Tryz.underlying32 (sz := 3) (by kernel_rfl) (by decide) (fun _ => rfl) aC6).map id (fun _ => rfl) (fun y h => by
  have := h.2
  rw [show Tryz.prog.bytesOf 98 = 40 by kernel_rfl] at this
  exact ⟨h.1, this⟩)
theorem aC7 : AV enc Tryz.prog W 52 MX (fun f => f.1.length ≤ jZ ∧ YZ f.2) :=
 (CV (P := Tryz.prog) Tryz.underlying52 rfl rfl rfl rfl (n := 1) (m := 1) (by kernel_rfl) (by kernel_rfl) (by kernel_rfl) rfl rfl (CU Tryz.underlying9) Y2).map (fun y => (y.1, y.2)) (fun _ => rfl) (fun _ h => h)
theorem Y3 : AV enc Tryz.prog W 22 (fun l : List (Bytes × List Se) => [qD l]) FmQ :=
 (tN (P := Tryz.prog) Tryz.underlying22 (sz := 2) (by kernel_rfl) (by decide) (fun _ => rfl) aC7).map id (fun _ => rfl) (fun y h => by
  have := h.2
  rw [show Tryz.prog.bytesOf 52 = 40 by kernel_rfl] at this
  exact ⟨h.1, this⟩)
end
end Go.Proofs.YtomkgfdigldhcaaGreatDoor
namespace Go.KX
theorem N1 {P : Program} {f : FuncId} {fn : Func} {s : ChangeSpec} {c : OpenClaim} (g1 : laidOutB P = true) (g2 : mapsRowed P = true) (g3 : (P.stops == []) = true) (g4 : (P.stopKnobs == []) = true) (g5 : P.stopsHeard = true) (g6 : P.mayEnter = true) (g7 : (c.plainKeys == P.plainKeys) = true) (g8 : (c.lifted == P.liftsFinal) = true) (g9 : (P.make == some c.make) = true)
 (a1 : c.wf (OpenSpec.ofChange s) = true) (a2 : fn.params.all (P.readableRec ·) = true) (a3 : namedTie P c.named s.vars = true) (a4 : (c.stops == []) = true) (a5 : (c.knobs == []) = true)
 (b1 : (c.inPlace == P.inPlace f) = true) (b2 : (c.unfollowed == P.unfollowed f) = true) (b3 : (c.recurses == P.recurses f) = true) (b4 : (c.named == P.varsNamed f) = true)
 (c1 : (c.maps == (fn.params.toList ++ s.plain.varTypes P).any (P.mapsRec ·)) = true) (c2 : (c.ifaces == (fn.params.toList ++ s.plain.varTypes P).any (P.ifacesRec ·)) = true) (c3 : (c.mapsOut == P.mapsAmong fn.resultTypes.toList) = true) (c4 : (c.loops == (fn.params.toList ++ s.plain.varTypes P).any (P.loopsFrom ·)) = true) (c5 : (c.wideKeys == (fn.params.toList ++ s.plain.varTypes P ++ fn.resultTypes.toList).any (P.wideKeysFrom ·)) = true)
 (d1 : s.vars.all (P.varReadable ·) = true) (d2 : fn.resultTypes.all (fun t => P.readableRec t && decide (t < P.types.size)) = true) (d3 : (c.ifacesOut == fn.resultTypes.toList.any (P.ifacesRec ·)) = true) (d4 : (c.loopsOut == fn.resultTypes.toList.any (P.loopsFrom ·)) = true) (d5 : c.shortTexts.isNone = true)
 (d6 : (c.kinds == (if c.domain.isEmpty then [] else fn.params.toList.map fun t => match P.underlying t with | some (.int k) => some k | _ => none)) = true) (d7 : (c.pinned == c.pinnedBy) = true) (d8 : (c.veiled == (fn.params.toList ++ s.plain.varTypes P ++ fn.resultTypes.toList).any (P.veiledRec ·)) = true) (d9 : c.veiledFits P fn.params.toList (fn.params.toList ++ s.plain.varTypes P ++ fn.resultTypes.toList) = true) : joinedFacts P f fn s c = true := by
 unfold joinedFacts
 repeat' first | assumption | refine Bool.and_eq_true_iff.2 ⟨?_, ?_⟩
end Go.KX
