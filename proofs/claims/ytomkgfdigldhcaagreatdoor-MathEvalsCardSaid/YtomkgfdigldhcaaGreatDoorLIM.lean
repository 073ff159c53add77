/- WG WH HN HO VU YP YR YS YT YV UD UE. -/
import Derived.Test.YtomkgfdigldhcaaGreatDoorLIL
set_option maxRecDepth 100000
namespace Go.Proofs.YtomkgfdigldhcaaGreatDoor
open Go.KX
theorem VX {op : Bytes} {v : Val} (hv : cE v = true) : Fc Tryz.prog gT 122 [.str op, vS v] (.t [vS ((bW op v).getD zeroV), bS (bW op v).isSome]) := by
 refine fb aA (fn := Tryz.f122) 92 [.cell 4 26, .tmp 5] Tryz.func122 Tryz.results122 (fun g0 B0 Q ρ0 R => ?_)
 have hn := kU hv
 have ht := tmod_lt v.n
 refine en aA 0 3 [] ?_
 refine sn aA 0 1 [] ?_
 refine sn aA 0 2 [] ?_
 refine si 0 rfl rfl (fun h9 => ?_) (fun h9 => ?_)
 ·have e : bW op v = some (aL (decide (v.k = 2))) := by unfold bW; rw [if_pos h9]
  refine en aA 0 3 [] ?_
  refine fc aA 2 [] (cB) ?_
  refine sr 0 R ?_
  rw [e]; rfl
 ·refine en aA 0 2 [] ?_
  refine si 0 rfl rfl (fun h15 => ?_) (fun h15 => ?_)
  ·have e : bW op v = some (aL (decide (v.k = 3))) := by unfold bW; rw [if_neg h9, if_pos h15]
   refine en aA 0 3 [] ?_
   refine fc aA 2 [] (cB) ?_
   refine sr 0 R ?_
   rw [e]; rfl
  ·refine en aA 0 2 [] ?_
   refine si 0 rfl rfl (fun h21 => ?_) (fun h21 => ?_)
   ·have e : bW op v = some (aL (decide (v.k = 4) || decide (v.k = 5))) := by unfold bW; rw [if_neg h9, if_neg h15, if_pos h21, Bool.decide_or]
    refine en aA 0 8 [] ?_
    refine fc aA 2 [] (cB) ?_
    refine sr 0 R ?_
    rw [e]; rfl
   ·refine en aA 0 2 [] ?_
    refine si 0 rfl rfl (fun h32 => ?_) (fun h32 => ?_)
    ·have e : bW op v = some (aL (decide (v.k = 1))) := by unfold bW; rw [if_neg h9, if_neg h15, if_neg h21, if_pos h32]
     refine en aA 0 1 [] ?_
     refine fc aA 0 [] (b7) ?_
     refine fc aA 2 [] (cB) ?_
     refine sr 0 R ?_
     rw [e]; rfl
    ·refine en aA 0 2 [] ?_
     refine si 0 rfl rfl (fun h37 => ?_) (fun h37 => ?_)
     ·have hd : op = a8 ∨ op = mW ∨ op = fH ∨ op = bZ := by simp [h37]
      have eo : bW op v = some (if v.k = 2 then v else if op = bZ then aL (!dV v) else if v.k = 3 then v else if op = a8 ∨ op = mW ∧ cC v < 0 then bO v else if op = fH ∧ v.k = 1 then aK (v.n - (if v.n.tmod 1000 < 0 then v.n.tmod 1000 + 1000 else v.n.tmod 1000)) else v) := by unfold bW; rw [if_neg h9, if_neg h15, if_neg h21, if_neg h32, if_pos hd]
      refine jG 37 rfl (v' := bS true) ?_ ?_
      ·simp [h37]
      refine en aA 1 3 [] ?_
      refine si 0 rfl rfl (fun h44 => ?_) (fun h44 => ?_)
      ·have e : bW op v = some v := by rw [eo, if_pos h44]
       refine en aA 0 3 [] ?_
       refine sr 0 R ?_
       rw [e]; rfl
      ·refine en aA 0 3 [] ?_
       refine si 0 rfl rfl (fun h46 => ?_) (fun h46 => ?_)
       ·have e : bW op v = some (aL (!dV v)) := by rw [eo, if_neg h44, if_pos h46]
        refine en aA 0 1 [] ?_
        refine fc aA 1 [] (jF) ?_
        refine fc aA 2 [] (cB) ?_
        refine sr 0 R ?_
        rw [e]; rfl
       ·refine en aA 0 4 [] ?_
        refine si 0 rfl rfl (fun h53 => ?_) (fun h53 => ?_)
        ·have e : bW op v = some v := by rw [eo, if_neg h44, if_neg h46, if_pos h53]
         refine en aA 0 3 [] ?_
         refine sr 0 R ?_
         rw [e]; rfl
        ·refine en aA 0 7 [] ?_
         refine fg aA 4 [] (fun hg => kJ) ?_
         refine bM 0 rfl rfl (fun h58 => ?_) (fun h58 => ?_)
         ·have e : bW op v = some (bO v) := by rw [eo, if_neg h44, if_neg h46, if_neg h53, if_pos (by simpa using h58)]
          refine en aA 0 1 [] ?_
          refine fc aA 2 [] (iO (v := v) (by omega)) ?_
          refine sr 0 R ?_
          rw [e]; rfl
         ·refine en aA 0 4 [] ?_
          refine fg aA 2 [] (fun hg => b7) ?_
          refine bM 0 rfl rfl (fun h72 => ?_) (fun h72 => ?_)
          ·have e0 : bW op v = some (aK (v.n - (if v.n.tmod 1000 < 0 then v.n.tmod 1000 + 1000 else v.n.tmod 1000))) := by rw [eo, if_neg h44, if_neg h46, if_neg h53, if_neg (by simpa using h58), if_pos (by simpa using h72)]
           refine en aA 0 4 [] ?_
           refine sn aA 0 2 [] ?_
           refine si 0 rfl rfl (fun h83 => ?_) (fun h83 => ?_)
           ·have e : bW op v = some (aK (v.n - (v.n.tmod 1000 + 1000))) := by rw [e0, if_pos h83]
            refine en aA 0 3 [] ?_
            refine sn aA 0 4 [] ?_
            refine fc aA 2 [] (b6) ?_
            refine sr 0 R ?_
            rw [e]; rfl
           ·have e : bW op v = some (aK (v.n - v.n.tmod 1000)) := by rw [e0, if_neg h83]
            refine en aA 0 4 [] ?_
            refine fc aA 2 [] (b6) ?_
            refine sr 0 R ?_
            rw [e]; rfl
          ·have e : bW op v = some v := by rw [eo, if_neg h44, if_neg h46, if_neg h53, if_neg (by simpa using h58), if_neg (by simpa using h72)]
           refine en aA 0 3 [] ?_
           refine sr 0 R ?_
           rw [e]; rfl
     ·refine en aA 0 2 [] ?_
      refine si 0 rfl rfl (fun h37 => ?_) (fun h37 => ?_)
      ·have hd : op = a8 ∨ op = mW ∨ op = fH ∨ op = bZ := by simp [h37]
       have eo : bW op v = some (if v.k = 2 then v else if op = bZ then aL (!dV v) else if v.k = 3 then v else if op = a8 ∨ op = mW ∧ cC v < 0 then bO v else if op = fH ∧ v.k = 1 then aK (v.n - (if v.n.tmod 1000 < 0 then v.n.tmod 1000 + 1000 else v.n.tmod 1000)) else v) := by unfold bW; rw [if_neg h9, if_neg h15, if_neg h21, if_neg h32, if_pos hd]
       refine jG 37 rfl (v' := bS true) ?_ ?_
       ·simp [h37]
       refine en aA 1 3 [] ?_
       refine si 0 rfl rfl (fun h44 => ?_) (fun h44 => ?_)
       ·have e : bW op v = some v := by rw [eo, if_pos h44]
        refine en aA 0 3 [] ?_
        refine sr 0 R ?_
        rw [e]; rfl
       ·refine en aA 0 3 [] ?_
        refine si 0 rfl rfl (fun h46 => ?_) (fun h46 => ?_)
        ·have e : bW op v = some (aL (!dV v)) := by rw [eo, if_neg h44, if_pos h46]
         refine en aA 0 1 [] ?_
         refine fc aA 1 [] (jF) ?_
         refine fc aA 2 [] (cB) ?_
         refine sr 0 R ?_
         rw [e]; rfl
        ·refine en aA 0 4 [] ?_
         refine si 0 rfl rfl (fun h53 => ?_) (fun h53 => ?_)
         ·have e : bW op v = some v := by rw [eo, if_neg h44, if_neg h46, if_pos h53]
          refine en aA 0 3 [] ?_
          refine sr 0 R ?_
          rw [e]; rfl
         ·refine en aA 0 7 [] ?_
          refine fg aA 4 [] (fun hg => kJ) ?_
          refine bM 0 rfl rfl (fun h58 => ?_) (fun h58 => ?_)
          ·have e : bW op v = some (bO v) := by rw [eo, if_neg h44, if_neg h46, if_neg h53, if_pos (by simpa using h58)]
           refine en aA 0 1 [] ?_
           refine fc aA 2 [] (iO (v := v) (by omega)) ?_
           refine sr 0 R ?_
           rw [e]; rfl
          ·refine en aA 0 4 [] ?_
           refine fg aA 2 [] (fun hg => b7) ?_
           refine bM 0 rfl rfl (fun h72 => ?_) (fun h72 => ?_)
           ·have e0 : bW op v = some (aK (v.n - (if v.n.tmod 1000 < 0 then v.n.tmod 1000 + 1000 else v.n.tmod 1000))) := by rw [eo, if_neg h44, if_neg h46, if_neg h53, if_neg (by simpa using h58), if_pos (by simpa using h72)]
            refine en aA 0 4 [] ?_
            refine sn aA 0 2 [] ?_
            refine si 0 rfl rfl (fun h83 => ?_) (fun h83 => ?_)
            ·have e : bW op v = some (aK (v.n - (v.n.tmod 1000 + 1000))) := by rw [e0, if_pos h83]
             refine en aA 0 3 [] ?_
             refine sn aA 0 4 [] ?_
             refine fc aA 2 [] (b6) ?_
             refine sr 0 R ?_
             rw [e]; rfl
            ·have e : bW op v = some (aK (v.n - v.n.tmod 1000)) := by rw [e0, if_neg h83]
             refine en aA 0 4 [] ?_
             refine fc aA 2 [] (b6) ?_
             refine sr 0 R ?_
             rw [e]; rfl
           ·have e : bW op v = some v := by rw [eo, if_neg h44, if_neg h46, if_neg h53, if_neg (by simpa using h58), if_neg (by simpa using h72)]
            refine en aA 0 3 [] ?_
            refine sr 0 R ?_
            rw [e]; rfl
      ·refine en aA 0 2 [] ?_
       refine si 0 rfl rfl (fun h37 => ?_) (fun h37 => ?_)
       ·have hd : op = a8 ∨ op = mW ∨ op = fH ∨ op = bZ := by simp [h37]
        have eo : bW op v = some (if v.k = 2 then v else if op = bZ then aL (!dV v) else if v.k = 3 then v else if op = a8 ∨ op = mW ∧ cC v < 0 then bO v else if op = fH ∧ v.k = 1 then aK (v.n - (if v.n.tmod 1000 < 0 then v.n.tmod 1000 + 1000 else v.n.tmod 1000)) else v) := by unfold bW; rw [if_neg h9, if_neg h15, if_neg h21, if_neg h32, if_pos hd]
        refine jG 37 rfl (v' := bS true) ?_ ?_
        ·simp [h37]
        refine en aA 1 3 [] ?_
        refine si 0 rfl rfl (fun h44 => ?_) (fun h44 => ?_)
        ·have e : bW op v = some v := by rw [eo, if_pos h44]
         refine en aA 0 3 [] ?_
         refine sr 0 R ?_
         rw [e]; rfl
        ·refine en aA 0 3 [] ?_
         refine si 0 rfl rfl (fun h46 => ?_) (fun h46 => ?_)
         ·have e : bW op v = some (aL (!dV v)) := by rw [eo, if_neg h44, if_pos h46]
          refine en aA 0 1 [] ?_
          refine fc aA 1 [] (jF) ?_
          refine fc aA 2 [] (cB) ?_
          refine sr 0 R ?_
          rw [e]; rfl
         ·refine en aA 0 4 [] ?_
          refine si 0 rfl rfl (fun h53 => ?_) (fun h53 => ?_)
          ·have e : bW op v = some v := by rw [eo, if_neg h44, if_neg h46, if_pos h53]
           refine en aA 0 3 [] ?_
           refine sr 0 R ?_
           rw [e]; rfl
          ·refine en aA 0 7 [] ?_
           refine fg aA 4 [] (fun hg => kJ) ?_
           refine bM 0 rfl rfl (fun h58 => ?_) (fun h58 => ?_)
           ·have e : bW op v = some (bO v) := by rw [eo, if_neg h44, if_neg h46, if_neg h53, if_pos (by simpa using h58)]
            refine en aA 0 1 [] ?_
            refine fc aA 2 [] (iO (v := v) (by omega)) ?_
            refine sr 0 R ?_
            rw [e]; rfl
           ·refine en aA 0 4 [] ?_
            refine fg aA 2 [] (fun hg => b7) ?_
            refine bM 0 rfl rfl (fun h72 => ?_) (fun h72 => ?_)
            ·have e0 : bW op v = some (aK (v.n - (if v.n.tmod 1000 < 0 then v.n.tmod 1000 + 1000 else v.n.tmod 1000))) := by rw [eo, if_neg h44, if_neg h46, if_neg h53, if_neg (by simpa using h58), if_pos (by simpa using h72)]
             refine en aA 0 4 [] ?_
             refine sn aA 0 2 [] ?_
             refine si 0 rfl rfl (fun h83 => ?_) (fun h83 => ?_)
             ·have e : bW op v = some (aK (v.n - (v.n.tmod 1000 + 1000))) := by rw [e0, if_pos h83]
              refine en aA 0 3 [] ?_
              refine sn aA 0 4 [] ?_
              refine fc aA 2 [] (b6) ?_
              refine sr 0 R ?_
              rw [e]; rfl
             ·have e : bW op v = some (aK (v.n - v.n.tmod 1000)) := by rw [e0, if_neg h83]
              refine en aA 0 4 [] ?_
              refine fc aA 2 [] (b6) ?_
              refine sr 0 R ?_
              rw [e]; rfl
            ·have e : bW op v = some v := by rw [eo, if_neg h44, if_neg h46, if_neg h53, if_neg (by simpa using h58), if_neg (by simpa using h72)]
             refine en aA 0 3 [] ?_
             refine sr 0 R ?_
             rw [e]; rfl
       ·refine en aA 0 2 [] ?_
        refine si 0 rfl rfl (fun h37 => ?_) (fun h37 => ?_)
        ·have hd : op = a8 ∨ op = mW ∨ op = fH ∨ op = bZ := by simp [h37]
         have eo : bW op v = some (if v.k = 2 then v else if op = bZ then aL (!dV v) else if v.k = 3 then v else if op = a8 ∨ op = mW ∧ cC v < 0 then bO v else if op = fH ∧ v.k = 1 then aK (v.n - (if v.n.tmod 1000 < 0 then v.n.tmod 1000 + 1000 else v.n.tmod 1000)) else v) := by unfold bW; rw [if_neg h9, if_neg h15, if_neg h21, if_neg h32, if_pos hd]
         refine jG 37 rfl (v' := bS true) ?_ ?_
         ·simp [h37]
         refine en aA 0 3 [] ?_
         refine si 0 rfl rfl (fun h44 => ?_) (fun h44 => ?_)
         ·have e : bW op v = some v := by rw [eo, if_pos h44]
          refine en aA 0 3 [] ?_
          refine sr 0 R ?_
          rw [e]; rfl
         ·refine en aA 0 3 [] ?_
          refine si 0 rfl rfl (fun h46 => ?_) (fun h46 => ?_)
          ·have e : bW op v = some (aL (!dV v)) := by rw [eo, if_neg h44, if_pos h46]
           refine en aA 0 1 [] ?_
           refine fc aA 1 [] (jF) ?_
           refine fc aA 2 [] (cB) ?_
           refine sr 0 R ?_
           rw [e]; rfl
          ·refine en aA 0 4 [] ?_
           refine si 0 rfl rfl (fun h53 => ?_) (fun h53 => ?_)
           ·have e : bW op v = some v := by rw [eo, if_neg h44, if_neg h46, if_pos h53]
            refine en aA 0 3 [] ?_
            refine sr 0 R ?_
            rw [e]; rfl
           ·refine en aA 0 7 [] ?_
            refine fg aA 4 [] (fun hg => kJ) ?_
            refine bM 0 rfl rfl (fun h58 => ?_) (fun h58 => ?_)
            ·have e : bW op v = some (bO v) := by rw [eo, if_neg h44, if_neg h46, if_neg h53, if_pos (by simpa using h58)]
             refine en aA 0 1 [] ?_
             refine fc aA 2 [] (iO (v := v) (by omega)) ?_
             refine sr 0 R ?_
             rw [e]; rfl
            ·refine en aA 0 4 [] ?_
             refine fg aA 2 [] (fun hg => b7) ?_
             refine bM 0 rfl rfl (fun h72 => ?_) (fun h72 => ?_)
             ·have e0 : bW op v = some (aK (v.n - (if v.n.tmod 1000 < 0 then v.n.tmod 1000 + 1000 else v.n.tmod 1000))) := by rw [eo, if_neg h44, if_neg h46, if_neg h53, if_neg (by simpa using h58), if_pos (by simpa using h72)]
              refine en aA 0 4 [] ?_
              refine sn aA 0 2 [] ?_
              refine si 0 rfl rfl (fun h83 => ?_) (fun h83 => ?_)
              ·have e : bW op v = some (aK (v.n - (v.n.tmod 1000 + 1000))) := by rw [e0, if_pos h83]
               refine en aA 0 3 [] ?_
               refine sn aA 0 4 [] ?_
               refine fc aA 2 [] (b6) ?_
               refine sr 0 R ?_
               rw [e]; rfl
              ·have e : bW op v = some (aK (v.n - v.n.tmod 1000)) := by rw [e0, if_neg h83]
               refine en aA 0 4 [] ?_
               refine fc aA 2 [] (b6) ?_
               refine sr 0 R ?_
               rw [e]; rfl
             ·have e : bW op v = some v := by rw [eo, if_neg h44, if_neg h46, if_neg h53, if_neg (by simpa using h58), if_neg (by simpa using h72)]
              refine en aA 0 3 [] ?_
              refine sr 0 R ?_
              rw [e]; rfl
        ·have e : bW op v = none := by unfold bW; rw [if_neg h9, if_neg h15, if_neg h21, if_neg h32, if_neg (by simp [*])]
         refine en aA 0 3 [] ?_
         refine sr 0 R ?_
         rw [e]; rfl
abbrev CB : List Bytes := [iH, a8, iI, jL, yI, yJ, yE, yK, yF, yL, gY, mU]
theorem KZ (op : Bytes) : (CB.any fun x => decide (x = op)) = decide (op = iH ∨ op = a8 ∨ op = iI ∨ op = jL ∨ op = yI ∨ op = yJ ∨ op = yE ∨ op = yK ∨ op = yF ∨ op = yL ∨ op = gY ∨ op = mU) := by
 have hm : op ∈ CB ↔ (op = iH ∨ op = a8 ∨ op = iI ∨ op = jL ∨ op = yI ∨ op = yJ ∨ op = yE ∨ op = yK ∨ op = yF ∨ op = yL ∨ op = gY ∨ op = mU) := by
  simp only [CB, List.mem_cons, List.not_mem_nil, or_false]
 rw [Bool.eq_iff_iff, List.any_eq_true, decide_eq_true_eq, ← hm]
 constructor
 ·rintro ⟨x, hx, h⟩
  exact of_decide_eq_true h ▸ hx
 ·exact fun h => ⟨op, h, decide_eq_true rfl⟩
theorem II {v : Val} (h : -1000000000000000 ≤ v.n ∧ v.n ≤ 1000000000000000) : -1000000000000001 ≤ (bO v).n ∧ (bO v).n ≤ 1000000000000001 := by
 unfold bO
 split
 ·decide
 ·split
  ·decide
  ·exact ⟨by show _ ≤ -v.n; omega, by show -v.n ≤ _; omega⟩
set_option maxHeartbeats 1000000 in
theorem VY {op : Bytes} {a b : Val} (ha : cE a = true) (hb : cE b = true) : Fc Tryz.prog gT 123 [.str op, vS a, vS b] (.t [vS ((cT op a b).getD zeroV), bS (cT op a b).isSome]) := by
 refine fb aA (fn := Tryz.f123) 150 [.cell 6 26, .tmp 7] Tryz.func123 Tryz.results123 (fun g0 B0 Q ρ0 R => ?_)
 have hna := kU ha
 have hnb := kU hb
 have htb := II hnb
 refine en aA 0 4 [] ?_
 refine sn aA 0 1 [] ?_
 refine sn aA 0 2 [] ?_
 refine sn aA 0 1 [] ?_
 refine sl 0 ?_
 refine aD (σ := Nat) (fun j => j ≤ 12) (fun j => 12 - j)
  (fun j => [(0, .str op), (4, .l 4 0), (5, .l 5 0), (6, .l 6 0), (7, bS false), (8, bS ((CB.take j).any fun x => decide (x = op))), (9, .s 1 (CB.map fun o => [.str o])), (10, nI j)])
  (fun j => [(6, .c 26 [nI 0, nI 0]), (5, .c 26 [nI b.k, nI b.n]), (4, .c 26 [nI a.k, nI a.n])]) 0 ?_ ?_
 ·exact Nat.zero_le _
 ·rintro J j hj0 hJ
  refine en aA 0 4 [] ?_
  refine si 0 rfl rfl (fun h16 => ?_) (fun h16 => ?_)
  ·have hj : j < 12 := by have := h16; simp at this; omega
   refine en aA 0 10 [[.str (CB[j]'hj)]] ?_ (hφ := by refine ⟨fun h => by rw [h]; rfl, ?_⟩; repeat (first | exact id | exact fun _ => ⟨by omega, aO _ hj⟩ | refine ⟨id, ?_⟩ | refine ⟨fun _ => ⟨by omega, aO _ hj⟩, ?_⟩))
   refine sn aA 0 3 [] ?_
   refine jG 8 rfl (v' := bS ((CB.take (j + 1)).any fun x => decide (x = op))) ?_ ?_
   ·rw [List.take_succ_eq_append_getElem (show j < CB.length from hj), List.any_append]; simp
   exact hJ (j + 1) (by omega) (by omega)
  ·have hj2 : j = 12 := by have := h16; simp at this; omega
   subst hj2
   refine jG 8 rfl (v' := bS (CB.any fun x => decide (x = op))) ?_ ?_
   ·rfl
   refine en aA 0 2 [] ?_
   refine bM 0 rfl rfl (fun h29 => ?_) (fun h29 => ?_)
   ·have e : cT op a b = none := by unfold cT; rw [if_neg (by rw [KZ] at h29; simpa using h29)]
    refine en aA 0 3 [] ?_
    refine sr 0 R ?_
    rw [e]; rfl
   ·have eo : cT op a b = some (if a.k = 2 ∨ b.k = 2 then eI else if op = gY then aL (dV a && dV b) else if op = mU then aL (dV a || dV b) else if op = yI then aL (decide (¬ (a.k = 3 ∨ b.k = 3) ∧ a = b)) else if op = yJ then aL (decide ((a.k = 3 ∨ b.k = 3) ∨ a ≠ b)) else if op = yE then aL (decide (¬ (a.k = 3 ∨ b.k = 3) ∧ fN a b = true)) else if op = yK then aL (decide (¬ (a.k = 3 ∨ b.k = 3) ∧ fN b a = false)) else if op = yF then aL (decide (¬ (a.k = 3 ∨ b.k = 3) ∧ fN b a = true)) else if op = yL then aL (decide (¬ (a.k = 3 ∨ b.k = 3) ∧ fN a b = false)) else if a.k = 3 ∨ b.k = 3 then fG else if op = iH then nL a b else if op = a8 then nL a (bO b) else if op = iI then jM a b else overR a b) := by unfold cT; rw [if_pos (of_decide_eq_true ((KZ op).symm.trans (by simpa only [Bool.not_eq_eq_eq_not, Bool.not_false] using h29)))]
    refine en aA 0 8 [] ?_
    refine bM 0 rfl rfl (fun h38 => ?_) (fun h38 => ?_)
    ·have e : cT op a b = some eI := by rw [eo, if_pos (by simpa using h38)]
     refine en aA 0 0 [] ?_
     refine fc aA 2 [] (xU) ?_
     refine sr 0 R ?_
     rw [e]; rfl
    ·refine en aA 0 9 [] ?_
     refine sn aA 0 1 [] ?_
     refine sn aA 0 2 [] ?_
     refine si 0 rfl rfl (fun h49 => ?_) (fun h49 => ?_)
     ·have e : cT op a b = some (aL (dV a && dV b)) := by rw [eo, if_neg (by simpa using h38), if_pos h49]
      refine en aA 0 1 [] ?_
      refine fc aA 2 [] (jF) ?_
      refine fg aA 1 [] (fun hg => jF) ?_
      refine fc aA 2 [] (cB) ?_
      refine sr 0 R ?_
      rw [e]; rfl
     ·refine en aA 0 2 [] ?_
      refine si 0 rfl rfl (fun h58 => ?_) (fun h58 => ?_)
      ·have e : cT op a b = some (aL (dV a || dV b)) := by rw [eo, if_neg (by simpa using h38), if_neg h49, if_pos h58]
       refine en aA 0 1 [] ?_
       refine fc aA 2 [] (jF) ?_
       refine fg aA 1 [] (fun hg => jF) ?_
       refine fc aA 2 [] (cB) ?_
       refine sr 0 R ?_
       rw [e]; rfl
      ·refine en aA 0 2 [] ?_
       refine si 0 rfl rfl (fun h67 => ?_) (fun h67 => ?_)
       ·have e : cT op a b = some (aL (!(decide (a.k = 3) || decide (b.k = 3)) && decide (a = b))) := by rw [eo, if_neg (by simpa using h38), if_neg h49, if_neg h58, if_pos h67]; exact congrArg some (congrArg aL (by rw [Bool.eq_iff_iff]; simp))
        refine en aA 0 5 [] ?_
        refine sq aA 1 [] false (b := decide (a = b)) Tryz.underlying26 (by kernel_rfl) (fun w => xT _ _) ?_
        refine fc aA 2 [] (cB) ?_
        refine sr 0 R ?_
        rw [e]; rfl
       ·refine en aA 0 2 [] ?_
        refine si 0 rfl rfl (fun h77 => ?_) (fun h77 => ?_)
        ·have e : cT op a b = some (aL ((decide (a.k = 3) || decide (b.k = 3)) || !decide (a = b))) := by rw [eo, if_neg (by simpa using h38), if_neg h49, if_neg h58, if_neg h67, if_pos h77]; exact congrArg some (congrArg aL (by rw [Bool.eq_iff_iff]; simp))
         refine en aA 0 4 [] ?_
         refine sq aA 1 [] true (b := decide (a = b)) Tryz.underlying26 (by kernel_rfl) (fun w => xT _ _) ?_
         refine fc aA 2 [] (cB) ?_
         refine sr 0 R ?_
         rw [e]; rfl
        ·refine en aA 0 2 [] ?_
         refine si 0 rfl rfl (fun h86 => ?_) (fun h86 => ?_)
         ·have e : cT op a b = some (aL (!(decide (a.k = 3) || decide (b.k = 3)) && fN a b)) := by rw [eo, if_neg (by simpa using h38), if_neg h49, if_neg h58, if_neg h67, if_neg h77, if_pos h86]; exact congrArg some (congrArg aL (by rw [Bool.eq_iff_iff]; simp))
          refine en aA 0 5 [] ?_
          refine fg aA 1 [] (fun hg => rN) ?_
          refine fc aA 2 [] (cB) ?_
          refine sr 0 R ?_
          rw [e]; rfl
         ·refine en aA 0 2 [] ?_
          refine si 0 rfl rfl (fun h96 => ?_) (fun h96 => ?_)
          ·have e : cT op a b = some (aL (!(decide (a.k = 3) || decide (b.k = 3)) && !fN b a)) := by rw [eo, if_neg (by simpa using h38), if_neg h49, if_neg h58, if_neg h67, if_neg h77, if_neg h86, if_pos h96]; exact congrArg some (congrArg aL (by rw [Bool.eq_iff_iff]; simp))
           refine en aA 0 5 [] ?_
           refine fg aA 2 [] (fun hg => rN) ?_
           refine fc aA 2 [] (cB) ?_
           refine sr 0 R ?_
           rw [e]; rfl
          ·refine en aA 0 2 [] ?_
           refine si 0 rfl rfl (fun h107 => ?_) (fun h107 => ?_)
           ·have e : cT op a b = some (aL (!(decide (a.k = 3) || decide (b.k = 3)) && fN b a)) := by rw [eo, if_neg (by simpa using h38), if_neg h49, if_neg h58, if_neg h67, if_neg h77, if_neg h86, if_neg h96, if_pos h107]; exact congrArg some (congrArg aL (by rw [Bool.eq_iff_iff]; simp))
            refine en aA 0 5 [] ?_
            refine fg aA 1 [] (fun hg => rN) ?_
            refine fc aA 2 [] (cB) ?_
            refine sr 0 R ?_
            rw [e]; rfl
           ·refine en aA 0 2 [] ?_
            refine si 0 rfl rfl (fun h117 => ?_) (fun h117 => ?_)
            ·have e : cT op a b = some (aL (!(decide (a.k = 3) || decide (b.k = 3)) && !fN a b)) := by rw [eo, if_neg (by simpa using h38), if_neg h49, if_neg h58, if_neg h67, if_neg h77, if_neg h86, if_neg h96, if_neg h107, if_pos h117]; exact congrArg some (congrArg aL (by rw [Bool.eq_iff_iff]; simp))
             refine en aA 0 5 [] ?_
             refine fg aA 2 [] (fun hg => rN) ?_
             refine fc aA 2 [] (cB) ?_
             refine sr 0 R ?_
             rw [e]; rfl
            ·refine en aA 0 1 [] ?_
             refine bM 0 rfl rfl (fun h128 => ?_) (fun h128 => ?_)
             ·have e : cT op a b = some fG := by rw [eo, if_neg (by simpa using h38), if_neg h49, if_neg h58, if_neg h67, if_neg h77, if_neg h86, if_neg h96, if_neg h107, if_neg h117, if_pos (by simpa using h128)]
              refine en aA 0 0 [] ?_
              refine fc aA 2 [] (o7) ?_
              refine sr 0 R ?_
              rw [e]; rfl
             ·refine en aA 0 1 [] ?_
              refine sn aA 0 2 [] ?_
              refine si 0 rfl rfl (fun h131 => ?_) (fun h131 => ?_)
              ·have e : cT op a b = some (nL a b) := by rw [eo, if_neg (by simpa using h38), if_neg h49, if_neg h58, if_neg h67, if_neg h77, if_neg h86, if_neg h96, if_neg h107, if_neg h117, if_neg (by simpa using h128), if_pos h131]
               refine en aA 0 2 [] ?_
               refine fc aA 2 [] (KY (a := a) (b := b) (by omega) (by omega)) ?_
               refine sr 0 R ?_
               rw [e]; rfl
              ·refine en aA 0 2 [] ?_
               refine si 0 rfl rfl (fun h136 => ?_) (fun h136 => ?_)
               ·have e : cT op a b = some (nL a (bO b)) := by rw [eo, if_neg (by simpa using h38), if_neg h49, if_neg h58, if_neg h67, if_neg h77, if_neg h86, if_neg h96, if_neg h107, if_neg h117, if_neg (by simpa using h128), if_neg h131, if_pos h136]
                refine jH 0 16 [0, 0, 2, 7, 15, 31] [0, 1, 2, 3, 4, 5] ?_
                refine xd aA 2 [] ?_
                refine dc aA 0 [] (iO (v := b) (by omega)) ?_
                refine dc aA 2 [] (KY (a := a) (b := bO b) (by omega) htb) ?_
                refine xe ?_
                refine sr 0 R ?_
                rw [e]; rfl
               ·refine en aA 0 2 [] ?_
                refine si 0 rfl rfl (fun h142 => ?_) (fun h142 => ?_)
                ·have e : cT op a b = some (jM a b) := by rw [eo, if_neg (by simpa using h38), if_neg h49, if_neg h58, if_neg h67, if_neg h77, if_neg h86, if_neg h96, if_neg h107, if_neg h117, if_neg (by simpa using h128), if_neg h131, if_neg h136, if_pos h142]
                 refine en aA 0 2 [] ?_
                 refine fc aA 2 [] (M9 hna hnb) ?_
                 refine sr 0 R ?_
                 rw [e]; rfl
                ·have e : cT op a b = some (overR a b) := by rw [eo, if_neg (by simpa using h38), if_neg h49, if_neg h58, if_neg h67, if_neg h77, if_neg h86, if_neg h96, if_neg h107, if_neg h117, if_neg (by simpa using h128), if_neg h131, if_neg h136, if_neg h142]
                 refine en aA 0 2 [] ?_
                 refine fc aA 2 [] (RX hna hnb) ?_
                 refine sr 0 R ?_
                 rw [e]; rfl
end Go.Proofs.YtomkgfdigldhcaaGreatDoor
namespace Go.Proofs.YtomkgfdigldhcaaGreatDoor
open Go.KX
theorem aC1 {l : List Val} (h : l.length = 2) : ∃ a b, l = [a, b] := by
 match l, h with
 | [a, b], _ => exact ⟨a, b, rfl⟩
theorem CC {op : Bytes} {l : List Val} : Fc Tryz.prog gT 70 [.str op, rV l] (.t [vS (GN op l).1, nI (GN op l).2]) := by
 refine fb aA (fn := Tryz.f70) 42 [.cell 4 26, .tmp 5] Tryz.func70 Tryz.results70 (fun g0 B0 Q ρ0 R => ?_)
 refine en aA 0 2 [] ?_
 refine sn aA 0 1 [] ?_
 refine fc aA 1 [] (M8) ?_
 refine si 0 rfl rfl (fun h10 => ?_) (fun h10 => ?_)
 ·have hl : ¬ l.all cE = true := fun h => by rw [if_pos h] at h10; exact h10 rfl
  have e : GN op l = (zeroV, 80) := by unfold GN; rw [if_neg hl]
  refine en aA 0 3 [] ?_
  refine sr 0 R ?_
  rw [e]; rfl
 ·have hl : l.all cE = true := Decidable.byContradiction fun h => by rw [if_neg h] at h10; exact h10 (by decide)
  refine en aA 0 4 [] ?_
  refine sn aA 0 3 [] ?_
  refine si 0 rfl rfl (fun h15 => ?_) (fun h15 => ?_)
  ·obtain ⟨a, rfl⟩ : ∃ a, l = [a] := List.length_eq_one_iff.1 (by have := h15; simp at this; omega)
   have ha : cE a = true := by simpa using hl
   refine en aA 0 4 [[nI a.k, nI a.n]] ?_ (hφ := by exact ⟨by decide, rfl⟩)
   refine fc aA 5 [] (VX ha) ?_
   refine sn aA 0 3 [] ?_
   refine si 0 rfl rfl (fun h26 => ?_) (fun h26 => ?_)
   ·exact absurd h26 (by simp)
   ·refine en aA 0 2 [] ?_
    refine bM 0 rfl rfl (fun h39 => ?_) (fun h39 => ?_)
    ·have e : GN op [a] = (zeroV, 2) := by unfold GN; rw [if_pos hl]; cases hh : bW op a with | none => simp only [hh] | some v => simp [hh] at h39
     refine en aA 0 3 [] ?_
     refine sr 0 R ?_
     rw [e]; rfl
    ·have e : GN op [a] = ((bW op a).getD zeroV, 0) := by unfold GN; rw [if_pos hl]; cases hh : bW op a with | none => simp [hh] at h39 | some v => simp only [hh, Option.getD_some]
     refine en aA 0 3 [] ?_
     refine sr 0 R ?_
     rw [e]; rfl
  ·refine en aA 0 3 [] ?_
   refine si 0 rfl rfl (fun h26 => ?_) (fun h26 => ?_)
   ·obtain ⟨a, b, rfl⟩ : ∃ a b, l = [a, b] := aC1 (by have := h26; simp at this; omega)
    have hab : cE a = true ∧ cE b = true := by simpa using hl
    refine jH 0 2048 [0, 0, 2, 6, 0, 16, 48, 127, 255, 511, 511, 1023, 4095] [0, 1, 2, 3, 4, 5, 6, 7, 8, 9, 10, 11, 12] ?_
    refine xd aA 7 [[nI a.k, nI a.n], [nI b.k, nI b.n]] ?_ (hφ := by exact ⟨⟨by decide, rfl⟩, ⟨by decide, rfl⟩⟩)
    refine dc aA 5 [] (VY hab.1 hab.2) ?_
    refine xe ?_
    refine sn aA 0 2 [] ?_
    refine bM 0 rfl rfl (fun h39 => ?_) (fun h39 => ?_)
    ·have e : GN op [a, b] = (zeroV, 2) := by unfold GN; rw [if_pos hl]; cases hh : cT op a b with | none => simp only [hh] | some v => simp [hh] at h39
     refine en aA 0 3 [] ?_
     refine sr 0 R ?_
     rw [e]; rfl
    ·have e : GN op [a, b] = ((cT op a b).getD zeroV, 0) := by unfold GN; rw [if_pos hl]; cases hh : cT op a b with | none => simp [hh] at h39 | some v => simp only [hh, Option.getD_some]
     refine en aA 0 3 [] ?_
     refine sr 0 R ?_
     rw [e]; rfl
   ·refine en aA 0 2 [] ?_
    refine bM 0 rfl rfl (fun h39 => ?_) (fun h39 => ?_)
    ·have e : GN op l = (zeroV, 2) := by unfold GN; rw [if_pos hl]; match l, h15, h26 with | [], _, _ => rfl | [_], h, _ => exact absurd rfl h | [_, _], _, h => exact absurd rfl h | _ :: _ :: _ :: _, _, _ => rfl
     refine en aA 0 3 [] ?_
     refine sr 0 R ?_
     rw [e]; rfl
    ·cases h39
theorem K0 {op : Bytes} {a b : Val} : Fc Tryz.prog gT 113 [.str op, vS a, vS b] (vS (mA op [a, b]).1) := by
 refine fb aA (fn := Tryz.f113) 18 [.cell 6 26] Tryz.func113 Tryz.results113 (fun g0 B0 Q ρ0 R => ?_)
 refine en aA 0 3 [] ?_
 refine sn aA 0 4 [] ?_
 refine fc aA 6 [] (CC (op := op) (l := [a, b])) ?_
 refine sn aA 0 2 [] ?_
 refine sr 0 R ?_
 rw [← A8]; rfl
theorem SA {a : List Lb} : Fc Tryz.prog gT 61 [rL a, rL a] (bS true) := by
 refine fb aA (fn := Tryz.f61) 26 [.tmp 4] Tryz.func61 Tryz.results61 (fun g0 B0 Q ρ0 R => ?_)
 refine lM 0 rfl (fun hl => ?_)
 simp only [List.length_map] at hl
 refine en aA 0 1 [] ?_
 refine sn aA 0 5 [] ?_
 refine si 0 rfl rfl (fun h10 => ?_) (fun h10 => ?_)
 ·exact absurd rfl h10
 ·refine en aA 0 1 [] ?_
  refine sl 0 ?_
  refine aD (σ := Nat) (fun j => j ≤ a.length) (fun j => a.length - j)
   (fun j => [(0, rL a), (1, rL a), (5, nI j)])
   (fun j => []) 0 ?_ ?_
  ·exact Nat.zero_le _
  ·rintro J j hj0 hJ
   refine en aA 0 4 [] ?_
   refine si 0 rfl rfl (fun h14 => ?_) (fun h14 => ?_)
   ·rw [List.length_map] at h14
    have hj : j < a.length := by omega
    refine jH 0 0 [0, 0, 3, 7, 0, 0, 48, 112, 255] [0, 1, 2, 3, 4, 5, 6, 7, 8] ?_
    refine xd aA 8 [aY a[j], aY a[j]] ?_ (hφ := by (repeat' refine And.intro ?_ ?_) <;> first | trivial | omega | exact aO _ hj)
    refine dsq aA 0 [] true (b := decide (a[j] = a[j])) Tryz.underlying138 (by kernel_rfl) (fun w => KU _ _) ?_
    refine xe ?_
    refine bM 0 rfl rfl (fun h25 => ?_) (fun h25 => ?_)
    ·simp [N4] at h25
    ·refine en aA 0 3 [] ?_
     refine sl 0 ?_
     exact hJ (j + 1) (by omega) (by omega)
   ·refine en aA 0 1 [] ?_
    refine sr 0 R ?_
    rfl
theorem AK {a : List Se} : Fc Tryz.prog gT 18 [cI a, cI a] (bS true) := by
 refine fb aA (fn := Tryz.f18) 42 [.tmp 4] Tryz.func18 Tryz.results18 (fun g0 B0 Q ρ0 R => ?_)
 refine lM 0 rfl (fun hl => ?_)
 simp only [List.length_map] at hl
 refine en aA 0 1 [] ?_
 refine sn aA 0 5 [] ?_
 refine si 0 rfl rfl (fun h10 => ?_) (fun h10 => ?_)
 ·exact absurd rfl h10
 ·refine en aA 0 1 [] ?_
  refine sl 0 ?_
  refine aD (σ := Nat) (fun j => j ≤ a.length) (fun j => a.length - j)
   (fun j => [(0, cI a), (1, cI a), (5, nI j)])
   (fun j => []) 0 ?_ ?_
  ·exact Nat.zero_le _
  ·rintro J j hj0 hJ
   refine en aA 0 4 [] ?_
   refine si 0 rfl rfl (fun h14 => ?_) (fun h14 => ?_)
   ·rw [List.length_map] at h14
    have hj : j < a.length := by omega
    refine jH 0 0 [0, 0, 3, 7, 15, 0, 0, 96, 224, 480, 1023, 2047, 4095, 4095, 16383, 32767, 65535, 4095, 4095, 397311, 921599, 1970175, 4194303, 8388607, 16777215] [0, 1, 2, 3, 4, 5, 6, 7, 8, 9, 10, 11, 12, 13, 14, 15, 16, 17, 18, 19, 20, 21, 22, 23, 24] ?_
    refine xd aA 10 [aP a[j], aP a[j]] ?_ (hφ := by (repeat' refine And.intro ?_ ?_) <;> first | trivial | omega | exact aO _ hj)
    refine dsq aA 11 [aP a[j], aP a[j]] true (b := decide (a[j].v = a[j].v)) Tryz.underlying26 (by kernel_rfl) (fun w => xT _ _) ?_ (hφ := by (repeat' refine And.intro ?_ ?_) <;> first | trivial | exact id | omega | exact aO _ hj | (intro hg; exact ⟨by omega, aO _ hj⟩))
    refine dg aA 2 [] (fun hg => SA (a := a[j].l)) ?_ (hφ := by first | trivial | omega | (simp +contextual [aE]; done)) (hψ := by simp [aE, wq, pB])
    refine xe ?_
    refine bM 0 rfl rfl (fun h41 => ?_) (fun h41 => ?_)
    ·simp [N4] at h41
    ·refine en aA 0 3 [] ?_
     refine sl 0 ?_
     exact hJ (j + 1) (by omega) (by omega)
   ·refine en aA 0 1 [] ?_
    refine sr 0 R ?_
    rfl
theorem VZ {op : Bytes} {l : List Se} (hlim : l.length * 40 ≤ jZ) : Fc Tryz.prog gT 59 [.str op, cI l] (.t [cI (jT op l).1, nI (jT op l).2]) := by
 refine fb aA (fn := Tryz.f59) 59 [.tmp 4, .tmp 5] Tryz.func59 Tryz.results59 (fun g0 B0 Q ρ0 R => ?_)
 refine en aA 0 2 [] ?_
 refine sn aA 0 1 [] ?_
 refine fc aA 5 [] (oD hlim) ?_
 obtain ⟨p, hp⟩ : ∃ q, q = (aV l).1 := ⟨_, rfl⟩
 obtain ⟨er, her⟩ : ∃ q, q = (aV l).2 := ⟨_, rfl⟩
 rw [← hp, ← her]
 refine sn aA 0 2 [] ?_
 refine si 0 rfl rfl (fun h20 => ?_) (fun h20 => ?_)
 ·have e : jT op l = ([], er) := by unfold jT; rw [← her, if_pos h20]
  refine en aA 0 3 [] ?_
  refine uB 4 rfl (v' := cI []) (fun _ _ _ h => cS (by decide) h) ?_
  refine sr 0 R ?_
  rw [e]; rfl
 ·refine en aA 0 1 [] ?_
  refine fc aA 1 [] (b6 (n := 0)) ?_
  refine fc aA 6 [] (CC (op := op) (l := [aK 0])) ?_
  refine jR 9 rfl (v' := nI (mA op [aK 0]).2) (by rw [← A8]) ?_
  refine sn aA 0 2 [] ?_
  refine si 0 rfl rfl (fun h30 => ?_) (fun h30 => ?_)
  ·have e : jT op l = ([], 2) := by
    unfold jT
    rw [← her, if_neg h20, if_pos h30]
   refine en aA 0 2 [] ?_
   refine uB 4 rfl (v' := cI []) (fun _ _ _ h => cS (by decide) h) ?_
   refine sr 0 R ?_
   rw [e]; rfl
  ·have hfr : rE p := by rw [hp]; exact (jE (by rw [← her]; simpa using h20)).1
   have hfw := hfr.few
   have e : jT op l = (p.map fun s => ⟨s.l, (mA op [s.v]).1⟩, 0) := by
    unfold jT
    rw [← her, if_neg h20, if_neg h30, hp]
   obtain ⟨f, hf⟩ : ∃ f : Se → Se, f = fun s => ⟨s.l, (mA op [s.v]).1⟩ := ⟨_, rfl⟩
   rw [← hf] at e
   refine en aA 0 1 [] ?_
   refine sn aA 0 1 [] ?_
   refine sl 0 ?_
   refine HQ 10 905 98 3 ?_
   refine aD (σ := Nat) (fun j => j ≤ p.length) (fun j => p.length - j)
    (fun j => [(0, .str op), (6, cI p), (10, .o 905 ((p.take j).map f).length), (11, nI j)])
    (fun j => [(905, .r 98 3 (((p.take j).map f).map aP))]) 0 ?_ ?_
   ·exact Nat.zero_le _
   ·rintro J j hj0 hJ
    refine en aA 0 4 [] ?_
    refine si 0 rfl rfl (fun h34 => ?_) (fun h34 => ?_)
    ·rw [List.length_map] at h34
     have hj : j < p.length := by omega
     refine en aA 0 7 [aP p[j]] ?_ (hφ := by exact ⟨by omega, aO _ hj⟩)
     refine fc aA 6 [] (CC (op := op) (l := [p[j].v])) ?_
     refine uC 12 (mb' := .c 26 [nI (mA op [p[j].v]).1.k, nI (mA op [p[j].v]).1.n]) ?_ ?_
     ·rw [← A8]; rfl
     refine DZ 0 512 [0, 0, 0, 6, 14, 30, 0, 126, 254, 511, 1023] [0, 1, 2, 3, 4, 5, 6, 7, 8, 9, 10] ?_
     refine xd aA 9 [aP p[j]] ?_ (hφ := by (repeat' refine And.intro ?_ ?_) <;> first | trivial | omega | exact aO _ hj)
     refine dap aA 1 [] (rows := ((p.take j).map f).map aP) (by rw [List.length_map]) (fun _ => rfl) ?_ ?_
     ·show (_ + 1) * 40 ≤ _
      simp only [List.length_map, List.length_take]
      omega
     refine xe ?_
     refine sn aA 0 3 [] ?_
     refine sl 0 ?_
     refine eri 10 905 57 ?_
     refine jG 10 rfl (v' := .o 905 ((p.take (j + 1)).map f).length) (by rw [List.take_succ_eq_append_getElem hj, hf, List.map_append]; simp) ?_
     refine c6 905 (mb' := .r 98 3 (((p.take (j + 1)).map f).map aP)) ?_ ?_
     ·rw [List.take_succ_eq_append_getElem hj, hf]; simp only [List.map_append]; rfl
     exact hJ (j + 1) (by omega) (by omega)
    ·rw [List.length_map] at h34
     have hjp : p.take j = p := List.take_of_length_le (by omega)
     rw [hjp]
     refine en aA 0 3 [] ?_
     refine BH 4 (rows := (p.map f).map aP) ?_ ?_ (hr := fun r hr => by
      obtain ⟨n, _, rfl⟩ := List.mem_map.1 hr
      rfl)
     ·simp
     refine sr 0 R ?_
     rw [e]; rfl
set_option maxHeartbeats 1000000 in
theorem SB {op : Bytes} {a b : List Se} (hla : a.length * 40 ≤ jZ) (hlb : b.length * 40 ≤ jZ) : Fc Tryz.prog gT 60 [.str op, cI a, cI b] (.t [cI (dO op a b).1, nI (dO op a b).2]) := by
 refine fb aA (fn := Tryz.f60) 105 [.tmp 6, .tmp 7] Tryz.func60 Tryz.results60 (fun g0 B0 Q ρ0 R => ?_)
 refine en aA 0 2 [] ?_
 refine sn aA 0 1 [] ?_
 refine fc aA 5 [] (oD hla) ?_
 obtain ⟨p, hp⟩ : ∃ q, q = (aV a).1 := ⟨_, rfl⟩
 obtain ⟨er, her⟩ : ∃ q, q = (aV a).2 := ⟨_, rfl⟩
 rw [← hp, ← her]
 refine sn aA 0 2 [] ?_
 refine si 0 rfl rfl (fun h26 => ?_) (fun h26 => ?_)
 ·have e : dO op a b = ([], er) := by unfold dO; rw [← her, if_pos h26]
  refine en aA 0 3 [] ?_
  refine uB 6 rfl (v' := cI []) (fun _ _ _ h => cS (by decide) h) ?_
  refine sr 0 R ?_
  rw [e]; rfl
 ·have hfp : rE p := by rw [hp]; exact (jE (by rw [← her]; simpa using h26)).1
  have hfpw := hfp.few
  refine en aA 0 1 [] ?_
  refine fc aA 5 [] (oD hlb) ?_
  obtain ⟨q, hq⟩ : ∃ q, q = (aV b).1 := ⟨_, rfl⟩
  obtain ⟨er2, her2⟩ : ∃ q, q = (aV b).2 := ⟨_, rfl⟩
  rw [← hq, ← her2]
  refine sn aA 0 2 [] ?_
  refine si 0 rfl rfl (fun h34 => ?_) (fun h34 => ?_)
  ·have e : dO op a b = ([], er2) := by unfold dO; rw [← her, if_neg h26, ← her2, if_pos h34]
   refine en aA 0 3 [] ?_
   refine uB 6 rfl (v' := cI []) (fun _ _ _ h => cS (by decide) h) ?_
   refine sr 0 R ?_
   rw [e]; rfl
  ·refine en aA 0 1 [] ?_
   refine fc aA 0 [] (b6 (n := 0)) ?_
   refine fc aA 1 [] (b6 (n := 0)) ?_
   refine fc aA 6 [] (CC (op := op) (l := [aK 0, aK 0])) ?_
   refine jR 13 rfl (v' := nI (mA op [aK 0, aK 0]).2) (by rw [← A8]) ?_
   refine sn aA 0 2 [] ?_
   refine si 0 rfl rfl (fun h45 => ?_) (fun h45 => ?_)
   ·have e : dO op a b = ([], 2) := by
     unfold dO
     rw [← her, if_neg h26, ← her2, if_neg h34, if_pos h45]
    refine en aA 0 2 [] ?_
    refine uB 6 rfl (v' := cI []) (fun _ _ _ h => cS (by decide) h) ?_
    refine sr 0 R ?_
    rw [e]; rfl
   ·have hfq : rE q := by rw [hq]; exact (jE (by rw [← her2]; simpa using h34)).1
    have hfqw := hfq.few
    have e : dO op a b = aV (aQ op p q) := by
     unfold dO
     rw [← her, if_neg h26, ← her2, if_neg h34, if_neg h45, hp, hq]
    have hpb := zV (op := op) hfp hfq
    refine en aA 0 1 [] ?_
    refine sn aA 0 1 [] ?_
    refine sl 0 ?_
    refine HQ 14 905 98 3 ?_
    refine aD (σ := Nat) (fun i => i ≤ p.length) (fun i => p.length - i)
     (fun i => [(0, .str op), (8, cI p), (10, cI q), (14, .o 905 (aQ op (p.take i) q).length), (15, nI i)])
     (fun i => [(905, .r 98 3 ((aQ op (p.take i) q).map aP))]) 0 ?_ ?_
    ·exact Nat.zero_le _
    ·rintro J i hi0 hO
     refine en aA 0 4 [] ?_
     refine si 0 rfl rfl (fun h49 => ?_) (fun h49 => ?_)
     ·rw [List.length_map] at h49
      have hi : i < p.length := by omega
      refine en aA 0 1 [] ?_
      refine sl 0 ?_
      refine jG 14 rfl (v' := .o 905 (aQ op (p.take i) q ++ rowP op p[i] (q.take 0)).length) (by simp [rowP]) ?_
      refine c6 905 (mb' := .r 98 3 ((aQ op (p.take i) q ++ rowP op p[i] (q.take 0)).map aP)) ?_ ?_
      ·simp [rowP]
      refine aD (σ := Nat) (fun k => k ≤ q.length) (fun k => q.length - k)
       (fun k => [(0, .str op), (8, cI p), (10, cI q), (14, .o 905 (aQ op (p.take i) q ++ rowP op p[i] (q.take k)).length), (15, nI i), (16, nI k)])
       (fun k => [(905, .r 98 3 ((aQ op (p.take i) q ++ rowP op p[i] (q.take k)).map aP))]) 0 ?_ ?_
      ·exact Nat.zero_le _
      ·rintro J k hk0 hI
       refine en aA 0 4 [] ?_
       refine si 0 rfl rfl (fun h55 => ?_) (fun h55 => ?_)
       ·rw [List.length_map] at h55
        have hk2 : k < q.length := by omega
        have hrl := KL op p[i] (q.take k)
        have hpl := oZ (op := op) (a := p.take i) (b := q)
        rw [List.length_take] at hrl hpl
        have hpl2 : min i p.length * q.length ≤ 200 * 200 := Nat.mul_le_mul (by omega) hfqw
        refine el 0 ?_
        refine pY (σ := Unit) (fun _ => True) (fun _ => [(0, .str op), (8, cI p), (10, cI q), (14, .o 905 (aQ op (p.take i) q ++ rowP op p[i] (q.take k)).length), (15, nI i), (16, nI k), (17, .l 17 0), (18, .l 18 0)])
         (fun _ => [(18, .c 98 (aP q[k])), (17, .c 98 (aP p[i])), (905, .r 98 3 ((aQ op (p.take i) q ++ rowP op p[i] (q.take k)).map aP))]) (fun J hJ => ?_) (fun _ _ => ?_)
        ·refine aDT 0 3840 [0, 0, 3, 7, 0, 0, 48, 112, 0, 256, 783, 2047] [0, 0, 3, 7, 0, 0, 48, 112, 512, 0, 783, 2047] [0, 1, 2, 3, 4, 5, 6, 7] [8, 9, 10, 11] [9, 8, 10, 11] 8 9 ?_
         refine xpp aA 8 [aP p[i], aP q[k]] ?_ (hφ := by (repeat' refine And.intro ?_ ?_) <;> first | trivial | omega | exact aO _ hi | exact aO _ hk2)
         refine xpe ?_ ?_
         ·refine dal aA 0 [] ?_
          refine dal aA 2 [] ?_
          refine xe ?_
          refine sl 0 ?_
          exact hJ () trivial
         ·refine dal aA 0 [] ?_
          refine dal aA 2 [] ?_
          refine xe ?_
          refine sl 0 ?_
          refine aDU ?_
          exact hJ () trivial
        refine en aA 0 4 [] ?_
        refine fc aA 6 [] (xN (hfp.set _ (List.getElem_mem hi)) (hfq.set _ (List.getElem_mem hk2))) ?_
        refine fg aA 2 [] (fun hg => xN (hfq.set _ (List.getElem_mem hk2)) (hfp.set _ (List.getElem_mem hi))) ?_
        refine bM 0 rfl rfl (fun h79 => ?_) (fun h79 => ?_)
        ·have hw : (a6 p[i].l q[k].l || a6 q[k].l p[i].l) = false := by
          simp only [Bool.and_eq_true, Bool.not_eq_true'] at h79
          rw [h79.1, h79.2]
          rfl
         have efl : (aQ op (p.take i) q ++ rowP op p[i] (q.take (k + 1))) = (aQ op (p.take i) q ++ rowP op p[i] (q.take k)) := by rw [QU hk2 hw]
         refine jG 14 rfl (v' := .o 905 (aQ op (p.take i) q ++ rowP op p[i] (q.take (k + 1))).length) (by rw [efl]) ?_
         refine c6 905 (mb' := .r 98 3 ((aQ op (p.take i) q ++ rowP op p[i] (q.take (k + 1))).map aP)) ?_ ?_
         ·rw [efl]
         refine en aA 0 3 [] ?_
         refine sl 0 ?_
         exact hI (k + 1) (by omega) (by omega)
        ·have hw : (a6 p[i].l q[k].l || a6 q[k].l p[i].l) = true := by
          cases h1 : a6 p[i].l q[k].l
          ·cases h2 : a6 q[k].l p[i].l
           ·rw [h1, h2] at h79; simp at h79
           ·rfl
          ·rfl
         obtain ⟨L, hL⟩ : ∃ z, z = (joinL p[i].l q[k].l).1 := ⟨_, rfl⟩
         have hLe := zS (hfp.set _ (List.getElem_mem hi)) (hfq.set _ (List.getElem_mem hk2)) hw
         rw [← hL] at hLe
         have efl : (aQ op (p.take i) q ++ rowP op p[i] (q.take (k + 1))) = (aQ op (p.take i) q ++ rowP op p[i] (q.take k)) ++ [⟨L, (mA op [p[i].v, q[k].v]).1⟩] := by rw [KJ hk2 hw, List.append_assoc, hL]
         refine en aA 0 3 [] ?_
         refine sn aA 0 6 [] ?_
         refine si 0 rfl rfl (fun h87 => ?_) (fun h87 => ?_)
         ·simp only [List.length_map] at h87
          rw [if_pos (by omega)] at hLe
          refine en aA 0 3 [] ?_
          refine jR 19 rfl (v' := rL L) (by rw [hLe]) ?_
          refine sn aA 0 7 [] ?_
          refine fc aA 2 [] (K0 (op := op) (a := p[i].v) (b := q[k].v)) ?_
          refine P1 aA 1 [] (rows := (aQ op (p.take i) q ++ rowP op p[i] (q.take k)).map aP) (by rw [List.length_map]) (fun _ => rfl) ?_ ?_
          ·simp only [List.length_map, List.length_append, List.length_cons, List.length_nil]
           show _ * 40 ≤ _
           omega
          refine jR 14 rfl (v' := .o 905 (aQ op (p.take i) q ++ rowP op p[i] (q.take (k + 1))).length) (by rw [efl]; simp <;> rfl) ?_
          refine uC 905 (mb' := .r 98 3 ((aQ op (p.take i) q ++ rowP op p[i] (q.take (k + 1))).map aP)) ?_ ?_
          ·rw [efl]; simp <;> rfl
          refine sn aA 0 3 [] ?_
          refine sl 0 ?_
          exact hI (k + 1) (by omega) (by omega)
         ·simp only [List.length_map] at h87
          rw [if_neg (by omega)] at hLe
          refine jG 19 rfl (v' := rL L) (by rw [hLe]) ?_
          refine en aA 0 7 [] ?_
          refine fc aA 2 [] (K0 (op := op) (a := p[i].v) (b := q[k].v)) ?_
          refine P1 aA 1 [] (rows := (aQ op (p.take i) q ++ rowP op p[i] (q.take k)).map aP) (by rw [List.length_map]) (fun _ => rfl) ?_ ?_
          ·simp only [List.length_map, List.length_append, List.length_cons, List.length_nil]
           show _ * 40 ≤ _
           omega
          refine jR 14 rfl (v' := .o 905 (aQ op (p.take i) q ++ rowP op p[i] (q.take (k + 1))).length) (by rw [efl]; simp <;> rfl) ?_
          refine uC 905 (mb' := .r 98 3 ((aQ op (p.take i) q ++ rowP op p[i] (q.take (k + 1))).map aP)) ?_ ?_
          ·rw [efl]; simp <;> rfl
          refine sn aA 0 3 [] ?_
          refine sl 0 ?_
          exact hI (k + 1) (by omega) (by omega)
       ·rw [List.length_map] at h55
        have hkq : k = q.length := by omega
        subst hkq
        have efl : (aQ op (p.take (i + 1)) q) = (aQ op (p.take i) q ++ rowP op p[i] (q.take q.length)) := by rw [xI hi, List.take_of_length_le (Nat.le_refl _)]
        refine jG 14 rfl (v' := .o 905 (aQ op (p.take (i + 1)) q).length) (by rw [efl]) ?_
        refine c6 905 (mb' := .r 98 3 ((aQ op (p.take (i + 1)) q).map aP)) ?_ ?_
        ·rw [efl]
        refine en aA 0 3 [] ?_
        refine sl 0 ?_
        exact hO (i + 1) (by omega) (by omega)
     ·rw [List.length_map] at h49
      have hip : p.take i = p := List.take_of_length_le (by omega)
      rw [hip]
      refine wJ 14 (rows := (aQ op p q).map aP) ?_ ?_ (hr := fun r hr => by
       obtain ⟨n, _, rfl⟩ := List.mem_map.1 hr
       rfl)
      ·rw [List.length_map]
      refine en aA 0 1 [] ?_
      refine fc aA 4 [] (oD (l := aQ op p q) (by have := hpb.2; unfold jZ; omega)) ?_
      refine sr 0 R ?_
      rw [e]; rfl
theorem V0 {l : List (Bytes × List Se)} (hB : yQ l) {n : Bytes} : Fc Tryz.prog gT 17 [.a [nI 2, .str n, nI 0, nI 0, .s 0 []], qD l] (.t [cI (cN (aM l) (sK n)).1, nI (cN (aM l) (sK n)).2]) := by
 refine fb aA (fn := Tryz.f17) 84 [.tmp 4, .tmp 5] Tryz.func17 Tryz.results17 (fun g0 B0 Q ρ0 R => ?_)
 have hlen := hB.len
 refine en aA 0 3 [] ?_
 refine sn aA 0 2 [] ?_
 refine sn aA 0 2 [] ?_
 refine sn aA 1 2 [] ?_
 refine sz 2 ?_
 refine sn aA 1 4 [] ?_
 refine sl 0 ?_
 refine jG 6 rfl (v' := nI ((l.length : Int) - 1 - (0 : Nat))) (by simp) ?_
 refine aD (σ := Nat) (fun j => j ≤ l.length ∧ f7 l n j = true) (fun j => l.length - j)
  (fun j => [(1, qD l), (2, .p [nI 2, .str n, nI 0, nI 0, .s 0 []]), (6, nI ((l.length : Int) - 1 - j))])
  (fun j => []) 0 ?_ ?_
 ·exact ⟨Nat.zero_le _, rfl⟩
 ·rintro J j ⟨hj0, hj1⟩ hJ
  refine en aA 0 2 [] ?_
  refine si 0 rfl rfl (fun h24 => ?_) (fun h24 => ?_)
  ·have hj : j < l.length := by omega
   refine jH 0 0 [0, 0, 3, 7, 15, 0, 32, 127] [0, 1, 2, 3, 4, 5, 6, 7] ?_
   refine xd aA 8 [MX (l[l.length - 1 - j]'(by omega))] ?_ (hφ := by exact ⟨by omega, B5 (by omega)⟩)
   refine xe ?_
   refine si 0 rfl rfl (fun h34 => ?_) (fun h34 => ?_)
   ·have e : cN (aM l) (sK n) = aV (l[l.length - 1 - j]'(by omega)).2 := by simp [cN, FN hj hj1 h34]
    have hbf := hB.se _ (List.getElem_mem (show l.length - 1 - j < l.length by omega))
    refine en aA 0 5 [MX (l[l.length - 1 - j]'(by omega))] ?_ (hφ := by exact ⟨by omega, B5 (by omega)⟩)
    refine fc aA 4 [] (oD hbf.2) ?_
    refine sr 0 R ?_
    rw [e]; rfl
   ·refine en aA 0 3 [] ?_
    refine sl 0 ?_
    exact hJ (j + 1) ⟨by omega, pZ hj hj1 h34⟩ (by omega)
  ·have hjl : j = l.length := by omega
   subst hjl
   have e : cN (aM l) (sK n) = ([], 7) := by
    have : aM l n = none := by
     unfold f7 at hj1
     rw [List.take_of_length_le (by simp)] at hj1
     exact tB hj1
    simp [cN, this]
   refine en aA 0 2 [] ?_
   refine uB 4 rfl (v' := cI []) (fun _ _ _ h => cS (by decide) h) ?_
   refine sr 0 R ?_
   rw [e]; rfl
theorem V1 {l : List (Bytes × List Se)} {v : Val} : Fc Tryz.prog gT 17 [.a [nI 1, .str [], nI v.k, nI v.n, .s 0 []], qD l] (.t [cI [⟨[], v⟩], nI 0]) := by
 refine fb aA (fn := Tryz.f17) 84 [.tmp 4, .tmp 5] Tryz.func17 Tryz.results17 (fun g0 B0 Q ρ0 R => ?_)
 refine en aA 0 3 [] ?_
 refine sn aA 0 2 [] ?_
 refine sn aA 0 2 [] ?_
 refine sn aA 1 2 [] ?_
 refine fc aA 2 [] (xW (v := v)) ?_
 refine uB 4 rfl (v' := cI [⟨[], v⟩]) (fun _ _ _ h => IA h) ?_
 refine sr 0 R ?_
 rfl
theorem K1 {l : List (Bytes × List Se)} (hB : yQ l) {o : Bytes} {a : Ex} (iha : Fc Tryz.prog gT 17 [eD a, qD l] (.t [cI (cN (aM l) a).1, nI (cN (aM l) a).2])) (hba : (∀ s ∈ (cN (aM l) a).1, fO s.l) ∧ (cN (aM l) a).1.length * 40 ≤ jZ) : Fc Tryz.prog gT 17 [.a [nI 3, .str o, nI 0, nI 0, .s 5 [kP a]], qD l] (.t [cI (cN (aM l) (eU o [a])).1, nI (cN (aM l) (eU o [a])).2]) := by
 refine fb aA (fn := Tryz.f17) 84 [.tmp 4, .tmp 5] Tryz.func17 Tryz.results17 (fun g0 B0 Q ρ0 R => ?_)
 obtain ⟨A, hA⟩ : ∃ q, q = cN (aM l) a := ⟨_, rfl⟩
 rw [← hA] at iha hba
 have e0 := rH (aM l) o a
 rw [← hA] at e0
 refine en aA 0 3 [] ?_
 refine sn aA 0 2 [] ?_
 refine sn aA 0 2 [] ?_
 refine sn aA 1 2 [] ?_
 refine sz 2 ?_
 refine sn aA 1 5 [kP a] ?_
 refine fc aA 5 [] (iha) ?_
 refine sn aA 0 2 [] ?_
 refine si 0 rfl rfl (fun h53 => ?_) (fun h53 => ?_)
 ·have e : cN (aM l) (eU o [a]) = ([], A.2) := by rw [e0, if_pos h53]
  refine en aA 0 3 [] ?_
  refine uB 4 rfl (v' := cI []) (fun _ _ _ h => cS (by decide) h) ?_
  refine sr 0 R ?_
  rw [e]; rfl
 ·have e : cN (aM l) (eU o [a]) = jT o A.1 := by rw [e0, if_neg h53]
  refine en aA 0 4 [] ?_
  refine sn aA 1 3 [] ?_
  refine fc aA 4 [] (VZ (op := o) hba.2) ?_
  refine sr 0 R ?_
  rw [e]; rfl
theorem V3 {l : List (Bytes × List Se)} (hB : yQ l) {o : Bytes} {a b : Ex} (iha : Fc Tryz.prog gT 17 [eD a, qD l] (.t [cI (cN (aM l) a).1, nI (cN (aM l) a).2])) (hba : (∀ s ∈ (cN (aM l) a).1, fO s.l) ∧ (cN (aM l) a).1.length * 40 ≤ jZ) (ihb : Fc Tryz.prog gT 17 [eD b, qD l] (.t [cI (cN (aM l) b).1, nI (cN (aM l) b).2])) (hbb : (∀ s ∈ (cN (aM l) b).1, fO s.l) ∧ (cN (aM l) b).1.length * 40 ≤ jZ) : Fc Tryz.prog gT 17 [.a [nI 3, .str o, nI 0, nI 0, .s 5 [kP a, kP b]], qD l] (.t [cI (cN (aM l) (eU o [a, b])).1, nI (cN (aM l) (eU o [a, b])).2]) := by
 refine fb aA (fn := Tryz.f17) 84 [.tmp 4, .tmp 5] Tryz.func17 Tryz.results17 (fun g0 B0 Q ρ0 R => ?_)
 obtain ⟨A, hA⟩ : ∃ q, q = cN (aM l) a := ⟨_, rfl⟩
 obtain ⟨B, hB2⟩ : ∃ q, q = cN (aM l) b := ⟨_, rfl⟩
 rw [← hA] at iha hba
 rw [← hB2] at ihb hbb
 have e0 := B6 (aM l) o a b
 rw [← hA, ← hB2] at e0
 refine en aA 0 3 [] ?_
 refine sn aA 0 2 [] ?_
 refine sn aA 0 2 [] ?_
 refine sn aA 1 2 [] ?_
 refine sz 2 ?_
 refine sn aA 1 5 [kP a] ?_
 refine fc aA 5 [] (iha) ?_
 refine sn aA 0 2 [] ?_
 refine si 0 rfl rfl (fun h53 => ?_) (fun h53 => ?_)
 ·have e : cN (aM l) (eU o [a, b]) = ([], A.2) := by rw [e0, if_pos h53]
  refine en aA 0 3 [] ?_
  refine uB 4 rfl (v' := cI []) (fun _ _ _ h => cS (by decide) h) ?_
  refine sr 0 R ?_
  rw [e]; rfl
 ·refine en aA 0 4 [] ?_
  refine sn aA 1 5 [kP b] ?_
  refine fc aA 5 [] (ihb) ?_
  refine sn aA 0 2 [] ?_
  refine si 0 rfl rfl (fun h75 => ?_) (fun h75 => ?_)
  ·have e : cN (aM l) (eU o [a, b]) = ([], B.2) := by rw [e0, if_neg h53, if_pos h75]
   refine en aA 0 3 [] ?_
   refine uB 4 rfl (v' := cI []) (fun _ _ _ h => cS (by decide) h) ?_
   refine sr 0 R ?_
   rw [e]; rfl
  ·have e : cN (aM l) (eU o [a, b]) = dO o A.1 B.1 := by rw [e0, if_neg h53, if_neg h75]
   refine en aA 0 4 [] ?_
   refine fc aA 4 [] (SB (op := o) hba.2 hbb.2) ?_
   refine sr 0 R ?_
   rw [e]; rfl
theorem V4 {l : List (Bytes × List Se)} (hB : yQ l) {x : Ex} (h : Wf x) : Fc Tryz.prog gT 17 [eD x, qD l] (.t [cI (cN (aM l) x).1, nI (cN (aM l) x).2]) := by
 induction h with
 | @num v hv =>
   have e : cN (aM l) (mG v) = ([⟨[], v⟩], 0) := by simp [cN]
   rw [e]
   exact V1
 | @ref n hn => exact V0 hB
 | sign ho hx ih => rw [nR]; exact K1 hB ih (k5 hx)
 | fn ho hx ih => rw [nR]; exact K1 hB ih (k5 hx)
 | bin _ _ _ hx hy ihx ihy => rw [qT]; exact V3 hB ihx (k5 hx) ihy (k5 hy)
end Go.Proofs.YtomkgfdigldhcaaGreatDoor
namespace Go.KX
section
variable {X : Kx} {arr : Array Oper} {k : List It} {L : SL} {M : SM} {fs : List MF} {own : List aH} {o : Oper}
theorem aC2 (t : Nat) {i n T sz : Nat} {rows : List (List SV)} (hn : n = rows.length) (hi : aF L t = some (.o i n)) (hm : fZ M i = some (.r T sz rows)) (hr : ∀ r ∈ rows, r.length = sz) {g : GW} {a : Act} (s : cV X L M fs own g a) : ∃ g', g'.w = g.w ∧ cV X ((t, .s sz rows) :: L) (G7 i (.r T sz rows) M) fs own g' a := by
 have h := wJ (X := X) (k := [.lp fun a' w => ∃ g' : GW, g'.w = w ∧ cV X ((t, .s sz rows) :: L) (G7 i (.r T sz rows) M) fs own g' a']) t hn (fun g a h => (⟨g, rfl, h⟩ : ∃ g' : GW, g'.w = g.w ∧ cV X ((t, .s sz rows) :: L) (G7 i (.r T sz rows) M) fs own g' a)) hi hm hr g a s
 exact h
theorem aE0 {tb : TT} (hT : tb.Ok X.P) (m : Nat) (H : List (List SV)) {un q d T Te i n sz z : Nat} {D r π' : List Nat} {Ms Ms' : List SM} {x y : Operand} {rows rows2 : List (List SV)} {dT de : TD} {L' M' φ} (hn : n = rows.length) (hz2 : rows2 ≠ [] → z = sz) (hbig : (rows.length + rows2.length) * de.by_ ≤ 140737488355328) (hrl : ∀ r ∈ rows ++ rows2, r.length = sz) (hk : ED X arr k fs own un D π' L' M' Ms') (hi : arr[q]? = some o := by rfl) (hu : un.testBit q = true := by rfl) (ho : o.op = .call ⟨.builtin .append, #[x, y], #[T, T]⟩ := by rfl) (hg : o.guard = none := by rfl) (hd : o.dst = some d := by rfl) (hdn : Nat.blt d X.n = true := by rfl)
 (hx : cO (aF L) x = some (.o i n) := by rfl) (hy : cO (aF L) y = some (.s z rows2) := by rfl) (hm : fZ M i = some (.r Te sz rows) := by rfl) (hT1 : tb.get T = some dT := by rfl) (hk1 : dT.kd = .sl Te := by rfl) (hT2 : tb.get Te = some de := by rfl) (hsz : de.sz = sz := by rfl) (hzl : Nat.beq (aN (inj de.z)).length de.sz = true := by rfl) (hby : 1 ≤ de.by_ := by decide) (hoL : cU d L = false := by rfl) (hoM : eM d M = false := by rfl) (hi1 : Nat.blt d 1000 = true := by rfl)
 (hm2 : fZ (P6 i d (.r Te sz (rows ++ rows2)) M) d = some (.r Te sz (rows ++ rows2)) := by rfl)
 (hr : f9 tb X.n arr un D m H r ((d, .s sz (rows ++ rows2)) :: L) (G7 d (.r Te sz (rows ++ rows2)) (P6 i d (.r Te sz (rows ++ rows2)) M)) (M :: Ms) [] = some (π', L', M', Ms', φ) := by rfl) (hφ : aE φ := by first | trivial | omega | (simp +contextual [aE]; done)) : ED X arr k fs own un D (q :: r) L M Ms := by
 refine ⟨o, .s sz (rows ++ rows2), hi, ?_⟩
 rw [hu]
 have h0 := P8 (M := M) (fs := fs) (own := own) (arr := arr) hT hn hz2 hbig ho hg hd hdn hx hy hm hT1 hk1 hT2 hsz hzl hby hoL hoM hi1
 have h1 : G4 X arr o L M fs own (.s sz (rows ++ rows2)) (G7 d (.r Te sz (rows ++ rows2)) (P6 i d (.r Te sz (rows ++ rows2)) M)) := fun L2 hL2 hoc g a s => lJ (fun a' w' h => by
  obtain ⟨g', hw, s'⟩ := h
  simp only [hd] at s' ⊢
  obtain ⟨g2, hw2, s2⟩ := aC2 d rfl (bF _ _ _) hm2 hrl s'
  refine ⟨g2, hw2.trans hw, s2.sub (fun t sv ht => ?_)⟩
  by_cases htd : t = d
  ·subst htd
   simp only [jQ, bF] at ht ⊢
   exact ht
  ·simp only [jQ] at ht ⊢
   rw [bX _ _ htd] at ht
   rw [bX _ _ htd, bX _ _ htd]
   exact ht) (h0 L2 hL2 hoc g a s)
 refine ⟨_, h1, ?_⟩
 rw [hd]
 exact xd hT m H hk hr hφ
end
abbrev dE (s : Bytes) (p : Pd) : MB := .c 101 [.str s, nI p.i, nI p.e, nI p.at_]
theorem CE {P : UInt8 → Prop} (h : ∀ n < 256, P (UInt8.ofNat n)) (c : UInt8) : P c := by
 have := h c.toNat (UInt8.toNat_lt c)
 rwa [UInt8.ofNat_toNat] at this
theorem letter_eq (c : UInt8) : (decide ((97 : Int) ≤ (c.toNat : Int)) && decide ((c.toNat : Int) ≤ 122) || decide ((65 : Int) ≤ (c.toNat : Int)) && decide ((c.toNat : Int) ≤ 90) || decide ((c.toNat : Int) = 95)) = decide (c ∈ pD) :=
 CE (P := fun c => (decide ((97 : Int) ≤ (c.toNat : Int)) && decide ((c.toNat : Int) ≤ 122) || decide ((65 : Int) ≤ (c.toNat : Int)) && decide ((c.toNat : Int) ≤ 90) || decide ((c.toNat : Int) = 95)) = decide (c ∈ pD)) (by decide +kernel) c
theorem digit_eq (c : UInt8) : (decide ((48 : Int) ≤ (c.toNat : Int)) && decide ((c.toNat : Int) ≤ 57)) = decide (c ∈ b8) :=
 CE (P := fun c => (decide ((48 : Int) ≤ (c.toNat : Int)) && decide ((c.toNat : Int) ≤ 57)) = decide (c ∈ b8)) (by decide +kernel) c
theorem CG (c : UInt8) : (decide (c ∈ pD) || decide (c ∈ b8)) = decide (c ∈ kB) :=
 CE (P := fun c => (decide (c ∈ pD) || decide (c ∈ b8)) = decide (c ∈ kB)) (by decide +kernel) c
theorem FX (c : UInt8) : (decide ((c.toNat : Int) < 65) || decide ((90 : Int) < (c.toNat : Int))) = !decide (c ∈ pT) :=
 CE (P := fun c => (decide ((c.toNat : Int) < 65) || decide ((90 : Int) < (c.toNat : Int))) = !decide (c ∈ pT)) (by decide +kernel) c
theorem o9 {g s : Bytes} {k : Nat} (hk : k ≤ s.length) (h : ∀ x ∈ s.take k, x ∈ g) (hx : ∀ hh : k < s.length, s[k] ∉ g) : a7 g s = k := by
 rw [wG hk h]
 rcases Nat.lt_or_ge k s.length with hh | hh
 ·rw [List.drop_eq_getElem_cons hh]
  have : a7 g (s[k] :: s.drop (k + 1)) = 0 := by unfold a7; rw [if_neg (hx hh)]
  omega
 ·rw [List.drop_eq_nil_of_le hh]; rfl
theorem f8 {s : Bytes} {i k : Nat} (h : i + k < s.length) : (s.drop i)[k]'(by simp; omega) = s.getD (i + k) 0 := by
 rw [List.getElem_drop, List.getD_eq_getElem?_getD, List.getElem?_eq_getElem h]; rfl
variable {s : Bytes}
theorem k9 (p : Pd) (e a : Int) : (p.fail e a).i = p.i := by unfold Pd.fail; split <;> rfl
theorem iP {p : Pd} (h : p.i ≤ s.length) : p.i ≤ (p.blanks s).i ∧ (p.blanks s).i ≤ s.length := by
 have := eY [32] (s.drop p.i)
 unfold Pd.blanks
 simp at this ⊢
 omega
theorem oG {p : Pd} {x : Bytes} (h : iC s p = some x) : 1 ≤ x.length ∧ x.length ≤ 2 ∧ (p.blanks s).i + x.length ≤ s.length ∧ p.e = 0 := by
 unfold iC at h
 split at h
 ·rename_i he
  have h1 := List.mem_of_find?_eq_some h
  have h2 := List.find?_some h
  have h3 : ∀ x ∈ bJ, 1 ≤ x.length ∧ x.length ≤ 2 := by decide
  have h4 := wO h2
  rw [List.length_drop] at h4
  have := h3 x h1
  exact ⟨this.1, this.2, by omega, he⟩
 ·cases h
theorem iQ {l : List Bytes} {p : Pd} {x : Bytes} (h : aS s l p = some x) : iC s p = some x ∧ x ∈ l := by
 unfold aS at h
 split at h
 ·rename_i y hy
  split at h
  ·rename_i hm; cases h; exact ⟨hy, hm⟩
  ·cases h
 ·cases h
theorem cD {l : List Bytes} {p : Pd} (h : p.i ≤ s.length) : p.i ≤ (aJ s l p).i ∧ (aJ s l p).i ≤ s.length := by
 have h1 := iP h
 unfold aJ
 cases ht : aS s l p with
 | none => exact h1
 | some x =>
   have h4 := oG (iQ ht).1
   exact ⟨by simp; omega, by simp; omega⟩
theorem kK {l : List Bytes} {p : Pd} {x : Bytes} (hi : p.i ≤ s.length) (ht : aS s l p = some x) : p.i + 1 ≤ (aJ s l p).i := by
 have h1 := iP hi
 have h4 := oG (iQ ht).1
 unfold aJ
 rw [ht]
 simp only
 omega
theorem tC {x : Bytes} {p : Pd} (h : p.i ≤ s.length) : p.i ≤ (i7 s x p).i ∧ (i7 s x p).i ≤ s.length := by
 have := cD (l := [x]) h
 unfold i7
 split
 ·exact this
 ·rw [k9]; exact this
theorem iR {d : Nat} {p : Pd} (h : p.i ≤ s.length) : p.i ≤ (cM s d p).i ∧ (cM s d p).i ≤ s.length := by
 have h1 := iP h
 unfold cM
 split
 ·rw [k9]; exact h1
 ·exact h1
def lH (s : Bytes) (f : Pd → Ex × Pd) : Prop := ∀ p, p.i ≤ s.length → p.i ≤ (f p).2.i ∧ (f p).2.i ≤ s.length
theorem tD {f : Pd → Ex × Pd} (hf : lH s f) {ops : List Bytes} {alone : Bool} : ∀ (n : Nat) (x : Ex) (p : Pd), p.i ≤ s.length → p.i ≤ (bD (qC s) f ops alone n x p).2.i ∧ (bD (qC s) f ops alone n x p).2.i ≤ s.length
 | 0, x, p, h => ⟨Nat.le_refl _, h⟩
 | n + 1, x, p, h => by
   have h1 := cD (l := ops) h
   unfold bD
   simp only
   split
   ·exact h1
   ·have h2 := hf _ h1.2
    split
    ·exact ⟨Nat.le_trans h1.1 h2.1, h2.2⟩
    ·exact ⟨Nat.le_trans h1.1 (Nat.le_trans h2.1 (tD hf n _ _ h2.2).1), (tD hf n _ _ h2.2).2⟩
theorem kL {f : Pd → Ex × Pd} (hf : lH s f) : ∀ n, lH s (eW s f n)
 | 0 => hf
 | n + 1 => fun p h => by
   have h1 := kL hf n p h
   have h2 := tD (kL hf n) (ops := bY.getD (4 - n) []) (alone := n == 2) (s.length + 1) (eW s f n p).1 _ h1.2
   exact ⟨Nat.le_trans h1.1 h2.1, h2.2⟩
theorem tG {f : Pd → Ex × Pd} (hf : lH s f) (d : Nat) : lH s (kV s f d) := fun p h => by
 have h1 := iR (d := d) h
 have h2 := kL hf 5 _ h1.2
 exact ⟨Nat.le_trans h1.1 h2.1, h2.2⟩
section
variable {f : Pd → Ex × Pd} {ops : List Bytes} {alone : Bool} {n : Nat} {x : Ex} {p : Pd}
theorem iS (h : aS s ops p = none) : bD (qC s) f ops alone (n + 1) x p = (x, aJ s ops p) := by
 conv => lhs; unfold bD
 simp only [h]
theorem FY {o : Bytes} (h : aS s ops p = some o) : bD (qC s) f ops true (n + 1) x p = (eU o [x, (f (aJ s ops p)).1], (f (aJ s ops p)).2) := by
 conv => lhs; unfold bD
 simp only [h]
theorem kM {o : Bytes} (h : aS s ops p = some o) : bD (qC s) f ops false (n + 1) x p = bD (qC s) f ops false n (eU o [x, (f (aJ s ops p)).1]) (f (aJ s ops p)).2 := by
 conv => lhs; unfold bD
 simp only [h]
end
theorem pre_eq {i : Nat} {x : Bytes} (hi : i ≤ s.length) : (decide (((i : Int) + (x.length : Int)) ≤ (s.length : Int)) && decide ((s.drop (i : Int).toNat).take (((i : Int) + (x.length : Int)).toNat - (i : Int).toNat) = x)) = Lib.hasPrefix (s.drop i) x := by
 have e1 : ((i : Int)).toNat = i := Int.toNat_natCast i
 have e2 : ((i : Int) + (x.length : Int)).toNat - i = x.length := by omega
 rw [e1, e2]
 unfold Lib.hasPrefix
 rw [Bool.eq_iff_iff, List.isPrefixOf_iff_prefix]
 simp only [Bool.and_eq_true, decide_eq_true_eq]
 constructor
 ·rintro ⟨_, h⟩
  rw [← h]; exact List.take_prefix _ _
 ·intro h
  have hl := h.length_le
  rw [List.length_drop] at hl
  have h2 := List.prefix_iff_eq_take.1 h
  by_cases hx : x = []
  ·subst hx
   exact ⟨by simp; omega, by simp⟩
  ·have : 0 < x.length := List.length_pos_iff.2 hx
   exact ⟨by omega, h2.symm⟩
theorem bP {l : List Bytes} {p : Pd} : ((aS s l p).getD [] = []) ↔ aS s l p = none := by
 cases h : aS s l p with
 | none => simp
 | some x =>
   have := oG (iQ h).1
   simp only [Option.getD_some]
   constructor
   ·rintro rfl; simp at this
   ·intro h; cases h
theorem xX {x : Bytes} : [x].length ≤ 1000000 := by simp
theorem CH {x y : Bytes} : [x, y].length ≤ 1000000 := by simp
theorem YR {a b c d e f : Bytes} : [a, b, c, d, e, f].length ≤ 1000000 := by simp
abbrev SC (w : Bytes) : Bool := decide ((w.length : Int) < 1) || decide ((16 : Int) < (w.length : Int)) || decide (((w.getD 0 0).toNat : Int) < 65) || decide ((90 : Int) < ((w.getD 0 0).toNat : Int))
theorem YS {w : Bytes} (h : (!(decide ((w.length : Int) < 1) || decide ((16 : Int) < (w.length : Int)))) = true) : 0 ≤ (0 : Int) ∧ (0 : Int) < (w.length : Int) := by
 simp only [Bool.not_eq_true', Bool.or_eq_false_iff, decide_eq_false_iff_not] at h
 omega
theorem V5 {w : Bytes} {b : Bool} (h : (!(decide ((w.length : Int) < 1) || decide ((16 : Int) < (w.length : Int)) || b)) = true) : 0 ≤ (0 : Int) ∧ (0 : Int) < (w.length : Int) := by
 simp only [Bool.not_eq_true', Bool.or_eq_false_iff, decide_eq_false_iff_not] at h
 omega
theorem YT {w : Bytes} (h : SC w = true) : lN w = false := by
 cases w with
 | nil => rfl
 | cons c r =>
   have hg := FX c
   simp only [SC, List.getD_cons_zero, Bool.or_assoc] at h
   rw [hg] at h
   simp only [Bool.or_eq_true, decide_eq_true_eq, Bool.not_eq_true', decide_eq_false_iff_not] at h
   unfold lN
   rcases h with h | h | h
   ·simp at h; omega
   ·rw [decide_eq_false (by omega)]; rfl
   ·simp [h]
theorem V6 {w : Bytes} (h : SC w = false) : ∃ c r, w = c :: r ∧ c ∈ pT ∧ w.length ≤ 16 := by
 cases w with
 | nil => simp [SC] at h
 | cons c r =>
   have hg := FX c
   simp only [SC, List.getD_cons_zero, Bool.or_assoc] at h
   rw [hg] at h
   simp only [Bool.or_eq_false_iff, decide_eq_false_iff_not, Bool.not_eq_false', decide_eq_true_eq] at h
   exact ⟨c, r, rfl, h.2.2, by omega⟩
theorem V7 {w : Bytes} {c : UInt8} {r : Bytes} (hw : w = c :: r) {j : Nat} (hj : j < w.length) (h : ∀ x ∈ w.take j, x ∈ kB) (hx : w[j] ∉ kB) : lN w = false := by
 have := o9 (g := kB) (Nat.le_of_lt hj) h (fun _ => hx)
 subst hw
 unfold lN
 rw [this, decide_eq_false (by omega : ¬ j = (c :: r).length)]
 simp
theorem SD {w : Bytes} {c : UInt8} {r : Bytes} (hw : w = c :: r) (hg : c ∈ pT) (hl : w.length ≤ 16) (h : ∀ x ∈ w, x ∈ kB) : lN w = true := by
 have := o9 (g := kB) (s := w) (k := w.length) (Nat.le_refl _) (fun x hx => h x (List.mem_of_mem_take hx)) (fun hh => absurd hh (Nat.lt_irrefl _))
 subst hw
 unfold lN
 rw [this]
 simp only [List.length_cons] at hl ⊢
 simp [hg, hl]
end Go.KX
namespace Go.KX
section
variable {pv : Bytes → Val × Int} {s : Bytes} {ex : Pd → Ex × Pd} {p : Pd}
theorem FZ : (p.blanks s).blanks s = p.blanks s := by
 unfold Pd.blanks
 have := sN [32] (s.drop p.i)
 rw [List.drop_drop] at this
 simp only
 rw [this, Nat.add_zero]
theorem xY {l : List Bytes} (h : aS s l (p.blanks s) = none) : aJ s l (p.blanks s) = p.blanks s := by unfold aJ; rw [h, FZ]
theorem xZ (h : p.e ≠ 0) : c7 pv s ex p = (mY, p.blanks s) := by unfold c7; simp only; rw [if_neg h]
theorem NF {o : Bytes} (h : p.e = 0) (ht : aS s [iZ] (p.blanks s) = some o) : c7 pv s ex p = EJ s ex (aJ s [iZ] (p.blanks s)) := by unfold c7; simp only; rw [if_pos h, ht]
theorem NG (h : p.e = 0) (ht : aS s [iZ] (p.blanks s) = none) (hn : s.drop (p.blanks s).i = []) : c7 pv s ex p = (mY, (p.blanks s).fail 110 (p.blanks s).i) := by
 unfold c7; simp only; rw [if_pos h, ht, hn, xY ht]
theorem IJ {c : UInt8} {r : Bytes} (h : p.e = 0) (ht : aS s [iZ] (p.blanks s) = none) (hn : s.drop (p.blanks s).i = c :: r) : c7 pv s ex p = if c ∈ b8 then qO pv (c :: r) (p.blanks s) else if c = 36 then PI (c :: r) (p.blanks s) else if c ∈ pD then lO s ex (c :: r) (p.blanks s) else (mY, (p.blanks s).fail 110 (p.blanks s).i) := by
 unfold c7; simp only; rw [if_pos h, ht, hn]
theorem mP {i : Nat} (h : i < s.length) : s.drop i = s.getD i 0 :: s.drop (i + 1) := by
 rw [List.drop_eq_getElem_cons h, List.getD_eq_getElem?_getD, List.getElem?_eq_getElem h]; rfl
theorem F3 {i a k : Nat} (ha : a7 b8 (s.drop i) = a) (h1 : i + a + 1 < s.length) (h2 : s.getD (i + a) 0 = 46) (h3 : s.getD (i + a + 1) 0 ∈ b8) (hk : a7 b8 (s.drop (i + a + 1)) = k) : bE (s.drop i) = a + 1 + k := by
 unfold bE
 have e1 : (s.drop i).drop (a + 1) = s.drop (i + a + 1) := by rw [List.drop_drop, Nat.add_assoc]
 have e2 : (s.drop i).getD a 0 = s.getD (i + a) 0 := by simp [List.getD_eq_getElem?_getD, List.getElem?_drop]
 have h0 : 0 < a7 b8 (s.drop (i + a + 1)) := by
  rw [mP h1]
  unfold a7
  rw [if_pos h3]; omega
 rw [ha, e1, e2, if_pos ⟨by rw [List.length_drop]; omega, h2, h0⟩, hk]
theorem CJ {i a : Nat} (ha : a7 b8 (s.drop i) = a) (h : ¬ (i + a + 1 < s.length ∧ s.getD (i + a) 0 = 46 ∧ s.getD (i + a + 1) 0 ∈ b8)) : bE (s.drop i) = a := by
 unfold bE
 have e1 : (s.drop i).drop (a + 1) = s.drop (i + a + 1) := by rw [List.drop_drop, Nat.add_assoc]
 have e2 : (s.drop i).getD a 0 = s.getD (i + a) 0 := by simp [List.getD_eq_getElem?_getD, List.getElem?_drop]
 rw [ha, e1, e2, if_neg]
 rintro ⟨h1, h2, h3⟩
 rw [List.length_drop] at h1
 have h1' : i + a + 1 < s.length := by omega
 refine h ⟨h1', h2, ?_⟩
 rw [mP h1'] at h3
 unfold a7 at h3
 split at h3
 ·assumption
 ·omega
end
section
variable {s : Bytes}
theorem SE (h : ∀ v ∈ c4, ¬ aG v = s) : yM s := JQ (fun v hv => decide_eq_false (fun e => h v hv e.symm))
theorem x2 (h4 : yM s) : aB s = (if 20 < s.length then (zeroV, 80) else
 match dN true 0 (-1) s with
 | none => (zeroV, 80)
 | some (n, left) =>
   let p := i8 3 n (if left < 0 then 3 else left)
   let v := aK (if s.head? = some 45 then -p.1 else p.1)
   if 0 < p.2 ∨ v.k ≠ 1 ∨ aG v ≠ s then (zeroV, 80) else (v, 0) : Val × Int) := by
 rw [← UL]
 unfold HL
 rw [if_neg h4.1, if_neg h4.2.1, if_neg h4.2.2.1, if_neg h4.2.2.2]
 rfl
theorem SG (h4 : yM s) (h : 20 < s.length) : aB s = (zeroV, 80) := by rw [x2 h4, if_pos h]
theorem V8 (h4 : yM s) (h : ¬ 20 < s.length) (hd : dN true 0 (-1) s = none) : aB s = (zeroV, 80) := by rw [x2 h4, if_neg h, hd]
theorem u6 (h4 : yM s) (h : ¬ 20 < s.length) {n left m l2 x : Int} (hd : dN true 0 (-1) s = some (n, left)) (ht : i8 3 n (if left < 0 then 3 else left) = (m, l2)) (hx : (if s.head? = some 45 then -m else m) = x) :
 aB s = if 0 < l2 ∨ (aK x).k ≠ 1 ∨ aG (aK x) ≠ s then (zeroV, 80) else (aK x, 0) := by
 rw [x2 h4, if_neg h, hd]
 simp only [ht, hx]
variable {k : Nat} {n left : Int}
theorem SH (hk : s.length ≤ k) {b : Bool} : dN b n left (s.drop k) = some (n, left) := by
 rw [List.drop_eq_nil_of_le hk]
 unfold dN; rfl
theorem V9 (hk : k < s.length) : dN (decide (k = 0)) n left (s.drop k) = if s.getD k 0 = 45 ∧ k = 0 then dN (decide (k + 1 = 0)) n left (s.drop (k + 1)) else if s.getD k 0 = 46 ∧ left < 0 then dN (decide (k + 1 = 0)) n 3 (s.drop (k + 1)) else
 if 48 ≤ (s.getD k 0).toNat ∧ (s.getD k 0).toNat ≤ 57 ∧ left ≠ 0 ∧ n ≤ 1000000000000000 then dN (decide (k + 1 = 0)) (10 * n + (((s.getD k 0).toNat : Int) - 48)) (if 0 < left then left - 1 else left) (s.drop (k + 1)) else none := by
 rw [mP hk, lT]
 simp
theorem pA : (s.head? = some 45) ↔ (s ≠ [] ∧ s.getD 0 0 = 45) := by
 cases s with
 | nil => simp
 | cons c r => simp
theorem K2 {m : Nat} {n left : Int} (h : 0 < left) (hn : n ≤ 1000000000000000) : i8 (m + 1) n left = i8 m (10 * n) (left - 1) := by
 conv => lhs; unfold i8
 rw [if_pos ⟨h, hn⟩]
theorem K3 {m : Nat} {n left : Int} (h : ¬ (0 < left ∧ n ≤ 1000000000000000)) : i8 m n left = (n, left) := by
 cases m with
 | zero => rfl
 | succ m => unfold i8; rw [if_neg h]
end
section
variable {pv : Bytes → Val × Int} {s : Bytes}
theorem F4 {f : Pd → Ex × Pd} (hf : lH s f) : lH s (EJ s f) := fun p h => by
 have h1 := hf p h
 have h2 := tC (x := GO) h1.2
 exact ⟨Nat.le_trans h1.1 h2.1, h2.2⟩
theorem NH {f : Pd → Ex × Pd} (hf : lH s f) {r : Bytes} {p : Pd} (h : p.i + r.length ≤ s.length) : p.i ≤ (lO s f r p).2.i ∧ (lO s f r p).2.i ≤ s.length := by
 have hl : (r.take (a7 kB r)).length ≤ r.length := by simp; omega
 have h1 : ({ p with i := p.i + (r.take (a7 kB r)).length } : Pd).i ≤ s.length := by show p.i + _ ≤ _; omega
 unfold lO
 simp only
 split
 ·exact ⟨by simp, h1⟩
 split
 ·exact ⟨by simp, h1⟩
 split
 ·exact ⟨by simp, h1⟩
 split
 ·have h2 := tC (x := iZ) h1
  have h3 := F4 hf _ h2.2
  exact ⟨Nat.le_trans (by simp) (Nat.le_trans h2.1 h3.1), h3.2⟩
 ·simp only; rw [k9]; exact ⟨by simp, h1⟩
theorem AL {f : Pd → Ex × Pd} (hf : lH s f) : lH s (c7 pv s f) := fun p h => by
 have h1 := iP h
 unfold c7
 simp only
 split
 ·split
  ·have h2 := cD (l := [iZ]) h1.2
   have h3 := F4 hf _ h2.2
   exact ⟨by omega, h3.2⟩
  ·split
   ·simp only; rw [k9]
    have h2 := cD (l := [iZ]) h1.2
    exact ⟨by omega, h2.2⟩
   ·rename_i c r hr
    have h3 : (c :: r).length = s.length - (p.blanks s).i := by rw [← hr, List.length_drop]
    have hlt : (p.blanks s).i + (c :: r).length ≤ s.length := by omega
    split
    ·unfold qO
     have hb := sS (c :: r)
     exact ⟨by simp only; omega, by simp only; omega⟩
    split
    ·unfold PI
     have hb := eY kB r
     simp only [List.length_cons] at hlt
     simp only [List.drop_succ_cons, List.drop_zero, List.length_take]
     exact ⟨by omega, by omega⟩
    split
    ·have := NH hf (r := c :: r) (p := p.blanks s) hlt
     exact ⟨by omega, this.2⟩
    ·simp only; rw [k9]; exact h1
 ·exact h1
theorem F5 {p : Pd} {d : Nat} {o : Bytes} (h : aS s [a8, bZ] (cM s (32 - d) p) = some o) : r5 pv s (d + 1) p = (eU o [(r5 pv s d (aJ s [a8, bZ] (cM s (32 - d) p))).1], (r5 pv s d (aJ s [a8, bZ] (cM s (32 - d) p))).2) := by
 conv => lhs; unfold r5
 rw [h]
theorem F6 {p : Pd} {d : Nat} (h : aS s [a8, bZ] (cM s (32 - d) p) = none) : r5 pv s (d + 1) p = c7 pv s (kV s (r5 pv s d) (33 - d)) (aJ s [a8, bZ] (cM s (32 - d) p)) := by
 conv => lhs; unfold r5
 rw [h]
theorem rQ : ∀ d, lH s (r5 pv s d)
 | 0 => fun p h => by
   have h1 := iR (s := s) (d := 33) h
   have h2 := cD (l := [a8, bZ]) h1.2
   have h3 := AL (pv := pv) (s := s) (f := fun q => (mY, q)) (fun q hq => ⟨Nat.le_refl _, hq⟩) _ h2.2
   exact ⟨Nat.le_trans h1.1 (Nat.le_trans h2.1 h3.1), h3.2⟩
 | d + 1 => fun p h => by
   have h1 := iR (s := s) (d := 32 - d) h
   have h2 := cD (l := [a8, bZ]) h1.2
   cases ht : aS s [a8, bZ] (cM s (32 - d) p) with
   | some o =>
     rw [F5 ht]
     have h3 := rQ d _ h2.2
     exact ⟨Nat.le_trans h1.1 (Nat.le_trans h2.1 h3.1), h3.2⟩
   | none =>
     rw [F6 ht]
     have h3 := AL (pv := pv) (tG (rQ d) (33 - d)) _ h2.2
     exact ⟨Nat.le_trans h1.1 (Nat.le_trans h2.1 h3.1), h3.2⟩
theorem SI {p : Pd} : (cM s 33 p).e ≠ 0 := by
 unfold cM Pd.fail
 rw [if_pos (by decide)]
 split
 ·show (111 : Int) ≠ 0; decide
 ·assumption
theorem F7 {p : Pd} {l : List Bytes} (h : p.e ≠ 0) : aS s l p = none := by
 unfold aS iC
 rw [if_neg h]
theorem SJ {p : Pd} {l : List Bytes} : (aJ s l p).e = p.e := by
 unfold aJ
 split <;> rfl
theorem F8 (h : ¬ 1024 < s.length) {A : Ex × Pd} (hA : A = kV s (r5 pv s 33) 0 ⟨0, 0, 0⟩) {q2 : Pd} (hq : q2 = (if (A.2.blanks s).i < s.length then (A.2.blanks s).fail 110 (A.2.blanks s).i else A.2.blanks s)) :
 vZ pv s = (if q2.e = 0 then (A.1, 0, 0) else (mY, q2.e, q2.at_)) := by
 unfold vZ
 rw [if_neg h]
 simp only [← hA, ← hq]
end
end Go.KX
namespace Go.Proofs.YtomkgfdigldhcaaGreatDoor
open Go.KX
theorem tH {c : UInt8} {n : Int} (hn : n = (c.toNat : Int)) : Fc Tryz.prog gT 208 [.v (.int .u8 n)] (bS (decide (c ∈ pD))) := by
 refine fb aA (fn := Tryz.f208) 21 [.tmp 2] Tryz.func208 Tryz.results208 (fun g0 B0 Q ρ0 R => ?_)
 subst hn
 refine en aA 0 1 [] ?_
 refine sn aA 0 19 [] ?_
 refine sr 0 R ?_
 exact congrArg (fun b => SV.v (.bool b)) (letter_eq c)
theorem digit_ok {c : UInt8} {n : Int} (hn : n = (c.toNat : Int)) : Fc Tryz.prog gT 209 [.v (.int .u8 n)] (bS (decide (c ∈ b8))) := by
 refine fb aA (fn := Tryz.f209) 9 [.tmp 2] Tryz.func209 Tryz.results209 (fun g0 B0 Q ρ0 R => ?_)
 subst hn
 refine en aA 0 1 [] ?_
 refine sn aA 0 7 [] ?_
 refine sr 0 R ?_
 exact congrArg (fun b => SV.v (.bool b)) (digit_eq c)
theorem j3 {o : Bytes} {x y : Ex} : Fc Tryz.prog gT 95 [.str o, .s 5 [kP x, kP y]] (eD (eU o [x, y])) := by
 refine fb aA (fn := Tryz.f95) 8 [.cell 4 29] Tryz.func95 Tryz.results95 (fun g0 B0 Q ρ0 R => ?_)
 refine en aA 0 1 [] ?_
 refine sn aA 0 4 [] ?_
 refine sr 0 R ?_
 rw [qT]; rfl
theorem AM {o : Bytes} {x : Ex} : Fc Tryz.prog gT 95 [.str o, .s 5 [kP x]] (eD (eU o [x])) := by
 refine fb aA (fn := Tryz.f95) 8 [.cell 4 29] Tryz.func95 Tryz.results95 (fun g0 B0 Q ρ0 R => ?_)
 refine en aA 0 1 [] ?_
 refine sn aA 0 4 [] ?_
 refine sr 0 R ?_
 rw [nR]; rfl
theorem CL {w : Bytes} : Fc Tryz.prog gT 341 [.str w] (bS (cY w)) := by
 refine fb aA (fn := Tryz.f341) 25 [.tmp 2] Tryz.func341 Tryz.results341 (fun g0 B0 Q ρ0 R => ?_)
 refine en aA 0 1 [] ?_
 refine sn aA 0 23 [] ?_
 refine sr 0 R ?_
 refine congrArg (fun b => SV.v (.bool b)) ?_
 unfold cY
 simp only [List.mem_cons, List.not_mem_nil, or_false, Bool.decide_or, Bool.or_assoc]
theorem fP {s : Bytes} {p : Pd} {er a : Int} : Fp Tryz.prog gT 52 [.l 1000 0, nI er, nI a] (dE s p) (.t []) (dE s (p.fail er a)) := by
 refine lU aA (fn := Tryz.f52) 19 [] Tryz.func52 Tryz.results52 (fun g0 B0 Q ρ0 R => ?_)
 refine en aA 0 5 [] ?_
 refine si 0 rfl rfl (fun h10 => ?_) (fun h10 => ?_)
 ·have ef : p.fail er a = ⟨p.i, er, a⟩ := by unfold Pd.fail; rw [if_pos h10]
  refine en aA 0 5 [] ?_
  refine sn aA 0 5 [] ?_
  refine PU 0 R ?_
  exact ⟨rfl, by rw [ef] <;> rfl⟩
 ·have ef : p.fail er a = p := by unfold Pd.fail; rw [if_neg h10]
  refine HM 0 R ?_
  exact ⟨rfl, by rw [ef] <;> rfl⟩
theorem fY {s : Bytes} {p : Pd} (hi : p.i ≤ s.length) (hs : s.length ≤ 1024) : Fp Tryz.prog gT 51 [.l 1000 0] (dE s p) (.t []) (dE s (p.blanks s)) := by
 refine lU aA (fn := Tryz.f51) 31 [] Tryz.func51 Tryz.results51 (fun g0 B0 Q ρ0 R => ?_)
 refine el 0 ?_
 refine aD (σ := Nat) (fun k => p.i + k ≤ s.length ∧ ∀ x ∈ (s.drop p.i).take k, x ∈ ([32] : Bytes)) (fun k => s.length - k)
  (fun k => [(0, .l 1000 0)])
  (fun k => [(1000, dE s { p with i := p.i + k })]) 0 ?_ ?_
 ·exact ⟨by omega, by simp⟩
 ·rintro J k ⟨hk0, hk1⟩ hK
  refine jH 0 0 [0, 1, 3, 7, 0, 16, 48, 112, 240, 511, 1023, 2047, 4095, 8191, 16383, 2047, 34815, 100351, 231423, 524287, 1048575, 2097151] [0, 1, 2, 3, 4, 5, 6, 7, 8, 9, 10, 11, 12, 13, 14, 15, 16, 17, 18, 19, 20, 21] ?_
  refine xd aA 22 [] ?_ (hφ := by (repeat' refine And.intro ?_ ?_) <;> first | exact id | trivial | (intro hg; have hg := of_decide_eq_true hg; refine ⟨?_, ?_⟩ <;> first | omega | exact Int.natCast_nonneg _))
  refine xe ?_
  refine bM 0 rfl rfl (fun h23 => ?_) (fun h23 => ?_)
  ·simp only [Bool.and_eq_true, decide_eq_true_eq] at h23
   obtain ⟨q1, q2⟩ := h23
   have hlt : p.i + k < s.length := by omega
   have h32 : s.getD (p.i + k) 0 = 32 := UInt8.toNat_inj.1 (Int.ofNat.inj q2)
   refine en aA 0 8 [] ?_
   refine sl 0 ?_
   refine c6 1000 (mb' := dE s { p with i := p.i + (k + 1) }) ?_ ?_
   ·exact congrArg (fun z : Int => MB.c 101 [.str s, nI z, nI p.e, nI p.at_]) (by show ((p.i + k : Nat) : Int) + 1 = ((p.i + (k + 1) : Nat) : Int); omega)
   exact hK (k + 1) ⟨by omega, fun x hx => by
    have hkl : k < (s.drop p.i).length := by rw [List.length_drop]; omega
    rw [List.take_succ_eq_append_getElem hkl] at hx
    rcases List.mem_append.1 hx with hx | hx
    ·exact hk1 x hx
    ·simp only [List.mem_singleton] at hx
     rw [hx, f8 (by omega), h32]; simp⟩ (by omega)
  ·have e : p.blanks s = { p with i := p.i + k } := by
    unfold Pd.blanks
    rw [o9 (k := k) (by rw [List.length_drop]; omega) hk1 (fun hh hm => ?_)]
    rw [List.length_drop] at hh
    rw [f8 (by omega), List.mem_singleton] at hm
    rcases Bool.and_eq_false_iff.1 h23 with q | q
    ·have q := of_decide_eq_false q
     exact q (by show ((p.i + k : Nat) : Int) < (s.length : Int); omega)
    ·exact of_decide_eq_false q (by show ((s.getD (p.i + k) 0).toNat : Int) = 32; rw [hm]; rfl)
   refine HM 0 R ?_
   exact ⟨rfl, by rw [e] <;> rfl⟩
theorem SK {s : Bytes} {p : Pd} (hi : p.i ≤ s.length) (hs : s.length ≤ 1024) : Fp Tryz.prog gT 142 [.l 1000 0] (dE s p) (.str ((iC s p).getD [])) (dE s (p.blanks s)) := by
 refine lU aA (fn := Tryz.f142) 65 [.tmp 2] Tryz.func142 Tryz.results142 (fun g0 B0 Q ρ0 R => ?_)
 have hbf := iP hi
 refine en aA 0 1 [] ?_
 refine sn aA 0 1 [] ?_
 refine fp aA 1000 0 [] (fY hi hs) ?_
 refine sn aA 0 2 [] ?_
 refine sn aA 0 1 [] ?_
 refine sl 0 ?_
 obtain ⟨q, hq⟩ : ∃ q, q = p.blanks s := ⟨_, rfl⟩
 have hqe : q.e = p.e := by rw [hq]; rfl
 rw [← hq] at hbf ⊢
 refine aD (σ := Nat) (fun j => j ≤ 15 ∧ ∀ x ∈ bJ.take j, Lib.hasPrefix (s.drop q.i) x = false) (fun j => 15 - j)
  (fun j => [(0, .l 1000 0), (3, rB bJ), (4, nI j)])
  (fun j => [(1000, dE s q)]) 0 ?_ ?_
 ·exact ⟨Nat.zero_le _, by simp⟩
 ·rintro J j ⟨hj0, hj1⟩ hJ
  refine en aA 0 11 [] ?_
  refine bM 0 rfl rfl (fun h19 => ?_) (fun h19 => ?_)
  ·simp only [Bool.and_eq_true, decide_eq_true_eq] at h19
   obtain ⟨q1, q2⟩ := h19
   have hjl : j < 15 := by
    have h15 : bJ.length = 15 := rfl
    rw [List.length_map] at q1
    omega
   have hj : j < bJ.length := hjl
   have hp0 : p.e = 0 := by rw [← hqe]; exact q2
   have hsl : 1 ≤ bJ[j].length ∧ bJ[j].length ≤ 2 := (show ∀ x ∈ bJ, 1 ≤ x.length ∧ x.length ≤ 2 by decide) _ (List.getElem_mem hj)
   refine en aA 0 6 [[.str bJ[j]]] ?_ (hφ := by exact ⟨by omega, aO _ hj⟩)
   refine DZ 0 0 [0, 1, 3, 7, 0, 31, 0, 64, 192, 448, 960, 2047, 4095, 8191, 16383, 32767, 65535, 8191, 139263, 401407, 925695, 8191, 2105343, 6299647, 14688255, 8191, 65019903, 134217727, 8191, 8191, 805314559, 1879056383, 4294967295, 8589934591] [0, 1, 2, 3, 4, 5, 6, 7, 8, 9, 10, 11, 12, 13, 14, 15, 16, 17, 18, 19, 20, 21, 22, 23, 24, 25, 26, 27, 28, 29, 30, 31, 32, 33] ?_
   refine xd aA 34 [[.str bJ[j]]] ?_ (hφ := by (repeat' refine And.intro ?_ ?_) <;> first | exact id | trivial | omega | (unfold vC; omega) | (intro hg; have hg := of_decide_eq_true hg; first | (refine ⟨by omega, aO _ hj⟩) | (unfold vC; omega) | (refine ⟨by omega, by omega, by omega⟩)))
   refine xe ?_
   refine bM 0 rfl rfl (fun h60 => ?_) (fun h60 => ?_)
   ·rw [pre_eq hbf.2] at h60
    have e : iC s p = some bJ[j] := by unfold iC; rw [if_pos hp0, ← hq]; exact uT hj hj1 h60
    refine en aA 0 5 [[.str bJ[j]]] ?_ (hφ := by exact ⟨by omega, aO _ hj⟩)
    refine fW 0 R ?_
    exact ⟨by rw [e] <;> rfl, by rw [← hq] <;> rfl⟩
   ·rw [pre_eq hbf.2] at h60
    have hx := h60
    refine en aA 0 3 [] ?_
    refine sl 0 ?_
    exact hJ (j + 1) ⟨by omega, bH hj hj1 hx⟩ (by omega)
  ·have e : iC s p = none := by
    unfold iC
    by_cases hp0 : p.e = 0
    ·rw [if_pos hp0, ← hq]
     have hj15 : j = 15 := by
      rcases Bool.and_eq_false_iff.1 h19 with q1 | q1
      ·have q1 := of_decide_eq_false q1
       have h15 : bJ.length = 15 := rfl
       rw [List.length_map] at q1
       omega
      ·exact absurd (hqe.trans hp0) (of_decide_eq_false q1)
     subst hj15
     exact List.find?_eq_none.2 (fun x hx => by simp [hj1 x hx])
    ·rw [if_neg hp0]
   refine en aA 0 1 [] ?_
   refine fW 0 R ?_
   exact ⟨by rw [e] <;> rfl, by rw [← hq] <;> rfl⟩
theorem fQ {s : Bytes} {l : List Bytes} {p : Pd} (hl : l.length ≤ 1000000) (hi : p.i ≤ s.length) (hs : s.length ≤ 1024) : Fp Tryz.prog gT 94 [.l 1000 0, rB l] (dE s p) (.str ((aS s l p).getD [])) (dE s (aJ s l p)) := by
 refine lU aA (fn := Tryz.f94) 36 [.tmp 4] Tryz.func94 Tryz.results94 (fun g0 B0 Q ρ0 R => ?_)
 refine en aA 0 1 [] ?_
 refine sn aA 0 1 [] ?_
 refine fp aA 1000 1 [] (SK hi hs) ?_
 refine sn aA 0 1 [] ?_
 refine sl 0 ?_
 obtain ⟨sg, hsg⟩ : ∃ sg, sg = (iC s p).getD [] := ⟨_, rfl⟩
 rw [← hsg]
 have hbf := iP hi
 refine aD (σ := Nat) (fun j => j ≤ l.length ∧ ∀ x ∈ l.take j, ¬ (sg = x ∧ sg ≠ [])) (fun j => l.length - j)
  (fun j => [(0, .l 1000 0), (1, rB l), (5, .str sg), (6, nI j)])
  (fun j => [(1000, dE s (p.blanks s))]) 0 ?_ ?_
 ·exact ⟨Nat.zero_le _, by simp⟩
 ·rintro J j ⟨hj0, hj1⟩ hJ
  refine en aA 0 4 [] ?_
  refine si 0 rfl rfl (fun h12 => ?_) (fun h12 => ?_)
  ·rw [List.length_map] at h12
   have hj : j < l.length := by omega
   refine en aA 0 10 [[.str l[j]]] ?_ (hφ := by (repeat' refine And.intro ?_ ?_) <;> first | omega | exact id | (simp [hj]; done))
   refine bM 0 rfl rfl (fun h24 => ?_) (fun h24 => ?_)
   ·simp only [Bool.and_eq_true, decide_eq_true_eq] at h24
    obtain ⟨q1, q2⟩ := h24
    have hsome : iC s p = some sg := by
     cases hh : iC s p with
     | none => rw [hh] at hsg; exact absurd hsg q2
     | some y => rw [hh] at hsg; rw [hsg]; rfl
    have e1 : aS s l p = some sg := by unfold aS; rw [hsome]; simp only; rw [if_pos (by rw [q1]; exact List.getElem_mem hj)]
    have e2 : aJ s l p = { p.blanks s with i := (p.blanks s).i + sg.length } := by unfold aJ; rw [e1]
    have hso := oG hsome
    refine en aA 0 11 [] ?_ (hφ := by (repeat' refine And.intro ?_ ?_) <;> omega)
    refine sn aA 0 2 [] ?_
    refine fW 0 R ?_
    exact ⟨by rw [e1] <;> rfl, by rw [e2] <;> rfl⟩
   ·have hno : ¬ (sg = l[j] ∧ sg ≠ []) := fun hh => by
     rw [decide_eq_true hh.1, decide_eq_true hh.2] at h24
     cases h24
    refine en aA 0 3 [] ?_
    refine sl 0 ?_
    exact hJ (j + 1) ⟨by omega, fun x hx => by
     rw [List.take_succ_eq_append_getElem hj] at hx
     rcases List.mem_append.1 hx with hx | hx
     ·exact hj1 x hx
     ·simp only [List.mem_singleton] at hx
      subst hx; exact hno⟩ (by omega)
  ·rw [List.length_map] at h12
   have hjl : l.take j = l := List.take_of_length_le (by omega)
   rw [hjl] at hj1
   have e1 : aS s l p = none := by
    cases hh : aS s l p with
    | none => rfl
    | some y =>
     obtain ⟨h1, h2⟩ := iQ hh
     rw [h1] at hsg
     have h3 := (oG h1).1
     exact absurd ⟨hsg, by rw [hsg]; rintro rfl; simp at h3⟩ (hj1 y h2)
   have e2 : aJ s l p = p.blanks s := by unfold aJ; rw [e1]
   refine en aA 0 1 [] ?_
   refine fW 0 R ?_
   exact ⟨by rw [e1] <;> rfl, by rw [e2] <;> rfl⟩
theorem x3 {s x : Bytes} {p : Pd} (hi : p.i ≤ s.length) (hs : s.length ≤ 1024) : Fp Tryz.prog gT 338 [.l 1000 0, .str x] (dE s p) (.t []) (dE s (i7 s x p)) := by
 refine lU aA (fn := Tryz.f338) 15 [] Tryz.func338 Tryz.results338 (fun g0 B0 Q ρ0 R => ?_)
 refine en aA 0 3 [] ?_
 refine fp aA 1000 1 [] (fQ (l := [x]) xX hi hs) ?_
 refine si 0 rfl rfl (fun h8 => ?_) (fun h8 => ?_)
 ·have e1 : aS s [x] p = none := bP.1 h8
  have e2 : i7 s x p = (aJ s [x] p).fail 110 (aJ s [x] p).i := by unfold i7; rw [e1]
  refine en aA 0 5 [] ?_
  refine fp aA 1000 0 [] (fP) ?_
  refine PU 0 R ?_
  exact ⟨rfl, by rw [e2] <;> rfl⟩
 ·obtain ⟨y, e1⟩ : ∃ y, aS s [x] p = some y := Option.ne_none_iff_exists'.1 (fun h => h8 (bP.2 h))
  have e2 : i7 s x p = aJ s [x] p := by unfold i7; rw [e1]
  refine HM 0 R ?_
  exact ⟨rfl, by rw [e2] <;> rfl⟩
theorem F9 {s : Bytes} {p : Pd} {fr : Nat} (hf : fr ≤ s.length) (hs : s.length ≤ 1024) : Fp Tryz.prog gT 340 [.l 1000 0, nI fr] (dE s p) (.str ((s.drop fr).take (a7 kB (s.drop fr)))) (dE s p) := by
 refine lU aA (fn := Tryz.f340) 41 [.tmp 4] Tryz.func340 Tryz.results340 (fun g0 B0 Q ρ0 R => ?_)
 refine en aA 0 1 [] ?_
 refine sn aA 0 2 [] ?_
 refine sl 0 ?_
 refine aD (σ := Nat) (fun k => fr + k ≤ s.length ∧ ∀ x ∈ (s.drop fr).take k, x ∈ kB) (fun k => s.length - k)
  (fun k => [(0, .l 1000 0), (1, nI fr), (5, nI ((fr + k : Nat) : Int))])
  (fun k => [(1000, dE s p)]) 0 ?_ ?_
 ·exact ⟨by omega, by simp⟩
 ·rintro J k ⟨hk0, hk1⟩ hK
  refine en aA 0 14 [] ?_ (hφ := by (repeat' refine And.intro ?_ ?_) <;> first | exact id | trivial | omega | (intro hg h2; rw [hg, h2]; rfl) | (intro hg; rw [hg]; rfl) | (intro hg; simp only [Bool.and_eq_true, decide_eq_true_eq] at hg; refine ⟨?_, ?_⟩ <;> omega))
  refine fg aA 7 [] (fun hg => tH (c := s.getD (fr + k) 0) rfl) ?_ (hφ := by (repeat' refine And.intro ?_ ?_) <;> first | exact id | trivial | omega | (intro hg h2; rw [hg, h2]; rfl) | (intro hg; rw [hg]; rfl) | (intro hg; simp only [Bool.and_eq_true, decide_eq_true_eq] at hg; refine ⟨?_, ?_⟩ <;> omega))
  refine fg aA 2 [] (fun hg => digit_ok (c := s.getD (fr + k) 0) rfl) ?_ (hφ := by (repeat' refine And.intro ?_ ?_) <;> first | exact id | trivial | omega | (intro hg h2; rw [hg, h2]; rfl) | (intro hg; rw [hg]; rfl) | (intro hg; simp only [Bool.and_eq_true, decide_eq_true_eq] at hg; refine ⟨?_, ?_⟩ <;> omega))
  refine bM 0 rfl rfl (fun h31 => ?_) (fun h31 => ?_)
  ·simp only [Bool.and_eq_true] at h31
   obtain ⟨q1, q2⟩ := h31
   have q1 := of_decide_eq_true q1
   have hlt : fr + k < s.length := by omega
   rw [CG] at q2
   have hld := of_decide_eq_true q2
   refine en aA 0 3 [] ?_
   refine sl 0 ?_
   refine jG 5 rfl (v' := nI ((fr + (k + 1) : Nat) : Int)) (congrArg (fun z : Int => nI z) (by omega)) ?_
   exact hK (k + 1) ⟨by omega, fun x hx => by
    have hkl : k < (s.drop fr).length := by rw [List.length_drop]; omega
    rw [List.take_succ_eq_append_getElem hkl] at hx
    rcases List.mem_append.1 hx with hx | hx
    ·exact hk1 x hx
    ·simp only [List.mem_singleton] at hx
     rw [hx, f8 (by omega)]; exact hld⟩ (by omega)
  ·have e : a7 kB (s.drop fr) = k := o9 (by rw [List.length_drop]; omega) hk1 (fun hh hm => by
    rw [List.length_drop] at hh
    rw [f8 (by omega)] at hm
    rcases Bool.and_eq_false_iff.1 h31 with q | q
    ·exact of_decide_eq_false q (by omega)
    ·rw [CG] at q
     exact of_decide_eq_false q hm)
   refine en aA 0 8 [] ?_ (hφ := by (repeat' refine And.intro ?_ ?_) <;> omega)
   refine fW 0 R ?_
   exact ⟨by rw [e, show ((fr + k : Nat) : Int).toNat - (fr : Int).toNat = k by omega] <;> rfl, rfl⟩
theorem WA {w : Bytes} (hw : w.length ≤ 1000000) : Fc Tryz.prog gT 129 [.str w] (bS (lN w)) := by
 refine fb aA (fn := Tryz.f129) 40 [.tmp 2] Tryz.func129 Tryz.results129 (fun g0 B0 Q ρ0 R => ?_)
 refine en aA 0 1 [] ?_
 refine sn aA 0 18 [] ?_ (hφ := by (repeat' refine And.intro ?_ ?_) <;> first | exact id | trivial | (intro hg; exact YS hg) | (intro hg; exact V5 hg) | (intro hg; rw [hg]; rfl))
 refine bM 0 rfl rfl (fun h21 => ?_) (fun h21 => ?_)
 ·have e : lN w = false := YT h21
  refine en aA 0 1 [] ?_
  refine sr 0 R ?_
  rw [e]; rfl
 ·obtain ⟨c, r, hcr, hg, hl⟩ := V6 h21
  refine en aA 0 1 [] ?_
  refine sl 0 ?_
  refine aD (σ := Nat) (fun j => j ≤ w.length ∧ ∀ x ∈ w.take j, x ∈ kB) (fun j => w.length - j)
   (fun j => [(0, .str w), (3, nI j)])
   (fun j => []) 0 ?_ ?_
  ·exact ⟨Nat.zero_le _, by simp⟩
  ·rintro J j ⟨hj0, hj1⟩ hJ
   refine en aA 0 4 [] ?_
   refine si 0 rfl rfl (fun h25 => ?_) (fun h25 => ?_)
   ·have hj : j < w.length := by omega
    have ec : w.getD j 0 = w[j] := by rw [List.getD_eq_getElem?_getD, List.getElem?_eq_getElem hj]; rfl
    refine en aA 0 3 [] ?_ (hφ := by (repeat' refine And.intro ?_ ?_) <;> first | exact id | trivial | omega | (intro hg h2; rw [hg, h2]; rfl) | (intro hg; rw [hg]; rfl) | (intro hg; simp only [Bool.and_eq_true, decide_eq_true_eq] at hg; refine ⟨?_, ?_⟩ <;> omega))
    refine fc aA 5 [] (tH (c := w[j]) (by rw [← ec])) ?_ (hφ := by (repeat' refine And.intro ?_ ?_) <;> first | exact id | trivial | omega | (intro hg h2; rw [hg, h2]; rfl) | (intro hg; rw [hg]; rfl) | (intro hg; simp only [Bool.and_eq_true, decide_eq_true_eq] at hg; refine ⟨?_, ?_⟩ <;> omega))
    refine fg aA 2 [] (fun hg => digit_ok (c := w[j]) (by rw [← ec])) ?_ (hφ := by (repeat' refine And.intro ?_ ?_) <;> first | exact id | trivial | omega | (intro hg h2; rw [hg, h2]; rfl) | (intro hg; rw [hg]; rfl) | (intro hg; simp only [Bool.and_eq_true, decide_eq_true_eq] at hg; refine ⟨?_, ?_⟩ <;> omega))
    refine bM 0 rfl rfl (fun h39 => ?_) (fun h39 => ?_)
    ·have e : lN w = false := V7 hcr hj hj1 (by
      simp only [Bool.and_eq_true, Bool.not_eq_true', decide_eq_false_iff_not] at h39
      intro hm
      have := CG w[j]
      rw [decide_eq_true hm, decide_eq_false h39.1, decide_eq_false h39.2] at this
      cases this)
     refine en aA 0 1 [] ?_
     refine sr 0 R ?_
     rw [e]; rfl
    ·have hx : w[j] ∈ kB := by
      have := CG w[j]
      by_cases h1 : w[j] ∈ pD
      ·rw [decide_eq_true h1] at this; exact of_decide_eq_true this.symm
      ·by_cases h2 : w[j] ∈ b8
       ·rw [decide_eq_true h2, Bool.or_true] at this; exact of_decide_eq_true this.symm
       ·rw [decide_eq_false h1, decide_eq_false h2] at h39; cases h39
     refine en aA 0 3 [] ?_
     refine sl 0 ?_
     exact hJ (j + 1) ⟨by omega, bH hj hj1 hx⟩ (by omega)
   ·have e : lN w = true := SD hcr hg hl (by rw [show w.take j = w from List.take_of_length_le (by omega)] at hj1; exact hj1)
    refine en aA 0 1 [] ?_
    refine sr 0 R ?_
    rw [e]; rfl
end Go.Proofs.YtomkgfdigldhcaaGreatDoor
