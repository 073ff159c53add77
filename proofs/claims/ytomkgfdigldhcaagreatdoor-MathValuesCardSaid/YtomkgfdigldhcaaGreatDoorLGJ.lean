/- UU WG WH UV EF WK WL WJ WM WN WO UM WP WR. -/
import Derived.Test.YtomkgfdigldhcaaGreatDoorLGI
namespace Go.Proofs.YtomkgfdigldhcaaGreatDoor
open Go.KX
set_option maxRecDepth 100000 in
theorem joinS1_ok {op : Bytes} {a b w : Val} (ha : isV a = true) (hb : isV b = true) (h0 : (doV op [numV 0, numV 0]).2 = 0) (hw : (doV op [a, b]).1 = w) (hv : isV w = true) : Fc Tryz.prog gT 57 [.str op, rS1 [a], rS1 [b]] (.t [rS1 [w], nI 0]) := by
 refine fb tOK (fn := Tryz.f57) 93 [.tmp 6, .tmp 7] Tryz.func57 Tryz.results57 (fun g0 B0 Q ρ0 R => ?_)
 refine en tOK 0 2 [] ?_
 refine sn tOK 0 1 [] ?_
 refine fnw tOK 5 [] (sortS1_ok ha) ?_
 refine sn tOK 0 2 [] ?_
 refine sezo 1 (rows := [serL a]) rfl ?_ (hr := by simp)
 refine sdrp 16 ?_
 refine sdrp 18 ?_
 refine sdrp 19 ?_
 refine sn tOK 1 1 [] ?_
 refine fnw tOK 5 [] ((sortS1_ok hb).ren 904) ?_
 refine sn tOK 0 3 [] ?_
 refine sn tOK 1 1 [] ?_
 refine fc tOK 2 [] (knows2_ok (op := op)) ?_
 refine sib 0 rfl rfl (fun h33 => ?_) (fun h33 => ?_)
 ·simp [h0] at h33
 ·refine eezo 2 (rows := [serL b]) rfl ?_ (hr := by simp)
  refine en tOK 0 3 [] ?_
  refine sl 0 ?_
  refine eonl 6 905 98 3 ?_
  refine E_loop (σ := Nat) (fun j => j ≤ 1) (fun j => 1 - j)
    (fun j => [(0, .str op), (2, rS1 [b]), (6, .o 905 (List.replicate j (serL w)).length), (37, rS1 [a]), (38, nI 1), (39, nI j)])
    (fun j => [(905, .r 98 3 (List.replicate j (serL w)))]) 0 ?_ ?_
  ·exact Nat.zero_le _
  ·rintro J j hj0 hO
   refine en tOK 0 1 [] ?_
   refine si 0 rfl rfl (fun h40 => ?_) (fun h40 => ?_)
   ·have hj : j = 0 := by omega
    subst hj
    refine en tOK 0 4 [serL a] ?_
    refine sn tOK 0 3 [] ?_
    refine sl 0 ?_
    refine E_loop (σ := Nat) (fun i => i ≤ 1) (fun i => 1 - i)
      (fun i => [(0, .str op), (2, rS1 [b]), (6, .o 905 (List.replicate i (serL w)).length), (9, .l 9 0), (37, rS1 [a]), (38, nI 1), (39, nI 0), (43, rS1 [b]), (44, nI 1), (45, nI i)])
      (fun i => [(9, .c 98 (serL a)), (905, .r 98 3 (List.replicate i (serL w)))]) 0 ?_ ?_
    ·exact Nat.zero_le _
    ·rintro J i hi0 hI
     refine en tOK 0 1 [] ?_
     refine si 0 rfl rfl (fun h46 => ?_) (fun h46 => ?_)
     ·have hi : i = 0 := by omega
      subst hi
      refine en tOK 0 4 [serL b] ?_
      refine sn tOK 0 4 [] ?_
      refine fc tOK 6 [] (within0_ok) ?_
      refine fg tOK 2 [] (fun hg => within0_ok) ?_
      refine sn tOK 1 4 [] ?_
      refine fc tOK 5 [] (ljoin0_ok) ?_
      refine sn tOK 0 6 [] ?_
      refine fc tOK 6 [] (vdo_ok (op := op) (l := [a, b])) ?_
      refine sn tOK 0 5 [] ?_
      refine sap tOK 1 [] rfl (fun _ => rfl) ?_ ?_
      ·simp
      refine sn tOK 0 2 [] ?_
      refine sl 0 ?_
      refine emb 905 (mb' := .r 98 3 [serL w]) ?_ ?_
      ·rw [← hw]; rfl
      exact hI 1 (by omega) (by omega)
     ·have hi : i = 1 := by omega
      subst hi
      refine en tOK 0 2 [] ?_
      refine sl 0 ?_
      exact hO 1 (by omega) (by omega)
   ·have hj : j = 1 := by omega
    subst hj
    refine eezo 6 (rows := [serL w]) rfl ?_ (hr := by simp)
    refine en tOK 0 1 [] ?_
    refine fnw tOK 4 [] ((sortS1_ok hv).ren 906) ?_
    refine sezo 6 (rows := [serL w]) rfl ?_ (hr := by simp)
    refine sr 0 R ?_
    rfl
end Go.Proofs.YtomkgfdigldhcaaGreatDoor
namespace Go.Proofs.YtomkgfdigldhcaaGreatDoor
open Go.KX
set_option maxRecDepth 100000 in
theorem rone_ok {op : Bytes} {v : Val} (hv : isV v = true) : Fc Tryz.prog gT 122 [.str op, vS v] (.t [vS ((oneR op v).getD zeroV), bS (oneR op v).isSome]) := by
 refine fb tOK (fn := Tryz.f122) 92 [.cell 4 26, .tmp 5] Tryz.func122 Tryz.results122 (fun g0 B0 Q ρ0 R => ?_)
 have hn := isV_n hv
 have ht := tmod_lt v.n
 refine en tOK 0 3 [] ?_
 refine sn tOK 0 1 [] ?_
 refine sn tOK 0 2 [] ?_
 refine si 0 rfl rfl (fun h9 => ?_) (fun h9 => ?_)
 ·have e : oneR op v = some (truthV (decide (v.k = 2))) := by unfold oneR; rw [if_pos h9]
  refine en tOK 0 3 [] ?_
  refine fc tOK 2 [] (rtruth_ok) ?_
  refine sr 0 R ?_
  rw [e]; rfl
 ·refine en tOK 0 2 [] ?_
  refine si 0 rfl rfl (fun h15 => ?_) (fun h15 => ?_)
  ·have e : oneR op v = some (truthV (decide (v.k = 3))) := by unfold oneR; rw [if_neg h9, if_pos h15]
   refine en tOK 0 3 [] ?_
   refine fc tOK 2 [] (rtruth_ok) ?_
   refine sr 0 R ?_
   rw [e]; rfl
  ·refine en tOK 0 2 [] ?_
   refine si 0 rfl rfl (fun h21 => ?_) (fun h21 => ?_)
   ·have e : oneR op v = some (truthV (decide (v.k = 4) || decide (v.k = 5))) := by unfold oneR; rw [if_neg h9, if_neg h15, if_pos h21, Bool.decide_or]
    refine en tOK 0 8 [] ?_
    refine fc tOK 2 [] (rtruth_ok) ?_
    refine sr 0 R ?_
    rw [e]; rfl
   ·refine en tOK 0 2 [] ?_
    refine si 0 rfl rfl (fun h32 => ?_) (fun h32 => ?_)
    ·have e : oneR op v = some (truthV (decide (v.k = 1))) := by unfold oneR; rw [if_neg h9, if_neg h15, if_neg h21, if_pos h32]
     refine en tOK 0 1 [] ?_
     refine fc tOK 0 [] (rfin_ok) ?_
     refine fc tOK 2 [] (rtruth_ok) ?_
     refine sr 0 R ?_
     rw [e]; rfl
    ·refine en tOK 0 2 [] ?_
     refine si 0 rfl rfl (fun h37 => ?_) (fun h37 => ?_)
     ·have hd : op = oSub ∨ op = oAbs ∨ op = oFloor ∨ op = oNot := by simp [h37]
      have eo : oneR op v = some (if v.k = 2 then v else if op = oNot then truthV (!trueR v) else if v.k = 3 then v else if op = oSub ∨ op = oAbs ∧ signR v < 0 then turnedR v else if op = oFloor ∧ v.k = 1 then numV (v.n - (if v.n.tmod 1000 < 0 then v.n.tmod 1000 + 1000 else v.n.tmod 1000)) else v) := by unfold oneR; rw [if_neg h9, if_neg h15, if_neg h21, if_neg h32, if_pos hd]
      refine eas 37 rfl (v' := bS true) ?_ ?_
      ·simp [h37]
      refine en tOK 1 3 [] ?_
      refine si 0 rfl rfl (fun h44 => ?_) (fun h44 => ?_)
      ·have e : oneR op v = some v := by rw [eo, if_pos h44]
       refine en tOK 0 3 [] ?_
       refine sr 0 R ?_
       rw [e]; rfl
      ·refine en tOK 0 3 [] ?_
       refine si 0 rfl rfl (fun h46 => ?_) (fun h46 => ?_)
       ·have e : oneR op v = some (truthV (!trueR v)) := by rw [eo, if_neg h44, if_pos h46]
        refine en tOK 0 1 [] ?_
        refine fc tOK 1 [] (rtrue_ok) ?_
        refine fc tOK 2 [] (rtruth_ok) ?_
        refine sr 0 R ?_
        rw [e]; rfl
       ·refine en tOK 0 4 [] ?_
        refine si 0 rfl rfl (fun h53 => ?_) (fun h53 => ?_)
        ·have e : oneR op v = some v := by rw [eo, if_neg h44, if_neg h46, if_pos h53]
         refine en tOK 0 3 [] ?_
         refine sr 0 R ?_
         rw [e]; rfl
        ·refine en tOK 0 7 [] ?_
         refine fg tOK 4 [] (fun hg => rsign_ok) ?_
         refine sib 0 rfl rfl (fun h58 => ?_) (fun h58 => ?_)
         ·have e : oneR op v = some (turnedR v) := by rw [eo, if_neg h44, if_neg h46, if_neg h53, if_pos (by simpa using h58)]
          refine en tOK 0 1 [] ?_
          refine fc tOK 2 [] (rturned_ok (v := v) (by omega)) ?_
          refine sr 0 R ?_
          rw [e]; rfl
         ·refine en tOK 0 4 [] ?_
          refine fg tOK 2 [] (fun hg => rfin_ok) ?_
          refine sib 0 rfl rfl (fun h72 => ?_) (fun h72 => ?_)
          ·have e0 : oneR op v = some (numV (v.n - (if v.n.tmod 1000 < 0 then v.n.tmod 1000 + 1000 else v.n.tmod 1000))) := by rw [eo, if_neg h44, if_neg h46, if_neg h53, if_neg (by simpa using h58), if_pos (by simpa using h72)]
           refine en tOK 0 4 [] ?_
           refine sn tOK 0 2 [] ?_
           refine si 0 rfl rfl (fun h83 => ?_) (fun h83 => ?_)
           ·have e : oneR op v = some (numV (v.n - (v.n.tmod 1000 + 1000))) := by rw [e0, if_pos h83]
            refine en tOK 0 3 [] ?_
            refine sn tOK 0 4 [] ?_
            refine fc tOK 2 [] (rnum_ok) ?_
            refine sr 0 R ?_
            rw [e]; rfl
           ·have e : oneR op v = some (numV (v.n - v.n.tmod 1000)) := by rw [e0, if_neg h83]
            refine en tOK 0 4 [] ?_
            refine fc tOK 2 [] (rnum_ok) ?_
            refine sr 0 R ?_
            rw [e]; rfl
          ·have e : oneR op v = some v := by rw [eo, if_neg h44, if_neg h46, if_neg h53, if_neg (by simpa using h58), if_neg (by simpa using h72)]
           refine en tOK 0 3 [] ?_
           refine sr 0 R ?_
           rw [e]; rfl
     ·refine en tOK 0 2 [] ?_
      refine si 0 rfl rfl (fun h37 => ?_) (fun h37 => ?_)
      ·have hd : op = oSub ∨ op = oAbs ∨ op = oFloor ∨ op = oNot := by simp [h37]
       have eo : oneR op v = some (if v.k = 2 then v else if op = oNot then truthV (!trueR v) else if v.k = 3 then v else if op = oSub ∨ op = oAbs ∧ signR v < 0 then turnedR v else if op = oFloor ∧ v.k = 1 then numV (v.n - (if v.n.tmod 1000 < 0 then v.n.tmod 1000 + 1000 else v.n.tmod 1000)) else v) := by unfold oneR; rw [if_neg h9, if_neg h15, if_neg h21, if_neg h32, if_pos hd]
       refine eas 37 rfl (v' := bS true) ?_ ?_
       ·simp [h37]
       refine en tOK 1 3 [] ?_
       refine si 0 rfl rfl (fun h44 => ?_) (fun h44 => ?_)
       ·have e : oneR op v = some v := by rw [eo, if_pos h44]
        refine en tOK 0 3 [] ?_
        refine sr 0 R ?_
        rw [e]; rfl
       ·refine en tOK 0 3 [] ?_
        refine si 0 rfl rfl (fun h46 => ?_) (fun h46 => ?_)
        ·have e : oneR op v = some (truthV (!trueR v)) := by rw [eo, if_neg h44, if_pos h46]
         refine en tOK 0 1 [] ?_
         refine fc tOK 1 [] (rtrue_ok) ?_
         refine fc tOK 2 [] (rtruth_ok) ?_
         refine sr 0 R ?_
         rw [e]; rfl
        ·refine en tOK 0 4 [] ?_
         refine si 0 rfl rfl (fun h53 => ?_) (fun h53 => ?_)
         ·have e : oneR op v = some v := by rw [eo, if_neg h44, if_neg h46, if_pos h53]
          refine en tOK 0 3 [] ?_
          refine sr 0 R ?_
          rw [e]; rfl
         ·refine en tOK 0 7 [] ?_
          refine fg tOK 4 [] (fun hg => rsign_ok) ?_
          refine sib 0 rfl rfl (fun h58 => ?_) (fun h58 => ?_)
          ·have e : oneR op v = some (turnedR v) := by rw [eo, if_neg h44, if_neg h46, if_neg h53, if_pos (by simpa using h58)]
           refine en tOK 0 1 [] ?_
           refine fc tOK 2 [] (rturned_ok (v := v) (by omega)) ?_
           refine sr 0 R ?_
           rw [e]; rfl
          ·refine en tOK 0 4 [] ?_
           refine fg tOK 2 [] (fun hg => rfin_ok) ?_
           refine sib 0 rfl rfl (fun h72 => ?_) (fun h72 => ?_)
           ·have e0 : oneR op v = some (numV (v.n - (if v.n.tmod 1000 < 0 then v.n.tmod 1000 + 1000 else v.n.tmod 1000))) := by rw [eo, if_neg h44, if_neg h46, if_neg h53, if_neg (by simpa using h58), if_pos (by simpa using h72)]
            refine en tOK 0 4 [] ?_
            refine sn tOK 0 2 [] ?_
            refine si 0 rfl rfl (fun h83 => ?_) (fun h83 => ?_)
            ·have e : oneR op v = some (numV (v.n - (v.n.tmod 1000 + 1000))) := by rw [e0, if_pos h83]
             refine en tOK 0 3 [] ?_
             refine sn tOK 0 4 [] ?_
             refine fc tOK 2 [] (rnum_ok) ?_
             refine sr 0 R ?_
             rw [e]; rfl
            ·have e : oneR op v = some (numV (v.n - v.n.tmod 1000)) := by rw [e0, if_neg h83]
             refine en tOK 0 4 [] ?_
             refine fc tOK 2 [] (rnum_ok) ?_
             refine sr 0 R ?_
             rw [e]; rfl
           ·have e : oneR op v = some v := by rw [eo, if_neg h44, if_neg h46, if_neg h53, if_neg (by simpa using h58), if_neg (by simpa using h72)]
            refine en tOK 0 3 [] ?_
            refine sr 0 R ?_
            rw [e]; rfl
      ·refine en tOK 0 2 [] ?_
       refine si 0 rfl rfl (fun h37 => ?_) (fun h37 => ?_)
       ·have hd : op = oSub ∨ op = oAbs ∨ op = oFloor ∨ op = oNot := by simp [h37]
        have eo : oneR op v = some (if v.k = 2 then v else if op = oNot then truthV (!trueR v) else if v.k = 3 then v else if op = oSub ∨ op = oAbs ∧ signR v < 0 then turnedR v else if op = oFloor ∧ v.k = 1 then numV (v.n - (if v.n.tmod 1000 < 0 then v.n.tmod 1000 + 1000 else v.n.tmod 1000)) else v) := by unfold oneR; rw [if_neg h9, if_neg h15, if_neg h21, if_neg h32, if_pos hd]
        refine eas 37 rfl (v' := bS true) ?_ ?_
        ·simp [h37]
        refine en tOK 1 3 [] ?_
        refine si 0 rfl rfl (fun h44 => ?_) (fun h44 => ?_)
        ·have e : oneR op v = some v := by rw [eo, if_pos h44]
         refine en tOK 0 3 [] ?_
         refine sr 0 R ?_
         rw [e]; rfl
        ·refine en tOK 0 3 [] ?_
         refine si 0 rfl rfl (fun h46 => ?_) (fun h46 => ?_)
         ·have e : oneR op v = some (truthV (!trueR v)) := by rw [eo, if_neg h44, if_pos h46]
          refine en tOK 0 1 [] ?_
          refine fc tOK 1 [] (rtrue_ok) ?_
          refine fc tOK 2 [] (rtruth_ok) ?_
          refine sr 0 R ?_
          rw [e]; rfl
         ·refine en tOK 0 4 [] ?_
          refine si 0 rfl rfl (fun h53 => ?_) (fun h53 => ?_)
          ·have e : oneR op v = some v := by rw [eo, if_neg h44, if_neg h46, if_pos h53]
           refine en tOK 0 3 [] ?_
           refine sr 0 R ?_
           rw [e]; rfl
          ·refine en tOK 0 7 [] ?_
           refine fg tOK 4 [] (fun hg => rsign_ok) ?_
           refine sib 0 rfl rfl (fun h58 => ?_) (fun h58 => ?_)
           ·have e : oneR op v = some (turnedR v) := by rw [eo, if_neg h44, if_neg h46, if_neg h53, if_pos (by simpa using h58)]
            refine en tOK 0 1 [] ?_
            refine fc tOK 2 [] (rturned_ok (v := v) (by omega)) ?_
            refine sr 0 R ?_
            rw [e]; rfl
           ·refine en tOK 0 4 [] ?_
            refine fg tOK 2 [] (fun hg => rfin_ok) ?_
            refine sib 0 rfl rfl (fun h72 => ?_) (fun h72 => ?_)
            ·have e0 : oneR op v = some (numV (v.n - (if v.n.tmod 1000 < 0 then v.n.tmod 1000 + 1000 else v.n.tmod 1000))) := by rw [eo, if_neg h44, if_neg h46, if_neg h53, if_neg (by simpa using h58), if_pos (by simpa using h72)]
             refine en tOK 0 4 [] ?_
             refine sn tOK 0 2 [] ?_
             refine si 0 rfl rfl (fun h83 => ?_) (fun h83 => ?_)
             ·have e : oneR op v = some (numV (v.n - (v.n.tmod 1000 + 1000))) := by rw [e0, if_pos h83]
              refine en tOK 0 3 [] ?_
              refine sn tOK 0 4 [] ?_
              refine fc tOK 2 [] (rnum_ok) ?_
              refine sr 0 R ?_
              rw [e]; rfl
             ·have e : oneR op v = some (numV (v.n - v.n.tmod 1000)) := by rw [e0, if_neg h83]
              refine en tOK 0 4 [] ?_
              refine fc tOK 2 [] (rnum_ok) ?_
              refine sr 0 R ?_
              rw [e]; rfl
            ·have e : oneR op v = some v := by rw [eo, if_neg h44, if_neg h46, if_neg h53, if_neg (by simpa using h58), if_neg (by simpa using h72)]
             refine en tOK 0 3 [] ?_
             refine sr 0 R ?_
             rw [e]; rfl
       ·refine en tOK 0 2 [] ?_
        refine si 0 rfl rfl (fun h37 => ?_) (fun h37 => ?_)
        ·have hd : op = oSub ∨ op = oAbs ∨ op = oFloor ∨ op = oNot := by simp [h37]
         have eo : oneR op v = some (if v.k = 2 then v else if op = oNot then truthV (!trueR v) else if v.k = 3 then v else if op = oSub ∨ op = oAbs ∧ signR v < 0 then turnedR v else if op = oFloor ∧ v.k = 1 then numV (v.n - (if v.n.tmod 1000 < 0 then v.n.tmod 1000 + 1000 else v.n.tmod 1000)) else v) := by unfold oneR; rw [if_neg h9, if_neg h15, if_neg h21, if_neg h32, if_pos hd]
         refine eas 37 rfl (v' := bS true) ?_ ?_
         ·simp [h37]
         refine en tOK 0 3 [] ?_
         refine si 0 rfl rfl (fun h44 => ?_) (fun h44 => ?_)
         ·have e : oneR op v = some v := by rw [eo, if_pos h44]
          refine en tOK 0 3 [] ?_
          refine sr 0 R ?_
          rw [e]; rfl
         ·refine en tOK 0 3 [] ?_
          refine si 0 rfl rfl (fun h46 => ?_) (fun h46 => ?_)
          ·have e : oneR op v = some (truthV (!trueR v)) := by rw [eo, if_neg h44, if_pos h46]
           refine en tOK 0 1 [] ?_
           refine fc tOK 1 [] (rtrue_ok) ?_
           refine fc tOK 2 [] (rtruth_ok) ?_
           refine sr 0 R ?_
           rw [e]; rfl
          ·refine en tOK 0 4 [] ?_
           refine si 0 rfl rfl (fun h53 => ?_) (fun h53 => ?_)
           ·have e : oneR op v = some v := by rw [eo, if_neg h44, if_neg h46, if_pos h53]
            refine en tOK 0 3 [] ?_
            refine sr 0 R ?_
            rw [e]; rfl
           ·refine en tOK 0 7 [] ?_
            refine fg tOK 4 [] (fun hg => rsign_ok) ?_
            refine sib 0 rfl rfl (fun h58 => ?_) (fun h58 => ?_)
            ·have e : oneR op v = some (turnedR v) := by rw [eo, if_neg h44, if_neg h46, if_neg h53, if_pos (by simpa using h58)]
             refine en tOK 0 1 [] ?_
             refine fc tOK 2 [] (rturned_ok (v := v) (by omega)) ?_
             refine sr 0 R ?_
             rw [e]; rfl
            ·refine en tOK 0 4 [] ?_
             refine fg tOK 2 [] (fun hg => rfin_ok) ?_
             refine sib 0 rfl rfl (fun h72 => ?_) (fun h72 => ?_)
             ·have e0 : oneR op v = some (numV (v.n - (if v.n.tmod 1000 < 0 then v.n.tmod 1000 + 1000 else v.n.tmod 1000))) := by rw [eo, if_neg h44, if_neg h46, if_neg h53, if_neg (by simpa using h58), if_pos (by simpa using h72)]
              refine en tOK 0 4 [] ?_
              refine sn tOK 0 2 [] ?_
              refine si 0 rfl rfl (fun h83 => ?_) (fun h83 => ?_)
              ·have e : oneR op v = some (numV (v.n - (v.n.tmod 1000 + 1000))) := by rw [e0, if_pos h83]
               refine en tOK 0 3 [] ?_
               refine sn tOK 0 4 [] ?_
               refine fc tOK 2 [] (rnum_ok) ?_
               refine sr 0 R ?_
               rw [e]; rfl
              ·have e : oneR op v = some (numV (v.n - v.n.tmod 1000)) := by rw [e0, if_neg h83]
               refine en tOK 0 4 [] ?_
               refine fc tOK 2 [] (rnum_ok) ?_
               refine sr 0 R ?_
               rw [e]; rfl
             ·have e : oneR op v = some v := by rw [eo, if_neg h44, if_neg h46, if_neg h53, if_neg (by simpa using h58), if_neg (by simpa using h72)]
              refine en tOK 0 3 [] ?_
              refine sr 0 R ?_
              rw [e]; rfl
        ·have e : oneR op v = none := by unfold oneR; rw [if_neg h9, if_neg h15, if_neg h21, if_neg h32, if_neg (by simp [*])]
         refine en tOK 0 3 [] ?_
         refine sr 0 R ?_
         rw [e]; rfl
abbrev opsL : List Bytes := [oAdd, oSub, oMul, oDiv, oEq, oNe, oLt, oLe, oGt, oGe, oAnd, oOr]
theorem ops_any (op : Bytes) : (opsL.any fun x => decide (x = op)) = decide (op = oAdd ∨ op = oSub ∨ op = oMul ∨ op = oDiv ∨ op = oEq ∨ op = oNe ∨ op = oLt ∨ op = oLe ∨ op = oGt ∨ op = oGe ∨ op = oAnd ∨ op = oOr) := by
  have hm : op ∈ opsL ↔ (op = oAdd ∨ op = oSub ∨ op = oMul ∨ op = oDiv ∨ op = oEq ∨ op = oNe ∨ op = oLt ∨ op = oLe ∨ op = oGt ∨ op = oGe ∨ op = oAnd ∨ op = oOr) := by
    simp only [opsL, List.mem_cons, List.not_mem_nil, or_false]
  rw [Bool.eq_iff_iff, List.any_eq_true, decide_eq_true_eq, ← hm]
  constructor
  · rintro ⟨x, hx, h⟩
    exact of_decide_eq_true h ▸ hx
  · exact fun h => ⟨op, h, decide_eq_true rfl⟩
theorem turnedR_in {v : Val} (h : -1000000000000000 ≤ v.n ∧ v.n ≤ 1000000000000000) : -1000000000000001 ≤ (turnedR v).n ∧ (turnedR v).n ≤ 1000000000000001 := by
  unfold turnedR
  split
  · decide
  · split
    · decide
    · exact ⟨by show _ ≤ -v.n; omega, by show -v.n ≤ _; omega⟩
set_option maxRecDepth 100000 in
set_option maxHeartbeats 1000000 in
theorem rtwo_ok {op : Bytes} {a b : Val} (ha : isV a = true) (hb : isV b = true) : Fc Tryz.prog gT 123 [.str op, vS a, vS b] (.t [vS ((twoR op a b).getD zeroV), bS (twoR op a b).isSome]) := by
 refine fb tOK (fn := Tryz.f123) 150 [.cell 6 26, .tmp 7] Tryz.func123 Tryz.results123 (fun g0 B0 Q ρ0 R => ?_)
 have hna := isV_n ha
 have hnb := isV_n hb
 have htb := turnedR_in hnb
 refine en tOK 0 4 [] ?_
 refine sn tOK 0 1 [] ?_
 refine sn tOK 0 2 [] ?_
 refine sn tOK 0 1 [] ?_
 refine sl 0 ?_
 refine E_loop (σ := Nat) (fun j => j ≤ 12) (fun j => 12 - j)
   (fun j => [(0, .str op), (4, .l 4 0), (5, .l 5 0), (6, .l 6 0), (7, bS false), (8, bS ((opsL.take j).any fun x => decide (x = op))), (9, .s 1 (opsL.map fun o => [.str o])), (10, nI j)])
   (fun j => [(6, .c 26 [nI 0, nI 0]), (5, .c 26 [nI b.k, nI b.n]), (4, .c 26 [nI a.k, nI a.n])]) 0 ?_ ?_
 ·exact Nat.zero_le _
 ·rintro J j hj0 hJ
  refine en tOK 0 4 [] ?_
  refine si 0 rfl rfl (fun h16 => ?_) (fun h16 => ?_)
  ·have hj : j < 12 := by have := h16; simp at this; omega
   refine en tOK 0 10 [[.str (opsL[j]'hj)]] ?_ (hφ := by refine ⟨fun h => by rw [h]; rfl, ?_⟩; repeat (first | exact id | exact fun _ => ⟨by omega, row_at _ hj⟩ | refine ⟨id, ?_⟩ | refine ⟨fun _ => ⟨by omega, row_at _ hj⟩, ?_⟩))
   refine sn tOK 0 3 [] ?_
   refine eas 8 rfl (v' := bS ((opsL.take (j + 1)).any fun x => decide (x = op))) ?_ ?_
   ·rw [List.take_succ_eq_append_getElem (show j < opsL.length from hj), List.any_append]; simp
   exact hJ (j + 1) (by omega) (by omega)
  ·have hj2 : j = 12 := by have := h16; simp at this; omega
   subst hj2
   refine eas 8 rfl (v' := bS (opsL.any fun x => decide (x = op))) ?_ ?_
   ·rfl
   refine en tOK 0 2 [] ?_
   refine sib 0 rfl rfl (fun h29 => ?_) (fun h29 => ?_)
   ·have e : twoR op a b = none := by unfold twoR; rw [if_neg (by rw [ops_any] at h29; simpa using h29)]
    refine en tOK 0 3 [] ?_
    refine sr 0 R ?_
    rw [e]; rfl
   ·have eo : twoR op a b = some (if a.k = 2 ∨ b.k = 2 then nullV else if op = oAnd then truthV (trueR a && trueR b) else if op = oOr then truthV (trueR a || trueR b) else if op = oEq then truthV (decide (¬ (a.k = 3 ∨ b.k = 3) ∧ a = b)) else if op = oNe then truthV (decide ((a.k = 3 ∨ b.k = 3) ∨ a ≠ b)) else if op = oLt then truthV (decide (¬ (a.k = 3 ∨ b.k = 3) ∧ lessR a b = true)) else if op = oLe then truthV (decide (¬ (a.k = 3 ∨ b.k = 3) ∧ lessR b a = false)) else if op = oGt then truthV (decide (¬ (a.k = 3 ∨ b.k = 3) ∧ lessR b a = true)) else if op = oGe then truthV (decide (¬ (a.k = 3 ∨ b.k = 3) ∧ lessR a b = false)) else if a.k = 3 ∨ b.k = 3 then nanV else if op = oAdd then addR a b else if op = oSub then addR a (turnedR b) else if op = oMul then timesR a b else overR a b) := by unfold twoR; rw [if_pos (of_decide_eq_true ((ops_any op).symm.trans (by simpa only [Bool.not_eq_eq_eq_not, Bool.not_false] using h29)))]
    refine en tOK 0 8 [] ?_
    refine sib 0 rfl rfl (fun h38 => ?_) (fun h38 => ?_)
    ·have e : twoR op a b = some nullV := by rw [eo, if_pos (by simpa using h38)]
     refine en tOK 0 0 [] ?_
     refine fc tOK 2 [] (rnull_ok) ?_
     refine sr 0 R ?_
     rw [e]; rfl
    ·refine en tOK 0 9 [] ?_
     refine sn tOK 0 1 [] ?_
     refine sn tOK 0 2 [] ?_
     refine si 0 rfl rfl (fun h49 => ?_) (fun h49 => ?_)
     ·have e : twoR op a b = some (truthV (trueR a && trueR b)) := by rw [eo, if_neg (by simpa using h38), if_pos h49]
      refine en tOK 0 1 [] ?_
      refine fc tOK 2 [] (rtrue_ok) ?_
      refine fg tOK 1 [] (fun hg => rtrue_ok) ?_
      refine fc tOK 2 [] (rtruth_ok) ?_
      refine sr 0 R ?_
      rw [e]; rfl
     ·refine en tOK 0 2 [] ?_
      refine si 0 rfl rfl (fun h58 => ?_) (fun h58 => ?_)
      ·have e : twoR op a b = some (truthV (trueR a || trueR b)) := by rw [eo, if_neg (by simpa using h38), if_neg h49, if_pos h58]
       refine en tOK 0 1 [] ?_
       refine fc tOK 2 [] (rtrue_ok) ?_
       refine fg tOK 1 [] (fun hg => rtrue_ok) ?_
       refine fc tOK 2 [] (rtruth_ok) ?_
       refine sr 0 R ?_
       rw [e]; rfl
      ·refine en tOK 0 2 [] ?_
       refine si 0 rfl rfl (fun h67 => ?_) (fun h67 => ?_)
       ·have e : twoR op a b = some (truthV (!(decide (a.k = 3) || decide (b.k = 3)) && decide (a = b))) := by rw [eo, if_neg (by simpa using h38), if_neg h49, if_neg h58, if_pos h67]; exact congrArg some (congrArg truthV (by rw [Bool.eq_iff_iff]; simp))
        refine en tOK 0 5 [] ?_
        refine sq tOK 1 [] false (b := decide (a = b)) Tryz.underlying26 (by kernel_rfl) (fun w => val_eq _ _) ?_
        refine fc tOK 2 [] (rtruth_ok) ?_
        refine sr 0 R ?_
        rw [e]; rfl
       ·refine en tOK 0 2 [] ?_
        refine si 0 rfl rfl (fun h77 => ?_) (fun h77 => ?_)
        ·have e : twoR op a b = some (truthV ((decide (a.k = 3) || decide (b.k = 3)) || !decide (a = b))) := by rw [eo, if_neg (by simpa using h38), if_neg h49, if_neg h58, if_neg h67, if_pos h77]; exact congrArg some (congrArg truthV (by rw [Bool.eq_iff_iff]; simp))
         refine en tOK 0 4 [] ?_
         refine sq tOK 1 [] true (b := decide (a = b)) Tryz.underlying26 (by kernel_rfl) (fun w => val_eq _ _) ?_
         refine fc tOK 2 [] (rtruth_ok) ?_
         refine sr 0 R ?_
         rw [e]; rfl
        ·refine en tOK 0 2 [] ?_
         refine si 0 rfl rfl (fun h86 => ?_) (fun h86 => ?_)
         ·have e : twoR op a b = some (truthV (!(decide (a.k = 3) || decide (b.k = 3)) && lessR a b)) := by rw [eo, if_neg (by simpa using h38), if_neg h49, if_neg h58, if_neg h67, if_neg h77, if_pos h86]; exact congrArg some (congrArg truthV (by rw [Bool.eq_iff_iff]; simp))
          refine en tOK 0 5 [] ?_
          refine fg tOK 1 [] (fun hg => rless_ok) ?_
          refine fc tOK 2 [] (rtruth_ok) ?_
          refine sr 0 R ?_
          rw [e]; rfl
         ·refine en tOK 0 2 [] ?_
          refine si 0 rfl rfl (fun h96 => ?_) (fun h96 => ?_)
          ·have e : twoR op a b = some (truthV (!(decide (a.k = 3) || decide (b.k = 3)) && !lessR b a)) := by rw [eo, if_neg (by simpa using h38), if_neg h49, if_neg h58, if_neg h67, if_neg h77, if_neg h86, if_pos h96]; exact congrArg some (congrArg truthV (by rw [Bool.eq_iff_iff]; simp))
           refine en tOK 0 5 [] ?_
           refine fg tOK 2 [] (fun hg => rless_ok) ?_
           refine fc tOK 2 [] (rtruth_ok) ?_
           refine sr 0 R ?_
           rw [e]; rfl
          ·refine en tOK 0 2 [] ?_
           refine si 0 rfl rfl (fun h107 => ?_) (fun h107 => ?_)
           ·have e : twoR op a b = some (truthV (!(decide (a.k = 3) || decide (b.k = 3)) && lessR b a)) := by rw [eo, if_neg (by simpa using h38), if_neg h49, if_neg h58, if_neg h67, if_neg h77, if_neg h86, if_neg h96, if_pos h107]; exact congrArg some (congrArg truthV (by rw [Bool.eq_iff_iff]; simp))
            refine en tOK 0 5 [] ?_
            refine fg tOK 1 [] (fun hg => rless_ok) ?_
            refine fc tOK 2 [] (rtruth_ok) ?_
            refine sr 0 R ?_
            rw [e]; rfl
           ·refine en tOK 0 2 [] ?_
            refine si 0 rfl rfl (fun h117 => ?_) (fun h117 => ?_)
            ·have e : twoR op a b = some (truthV (!(decide (a.k = 3) || decide (b.k = 3)) && !lessR a b)) := by rw [eo, if_neg (by simpa using h38), if_neg h49, if_neg h58, if_neg h67, if_neg h77, if_neg h86, if_neg h96, if_neg h107, if_pos h117]; exact congrArg some (congrArg truthV (by rw [Bool.eq_iff_iff]; simp))
             refine en tOK 0 5 [] ?_
             refine fg tOK 2 [] (fun hg => rless_ok) ?_
             refine fc tOK 2 [] (rtruth_ok) ?_
             refine sr 0 R ?_
             rw [e]; rfl
            ·refine en tOK 0 1 [] ?_
             refine sib 0 rfl rfl (fun h128 => ?_) (fun h128 => ?_)
             ·have e : twoR op a b = some nanV := by rw [eo, if_neg (by simpa using h38), if_neg h49, if_neg h58, if_neg h67, if_neg h77, if_neg h86, if_neg h96, if_neg h107, if_neg h117, if_pos (by simpa using h128)]
              refine en tOK 0 0 [] ?_
              refine fc tOK 2 [] (rnan_ok) ?_
              refine sr 0 R ?_
              rw [e]; rfl
             ·refine en tOK 0 1 [] ?_
              refine sn tOK 0 2 [] ?_
              refine si 0 rfl rfl (fun h131 => ?_) (fun h131 => ?_)
              ·have e : twoR op a b = some (addR a b) := by rw [eo, if_neg (by simpa using h38), if_neg h49, if_neg h58, if_neg h67, if_neg h77, if_neg h86, if_neg h96, if_neg h107, if_neg h117, if_neg (by simpa using h128), if_pos h131]
               refine en tOK 0 2 [] ?_
               refine fc tOK 2 [] (radd_ok (a := a) (b := b) (by omega) (by omega)) ?_
               refine sr 0 R ?_
               rw [e]; rfl
              ·refine en tOK 0 2 [] ?_
               refine si 0 rfl rfl (fun h136 => ?_) (fun h136 => ?_)
               ·have e : twoR op a b = some (addR a (turnedR b)) := by rw [eo, if_neg (by simpa using h38), if_neg h49, if_neg h58, if_neg h67, if_neg h77, if_neg h86, if_neg h96, if_neg h107, if_neg h117, if_neg (by simpa using h128), if_neg h131, if_pos h136]
                refine edr 0 16 [0, 0, 2, 7, 15, 31] [0, 1, 2, 3, 4, 5] ?_
                refine xd tOK 2 [] ?_
                refine dc tOK 0 [] (rturned_ok (v := b) (by omega)) ?_
                refine dc tOK 2 [] (radd_ok (a := a) (b := turnedR b) (by omega) htb) ?_
                refine xe ?_
                refine sr 0 R ?_
                rw [e]; rfl
               ·refine en tOK 0 2 [] ?_
                refine si 0 rfl rfl (fun h142 => ?_) (fun h142 => ?_)
                ·have e : twoR op a b = some (timesR a b) := by rw [eo, if_neg (by simpa using h38), if_neg h49, if_neg h58, if_neg h67, if_neg h77, if_neg h86, if_neg h96, if_neg h107, if_neg h117, if_neg (by simpa using h128), if_neg h131, if_neg h136, if_pos h142]
                 refine en tOK 0 2 [] ?_
                 refine fc tOK 2 [] (rtimes_ok hna hnb) ?_
                 refine sr 0 R ?_
                 rw [e]; rfl
                ·have e : twoR op a b = some (overR a b) := by rw [eo, if_neg (by simpa using h38), if_neg h49, if_neg h58, if_neg h67, if_neg h77, if_neg h86, if_neg h96, if_neg h107, if_neg h117, if_neg (by simpa using h128), if_neg h131, if_neg h136, if_neg h142]
                 refine en tOK 0 2 [] ?_
                 refine fc tOK 2 [] (rover_ok hna hnb) ?_
                 refine sr 0 R ?_
                 rw [e]; rfl
end Go.Proofs.YtomkgfdigldhcaaGreatDoor
namespace Go.Proofs.YtomkgfdigldhcaaGreatDoor
open Go.KX
theorem len2' {l : List Val} (h : l.length = 2) : ∃ a b, l = [a, b] := by
  match l, h with
  | [a, b], _ => exact ⟨a, b, rfl⟩
set_option maxRecDepth 100000 in
theorem rdo_ok {op : Bytes} {l : List Val} : Fc Tryz.prog gT 70 [.str op, rV l] (.t [vS (doR op l).1, nI (doR op l).2]) := by
 refine fb tOK (fn := Tryz.f70) 42 [.cell 4 26, .tmp 5] Tryz.func70 Tryz.results70 (fun g0 B0 Q ρ0 R => ?_)
 refine en tOK 0 2 [] ?_
 refine sn tOK 0 1 [] ?_
 refine fc tOK 1 [] (rcheck_ok) ?_
 refine si 0 rfl rfl (fun h10 => ?_) (fun h10 => ?_)
 ·have hl : ¬ l.all isV = true := fun h => by rw [if_pos h] at h10; exact h10 rfl
  have e : doR op l = (zeroV, 80) := by unfold doR; rw [if_neg hl]
  refine en tOK 0 3 [] ?_
  refine sr 0 R ?_
  rw [e]; rfl
 ·have hl : l.all isV = true := Decidable.byContradiction fun h => by rw [if_neg h] at h10; exact h10 (by decide)
  refine en tOK 0 4 [] ?_
  refine sn tOK 0 3 [] ?_
  refine si 0 rfl rfl (fun h15 => ?_) (fun h15 => ?_)
  ·obtain ⟨a, rfl⟩ : ∃ a, l = [a] := List.length_eq_one_iff.1 (by have := h15; simp at this; omega)
   have ha : isV a = true := by simpa using hl
   refine en tOK 0 4 [[nI a.k, nI a.n]] ?_ (hφ := by exact ⟨by decide, rfl⟩)
   refine fc tOK 5 [] (rone_ok ha) ?_
   refine sn tOK 0 3 [] ?_
   refine si 0 rfl rfl (fun h26 => ?_) (fun h26 => ?_)
   ·exact absurd h26 (by simp)
   ·refine en tOK 0 2 [] ?_
    refine sib 0 rfl rfl (fun h39 => ?_) (fun h39 => ?_)
    ·have e : doR op [a] = (zeroV, 2) := by unfold doR; rw [if_pos hl]; cases hh : oneR op a with | none => simp only [hh] | some v => simp [hh] at h39
     refine en tOK 0 3 [] ?_
     refine sr 0 R ?_
     rw [e]; rfl
    ·have e : doR op [a] = ((oneR op a).getD zeroV, 0) := by unfold doR; rw [if_pos hl]; cases hh : oneR op a with | none => simp [hh] at h39 | some v => simp only [hh, Option.getD_some]
     refine en tOK 0 3 [] ?_
     refine sr 0 R ?_
     rw [e]; rfl
  ·refine en tOK 0 3 [] ?_
   refine si 0 rfl rfl (fun h26 => ?_) (fun h26 => ?_)
   ·obtain ⟨a, b, rfl⟩ : ∃ a b, l = [a, b] := len2' (by have := h26; simp at this; omega)
    have hab : isV a = true ∧ isV b = true := by simpa using hl
    refine edr 0 2048 [0, 0, 2, 6, 0, 16, 48, 127, 255, 511, 511, 1023, 4095] [0, 1, 2, 3, 4, 5, 6, 7, 8, 9, 10, 11, 12] ?_
    refine xd tOK 7 [[nI a.k, nI a.n], [nI b.k, nI b.n]] ?_ (hφ := by exact ⟨⟨by decide, rfl⟩, ⟨by decide, rfl⟩⟩)
    refine dc tOK 5 [] (rtwo_ok hab.1 hab.2) ?_
    refine xe ?_
    refine sn tOK 0 2 [] ?_
    refine sib 0 rfl rfl (fun h39 => ?_) (fun h39 => ?_)
    ·have e : doR op [a, b] = (zeroV, 2) := by unfold doR; rw [if_pos hl]; cases hh : twoR op a b with | none => simp only [hh] | some v => simp [hh] at h39
     refine en tOK 0 3 [] ?_
     refine sr 0 R ?_
     rw [e]; rfl
    ·have e : doR op [a, b] = ((twoR op a b).getD zeroV, 0) := by unfold doR; rw [if_pos hl]; cases hh : twoR op a b with | none => simp [hh] at h39 | some v => simp only [hh, Option.getD_some]
     refine en tOK 0 3 [] ?_
     refine sr 0 R ?_
     rw [e]; rfl
   ·refine en tOK 0 2 [] ?_
    refine sib 0 rfl rfl (fun h39 => ?_) (fun h39 => ?_)
    ·have e : doR op l = (zeroV, 2) := by unfold doR; rw [if_pos hl]; match l, h15, h26 with | [], _, _ => rfl | [_], h, _ => exact absurd rfl h | [_, _], _, h => exact absurd rfl h | _ :: _ :: _ :: _, _, _ => rfl
     refine en tOK 0 3 [] ?_
     refine sr 0 R ?_
     rw [e]; rfl
    ·cases h39
end Go.Proofs.YtomkgfdigldhcaaGreatDoor
namespace Go.Proofs.YtomkgfdigldhcaaGreatDoor
open Go.KX
set_option maxRecDepth 100000 in
theorem evn_ok {l : List (Bytes × Val)} {v : Val} : Fc Tryz.prog gT 16 [.a [nI 1, .str [], nI v.k, nI v.n, .s 0 []], rF l] (.t [rS1 [v], nI 0]) := by
 refine fbm tOK (fn := Tryz.f16) 79 [.cell 4 32, .cell 5 33] Tryz.func16 Tryz.results16 (fun g0 B0 Q ρ0 R RM => ?_)
 refine en tOK 0 3 [] ?_
 refine sn tOK 0 2 [] ?_
 refine sn tOK 0 2 [] ?_
 refine sn tOK 1 2 [] ?_
 refine fc tOK 2 [] (sscalar_ok (v := v)) ?_
 refine sr 0 R ?_
 rfl
set_option maxRecDepth 100000 in
theorem evb_ok {l : List (Bytes × Val)} {o : Bytes} {a b : Ex} {v w z : Val} (ha : Fc Tryz.prog gT 16 [exS a, rF l] (.t [rS1 [v], nI 0])) (hb : Fc Tryz.prog gT 16 [exS b, rF l] (.t [rS1 [w], nI 0])) (hv : isV v = true) (hw : isV w = true) (h0 : (doV o [numV 0, numV 0]).2 = 0) (hz : (doV o [v, w]).1 = z) (hzv : isV z = true) : Fc Tryz.prog gT 16 [.a [nI 3, .str o, nI 0, nI 0, .s 5 [exL a, exL b]], rF l] (.t [rS1 [z], nI 0]) := by
 refine fbm tOK (fn := Tryz.f16) 79 [.cell 4 32, .cell 5 33] Tryz.func16 Tryz.results16 (fun g0 B0 Q ρ0 R RM => ?_)
 refine en tOK 0 3 [] ?_
 refine sn tOK 0 2 [] ?_
 refine sn tOK 0 2 [] ?_
 refine sn tOK 1 2 [] ?_
 refine sn tOK 1 1 [] ?_
 refine sz 2 ?_
 refine sn tOK 0 4 [] ?_
 refine sl 0 ?_
 refine eonl 8 903 32 1 ?_
 refine E_loop (σ := Nat) (fun j => j ≤ 2) (fun j => 2 - j)
   (fun j => [(1, rF l), (2, .p [nI 3, .str o, nI 0, nI 0, .s 5 [exL a, exL b]]), (4, .l 4 0), (5, .l 5 0), (8, .o 903 (List.take j [[rS1 [v]], [rS1 [w]]]).length), (37, .s 5 [exL a, exL b]), (38, nI 2), (39, nI j)])
   (fun j => [(903, .r 32 1 (List.take j [[rS1 [v]], [rS1 [w]]])), (5, .c 33 [nI 0]), (4, .c 32 [.s 0 []])]) 0 ?_ ?_
 ·exact Nat.zero_le _
 ·rintro J j hj0 hJ
  refine en tOK 0 1 [] ?_
  refine si 0 rfl rfl (fun h40 => ?_) (fun h40 => ?_)
  ·rcases (show j = 0 ∨ j = 1 by omega) with hj | hj <;> subst hj
   ·refine en tOK 0 4 [exL a] ?_
    refine sn tOK 0 2 [] ?_
    refine fc tOK 5 [] (ha) ?_
    refine sn tOK 0 2 [] ?_
    refine sn tOK 1 3 [] ?_
    refine sap tOK 1 [] rfl (fun _ => rfl) ?_ ?_
    ·simp
    refine sn tOK 0 2 [] ?_
    refine sl 0 ?_
    first | exact hJ 1 (by omega) (by omega) | exact hJ 2 (by omega) (by omega)
   ·refine en tOK 0 4 [exL b] ?_
    refine sn tOK 0 2 [] ?_
    refine fc tOK 5 [] (hb) ?_
    refine sn tOK 0 2 [] ?_
    refine sn tOK 1 3 [] ?_
    refine sap tOK 1 [] rfl (fun _ => rfl) ?_ ?_
    ·simp
    refine sn tOK 0 2 [] ?_
    refine sl 0 ?_
    first | exact hJ 1 (by omega) (by omega) | exact hJ 2 (by omega) (by omega)
  ·have hj : j = 2 := by omega
   subst hj
   refine eezo 8 (rows := [[rS1 [v]], [rS1 [w]]]) rfl ?_ (hr := by simp)
   refine en tOK 0 3 [] ?_
   refine sdr 1 6144 [0, 1, 0, 4, 12, 0, 32, 96, 255, 511, 511, 2047, 4095] [0, 1, 2, 3, 4, 5, 6, 7, 8, 9, 10, 11, 12] ?_
   refine xd tOK 8 [[rS1 [v]], [rS1 [w]]] ?_
   refine dc tOK 4 [] (joinS1_ok hv hw h0 hz hzv) ?_
   refine xe ?_
   refine sr 0 R ?_
   rfl
theorem ev_ok {l : List (Bytes × Val)} (hl : l.length ≤ 1000000) (hall : ∀ p ∈ l, isV p.2 = true) {x : Ex} (h : Wf x) : ∀ {v : Val}, evX (lastR l) x = some v → Fc Tryz.prog gT 16 [exS x, rF l] (.t [rS1 [v], nI 0]) := by
  have hlook : ∀ n v, lastR l n = some v → isV v = true := fun n v e => hall (n, v) (List.mem_reverse.1 (firstR_mem e))
  have one : ∀ {o : Bytes} {x : Ex}, (o ∈ ([oSub, oNot] : List Bytes) ∨ functionB o = true) → Wf x → (∀ {v : Val}, evX (lastR l) x = some v → Fc Tryz.prog gT 16 [exS x, rF l] (.t [rS1 [v], nI 0])) → ∀ {v : Val}, evX (lastR l) (exC o [x]) = some v → Fc Tryz.prog gT 16 [exS (exC o [x]), rF l] (.t [rS1 [v], nI 0]) := by
    intro o x ho hx ih v e
    rw [ev_call, evL_cons, evL_nil] at e
    cases hw : evX (lastR l) x with
    | none => rw [hw] at e; cases e
    | some w =>
      rw [hw] at e
      injection e with e
      rw [ex_one]
      exact evo_ok (ih hw) (ev_isV hlook hx hw).1 (doV_one ho (isV_num 0)) e
  induction h with
  | num h =>
    intro v e
    rw [ev_num] at e
    cases e
    exact evn_ok
  | ref h =>
    intro v e
    rw [ev_ref] at e
    exact evr_ok hl hall e
  | sign ho hx ih => exact one (.inl ho) hx ih
  | fn ho hx ih => exact one (.inr ho) hx ih
  | @bin o x y m hm ho hx hy ihx ihy =>
    intro v e
    have hv := (ev_isV hlook (.bin m hm ho hx hy) e).1
    rw [ev_call, evL_cons, evL_cons, evL_nil] at e
    cases hw : evX (lastR l) x with
    | none => rw [hw] at e; cases e
    | some w =>
      cases hz : evX (lastR l) y with
      | none => rw [hw, hz] at e; cases e
      | some z =>
        rw [hw, hz] at e
        injection e with e
        rw [ex_pair]
        exact evb_ok (ihx hw) (ihy hz) (ev_isV hlook hx hw).1 (ev_isV hlook hy hz).1 (doV_two hm ho (isV_num 0) (isV_num 0)) e hv
set_option maxRecDepth 100000 in
theorem valn_ok {ns : List Bytes} {l : List Val} {v : Val} : Fc Tryz.prog gT 26 [.a [nI 1, .str [], nI v.k, nI v.n, .s 0 []], rB ns, rV l] (.t [vS v, bS true]) := by
 refine fb tOK (fn := Tryz.f26) 82 [.cell 6 26, .tmp 7] Tryz.func26 Tryz.results26 (fun g0 B0 Q ρ0 R => ?_)
 refine en tOK 0 3 [] ?_
 refine sn tOK 0 2 [] ?_
 refine sn tOK 0 2 [] ?_
 refine sn tOK 1 4 [] ?_
 refine sr 0 R ?_
 rfl
set_option maxRecDepth 100000 in
theorem valr_ok {ns : List Bytes} {l : List Val} {n : Bytes} {v : Val} (h : firstR (ns.zip l) n = some v) : Fc Tryz.prog gT 26 [.a [nI 2, .str n, nI 0, nI 0, .s 0 []], rB ns, rV l] (.t [vS v, bS true]) := by
 refine fb tOK (fn := Tryz.f26) 82 [.cell 6 26, .tmp 7] Tryz.func26 Tryz.results26 (fun g0 B0 Q ρ0 R => ?_)
 refine elen 1 rfl (fun hl => ?_)
 rw [List.length_map] at hl
 refine elen 2 rfl (fun hl2 => ?_)
 rw [List.length_map] at hl2
 refine en tOK 0 3 [] ?_
 refine sn tOK 0 2 [] ?_
 refine sn tOK 0 2 [] ?_
 refine sn tOK 1 2 [] ?_
 refine sn tOK 1 1 [] ?_
 refine sl 0 ?_
 refine E_loop (σ := Nat) (fun j => j ≤ ns.length ∧ j ≤ l.length ∧ ((ns.zip l).take j).all (fun p => !decide (p.1 = n)) = true) (fun j => ns.length - j)
   (fun j => [(1, rB ns), (2, rV l), (3, .l 3 0), (6, .l 6 0), (8, nI j)])
   (fun j => [(6, .c 26 [nI 0, nI 0]), (3, .c 29 [nI 2, .str n, nI 0, nI 0, .s 0 []])]) 0 ?_ ?_
 ·exact ⟨Nat.zero_le _, Nat.zero_le _, rfl⟩
 ·rintro J j ⟨hj0, hj1, hj2⟩ hJ
  refine en tOK 0 10 [] ?_
  refine sib 0 rfl rfl (fun h32 => ?_) (fun h32 => ?_)
  ·have hjj : j < ns.length ∧ j < l.length := by
    rw [List.length_map, List.length_map] at h32
    simp only [Bool.and_eq_true, decide_eq_true_eq] at h32
    omega
   have hzj : (ns.zip l)[j]? = some (ns[j]'hjj.1, l[j]'hjj.2) := zip_at hjj.1 hjj.2
   refine edr 0 0 [0, 0, 3, 7, 0, 16, 63] [0, 1, 2, 3, 4, 5, 6] ?_
   refine xd tOK 7 [[.str (ns[j]'hjj.1)]] ?_ (hφ := by exact ⟨by omega, by simp [hjj.1]⟩)
   refine xe ?_
   refine si 0 rfl rfl (fun h41 => ?_) (fun h41 => ?_)
   ·have ev : l[j]'hjj.2 = v := by
     have := first_at hj2 hzj h41
     rw [h] at this
     cases this
     rfl
    refine en tOK 0 6 [[nI (l[j]'hjj.2).k, nI (l[j]'hjj.2).n]] ?_ (hφ := by exact ⟨by omega, by simp [hjj.2]⟩)
    refine sr 0 R ?_
    rw [ev]; rfl
   ·refine en tOK 0 3 [] ?_
    refine sl 0 ?_
    exact hJ (j + 1) ⟨by omega, by omega, all_next hzj hj2 h41⟩ (by omega)
  ·exfalso
   have hf : ns.length ≤ j ∨ l.length ≤ j := by
    rw [List.length_map, List.length_map] at h32
    simp only [Bool.and_eq_false_iff, decide_eq_false_iff_not] at h32
    omega
   rw [List.take_of_length_le (by simp; omega)] at hj2
   have := firstR_nn hj2
   rw [h] at this
   cases this
end Go.Proofs.YtomkgfdigldhcaaGreatDoor
namespace Go.KX
abbrev sA : Bytes := [36, 65, 32, 43, 32, 50, 32, 42, 32, 36, 66, 32, 62, 32, 51]
abbrev sB : Bytes := [49, 32, 43, 32, 36, 97]
abbrev sC : Bytes := [97, 98, 115, 40, 36, 65, 41]
abbrev xM : Ex := exC [42] [exN ⟨1, 2000⟩, exR [66]]
abbrev xP : Ex := exC [43] [exR [65], xM]
abbrev xA : Ex := exC [62] [xP, exN ⟨1, 3000⟩]
abbrev xC : Ex := exC oAbs [exR [65]]
theorem live_a : parseX parseV sA = (xA, 0, 0) := by rfl
theorem live_b : (parseX parseV sB).2 = (110, 4) := by rfl
theorem live_c : parseX parseV sC = (xC, 0, 0) := by rfl
theorem pn_k {n : Int} {d : Nat} (h0 : 0 ≤ n) (h1 : n ≤ 1000000000000000) (hd : n.natAbs / 1000 = d) (hr : n.natAbs % 1000 = 0) (h : d < 10) : printX (exN ⟨1, n⟩) = ((([48, 49, 50, 51, 52, 53, 54, 55, 56, 57] : Bytes).drop d).take 1) := by
  rw [print_num3, if_neg (by simp), if_neg (by simp), print_pos h0 h1]
  unfold magV fracV
  rw [hd, hr, if_pos rfl, List.append_nil, dec_one h]
theorem live_p : printX xA = [40, 36, 65, 32, 43, 32, 40, 50, 32, 42, 32, 36, 66, 41, 41, 32, 62, 32, 51] := by
  have h2 : printX (exN ⟨1, 2000⟩) = [50] := pn_k (d := 2) (by decide) (by decide) (by decide) (by decide) (by decide)
  have h3 : printX (exN ⟨1, 3000⟩) = [51] := pn_k (d := 3) (by decide) (by decide) (by decide) (by decide) (by decide)
  have hA : printX (exR [65]) = [36, 65] := print_ref [65] zeroV []
  have hB : printX (exR [66]) = [36, 66] := print_ref [66] zeroV []
  rw [print_two, opd_two, opd_not2 (x := exN ⟨1, 3000⟩) (by decide), h3, print_two, opd_not2 (x := exR [65]) (by decide), hA, opd_two, print_two, opd_not2 (x := exN ⟨1, 2000⟩) (by decide), h2, opd_not2 (x := exR [66]) (by decide), hB]
  rfl
theorem live_w : Wf xA := by
  refine .bin 2 (by decide) (by decide) (.bin 1 (by decide) (by decide) (.ref (by decide)) (.bin 0 (by decide) (by decide) (.num (.inr (.inr (.inr ⟨by decide, rfl, by decide⟩)))) (.ref (by decide)))) (.num (.inr (.inr (.inr ⟨by decide, rfl, by decide⟩))))
theorem live_r : refsX xA = [[65], [66]] := by
  have h0 : ∀ v, refsX (exN v) = [] := fun v => by
    rw [refsX_eq, if_neg (by simp [Ex.kind])]
    show cmpB (sortL []) = []
    simp [sortL, cmpB]
  have hR : ∀ n, refsX (exR n) = [n] := fun n => by rw [refsX_eq, if_pos (by simp [Ex.kind])]; rfl
  have h1 : refsX xM = [[66]] := by
    rw [refsX_eq, if_neg (by simp [Ex.kind])]
    show cmpB (sortL (refsX (exN ⟨1, 2000⟩) ++ (refsX (exR [66]) ++ []))) = _
    rw [h0, hR]
    simp [sortL, cmpB, cmpP]
  have hs : sortL [[65], [66]] = [[65], [66]] := by
    simp [sortL, List.mergeSort, List.MergeSort.Internal.splitInTwo, List.merge]
    decide
  have h2 : refsX xP = [[65], [66]] := by
    rw [refsX_eq, if_neg (by simp [Ex.kind])]
    show cmpB (sortL (refsX (exR [65]) ++ (refsX xM ++ []))) = _
    rw [h1, hR]
    show cmpB (sortL [[65], [66]]) = _
    rw [hs]
    decide
  rw [refsX_eq, if_neg (by simp [Ex.kind])]
  show cmpB (sortL (refsX xP ++ (refsX (exN ⟨1, 3000⟩) ++ []))) = _
  rw [h2, h0]
  show cmpB (sortL [[65], [66]]) = _
  rw [hs]
  decide
theorem live_v : (doV oAbs [numV (-1000)]).1 = numV 1000 := by decide
end Go.KX
namespace Go.Proofs.YtomkgfdigldhcaaGreatDoor
open Go.KX
set_option maxRecDepth 100000 in
theorem run_ok {s g : Bytes} (hs : s.length ≤ 1000000) : Fc Tryz.prog gT 116 [.str s, .str g] (nI (runB g s)) := by
 refine fb tOK (fn := Tryz.f116) 21 [.tmp 4] Tryz.func116 Tryz.results116 (fun g0 B0 Q ρ0 R => ?_)
 refine en tOK 0 1 [] ?_
 refine sn tOK 0 3 [] ?_
 refine sl 0 ?_
 refine E_loop (σ := Nat) (fun j => j ≤ s.length ∧ ∀ x ∈ s.take j, x ∈ g) (fun j => s.length - j)
   (fun j => [(0, .str s), (1, .str g), (7, nI s.length), (8, nI j)])
   (fun j => []) 0 ?_ ?_
 ·exact ⟨Nat.zero_le _, by simp⟩
 ·rintro J j ⟨hj0, hj1⟩ hJ
  refine en tOK 0 1 [] ?_
  refine si 0 rfl rfl (fun h9 => ?_) (fun h9 => ?_)
  ·have hj : j < s.length := by omega
   have ec : s.getD ((j : Int)).toNat 0 = s[j] := by simp [List.getD_eq_getElem?_getD, hj]
   refine en tOK 0 2 [] ?_
   refine sn tOK 0 4 [] ?_
   refine fc tOK 1 [] (ib_ok (n := ((s.getD ((j : Int)).toNat 0).toNat : Int)) (c := s[j]) (by rw [ec])) ?_
   refine si 0 rfl rfl (fun h16 => ?_) (fun h16 => ?_)
   ·have hx : s[j] ∉ g := (ib_mem _ _).1 h16
    have e : runB g s = j := by
      rw [runB_add hj0 hj1, List.drop_eq_getElem_cons hj]
      have : runB g (s[j] :: s.drop (j + 1)) = 0 := by unfold runB; rw [if_neg hx]
      omega
    refine en tOK 0 2 [] ?_
    refine sr 0 R ?_
    rw [e]; rfl
   ·have hx : s[j] ∈ g := Classical.byContradiction fun h => h16 ((ib_mem _ _).2 h)
    refine en tOK 0 2 [] ?_
    exact hJ (j + 1) ⟨by omega, take_next hj hj1 hx⟩ (by omega)
  ·have e : runB g s = s.length := by
     have hjj : j = s.length := by omega
     rw [runB_add hj0 hj1, hjj, List.drop_length]; rfl
   refine en tOK 0 3 [] ?_
   refine sr 0 R ?_
   rw [e]; rfl
end Go.Proofs.YtomkgfdigldhcaaGreatDoor
namespace Go.Proofs.YtomkgfdigldhcaaGreatDoor
open Go.KX
set_option maxRecDepth 100000 in
theorem idxB_ok {l : List Bytes} {v : Bytes} : Fc Tryz.prog gT 133 [rB l, .str v] (nI (idxF (fun x => decide (v = x)) l)) := by
 refine fb tOK (fn := Tryz.f133) 19 [.tmp 4] Tryz.func133 Tryz.results133 (fun g0 B0 Q ρ0 R => ?_)
 refine en tOK 0 1 [] ?_
 refine sn tOK 0 3 [] ?_
 refine sl 0 ?_
 refine E_loop (σ := Nat) (fun j => j ≤ l.length ∧ ∀ x ∈ l.take j, decide (v = x) = false) (fun j => l.length - j)
   (fun j => [(0, rB l), (1, .str v), (4, nI 0), (7, nI l.length), (8, nI j)])
   (fun j => []) 0 ?_ ?_
 ·exact ⟨Nat.zero_le _, by simp⟩
 ·rintro J j ⟨hj0, hj1⟩ hJ
  refine elen 0 rfl (fun hl => ?_)
  simp only [List.length_map] at hl
  refine en tOK 0 1 [] ?_
  refine si 0 rfl rfl (fun h9 => ?_) (fun h9 => ?_)
  ·have hj : j < l.length := by omega
   refine en tOK 0 2 [] ?_
   refine sn tOK 0 6 [[.str l[j]]] ?_ (hφ := by exact ⟨by omega, row_at _ hj⟩)
   refine si 0 rfl rfl (fun h16 => ?_) (fun h16 => ?_)
   ·have e := idxF_some (p := fun x => decide (v = x)) hj hj1 (by simpa using h16)
    refine en tOK 0 2 [] ?_
    refine sr 0 R ?_
    rw [e]; rfl
   ·have hx : decide (v = l[j]) = false := by simpa using h16
    refine en tOK 0 2 [] ?_
    exact hJ (j + 1) ⟨by omega, take_next hj hj1 hx⟩ (by omega)
  ·have e := idxF_none (p := fun x => decide (v = x)) (fun x hx => hj1 x (by rw [List.take_of_length_le (by omega)]; exact hx))
   refine en tOK 0 1 [] ?_
   refine sr 0 R ?_
   rw [e]; rfl
set_option maxRecDepth 100000 in
theorem contB_ok {l : List Bytes} {v : Bytes} : Fc Tryz.prog gT 81 [rB l, .str v] (bS (decide (v ∈ l))) := by
 refine fb tOK (fn := Tryz.f81) 9 [.tmp 4] Tryz.func81 Tryz.results81 (fun g0 B0 Q ρ0 R => ?_)
 refine en tOK 0 1 [] ?_
 refine sn tOK 0 2 [] ?_
 refine fc tOK 2 [] (idxB_ok) ?_
 refine sr 0 R ?_
 have e : decide (v ∈ l) = (l.any fun x => decide (v = x)) := by simp [List.any_eq, eq_comm]
 rw [e, ← idxF_any]; rfl
set_option maxRecDepth 100000 in
theorem fails_ok {s : Bytes} {p : Ps} {er a : Int} : Fp Tryz.prog gT 64 [.l 1000 0, nI er, nI a] (psC s p) (.t []) (psC s (p.fails er a)) := by
 refine fpb tOK (fn := Tryz.f64) 22 [] Tryz.func64 Tryz.results64 (fun g0 B0 Q ρ0 R => ?_)
 refine en tOK 0 5 [] ?_
 refine sib 0 rfl rfl (fun h10 => ?_) (fun h10 => ?_)
 ·have hd : p.dead = false := by simpa using h10
  have ef : p.fails er a = ⟨p.i, er, a, true⟩ := by unfold Ps.fails; rw [if_neg (by simp [hd])]
  refine en tOK 0 14 [] ?_
  refine sfp 0 R ?_
  exact ⟨rfl, by rw [ef] <;> rfl⟩
 ·have ef : p.fails er a = p := by unfold Ps.fails; rw [if_pos (by simpa using h10)]
  refine efp 0 R ?_
  exact ⟨rfl, by rw [ef] <;> rfl⟩
set_option maxRecDepth 100000 in
theorem rest_ok {s : Bytes} {p : Ps} (hi : p.i ≤ s.length) (hs : s.length ≤ 1024) : Fp Tryz.prog gT 63 [.l 1000 0] (psC s p) (.str (p.restT s)) (psC s (p.restP s)) := by
 refine fpb tOK (fn := Tryz.f63) 33 [.tmp 2] Tryz.func63 Tryz.results63 (fun g0 B0 Q ρ0 R => ?_)
 refine en tOK 0 1 [] ?_
 refine sn tOK 0 4 [] ?_
 refine sib 0 rfl rfl (fun h6 => ?_) (fun h6 => ?_)
 ·have e1 : p.restT s = [] := by unfold Ps.restT; rw [if_pos h6]
  have e2 : p.restP s = p := by unfold Ps.restP; rw [if_pos h6]
  refine en tOK 0 1 [] ?_
  refine srp 0 R ?_
  exact ⟨by rw [e1] <;> rfl, by rw [e2] <;> rfl⟩
 ·have hr := runB_le [32] (s.drop p.i)
  have hr2 : (s.drop p.i).length = s.length - p.i := by simp
  have e2 : p.restP s = { p with i := p.i + runB [32] (s.drop p.i) } := by unfold Ps.restP; rw [if_neg (by simp [h6])]
  have e1 : p.restT s = s.drop (p.i + runB [32] (s.drop p.i)) := by unfold Ps.restT; rw [if_neg (by simp [h6]), e2]
  refine edr 0 131072 [0, 1, 3, 7, 0, 16, 48, 112, 0, 256, 768, 1792, 4080, 8176, 16383, 32767, 65535, 131071] [0, 1, 2, 3, 4, 5, 6, 7, 8, 9, 10, 11, 12, 13, 14, 15, 16, 17] ?_
  refine xd tOK 13 [] ?_
  refine dc tOK 4 [] (run_ok (s := s.drop p.i) (by omega)) ?_
  refine xe ?_
  refine sdr 0 0 [0, 1, 3, 7, 0, 16, 48, 112, 255, 511] [0, 1, 2, 3, 4, 5, 6, 7, 8, 9] ?_
  refine xd tOK 10 [] ?_
  refine xe ?_
  refine srp 0 R ?_
  exact ⟨by rw [e1] <;> rfl, by rw [e2] <;> rfl⟩
set_option maxRecDepth 100000 in
theorem take_ok {s : Bytes} {l : List Bytes} {p : Ps} (hi : p.i ≤ s.length) (hs : s.length ≤ 1024) : Fp Tryz.prog gT 168 [.l 1000 0, rB l] (psC s p) (.t [.str ((takeT s l p).getD []), bS (takeT s l p).isSome]) (psC s (takeP s l p)) := by
 refine fpb tOK (fn := Tryz.f168) 32 [.tmp 4, .tmp 5] Tryz.func168 Tryz.results168 (fun g0 B0 Q ρ0 R => ?_)
 refine en tOK 0 2 [] ?_
 refine sn tOK 0 1 [] ?_
 refine fp tOK 1000 1 [] (rest_ok (by omega) (by omega)) ?_
 refine sn tOK 0 0 [] ?_
 have hle := rest_le (s := s) hi
 refine glo tOK 1 [] (r := .a (signsT.map .str)) signs_den ?_
 
 refine sl 0 ?_
 refine E_loop (σ := Nat) (fun j => j ≤ 15 ∧ ∀ x ∈ signsT.take j, Lib.hasPrefix (p.restT s) x = false) (fun j => 15 - j)
   (fun j => [(0, .l 1000 0), (1, rB l), (6, .str (p.restT s)), (11, .a (signsT.map .str)), (12, nI j)])
   (fun j => [(1000, psC s (p.restP s))]) 0 ?_ ?_
 ·exact ⟨Nat.zero_le _, by simp⟩
 ·rintro J j ⟨hj0, hj1⟩ hJ
  refine en tOK 0 1 [] ?_
  refine si 0 rfl rfl (fun h13 => ?_) (fun h13 => ?_)
  ·have hjl : j < 15 := by omega
   have hj : j < signsT.length := hjl
   refine en tOK 0 0 [] ?_
   refine ixg tOK 1 [] (n := 15) (z := (j : Int)) (cs := signsT.map .str) (.str signsT[j]) (by omega) (by simp [hj]) ?_
   
   refine sn tOK 0 2 [] ?_
   refine fc tOK 0 [] (hp_ok) ?_
   refine sib 0 rfl rfl (fun h17 => ?_) (fun h17 => ?_)
   ·have e1 : firstSign (p.restT s) = some signsT[j] := find_at hj hj1 h17
    refine en tOK 0 2 [] ?_
    refine fc tOK 0 [] (contB_ok) ?_
    refine sib 0 rfl rfl (fun h20 => ?_) (fun h20 => ?_)
    ·have h20 := of_decide_eq_true h20
     have e2 : takeT s l p = some signsT[j] := by unfold takeT; rw [e1]; simp only; rw [if_pos h20]
     have e3 : takeP s l p = { p.restP s with i := (p.restP s).i + signsT[j].length } := by unfold takeP; rw [e2]
     have hsl : signsT[j].length ≤ 2 := (show ∀ x ∈ signsT, x.length ≤ 2 by decide) _ (List.getElem_mem hj)
     refine en tOK 0 10 [] ?_
     refine sn tOK 0 3 [] ?_
     refine srp 0 R ?_
     exact ⟨by rw [e2] <;> rfl, by rw [e3] <;> rfl⟩
    ·have h20 := of_decide_eq_false h20
     have e2 : takeT s l p = none := by unfold takeT; rw [e1]; simp only; rw [if_neg h20]
     have e3 : takeP s l p = p.restP s := by unfold takeP; rw [e2]
     refine en tOK 0 2 [] ?_
     refine srp 0 R ?_
     exact ⟨by rw [e2] <;> rfl, by rw [e3] <;> rfl⟩
   ·have hx := h17
    refine en tOK 0 2 [] ?_
    exact hJ (j + 1) ⟨by omega, take_next hj hj1 hx⟩ (by omega)
  ·have hj15 : signsT.take j = signsT := by rw [List.take_of_length_le]; show 15 ≤ j; omega
   rw [hj15] at hj1
   have e1 : firstSign (p.restT s) = none := List.find?_eq_none.2 (fun x hx => by simp [hj1 x hx])
   have e2 : takeT s l p = none := by unfold takeT; rw [e1]
   have e3 : takeP s l p = p.restP s := by unfold takeP; rw [e2]
   refine en tOK 0 2 [] ?_
   refine srp 0 R ?_
   exact ⟨by rw [e2] <;> rfl, by rw [e3] <;> rfl⟩
set_option maxRecDepth 100000 in
theorem must_ok {s x : Bytes} {p : Ps} (hi : p.i ≤ s.length) (hs : s.length ≤ 1024) : Fp Tryz.prog gT 297 [.l 1000 0, .str x] (psC s p) (.t []) (psC s (mustP s x p)) := by
 refine fpb tOK (fn := Tryz.f297) 21 [] Tryz.func297 Tryz.results297 (fun g0 B0 Q ρ0 R => ?_)
 refine en tOK 0 3 [] ?_
 refine fp tOK 1000 5 [] (take_ok (l := [x]) hi hs) ?_
 refine sn tOK 0 2 [] ?_
 refine sib 0 rfl rfl (fun h14 => ?_) (fun h14 => ?_)
 ·have e1 : takeT s [x] p = none := by simpa using h14
  have e2 : mustP s x p = (takeP s [x] p).fails 110 (takeP s [x] p).i := by unfold mustP; rw [e1]
  refine en tOK 0 5 [] ?_
  refine fp tOK 1000 0 [] (fails_ok) ?_
  refine sfp 0 R ?_
  exact ⟨rfl, by rw [e2] <;> rfl⟩
 ·obtain ⟨y, e1⟩ : ∃ y, takeT s [x] p = some y := Option.isSome_iff_exists.1 (by simpa using h14)
  have e2 : mustP s x p = takeP s [x] p := by unfold mustP; rw [e1]
  refine efp 0 R ?_
  exact ⟨rfl, by rw [e2] <;> rfl⟩
set_option maxRecDepth 100000 in
theorem enter_ok {s : Bytes} {p : Ps} {d : Nat} (hi : p.i ≤ s.length) (hs : s.length ≤ 1024) : Fp Tryz.prog gT 114 [.l 1000 0, nI d] (psC s p) (.t []) (psC s (enterP s d p)) := by
 refine fpb tOK (fn := Tryz.f114) 14 [] Tryz.func114 Tryz.results114 (fun g0 B0 Q ρ0 R => ?_)
 refine en tOK 0 1 [] ?_
 refine fp tOK 1000 0 [] (rest_ok (by omega) (by omega)) ?_
 refine sn tOK 0 2 [] ?_
 refine si 0 rfl rfl (fun h7 => ?_) (fun h7 => ?_)
 ·have e2 : enterP s d p = (p.restP s).fails 111 (p.restP s).i := by unfold enterP; rw [if_pos (by omega)]
  refine en tOK 0 5 [] ?_
  refine fp tOK 1000 0 [] (fails_ok) ?_
  refine sfp 0 R ?_
  exact ⟨rfl, by rw [e2] <;> rfl⟩
 ·have e2 : enterP s d p = p.restP s := by unfold enterP; rw [if_neg (by omega)]
  refine efp 0 R ?_
  exact ⟨rfl, by rw [e2] <;> rfl⟩
set_option maxRecDepth 100000 in
theorem call2_ok {o : Bytes} {x y : Ex} : Fc Tryz.prog gT 169 [.str o, .s 5 [exL x, exL y]] (exS (exC o [x, y])) := by
 refine fb tOK (fn := Tryz.f169) 8 [.cell 4 29] Tryz.func169 Tryz.results169 (fun g0 B0 Q ρ0 R => ?_)
 refine en tOK 0 1 [] ?_
 refine sn tOK 0 4 [] ?_
 refine sr 0 R ?_
 rw [ex_pair]; rfl
set_option maxRecDepth 100000 in
theorem call1_ok {o : Bytes} {x : Ex} : Fc Tryz.prog gT 169 [.str o, .s 5 [exL x]] (exS (exC o [x])) := by
 refine fb tOK (fn := Tryz.f169) 8 [.cell 4 29] Tryz.func169 Tryz.results169 (fun g0 B0 Q ρ0 R => ?_)
 refine en tOK 0 1 [] ?_
 refine sn tOK 0 4 [] ?_
 refine sr 0 R ?_
 rw [ex_one]; rfl
set_option maxRecDepth 100000 in
theorem function_ok {w : Bytes} : Fc Tryz.prog gT 67 [.str w] (bS (functionB w)) := by
 refine fb tOK (fn := Tryz.f67) 6 [.tmp 2] Tryz.func67 Tryz.results67 (fun g0 B0 Q ρ0 R => ?_)
 refine en tOK 0 1 [] ?_
 refine sn tOK 0 2 [] ?_
 refine fc tOK 1 [] (contB_ok (l := [oAbs, oFloor, oNull, oNan, oInf, oNum])) ?_
 refine sr 0 R ?_
 rfl
set_option maxRecDepth 100000 in
theorem ref_ok {w : Bytes} (hs : w.length ≤ 1000000) : Fc Tryz.prog gT 125 [.str w] (bS (refB w)) := by
 refine fb tOK (fn := Tryz.f125) 23 [.tmp 2] Tryz.func125 Tryz.results125 (fun g0 B0 Q ρ0 R => ?_)
 refine en tOK 0 1 [] ?_
 refine sn tOK 0 10 [] ?_ (hφ := by
   refine ⟨fun h => ?_, id, id, id, id⟩
   cases w with
   | nil => simp at h
   | cons _ _ => exact ⟨by omega, by simp⟩)
 refine fg tOK 4 [] (fun hg => ib_ok (c := w.getD 0 0) rfl) ?_
 refine fg tOK 5 [] (fun hg => run_ok hs) ?_
 refine sr 0 R ?_
 cases w with
 | nil => rfl
 | cons c r =>
   have e : (decide (¬ (c :: r : Bytes) = []) && decide (((c :: r).length : Int) ≤ 16) && decide (0 ≤ Lib.indexByte gGreat c) && decide ((runB gLD (c :: r) : Int) = ((c :: r).length : Int))) = refB (c :: r) := by
     have a3 := ib_ge gGreat c
     have a2 : decide (((c :: r).length : Int) ≤ 16) = decide ((c :: r).length ≤ 16) := decide_eq_decide.2 (by omega)
     have a4 : decide ((runB gLD (c :: r) : Int) = ((c :: r).length : Int)) = decide (runB gLD (c :: r) = (c :: r).length) := decide_eq_decide.2 (by omega)
     rw [a2, a3, a4]
     simp [refB]
   exact congrArg (fun b => SV.v (.bool b)) e
end Go.Proofs.YtomkgfdigldhcaaGreatDoor
namespace Go.Proofs.YtomkgfdigldhcaaGreatDoor
open Go.KX
set_option maxRecDepth 100000 in
theorem vprint_ok {v : Val} : Fc Tryz.prog gT 65 [vS v] (.str (printV v)) := by
 refine fb tOK (fn := Tryz.f65) 42 [.tmp 2] Tryz.func65 Tryz.results65 (fun g0 B0 Q ρ0 R => ?_)
 refine en tOK 0 2 [] ?_
 refine sn tOK 0 1 [] ?_
 refine fc tOK 1 [] (vis_ok) ?_
 refine sib 0 rfl rfl (fun h7 => ?_) (fun h7 => ?_)
 ·have e : printV v = [] := by unfold printV; rw [if_pos (by simpa using h7)]
  refine en tOK 0 1 [] ?_
  refine sr 0 R ?_
  first | (rw [e]; rfl) | (rw [e, e0]; rfl)
 ·have hv : isV v = true := by simpa using h7
  have hnn := isV_n hv
  refine en tOK 0 3 [] ?_
  refine si 0 rfl rfl (fun h10 => ?_) (fun h10 => ?_)
  ·have hc : v.k = 2 ∨ v.k = 3 ∨ v.k = 4 ∨ v.k = 5 := by rcases isV_cases hv with ⟨h, _⟩ | rfl | rfl | rfl | rfl <;> first | exact absurd h h10 | simp
   rcases hc with hk | hk | hk | hk
   ·refine en tOK 0 0 [] ?_
    refine bld tOK 2 [] #[(2, str [110, 117, 108, 108]), (3, str [78, 97, 78]), (4, str [43, 73, 110, 102]), (5, str [45, 73, 110, 102])] (.agg #[str [], str [], str [110, 117, 108, 108], str [78, 97, 78], str [43, 73, 110, 102], str [45, 73, 110, 102]]) (fun w => by kernel_rfl) ?_
    refine sas 13 rfl (v' := nI 2) ?_ ?_
    ·rw [hk]
    refine ixa tOK 1 [] (.str [110, 117, 108, 108]) (fun w => by kernel_rfl) (fun _ _ => .str) ?_
    have e : printV v = [110, 117, 108, 108] := by subst_vars; unfold printV; rw [if_neg (by simp [hv])]; simp [hk]
    
    refine sr 0 R ?_
    first | (rw [e]; rfl) | (rw [e, e0]; rfl)
   ·refine en tOK 0 0 [] ?_
    refine bld tOK 2 [] #[(2, str [110, 117, 108, 108]), (3, str [78, 97, 78]), (4, str [43, 73, 110, 102]), (5, str [45, 73, 110, 102])] (.agg #[str [], str [], str [110, 117, 108, 108], str [78, 97, 78], str [43, 73, 110, 102], str [45, 73, 110, 102]]) (fun w => by kernel_rfl) ?_
    refine sas 13 rfl (v' := nI 3) ?_ ?_
    ·rw [hk]
    refine ixa tOK 1 [] (.str [78, 97, 78]) (fun w => by kernel_rfl) (fun _ _ => .str) ?_
    have e : printV v = [78, 97, 78] := by subst_vars; unfold printV; rw [if_neg (by simp [hv])]; simp [hk]
    
    refine sr 0 R ?_
    first | (rw [e]; rfl) | (rw [e, e0]; rfl)
   ·refine en tOK 0 0 [] ?_
    refine bld tOK 2 [] #[(2, str [110, 117, 108, 108]), (3, str [78, 97, 78]), (4, str [43, 73, 110, 102]), (5, str [45, 73, 110, 102])] (.agg #[str [], str [], str [110, 117, 108, 108], str [78, 97, 78], str [43, 73, 110, 102], str [45, 73, 110, 102]]) (fun w => by kernel_rfl) ?_
    refine sas 13 rfl (v' := nI 4) ?_ ?_
    ·rw [hk]
    refine ixa tOK 1 [] (.str [43, 73, 110, 102]) (fun w => by kernel_rfl) (fun _ _ => .str) ?_
    have e : printV v = [43, 73, 110, 102] := by subst_vars; unfold printV; rw [if_neg (by simp [hv])]; simp [hk]
    
    refine sr 0 R ?_
    first | (rw [e]; rfl) | (rw [e, e0]; rfl)
   ·refine en tOK 0 0 [] ?_
    refine bld tOK 2 [] #[(2, str [110, 117, 108, 108]), (3, str [78, 97, 78]), (4, str [43, 73, 110, 102]), (5, str [45, 73, 110, 102])] (.agg #[str [], str [], str [110, 117, 108, 108], str [78, 97, 78], str [43, 73, 110, 102], str [45, 73, 110, 102]]) (fun w => by kernel_rfl) ?_
    refine sas 13 rfl (v' := nI 5) ?_ ?_
    ·rw [hk]
    refine ixa tOK 1 [] (.str [45, 73, 110, 102]) (fun w => by kernel_rfl) (fun _ _ => .str) ?_
    have e : printV v = [45, 73, 110, 102] := by subst_vars; unfold printV; rw [if_neg (by simp [hv])]; simp [hk]
    
    refine sr 0 R ?_
    first | (rw [e]; rfl) | (rw [e, e0]; rfl)
  ·have h1 : v.k = 1 := Decidable.byContradiction h10
   have hm : printV v = if v.n < 0 then 45 :: magV v.n.natAbs else magV v.n.natAbs := by unfold printV; rw [if_neg (by simp [hv]), if_neg (by omega), if_neg (by omega), if_neg (by omega), if_neg (by omega)]
   obtain ⟨N, hN⟩ : ∃ N : Nat, max v.n (0 - v.n) = N := ⟨v.n.natAbs, by omega⟩
   have hN2 : v.n.natAbs = N := by omega
   have ed : ((N : Int)).tdiv 1000 = ((N / 1000 : Nat) : Int) := by rw [show (1000 : Int) = ((1000 : Nat) : Int) from rfl, ← Int.ofNat_tdiv]
   have em : ((N : Int)).tmod 1000 = ((N % 1000 : Nat) : Int) := by rw [show (1000 : Int) = ((1000 : Nat) : Int) from rfl, ← Int.ofNat_tmod]
   have hlen1 := dec_len (n := N / 1000) (by omega)
   have hl4 : (Lib.decDigits (1000 + N % 1000)).length = 4 := by have := congrArg List.length (dec4 (r := N % 1000) (by omega)); simp at this; omega
   refine en tOK 0 7 [] ?_
   refine sas 3 rfl (v' := nI (N : Int)) ?_ ?_
   ·rw [hN]
   refine sn tOK 0 2 [] ?_
   refine fc tOK 1 [] (fmtI (p := IntKind.wrap .i64 ((N : Int).tdiv 1000)) (x := N / 1000) (by rw [ed]; exact wrap_i64 (by omega) (by omega)) (by omega)) ?_
   refine sn tOK 0 3 [] ?_
   refine si 0 rfl rfl (fun h26 => ?_) (fun h26 => ?_)
   ·have hr : N % 1000 ≠ 0 := by omega
    have hlt : (Lib.trimRightB ((Lib.decDigits (1000 + N % 1000)).drop 1) 48).length ≤ 3 := by have := trim_len ((Lib.decDigits (1000 + N % 1000)).drop 1); rw [List.length_drop, hl4] at this; exact this
    have e0 : magV N = Lib.decDigits (N / 1000) ++ ([46] ++ Lib.trimRightB ((Lib.decDigits (1000 + N % 1000)).drop 1) 48) := by unfold magV fracV; rw [if_neg hr]; rfl
    refine en tOK 0 4 [] ?_
    refine fc tOK 1 [] (fmtI (p := 1000 + (N : Int).tmod 1000) (x := 1000 + N % 1000) (by rw [em]; omega) (by omega)) ?_
    refine fc tOK 3 [] (trim0_ok (s := (Lib.decDigits (1000 + N % 1000)).drop 1) (by simp; omega)) ?_ (hφ := by simp only [conj, List.length_append]; show (Lib.decDigits (N / 1000)).length + (1 + (Lib.trimRightB ((Lib.decDigits (1000 + N % 1000)).drop 1) 48).length) ≤ 9223372036854775807 ∧ 1 + (Lib.trimRightB ((Lib.decDigits (1000 + N % 1000)).drop 1) 48).length ≤ 9223372036854775807; omega)
    refine sn tOK 0 3 [] ?_
    refine si 0 rfl rfl (fun h38 => ?_) (fun h38 => ?_)
    ·have e : printV v = [45] ++ magV N := by rw [hm, if_pos h38, hN2]; rfl
     refine en tOK 0 3 [] ?_ (hφ := by simp only [conj, List.length_append, List.length_cons, List.length_nil, List.length_drop]; omega)
     refine sr 0 R ?_
     first | (rw [e]; rfl) | (rw [e, e0]; rfl)
    ·have e : printV v = magV N := by rw [hm, if_neg h38, hN2]
     refine en tOK 0 2 [] ?_
     refine sr 0 R ?_
     first | (rw [e]; rfl) | (rw [e, e0]; rfl)
   ·have e0 : magV N = Lib.decDigits (N / 1000) := by unfold magV fracV; rw [if_pos (by omega), List.append_nil]
    refine en tOK 0 3 [] ?_
    refine si 0 rfl rfl (fun h38 => ?_) (fun h38 => ?_)
    ·have e : printV v = [45] ++ magV N := by rw [hm, if_pos h38, hN2]; rfl
     refine en tOK 0 3 [] ?_ (hφ := by simp only [conj, List.length_append, List.length_cons, List.length_nil, List.length_drop]; omega)
     refine sr 0 R ?_
     first | (rw [e]; rfl) | (rw [e, e0]; rfl)
    ·have e : printV v = magV N := by rw [hm, if_neg h38, hN2]
     refine en tOK 0 2 [] ?_
     refine sr 0 R ?_
     first | (rw [e]; rfl) | (rw [e, e0]; rfl)
end Go.Proofs.YtomkgfdigldhcaaGreatDoor
namespace Go.Proofs.YtomkgfdigldhcaaGreatDoor
open Go.KX
set_option maxRecDepth 100000 in
theorem vparse_ok {s : Bytes} (hs : s.length ≤ 1000000) : Fc Tryz.prog gT 320 [.str s] (.t [vS (parseV s).1, nI (parseV s).2]) := by
 refine fb tOK (fn := Tryz.f320) 84 [.cell 2 26, .tmp 3] Tryz.func320 Tryz.results320 (fun g0 B0 Q ρ0 R => ?_)
 refine en tOK 0 2 [] ?_
 refine sn tOK 0 0 [] ?_
 refine fc tOK 0 [] (vnull_ok) ?_
 refine fc tOK 0 [] (vnan_ok) ?_
 refine fc tOK 0 [] (vplus_ok) ?_
 refine fc tOK 3 [] (vminus_ok) ?_
 refine sl 0 ?_
 refine E_loop (σ := Nat) (fun j => j ≤ 4 ∧ ∀ v ∈ c4.take j, decide (s = printV v) = false) (fun j => 4 - j)
   (fun j => [(0, .str s), (2, .l 2 0), (18, rV c4), (19, nI 4), (20, nI j)])
   (fun j => [(2, .c 26 [nI 0, nI 0])]) 0 ?_ ?_
 ·exact ⟨Nat.zero_le _, by simp⟩
 ·rintro J j ⟨hj0, hj1⟩ hJ
  refine en tOK 0 1 [] ?_
  refine si 0 rfl rfl (fun h21 => ?_) (fun h21 => ?_)
  ·have hjl : j < 4 := by omega
   have hj : j < c4.length := hjl
   refine en tOK 0 4 [[nI c4[j].k, nI c4[j].n]] ?_ (hφ := by exact ⟨by omega, row_at _ hj⟩)
   refine sn tOK 0 2 [] ?_
   refine fc tOK 1 [] (vprint_ok) ?_
   refine si 0 rfl rfl (fun h27 => ?_) (fun h27 => ?_)
   ·have e := parse_c4 hj h27
    refine en tOK 0 3 [] ?_
    refine sr 0 R ?_
    first | (rw [e]; rfl) | (rw [← Int.zero_sub] at e; rw [e]; rfl)
   ·have hx : decide (s = printV c4[j]) = false := by simpa using h27
    refine en tOK 0 2 [] ?_
    exact hJ (j + 1) ⟨by omega, take_next hj hj1 hx⟩ (by omega)
  ·have hn4 := not4_of (fun v hv => hj1 v (by rw [List.take_of_length_le (show c4.length ≤ j by show 4 ≤ j; omega)]; exact hv))
   have hbl := Lib.trimPrefix_le s [45]
   refine en tOK 0 1 [] ?_
   refine fc tOK 5 [] (cutp_ok) ?_
   obtain ⟨w, f, b, hcut⟩ : ∃ w f b, Lib.cut (Lib.trimPrefix s [45]) [46] = (w, f, b) := ⟨_, _, _, rfl⟩
   have hC : Fc Tryz.prog gT 333 [.str (Lib.trimPrefix s [45]), .str [46]] (.t [.str w, .str f, bS b]) := by
     have h := cut_ok (s := Lib.trimPrefix s [45]) (p := [46]) (by omega)
     rw [hcut] at h
     exact h
   refine sn tOK 0 1 [] ?_
   refine fc tOK 7 [] (hC) ?_
   refine sn tOK 0 8 [] ?_
   refine sib 0 rfl rfl (fun h48 => ?_) (fun h48 => ?_)
   ·have hl : f.length ≤ 3 ∧ w.length ≤ 13 := by simp at h48; omega
    have hrl : (Lib.repeatL [48] (3 - f.length)).length = 3 - f.length := by rw [Lib.repeatL_length]; simp
    have h16 : (w ++ f ++ Lib.repeatL [48] (3 - f.length)).length ≤ 16 := by rw [List.length_append, List.length_append, hrl]; omega
    have hne : w ++ f ++ Lib.repeatL [48] (3 - f.length) ≠ [] := by
      intro h
      have h0 := congrArg List.length h
      rw [List.length_append, List.length_append, hrl] at h0
      have h1 : ([] : Bytes).length = 0 := rfl
      omega
    rcases hP : Lib.parseUintM M62 0 (w ++ f ++ Lib.repeatL [48] (3 - f.length)) with n | _ | _
    rotate_left 2
    ·exact absurd hP (uintM_16 h16).1
    ·refine en tOK 0 6 [] ?_
     refine sas 55 rfl (v' := nI ((3 - f.length : Nat) : Int)) ?_ ?_
     ·rw [show (3 : Int) - f.length = ((3 - f.length : Nat) : Int) by omega]
     refine fc tOK 1 [] (rep_ok (s := [48]) (c := 3 - f.length) (by show 1 * (3 - f.length) ≤ _; omega) (by omega) (by decide)) ?_ (hφ := by exact (show (w ++ f).length + (Lib.repeatL [48] (3 - f.length)).length ≤ 9223372036854775807 by rw [List.length_append, hrl]; omega))
     refine fc tOK 5 [] (uintG_ok hne h16 hP) ?_
     have hnb := (uintM_16 h16).2 n hP
     refine sn tOK 0 2 [] ?_
     refine fc tOK 2 [] (vnum_ok) ?_
     refine sn tOK 0 1 [] ?_
     refine sib 0 rfl rfl (fun h64 => ?_) (fun h64 => ?_)
     ·have ez : (0 - (n : Int)) = -(n : Int) := by omega
      have e0 := prog_ok (x := -(n : Int)) hn4 hcut hl hP (by rw [if_pos h64])
      refine en tOK 0 3 [] ?_
      refine fc tOK 1 [] (vnum_ok) ?_
      refine sn tOK 0 1 [] ?_
      refine kn2 tOK 7 [] (.bool true) (fun w => by kernel_rfl) ?_
      refine fg tOK 3 [] (fun hg => vprint_ok) ?_
      refine sib 0 rfl rfl (fun h81 => ?_) (fun h81 => ?_)
      ·simp at h81
       have e := e0
       rw [if_pos ⟨h81.1, h81.2⟩] at e
       refine en tOK 0 3 [] ?_
       refine sr 0 R ?_
       first | (rw [e]; rfl) | (rw [← Int.zero_sub] at e; rw [e]; rfl)
      ·simp at h81
       have e := e0
       rw [if_neg (fun h => h81 h.1 h.2)] at e
       refine en tOK 0 3 [] ?_
       refine sr 0 R ?_
       first | (rw [e]; rfl) | (rw [← Int.zero_sub] at e; rw [e]; rfl)
     ·have e0 := prog_ok (x := (n : Int)) hn4 hcut hl hP (by rw [if_neg (by simpa using h64)])
      refine en tOK 0 1 [] ?_
      refine kn2 tOK 7 [] (.bool true) (fun w => by kernel_rfl) ?_
      refine fg tOK 3 [] (fun hg => vprint_ok) ?_
      refine sib 0 rfl rfl (fun h81 => ?_) (fun h81 => ?_)
      ·simp at h81
       have e := e0
       rw [if_pos ⟨h81.1, h81.2⟩] at e
       refine en tOK 0 3 [] ?_
       refine sr 0 R ?_
       first | (rw [e]; rfl) | (rw [← Int.zero_sub] at e; rw [e]; rfl)
      ·simp at h81
       have e := e0
       rw [if_neg (fun h => h81 h.1 h.2)] at e
       refine en tOK 0 3 [] ?_
       refine sr 0 R ?_
       first | (rw [e]; rfl) | (rw [← Int.zero_sub] at e; rw [e]; rfl)
    ·refine en tOK 0 6 [] ?_
     refine sas 55 rfl (v' := nI ((3 - f.length : Nat) : Int)) ?_ ?_
     ·rw [show (3 : Int) - f.length = ((3 - f.length : Nat) : Int) by omega]
     refine fc tOK 1 [] (rep_ok (s := [48]) (c := 3 - f.length) (by show 1 * (3 - f.length) ≤ _; omega) (by omega) (by decide)) ?_ (hφ := by exact (show (w ++ f).length + (Lib.repeatL [48] (3 - f.length)).length ≤ 9223372036854775807 by rw [List.length_append, hrl]; omega))
     refine fc tOK 5 [] (uintG_bad hne h16 hP) ?_
     have e := prog_bad hn4 hcut hl hP
     refine sn tOK 0 2 [] ?_
     refine fc tOK 2 [] (vnum_ok) ?_
     refine sn tOK 0 1 [] ?_
     refine sib 0 rfl rfl (fun h64 => ?_) (fun h64 => ?_)
     ·refine en tOK 0 3 [] ?_
      refine fc tOK 1 [] (vnum_ok) ?_
      refine sn tOK 0 1 [] ?_
      refine nnil tOK 7 [] false (by kernel_rfl) ?_
      refine fg tOK 3 [] (fun hg => vprint_ok) ?_
      refine sib 0 rfl rfl (fun h81 => ?_) (fun h81 => ?_)
      ·simp at h81
      ·refine en tOK 0 3 [] ?_
       refine sr 0 R ?_
       first | (rw [e]; rfl) | (rw [← Int.zero_sub] at e; rw [e]; rfl)
     ·refine en tOK 0 1 [] ?_
      refine nnil tOK 7 [] false (by kernel_rfl) ?_
      refine fg tOK 3 [] (fun hg => vprint_ok) ?_
      refine sib 0 rfl rfl (fun h81 => ?_) (fun h81 => ?_)
      ·simp at h81
      ·refine en tOK 0 3 [] ?_
       refine sr 0 R ?_
       first | (rw [e]; rfl) | (rw [← Int.zero_sub] at e; rw [e]; rfl)
   ·have e := prog_long hn4 hcut (fun h => by simp at h48; omega)
    refine en tOK 0 3 [] ?_
    refine sr 0 R ?_
    first | (rw [e]; rfl) | (rw [← Int.zero_sub] at e; rw [e]; rfl)
end Go.Proofs.YtomkgfdigldhcaaGreatDoor
namespace Go.Proofs.YtomkgfdigldhcaaGreatDoor
open Go.KX
set_option maxRecDepth 100000 in
theorem number_ok {s r : Bytes} {p : Ps} (hi : p.i + r.length ≤ s.length) (hs : s.length ≤ 1024) : Fp Tryz.prog gT 298 [.l 1000 0, .str r] (psC s p) (exS (numberX parseV r p).1) (psC s (numberX parseV r p).2) := by
 refine fpb tOK (fn := Tryz.f298) 58 [.cell 4 29] Tryz.func298 Tryz.results298 (fun g0 B0 Q ρ0 R => ?_)
 have hb := runB_le gDig r
 have hnl := numLen_le r
 refine en tOK 0 1 [] ?_
 refine sn tOK 0 1 [] ?_
 refine fc tOK 1 [] (run_ok (g := gDig) (s := r) (by omega)) ?_
 refine sn tOK 0 11 [] ?_ (hφ := by exact ⟨id, id, fun h => ⟨by omega, by have := of_decide_eq_true h; omega⟩, id, id, by omega, by omega⟩)
 refine sib 0 rfl rfl (fun h21 => ?_) (fun h21 => ?_)
 ·simp only [Bool.and_eq_true, decide_eq_true_eq] at h21
  obtain ⟨q1, q2⟩ := h21
  have q3 : r.getD (runB gDig r) 0 = 46 := UInt8.toNat_inj.1 (Int.ofNat.inj q2)
  have hb2 := runB_le gDig (r.drop (runB gDig r + 1))
  have hb3 : (r.drop (runB gDig r + 1)).length = r.length - (runB gDig r + 1) := List.length_drop
  refine en tOK 0 4 [] ?_
  refine sas 25 rfl (v' := .str (r.drop (runB gDig r + 1))) ?_ ?_
  ·rw [show ((runB gDig r : Int) + 1).toNat = runB gDig r + 1 by omega]
  refine fc tOK 1 [] (run_ok (g := gDig) (s := r.drop (runB gDig r + 1)) (by omega)) ?_
  refine sn tOK 0 2 [] ?_
  refine si 0 rfl rfl (fun h28 => ?_) (fun h28 => ?_)
  ·have e : numLen r = runB gDig r + 1 + runB gDig (r.drop (runB gDig r + 1)) := by unfold numLen; rw [if_pos ⟨by omega, q3, by omega⟩]
   refine en tOK 0 5 [] ?_
   refine sas 5 rfl (v' := nI (numLen r)) ?_ ?_
   ·exact nI_eq (by omega)
   refine sn tOK 0 3 [] ?_
   refine fc tOK 6 [] (vparse_ok (s := r.take (numLen r)) (by simp; omega)) ?_
   refine sn tOK 0 2 [] ?_
   refine si 0 rfl rfl (fun h41 => ?_) (fun h41 => ?_)
   ·have hfi := fails_i p 110 p.i
    have e2 : numberX parseV r p = (exN (parseV (r.take (numLen r))).1, { p.fails 110 p.i with i := p.i + numLen r }) := by unfold numberX; rw [if_neg h41]
    refine en tOK 0 5 [] ?_
    refine fp tOK 1000 0 [] (fails_ok) ?_
    refine sn tOK 0 9 [] ?_
    refine sn tOK 0 3 [] ?_
    refine srp 0 R ?_
    exact ⟨by rw [e2] <;> rfl, by rw [e2] <;> first | rfl | (rw [hfi] <;> rfl)⟩
   ·have e2 : numberX parseV r p = (exN (parseV (r.take (numLen r))).1, { p with i := p.i + numLen r }) := by unfold numberX; rw [if_pos (Decidable.of_not_not h41)]
    refine en tOK 0 9 [] ?_
    refine sn tOK 0 3 [] ?_
    refine srp 0 R ?_
    exact ⟨by rw [e2] <;> rfl, by rw [e2] <;> first | rfl | (rw [hfi] <;> rfl)⟩
  ·have e : numLen r = runB gDig r := by unfold numLen; rw [if_neg (fun h => by omega)]
   refine eas 5 rfl (v' := nI (numLen r)) ?_ ?_
   ·exact nI_eq (by omega)
   refine en tOK 0 3 [] ?_
   refine fc tOK 6 [] (vparse_ok (s := r.take (numLen r)) (by simp; omega)) ?_
   refine sn tOK 0 2 [] ?_
   refine si 0 rfl rfl (fun h41 => ?_) (fun h41 => ?_)
   ·have hfi := fails_i p 110 p.i
    have e2 : numberX parseV r p = (exN (parseV (r.take (numLen r))).1, { p.fails 110 p.i with i := p.i + numLen r }) := by unfold numberX; rw [if_neg h41]
    refine en tOK 0 5 [] ?_
    refine fp tOK 1000 0 [] (fails_ok) ?_
    refine sn tOK 0 9 [] ?_
    refine sn tOK 0 3 [] ?_
    refine srp 0 R ?_
    exact ⟨by rw [e2] <;> rfl, by rw [e2] <;> first | rfl | (rw [hfi] <;> rfl)⟩
   ·have e2 : numberX parseV r p = (exN (parseV (r.take (numLen r))).1, { p with i := p.i + numLen r }) := by unfold numberX; rw [if_pos (Decidable.of_not_not h41)]
    refine en tOK 0 9 [] ?_
    refine sn tOK 0 3 [] ?_
    refine srp 0 R ?_
    exact ⟨by rw [e2] <;> rfl, by rw [e2] <;> first | rfl | (rw [hfi] <;> rfl)⟩
 ·have e : numLen r = runB gDig r := by
    unfold numLen
    rw [if_neg]
    intro h
    rcases Bool.and_eq_false_iff.1 h21 with q | q
    · have q := of_decide_eq_false q
      omega
    · exact of_decide_eq_false q (by show ((r.getD (runB gDig r) 0).toNat : Int) = 46; rw [h.2.1]; rfl)
  refine eas 5 rfl (v' := nI (numLen r)) ?_ ?_
  ·exact nI_eq (by omega)
  refine en tOK 0 3 [] ?_
  refine fc tOK 6 [] (vparse_ok (s := r.take (numLen r)) (by simp; omega)) ?_
  refine sn tOK 0 2 [] ?_
  refine si 0 rfl rfl (fun h41 => ?_) (fun h41 => ?_)
  ·have hfi := fails_i p 110 p.i
   have e2 : numberX parseV r p = (exN (parseV (r.take (numLen r))).1, { p.fails 110 p.i with i := p.i + numLen r }) := by unfold numberX; rw [if_neg h41]
   refine en tOK 0 5 [] ?_
   refine fp tOK 1000 0 [] (fails_ok) ?_
   refine sn tOK 0 9 [] ?_
   refine sn tOK 0 3 [] ?_
   refine srp 0 R ?_
   exact ⟨by rw [e2] <;> rfl, by rw [e2] <;> first | rfl | (rw [hfi] <;> rfl)⟩
  ·have e2 : numberX parseV r p = (exN (parseV (r.take (numLen r))).1, { p with i := p.i + numLen r }) := by unfold numberX; rw [if_pos (Decidable.of_not_not h41)]
   refine en tOK 0 9 [] ?_
   refine sn tOK 0 3 [] ?_
   refine srp 0 R ?_
   exact ⟨by rw [e2] <;> rfl, by rw [e2] <;> first | rfl | (rw [hfi] <;> rfl)⟩
set_option maxRecDepth 100000 in
theorem word_ok {s r : Bytes} {p : Ps} {ex : Ps → Ex × Ps} {dp : Nat} (hdp : dp ≤ 33) (fx : Fit s ex) (hex : ∀ p : Ps, p.i ≤ s.length → Fp Tryz.prog gT 62 [.l 1000 0, nI ((dp : Int) + 1)] (psC s p) (exS (ex p).1) (psC s (ex p).2)) (hi : p.i + r.length ≤ s.length) (hs : s.length ≤ 1024) : Fp Tryz.prog gT 299 [.l 1000 0, .str r, nI dp] (psC s p) (exS (wordX s ex r p).1) (psC s (wordX s ex r p).2) := by
 refine fpb tOK (fn := Tryz.f299) 57 [.cell 6 29] Tryz.func299 Tryz.results299 (fun g0 B0 Q ρ0 R => ?_)
 have hb := runB_le gLD r
 obtain ⟨w, hw⟩ : ∃ w, w = r.take (runB gLD r) := ⟨_, rfl⟩
 have hwl : w.length ≤ r.length := by rw [hw]; simp; omega
 obtain ⟨p1, hp1⟩ : ∃ p1 : Ps, p1 = { p with i := p.i + w.length } := ⟨_, rfl⟩
 have hp1i : p1.i = p.i + w.length := by rw [hp1]
 refine en tOK 0 1 [] ?_
 refine sn tOK 0 5 [] ?_
 refine sn tOK 0 2 [] ?_
 refine fc tOK 2 [] (run_ok (g := gLD) (s := r) (by omega)) ?_
 refine sas 1 rfl (v' := .str w) ?_ ?_
 ·rw [hw]; rfl
 refine sn tOK 0 10 [] ?_
 refine smb 1000 (mb' := psC s p1) ?_ ?_
 ·rw [hp1]; rfl
 refine sn tOK 0 1 [] ?_
 refine sn tOK 0 2 [] ?_
 refine si 0 rfl rfl (fun h27 => ?_) (fun h27 => ?_)
 ·have e2 : wordX s ex r p = (exN nullV, p1) := by unfold wordX; simp only; rw [← hw, if_pos h27, hp1]
  refine en tOK 0 0 [] ?_
  refine fc tOK 2 [] (vnull_ok) ?_
  refine srp 0 R ?_
  exact ⟨by rw [e2] <;> rfl, by rw [e2] <;> rfl⟩
 ·refine en tOK 0 2 [] ?_
  refine si 0 rfl rfl (fun h31 => ?_) (fun h31 => ?_)
  ·have e2 : wordX s ex r p = (exN nanV, p1) := by unfold wordX; simp only; rw [← hw, if_neg h27, if_pos h31, hp1]
   refine en tOK 0 0 [] ?_
   refine fc tOK 2 [] (vnan_ok) ?_
   refine srp 0 R ?_
   exact ⟨by rw [e2] <;> rfl, by rw [e2] <;> rfl⟩
  ·refine en tOK 0 2 [] ?_
   refine si 0 rfl rfl (fun h35 => ?_) (fun h35 => ?_)
   ·have e2 : wordX s ex r p = (exN plusV, p1) := by unfold wordX; simp only; rw [← hw, if_neg h27, if_neg h31, if_pos h35, hp1]
    refine en tOK 0 0 [] ?_
    refine fc tOK 2 [] (vplus_ok) ?_
    refine srp 0 R ?_
    exact ⟨by rw [e2] <;> rfl, by rw [e2] <;> rfl⟩
   ·obtain ⟨p2, hp2⟩ : ∃ p2, p2 = (if functionB w then p1 else p1.fails 110 p.i) := ⟨_, rfl⟩
    have e2 : wordX s ex r p = (exC w [(parX s ex (mustP s oPL p2)).1], (parX s ex (mustP s oPL p2)).2) := by unfold wordX; simp only; rw [← hw, if_neg h27, if_neg h31, if_neg h35, hp2, hp1]
    have hp2i : p2.i = p1.i := by rw [hp2]; split <;> simp [fails_i]
    have hm1 := must_fit (s := s) (x := oPL) (p := p2) (by omega)
    have hx1 := fx _ hm1.2
    refine en tOK 0 1 [] ?_
    refine fc tOK 1 [] (function_ok) ?_
    refine sib 0 rfl rfl (fun h41 => ?_) (fun h41 => ?_)
    ·refine en tOK 0 2 [] ?_
     refine fp tOK 1000 0 [] (fails_ok) ?_
     refine smb 1000 (mb' := psC s p2) ?_ ?_
     ·rw [hp2]; first | rw [if_pos (by simpa using h41)] | rw [if_neg (by simpa using h41)]
     refine sn tOK 0 1 [] ?_
     refine fp tOK 1000 0 [] (must_ok (x := oPL) (p := p2) (by omega) hs) ?_
     refine sn tOK 0 3 [] ?_
     refine fp tOK 1000 2 [] (hex (mustP s oPL p2) hm1.2) ?_
     refine sn tOK 0 1 [] ?_
     refine fp tOK 1000 0 [] (must_ok (x := oPR) (p := (ex (mustP s oPL p2)).2) hx1.2 hs) ?_
     refine sn tOK 0 3 [] ?_
     refine fc tOK 1 [] (call1_ok) ?_
     refine srp 0 R ?_
     exact ⟨by rw [e2] <;> rfl, by rw [e2] <;> rfl⟩
    ·refine emb 1000 (mb' := psC s p2) ?_ ?_
     ·rw [hp2]; first | rw [if_pos (by simpa using h41)] | rw [if_neg (by simpa using h41)]
     refine en tOK 0 1 [] ?_
     refine fp tOK 1000 0 [] (must_ok (x := oPL) (p := p2) (by omega) hs) ?_
     refine sn tOK 0 3 [] ?_
     refine fp tOK 1000 2 [] (hex (mustP s oPL p2) hm1.2) ?_
     refine sn tOK 0 1 [] ?_
     refine fp tOK 1000 0 [] (must_ok (x := oPR) (p := (ex (mustP s oPL p2)).2) hx1.2 hs) ?_
     refine sn tOK 0 3 [] ?_
     refine fc tOK 1 [] (call1_ok) ?_
     refine srp 0 R ?_
     exact ⟨by rw [e2] <;> rfl, by rw [e2] <;> rfl⟩
set_option maxRecDepth 100000 in
theorem prim0_ok {s : Bytes} {ex : Ps → Ex × Ps} {p : Ps} {dp : Nat} (hi : p.i ≤ s.length) (hs : s.length ≤ 1024) (hd : p.dead = true) : Fp Tryz.prog gT 256 [.l 1000 0, nI dp] (psC s p) (exS (primX parseV s ex p).1) (psC s (primX parseV s ex p).2) := by
 refine fpb tOK (fn := Tryz.f256) 95 [.cell 4 29] Tryz.func256 Tryz.results256 (fun g0 B0 Q ρ0 R => ?_)
 have e2 := prim_dead (pv := parseV) (s := s) (ex := ex) hd
 have hd2 : (p.restP s).dead = true := (restP_dead s p).trans hd
 refine en tOK 0 1 [] ?_
 refine sn tOK 0 1 [] ?_
 refine fp tOK 1000 1 [] (rest_ok hi hs) ?_
 refine sn tOK 0 5 [] ?_
 refine sib 0 rfl rfl (fun h15 => ?_) (fun h15 => ?_)
 ·refine en tOK 0 2 [] ?_
  refine srp 0 R ?_
  exact ⟨by rw [e2] <;> rfl, by rw [e2] <;> rfl⟩
 ·rw [hd2] at h15; cases h15
set_option maxRecDepth 100000 in
theorem prim_ok {s : Bytes} {p : Ps} {ex : Ps → Ex × Ps} {dp : Nat} (hdp : dp ≤ 33) (fx : Fit s ex) (hex : ∀ p : Ps, p.i ≤ s.length → Fp Tryz.prog gT 62 [.l 1000 0, nI ((dp : Int) + 1)] (psC s p) (exS (ex p).1) (psC s (ex p).2)) (hi : p.i ≤ s.length) (hs : s.length ≤ 1024) : Fp Tryz.prog gT 256 [.l 1000 0, nI dp] (psC s p) (exS (primX parseV s ex p).1) (psC s (primX parseV s ex p).2) := by
 refine fpb tOK (fn := Tryz.f256) 95 [.cell 4 29] Tryz.func256 Tryz.results256 (fun g0 B0 Q ρ0 R => ?_)
 have hlen := restT_len (s := s) hi
 have hdd := restP_dead s p
 refine en tOK 0 1 [] ?_
 refine sn tOK 0 1 [] ?_
 refine fp tOK 1000 1 [] (rest_ok hi hs) ?_
 refine sn tOK 0 5 [] ?_
 refine sib 0 rfl rfl (fun h15 => ?_) (fun h15 => ?_)
 ·have e2 := prim_dead (pv := parseV) (s := s) (ex := ex) (p := p) (hdd ▸ h15)
  refine en tOK 0 2 [] ?_
  refine srp 0 R ?_
  exact ⟨by rw [e2] <;> rfl, by rw [e2] <;> first | rfl | (rw [hp2i] <;> rfl)⟩
 ·have hd : p.dead = false := hdd ▸ h15
  refine en tOK 0 3 [] ?_
  refine si 0 rfl rfl (fun h20 => ?_) (fun h20 => ?_)
  ·have e2 := prim_nil (pv := parseV) (s := s) (ex := ex) hd h20
   refine en tOK 0 5 [] ?_
   refine fp tOK 1000 0 [] (fails_ok) ?_
   refine sn tOK 0 2 [] ?_
   refine srp 0 R ?_
   exact ⟨by rw [e2] <;> rfl, by rw [e2] <;> first | rfl | (rw [hp2i] <;> rfl)⟩
  ·obtain ⟨c, r, hcr⟩ : ∃ c r, p.restT s = c :: r := by
     cases hx : p.restT s with
     | nil => exact absurd hx h20
     | cons c r => exact ⟨c, r, rfl⟩
   have e0 := prim_cons (pv := parseV) (s := s) (ex := ex) hd hcr
   have hlr : (p.restP s).i + (c :: r).length ≤ s.length := by rw [hcr] at hlen; omega
   have hlr1 : (c :: r).length = r.length + 1 := rfl
   refine eas 5 rfl (v' := .str (c :: r)) ?_ ?_
   ·rw [hcr]
   refine en tOK 0 4 [] ?_
   refine si 0 rfl rfl (fun h29 => ?_) (fun h29 => ?_)
   ·have hc : c = 40 := u8_eq (k := 40) h29
    have e2 : primX parseV s ex p = parX s ex { p.restP s with i := (p.restP s).i + 1 } := by rw [e0, if_pos hc]
    have hx1 := fx { p.restP s with i := (p.restP s).i + 1 } (by show (p.restP s).i + 1 ≤ _; omega)
    refine en tOK 0 8 [] ?_
    refine smb 1000 (mb' := psC s { p.restP s with i := (p.restP s).i + 1 }) ?_ ?_
    ·rfl
    refine sn tOK 0 3 [] ?_
    refine fp tOK 1000 1 [] (hex { p.restP s with i := (p.restP s).i + 1 } (by show (p.restP s).i + 1 ≤ _; omega)) ?_
    refine sn tOK 0 1 [] ?_
    refine fp tOK 1000 0 [] (must_ok (x := oPR) (p := (ex { p.restP s with i := (p.restP s).i + 1 }).2) hx1.2 hs) ?_
    refine sn tOK 0 2 [] ?_
    refine srp 0 R ?_
    exact ⟨by rw [e2] <;> rfl, by rw [e2] <;> first | rfl | (rw [hp2i] <;> rfl)⟩
   ·have hc : c ≠ 40 := fun h => h29 (by rw [h]; rfl)
    refine en tOK 0 4 [] ?_
    refine si 0 rfl rfl (fun h46 => ?_) (fun h46 => ?_)
    ·have hc2 : c = 36 := u8_eq (k := 36) h46
     have hb := runB_le gLD r
     obtain ⟨w, hw⟩ : ∃ w, w = r.take (runB gLD r) := ⟨_, rfl⟩
     have hwl : w.length ≤ r.length := by rw [hw]; simp; omega
     obtain ⟨p2, hp2⟩ : ∃ p2, p2 = (if refB w then p.restP s else (p.restP s).fails 110 (p.restP s).i) := ⟨_, rfl⟩
     have hp2i : p2.i = (p.restP s).i := by rw [hp2]; split <;> simp [fails_i]
     have e2 : primX parseV s ex p = (exR w, { p2 with i := (p.restP s).i + (1 + w.length) }) := by rw [e0, if_neg hc, if_pos hc2, hp2, hw]; rfl
     refine en tOK 0 3 [] ?_
     refine fc tOK 3 [] (run_ok (g := gLD) (s := r) (by omega)) ?_
     refine sas 6 rfl (v' := .str w) ?_ ?_
     ·rw [hw]; show SV.str (r.take ((1 + (runB gLD r : Int)).toNat - 1)) = _; rw [show (1 + (runB gLD r : Int)).toNat - 1 = runB gLD r by omega]
     refine sn tOK 0 1 [] ?_
     refine fc tOK 1 [] (ref_ok (w := w) (by omega)) ?_
     refine sib 0 rfl rfl (fun h58 => ?_) (fun h58 => ?_)
     ·refine en tOK 0 5 [] ?_
      refine fp tOK 1000 0 [] (fails_ok) ?_
      refine smb 1000 (mb' := psC s p2) ?_ ?_
      ·rw [hp2]; first | rw [if_pos (by simpa using h58)] | rw [if_neg (by simpa using h58)]
      refine sn tOK 0 11 [] ?_ (hφ := by exact ⟨⟨by omega, by omega⟩, ⟨by omega, by omega⟩⟩)
      refine sn tOK 0 3 [] ?_
      refine sn tOK 0 2 [] ?_
      refine srp 0 R ?_
      exact ⟨by rw [e2] <;> rfl, by rw [e2] <;> first | rfl | (rw [hp2i] <;> rfl)⟩
     ·refine emb 1000 (mb' := psC s p2) ?_ ?_
      ·rw [hp2]; first | rw [if_pos (by simpa using h58)] | rw [if_neg (by simpa using h58)]
      refine en tOK 0 11 [] ?_ (hφ := by exact ⟨⟨by omega, by omega⟩, ⟨by omega, by omega⟩⟩)
      refine sn tOK 0 3 [] ?_
      refine sn tOK 0 2 [] ?_
      refine srp 0 R ?_
      exact ⟨by rw [e2] <;> rfl, by rw [e2] <;> first | rfl | (rw [hp2i] <;> rfl)⟩
    ·have hc2 : c ≠ 36 := fun h => h46 (by rw [h]; rfl)
     refine en tOK 0 2 [] ?_
     refine fc tOK 2 [] (ib_ok (g := gDig) (c := c) rfl) ?_
     refine si 0 rfl rfl (fun h77 => ?_) (fun h77 => ?_)
     ·have hg : c ∈ gDig := Classical.byContradiction fun h => absurd ((ib_mem _ _).2 h) (by omega)
      have e2 : primX parseV s ex p = numberX parseV (c :: r) (p.restP s) := by rw [e0, if_neg hc, if_neg hc2, if_pos hg]
      refine en tOK 0 2 [] ?_
      refine fp tOK 1000 1 [] (number_ok (r := c :: r) hlr hs) ?_
      refine sn tOK 0 2 [] ?_
      refine srp 0 R ?_
      exact ⟨by rw [e2] <;> rfl, by rw [e2] <;> first | rfl | (rw [hp2i] <;> rfl)⟩
     ·have hg : c ∉ gDig := (ib_mem _ _).1 (by omega)
      refine en tOK 0 2 [] ?_
      refine fc tOK 2 [] (ib_ok (g := gLet) (c := c) rfl) ?_
      refine si 0 rfl rfl (fun h85 => ?_) (fun h85 => ?_)
      ·have hg2 : c ∈ gLet := Classical.byContradiction fun h => absurd ((ib_mem _ _).2 h) (by omega)
       have e2 : primX parseV s ex p = wordX s ex (c :: r) (p.restP s) := by rw [e0, if_neg hc, if_neg hc2, if_neg hg, if_pos hg2]
       refine en tOK 0 3 [] ?_
       refine fp tOK 1000 1 [] (word_ok (r := c :: r) hdp fx hex hlr hs) ?_
       refine sn tOK 0 2 [] ?_
       refine srp 0 R ?_
       exact ⟨by rw [e2] <;> rfl, by rw [e2] <;> first | rfl | (rw [hp2i] <;> rfl)⟩
      ·have hg2 : c ∉ gLet := (ib_mem _ _).1 (by omega)
       have e2 : primX parseV s ex p = (ex0, (p.restP s).fails 110 (p.restP s).i) := by rw [e0, if_neg hc, if_neg hc2, if_neg hg, if_neg hg2]
       refine en tOK 0 5 [] ?_
       refine fp tOK 1000 0 [] (fails_ok) ?_
       refine sn tOK 0 2 [] ?_
       refine srp 0 R ?_
       exact ⟨by rw [e2] <;> rfl, by rw [e2] <;> first | rfl | (rw [hp2i] <;> rfl)⟩
end Go.Proofs.YtomkgfdigldhcaaGreatDoor
namespace Go.Proofs.YtomkgfdigldhcaaGreatDoor
open Go.KX
set_option maxRecDepth 100000 in
theorem binary0_ok {s : Bytes} {u : Ps → Ex × Ps} {p : Ps} {q : Int} {dp : Nat} (hq : q = 5) (hu : Fp Tryz.prog gT 167 [.l 1000 0, nI dp] (psC s p) (exS (u p).1) (psC s (u p).2)) : Fp Tryz.prog gT 115 [.l 1000 0, nI q, nI dp] (psC s p) (exS (u p).1) (psC s (u p).2) := by
 refine fpb tOK (fn := Tryz.f115) 43 [.cell 6 29] Tryz.func115 Tryz.results115 (fun g0 B0 Q ρ0 R => ?_)
 refine en tOK 0 1 [] ?_
 refine sn tOK 0 2 [] ?_
 refine si 0 rfl rfl (fun h11 => ?_) (fun h11 => ?_)
 ·refine en tOK 0 2 [] ?_
  refine fp tOK 1000 1 [] (hu) ?_
  refine srp 0 R ?_
  exact ⟨rfl, rfl⟩
 ·exact absurd hq h11
set_option maxRecDepth 100000 in
theorem binaryS_ok {s : Bytes} {sub : Ps → Ex × Ps} {p : Ps} {q : Int} {dp n : Nat} (hq : q = 4 - (n : Int)) (hn : n ≤ 4) (fs : Fit s sub) (hsub : ∀ p : Ps, p.i ≤ s.length → Fp Tryz.prog gT 115 [.l 1000 0, nI (q + 1), nI dp] (psC s p) (exS (sub p).1) (psC s (sub p).2)) (hi : p.i ≤ s.length) (hs : s.length ≤ 1024) : Fp Tryz.prog gT 115 [.l 1000 0, nI q, nI dp] (psC s p) (exS (loopG (tkX s) sub (levelsT.getD (4 - n) []) (n == 2) (s.length + 1) (sub p).1 (sub p).2).1) (psC s (loopG (tkX s) sub (levelsT.getD (4 - n) []) (n == 2) (s.length + 1) (sub p).1 (sub p).2).2) := by
 refine fpb tOK (fn := Tryz.f115) 43 [.cell 6 29] Tryz.func115 Tryz.results115 (fun g0 B0 Q ρ0 R => ?_)
 refine en tOK 0 1 [] ?_
 refine sn tOK 0 2 [] ?_
 refine si 0 rfl rfl (fun h11 => ?_) (fun h11 => ?_)
 ·exact absurd h11 (by omega)
 ·refine en tOK 0 4 [] ?_
  refine fp tOK 1000 2 [] (hsub p hi) ?_
  refine sl 0 ?_
  obtain ⟨ops, hops⟩ : ∃ ops, ops = levelsT.getD (4 - n) [] := ⟨_, rfl⟩
  obtain ⟨rest, hrest⟩ := levels_row hn hq
  rw [← hops] at hrest
  refine E_loop (σ := Nat × Ex × Ps) (fun t => t.2.2.i ≤ s.length ∧ s.length < t.1 + t.2.2.i ∧ loopG (tkX s) sub ops (n == 2) t.1 t.2.1 t.2.2 = loopG (tkX s) sub ops (n == 2) (s.length + 1) (sub p).1 (sub p).2) (fun t => t.1)
    (fun t => [(0, .l 1000 0), (1, nI q), (2, nI dp), (6, .l 6 0), (7, .l 7 0)])
    (fun t => [(7, .c 29 (exL t.2.1)), (6, .c 29 [nI 0, .str [], nI 0, nI 0, .s 0 []]), (1000, psC s t.2.2)]) (s.length + 1, (sub p).1, (sub p).2) ?_ ?_
  ·exact ⟨(fs p hi).2, by simp only; omega, rfl⟩
  ·rintro J t ⟨ht1, ht2, ht3⟩ hJ
   obtain ⟨k, hk⟩ : ∃ k, t.1 = k + 1 := ⟨t.1 - 1, by omega⟩
   have htf := take_fit (l := ops) ht1
   have hsf := fs _ htf.2
   rw [hk] at ht3
   refine en tOK 0 2 [] ?_
   refine gix tOK 1 [] (n := 5) (z := q) (rB ops :: rest) levels_den (by omega) hrest ?_
   refine fp tOK 1000 5 [] (take_ok (l := ops) ht1 hs) ?_
   refine sn tOK 0 2 [] ?_
   refine sib 0 rfl rfl (fun h29 => ?_) (fun h29 => ?_)
   ·have e1 : takeT s ops t.2.2 = none := by simpa using h29
    have e2 : loopG (tkX s) sub (levelsT.getD (4 - n) []) (n == 2) (s.length + 1) (sub p).1 (sub p).2 = (t.2.1, takeP s ops t.2.2) := by rw [← hops, ← ht3, loop_none e1]
    refine en tOK 0 2 [] ?_
    refine srp 0 R ?_
    exact ⟨by rw [e2] <;> rfl, by rw [e2] <;> rfl⟩
   ·obtain ⟨o, e1⟩ : ∃ o, takeT s ops t.2.2 = some o := Option.isSome_iff_exists.1 (by simpa using h29)
    refine eas 8 rfl (v' := .str o) ?_ ?_
    ·rw [e1]; rfl
    refine edr 0 576 [0, 0, 0, 0, 8, 0, 60, 126, 255, 511] [0, 2, 3, 4, 5, 6, 1, 7, 8, 9] ?_
    refine xd tOK 5 [] ?_
    refine dpc tOK 1000 0 [] (hsub (takeP s ops t.2.2) htf.2) ?_
    refine dl tOK 1 [] ?_
    refine dc tOK 1 [] (call2_ok) ?_
    refine xe ?_
    refine sn tOK 0 2 [] ?_
    refine si 0 rfl rfl (fun h41 => ?_) (fun h41 => ?_)
    ·have hb : (n == 2) = true := by simp; omega
     have e2 : loopG (tkX s) sub (levelsT.getD (4 - n) []) (n == 2) (s.length + 1) (sub p).1 (sub p).2 = (exC o [t.2.1, (sub (takeP s ops t.2.2)).1], (sub (takeP s ops t.2.2)).2) := by rw [← hops, ← ht3, hb, loop_alone e1]
     refine en tOK 0 2 [] ?_
     refine srp 0 R ?_
     exact ⟨by rw [e2] <;> rfl, by rw [e2] <;> rfl⟩
    ·have hb : (n == 2) = false := by simp; omega
     refine el 0 ?_
     exact hJ (k, exC o [t.2.1, (sub (takeP s ops t.2.2)).1], (sub (takeP s ops t.2.2)).2) ⟨hsf.2, by simp only; have := take_more e1; omega, by rw [← ht3, hb, loop_more e1]⟩ (by simp only; omega)
theorem binary_ok {s : Bytes} {u : Ps → Ex × Ps} {dp : Nat} (hs : s.length ≤ 1024) (fu : Fit s u) (hu : (∀ p : Ps, p.i ≤ s.length → Fp Tryz.prog gT 167 [.l 1000 0, nI dp] (psC s p) (exS (u p).1) (psC s (u p).2))) : ∀ (n : Nat), n ≤ 5 → ∀ (q : Int), q = 5 - (n : Int) → ∀ p : Ps, p.i ≤ s.length → Fp Tryz.prog gT 115 [.l 1000 0, nI q, nI dp] (psC s p) (exS (levX s u n p).1) (psC s (levX s u n p).2)
  | 0, _, q, hq, p, hi => binary0_ok (by omega) (hu p hi)
  | n + 1, hn, q, hq, p, hi => binaryS_ok (n := n) (by omega) (by omega) (lev_fit fu n) (fun p hi => binary_ok hs fu hu n (by omega) (q + 1) (by omega) p hi) hi hs
set_option maxRecDepth 100000 in
theorem expr_ok {s : Bytes} {u : Ps → Ex × Ps} {p : Ps} {dp : Nat} (fu : Fit s u) (hu : (∀ p : Ps, p.i ≤ s.length → Fp Tryz.prog gT 167 [.l 1000 0, nI dp] (psC s p) (exS (u p).1) (psC s (u p).2))) (hi : p.i ≤ s.length) (hs : s.length ≤ 1024) : Fp Tryz.prog gT 62 [.l 1000 0, nI dp] (psC s p) (exS (exprX s u dp p).1) (psC s (exprX s u dp p).2) := by
 refine fpb tOK (fn := Tryz.f62) 11 [.cell 4 29] Tryz.func62 Tryz.results62 (fun g0 B0 Q ρ0 R => ?_)
 refine en tOK 0 1 [] ?_
 refine sn tOK 0 2 [] ?_
 refine fp tOK 1000 0 [] (enter_ok (by omega) (by omega)) ?_
 refine sn tOK 0 2 [] ?_
 refine fp tOK 1000 1 [] (binary_ok hs fu hu 5 (by omega) 0 rfl (enterP s dp p) (enter_fit hi).2) ?_
 refine srp 0 R ?_
 exact ⟨rfl, rfl⟩
set_option maxRecDepth 100000 in
theorem unary0_ok {s : Bytes} {p : Ps} (hi : p.i ≤ s.length) (hs : s.length ≤ 1024) : Fp Tryz.prog gT 167 [.l 1000 0, nI ((33 : Nat) : Int)] (psC s p) (exS (unX parseV s 0 p).1) (psC s (unX parseV s 0 p).2) := by
 refine fpb tOK (fn := Tryz.f167) 27 [.cell 4 29] Tryz.func167 Tryz.results167 (fun g0 B0 Q ρ0 R => ?_)
 have hd := enter33 (s := s) (p := p)
 have he := enter_fit (d := 33) hi
 have e1 : takeT s [oSub, oNot] (enterP s 33 p) = none := takeT_dead hd
 have hf := take_fit (l := [oSub, oNot]) he.2
 refine en tOK 0 1 [] ?_
 refine sn tOK 0 2 [] ?_
 refine fp tOK 1000 0 [] (enter_ok (by omega) (by omega)) ?_
 refine sn tOK 0 2 [] ?_
 refine fp tOK 1000 5 [] (take_ok (l := [oSub, oNot]) he.2 hs) ?_
 refine sn tOK 0 1 [] ?_
 refine sib 0 rfl rfl (fun h16 => ?_) (fun h16 => ?_)
 ·rw [e1] at h16; cases h16
 ·refine en tOK 0 2 [] ?_
  refine fp tOK 1000 1 [] (prim0_ok (ex := fun q => (ex0, q)) (dp := 33) hf.2 hs ((gone_take _ _ hd).1)) ?_
  refine srp 0 R ?_
  exact ⟨rfl, rfl⟩
set_option maxRecDepth 100000 in
theorem unaryS_ok {s : Bytes} {p : Ps} {d dp : Nat} (hdp : dp + d = 32) (hun : ∀ p : Ps, p.i ≤ s.length → Fp Tryz.prog gT 167 [.l 1000 0, nI ((dp : Int) + 1)] (psC s p) (exS (unX parseV s d p).1) (psC s (unX parseV s d p).2)) (hi : p.i ≤ s.length) (hs : s.length ≤ 1024) : Fp Tryz.prog gT 167 [.l 1000 0, nI dp] (psC s p) (exS (unX parseV s (d + 1) p).1) (psC s (unX parseV s (d + 1) p).2) := by
 refine fpb tOK (fn := Tryz.f167) 27 [.cell 4 29] Tryz.func167 Tryz.results167 (fun g0 B0 Q ρ0 R => ?_)
 have h32 : 32 - d = dp := by omega
 have h33 : 33 - d = dp + 1 := by omega
 have he := enter_fit (d := dp) hi
 have hf := take_fit (l := [oSub, oNot]) he.2
 have hfx := un_fit (pv := parseV) (s := s) d
 refine en tOK 0 1 [] ?_
 refine sn tOK 0 2 [] ?_
 refine fp tOK 1000 0 [] (enter_ok (by omega) (by omega)) ?_
 refine sn tOK 0 2 [] ?_
 refine fp tOK 1000 5 [] (take_ok (l := [oSub, oNot]) he.2 hs) ?_
 refine sn tOK 0 1 [] ?_
 refine sib 0 rfl rfl (fun h16 => ?_) (fun h16 => ?_)
 ·obtain ⟨o, e1⟩ : ∃ o, takeT s [oSub, oNot] (enterP s dp p) = some o := Option.isSome_iff_exists.1 h16
  have e2 := un_some (pv := parseV) (s := s) (p := p) (d := d) (o := o) (by rw [h32]; exact e1)
  rw [h32] at e2
  refine eas 5 rfl (v' := .str o) ?_ ?_
  ·rw [e1]; rfl
  refine en tOK 0 4 [] ?_
  refine fp tOK 1000 1 [] (hun (takeP s [oSub, oNot] (enterP s dp p)) hf.2) ?_
  refine fc tOK 1 [] (call1_ok) ?_
  refine srp 0 R ?_
  exact ⟨by rw [e2] <;> rfl, by rw [e2] <;> rfl⟩
 ·have e1 : takeT s [oSub, oNot] (enterP s dp p) = none := by simpa using h16
  have e2 := un_none (pv := parseV) (s := s) (p := p) (d := d) (by rw [h32]; exact e1)
  rw [h32, h33] at e2
  refine en tOK 0 2 [] ?_
  refine fp tOK 1000 1 [] (prim_ok (ex := exprX s (unX parseV s d) (dp + 1)) (dp := dp) (by omega) (expr_fit hfx (dp + 1)) (fun p hi => expr_ok (dp := dp + 1) hfx hun hi hs) hf.2 hs) ?_
  refine srp 0 R ?_
  exact ⟨by rw [e2] <;> rfl, by rw [e2] <;> rfl⟩
theorem unary_ok {s : Bytes} (hs : s.length ≤ 1024) : ∀ (d dp : Nat), dp + d = 33 → ∀ p : Ps, p.i ≤ s.length → Fp Tryz.prog gT 167 [.l 1000 0, nI dp] (psC s p) (exS (unX parseV s d p).1) (psC s (unX parseV s d p).2)
  | 0, dp, h, p, hi => by
    have : dp = 33 := by omega
    subst this
    exact unary0_ok hi hs
  | d + 1, dp, h, p, hi => unaryS_ok (by omega) (fun p hi => unary_ok hs d (dp + 1) (by omega) p hi) hi hs
set_option maxRecDepth 100000 in
theorem mparse_ok {s : Bytes} : Fc Tryz.prog gT 20 [.str s] (.t [exS (parseX parseV s).1, nI (parseX parseV s).2.1, nI (parseX parseV s).2.2]) := by
 refine fb tOK (fn := Tryz.f20) 39 [.cell 2 29, .tmp 3, .tmp 4] Tryz.func20 Tryz.results20 (fun g0 B0 Q ρ0 R => ?_)
 refine en tOK 0 3 [] ?_
 refine sn tOK 0 3 [] ?_
 refine si 0 rfl rfl (fun h9 => ?_) (fun h9 => ?_)
 ·have e : parseX parseV s = (ex0, 1, 0) := by unfold parseX; rw [if_pos (by omega)]
  refine en tOK 0 4 [] ?_
  refine sr 0 R ?_
  rw [e]; rfl
 ·have hs : s.length ≤ 1024 := by omega
  obtain ⟨A, hA⟩ : ∃ A, A = exprX s (unX parseV s 33) 0 ⟨0, 0, 0, false⟩ := ⟨_, rfl⟩
  have hfA : A.2.i ≤ s.length := by rw [hA]; exact (expr_fit (un_fit 33) 0 _ (Nat.zero_le _)).2
  have e0 : parseX parseV s = (if (if A.2.restT s = [] then A.2.restP s else (A.2.restP s).fails 110 (A.2.restP s).i).dead then (ex0, (if A.2.restT s = [] then A.2.restP s else (A.2.restP s).fails 110 (A.2.restP s).i).err, (if A.2.restT s = [] then A.2.restP s else (A.2.restP s).fails 110 (A.2.restP s).i).at_) else (A.1, 0, 0)) := by unfold parseX; rw [if_neg (by omega), ← hA]
  have hE : Fp Tryz.prog gT 62 [.l 1000 0, nI ((0 : Nat) : Int)] (psC s ⟨0, 0, 0, false⟩) (exS A.1) (psC s A.2) := by rw [hA]; exact expr_ok (un_fit 33) (unary_ok hs 33 0 rfl) (Nat.zero_le _) hs
  refine en tOK 0 4 [] ?_
  refine smb 13 (mb' := psC s ⟨0, 0, 0, false⟩) ?_ ?_
  ·rfl
  refine sn tOK 0 1 [] ?_
  refine fp tOK 13 2 [] (hE) ?_
  refine sn tOK 0 1 [] ?_
  refine fp tOK 13 1 [] (rest_ok hfA hs) ?_
  refine si 0 rfl rfl (fun h18 => ?_) (fun h18 => ?_)
  ·obtain ⟨q2, hq2⟩ : ∃ q2, q2 = (A.2.restP s).fails 110 (A.2.restP s).i := ⟨_, rfl⟩
   have e3 : (if A.2.restT s = [] then A.2.restP s else (A.2.restP s).fails 110 (A.2.restP s).i) = q2 := by rw [hq2, if_neg h18]
   rw [e3] at e0
   refine en tOK 0 5 [] ?_
   refine fp tOK 13 0 [] (fails_ok) ?_
   refine smb 13 (mb' := psC s q2) ?_ ?_
   ·rw [hq2]
   refine sn tOK 0 4 [] ?_
   refine sib 0 rfl rfl (fun h28 => ?_) (fun h28 => ?_)
   ·have e : parseX parseV s = (ex0, q2.err, q2.at_) := by rw [e0, if_pos h28]
    refine edr 0 512 [0, 0, 2, 6, 14, 0, 32, 96, 224, 1, 543, 2047] [0, 1, 2, 3, 5, 6, 7, 9, 4, 8, 10, 11] ?_
    refine xd tOK 8 [] ?_
    refine dl tOK 0 [] ?_
    refine dl tOK 2 [] ?_
    refine xe ?_
    refine sr 0 R ?_
    rw [e]; rfl
   ·have e : parseX parseV s = (A.1, 0, 0) := by rw [e0, if_neg (by simp [h28])]
    refine en tOK 0 4 [] ?_
    refine sr 0 R ?_
    rw [e]; rfl
  ·obtain ⟨q2, hq2⟩ : ∃ q2, q2 = A.2.restP s := ⟨_, rfl⟩
   have e3 : (if A.2.restT s = [] then A.2.restP s else (A.2.restP s).fails 110 (A.2.restP s).i) = q2 := by rw [hq2, if_pos (Decidable.of_not_not h18)]
   rw [e3] at e0
   refine emb 13 (mb' := psC s q2) ?_ ?_
   ·rw [hq2]
   refine en tOK 0 4 [] ?_
   refine sib 0 rfl rfl (fun h28 => ?_) (fun h28 => ?_)
   ·have e : parseX parseV s = (ex0, q2.err, q2.at_) := by rw [e0, if_pos h28]
    refine edr 0 512 [0, 0, 2, 6, 14, 0, 32, 96, 224, 1, 543, 2047] [0, 1, 2, 3, 5, 6, 7, 9, 4, 8, 10, 11] ?_
    refine xd tOK 8 [] ?_
    refine dl tOK 0 [] ?_
    refine dl tOK 2 [] ?_
    refine xe ?_
    refine sr 0 R ?_
    rw [e]; rfl
   ·have e : parseX parseV s = (A.1, 0, 0) := by rw [e0, if_neg (by simp [h28])]
    refine en tOK 0 4 [] ?_
    refine sr 0 R ?_
    rw [e]; rfl
end Go.Proofs.YtomkgfdigldhcaaGreatDoor
namespace Go.Proofs.YtomkgfdigldhcaaGreatDoor
open Go.KX
set_option maxRecDepth 100000 in
theorem operand_ok {x : Ex} (hl : (printX x).length ≤ 1000000) (h : Fc Tryz.prog gT 21 [exS x] (.str (printX x))) : Fc Tryz.prog gT 66 [exS x] (.str (opdX x)) := by
 refine fb tOK (fn := Tryz.f66) 13 [.tmp 2] Tryz.func66 Tryz.results66 (fun g0 B0 Q ρ0 R => ?_)
 refine en tOK 0 2 [] ?_
 refine sn tOK 0 4 [] ?_
 refine si 0 rfl rfl (fun h6 => ?_) (fun h6 => ?_)
 ·have hk : x.kids.length = 2 := by have h6 := h6; rw [rowsE_len] at h6; omega
  have e : opdX x = 40 :: (printX x ++ [41]) := by unfold opdX; rw [if_pos hk]
  refine en tOK 0 1 [] ?_
  refine fc tOK 3 [] (h) ?_
  refine sr 0 R ?_
  rw [e]; rfl
 ·have hk : ¬ x.kids.length = 2 := by have h6 := h6; rw [rowsE_len] at h6; omega
  have e : opdX x = printX x := opd_not2 hk
  refine en tOK 0 1 [] ?_
  refine fc tOK 1 [] (h) ?_
  refine sr 0 R ?_
  rw [e]; rfl
set_option maxRecDepth 100000 in
theorem print_ref_ok {n : Bytes} (hl : n.length ≤ 1000000) : Fc Tryz.prog gT 21 [.a [nI 2, .str n, nI 0, nI 0, .s 0 []]] (.str (36 :: n)) := by
 refine fb tOK (fn := Tryz.f21) 80 [.tmp 2] Tryz.func21 Tryz.results21 (fun g0 B0 Q ρ0 R => ?_)
 refine en tOK 0 2 [] ?_
 refine sn tOK 0 4 [] ?_
 refine sn tOK 1 4 [] ?_
 refine sr 0 R ?_
 rfl
set_option maxRecDepth 100000 in
theorem print_num_ok {v : Val} : Fc Tryz.prog gT 21 [.a [nI 1, .str [], nI v.k, nI v.n, .s 0 []]] (.str (printX (exN v))) := by
 refine fb tOK (fn := Tryz.f21) 80 [.tmp 2] Tryz.func21 Tryz.results21 (fun g0 B0 Q ρ0 R => ?_)
 have e0 : printX (exN v) = _ := print_num3 [] v []
 refine en tOK 0 2 [] ?_
 refine sn tOK 0 4 [] ?_
 refine sn tOK 1 10 [] ?_
 refine sib 0 rfl rfl (fun h10 => ?_) (fun h10 => ?_)
 ·rw [if_pos (by simpa using h10)] at e0
  refine en tOK 0 1 [] ?_
  refine sr 0 R ?_
  rw [e0]; rfl
 ·rw [if_neg (by simpa using h10)] at e0
  refine en tOK 0 10 [] ?_
  refine sib 0 rfl rfl (fun h20 => ?_) (fun h20 => ?_)
  ·rw [if_pos (by simpa using h20)] at e0
   refine en tOK 0 1 [] ?_
   refine sr 0 R ?_
   rw [e0]; rfl
  ·rw [if_neg (by simpa using h20)] at e0
   refine en tOK 0 4 [] ?_
   refine sn tOK 1 2 [] ?_
   refine fc tOK 1 [] (vprint_ok (v := v)) ?_
   refine sr 0 R ?_
   rw [e0]; rfl
set_option maxRecDepth 100000 in
theorem print_two_ok {n : Bytes} {a b : Ex} (hl : (printX (exC n [a, b])).length ≤ 1000000) (ha : Fc Tryz.prog gT 66 [exS a] (.str (opdX a))) (hb : Fc Tryz.prog gT 66 [exS b] (.str (opdX b))) : Fc Tryz.prog gT 21 [.a [nI 3, .str n, nI 0, nI 0, .s 5 [exL a, exL b]]] (.str (printX (exC n [a, b]))) := by
 refine fb tOK (fn := Tryz.f21) 80 [.tmp 2] Tryz.func21 Tryz.results21 (fun g0 B0 Q ρ0 R => ?_)
 rw [print_two] at hl
 simp only [List.length_append, List.length_cons] at hl
 refine en tOK 0 2 [] ?_
 refine sn tOK 0 4 [] ?_
 refine sn tOK 1 10 [] ?_
 refine sn tOK 1 10 [] ?_
 refine sn tOK 1 4 [] ?_
 refine sn tOK 1 5 [] ?_
 refine sdr 1 0 [0, 1, 3, 7, 15, 31, 0, 64, 255, 511, 0, 1024, 3072, 7168, 15391, 32767, 65535] [0, 1, 2, 3, 4, 5, 6, 7, 8, 9, 10, 11, 12, 13, 14, 15, 16] ?_
 refine xd tOK 4 [exL a] ?_
 refine dc tOK 9 [exL b] (ha) ?_
 refine dc tOK 2 [] (hb) ?_
 refine xe ?_
 refine sr 0 R ?_
 rw [print_two]
 show SV.str _ = SV.str _
 simp
set_option maxRecDepth 100000 in
theorem print_one_ok {n : Bytes} {a : Ex} (hl : (printX (exC n [a])).length ≤ 1000000) (ho : Fc Tryz.prog gT 66 [exS a] (.str (opdX a))) (hp : Fc Tryz.prog gT 21 [exS a] (.str (printX a))) : Fc Tryz.prog gT 21 [.a [nI 3, .str n, nI 0, nI 0, .s 5 [exL a]]] (.str (printX (exC n [a]))) := by
 refine fb tOK (fn := Tryz.f21) 80 [.tmp 2] Tryz.func21 Tryz.results21 (fun g0 B0 Q ρ0 R => ?_)
 have e0 := print_one n a
 rw [e0] at hl
 refine en tOK 0 2 [] ?_
 refine sn tOK 0 4 [] ?_
 refine sn tOK 1 10 [] ?_
 refine sn tOK 1 10 [] ?_
 refine sn tOK 1 4 [] ?_
 refine sn tOK 1 5 [] ?_
 refine sn tOK 1 2 [] ?_
 refine fc tOK 1 [] (function_ok) ?_
 refine sib 0 rfl rfl (fun h58 => ?_) (fun h58 => ?_)
 ·rw [if_pos (by simpa using h58)] at e0 hl
  simp only [List.length_append, List.length_cons] at hl
  refine edr 0 0 [0, 1, 3, 0, 8, 24, 56, 120, 255, 511, 1023] [0, 1, 2, 3, 4, 5, 6, 7, 8, 9, 10] ?_
  refine xd tOK 7 [exL a] ?_
  refine dc tOK 3 [] (hp) ?_
  refine xe ?_
  refine sr 0 R ?_
  rw [e0]
  show SV.str _ = SV.str _
  simp
 ·rw [if_neg (by simpa using h58)] at e0 hl
  simp only [List.length_append, List.length_cons] at hl
  refine edr 0 0 [0, 1, 0, 4, 12, 28, 60, 127, 255] [0, 1, 2, 3, 4, 5, 6, 7, 8] ?_
  refine xd tOK 6 [exL a] ?_
  refine dc tOK 2 [] (ho) ?_
  refine xe ?_
  refine sr 0 R ?_
  rw [e0]
  show SV.str _ = SV.str _
  simp
theorem mprint_ok {x : Ex} (h : Wf x) (hl : (printX x).length ≤ 1000000) : Fc Tryz.prog gT 21 [exS x] (.str (printX x)) := by
  induction h with
  | num h => exact print_num_ok
  | @ref n h =>
    have e : printX (exR n) = 36 :: n := print_ref n zeroV []
    rw [e] at hl ⊢
    exact print_ref_ok (n := n) (by simp only [List.length_cons] at hl; omega)
  | @sign o x ho hx ih =>
    have h1 := print_one_len o x
    rw [ex_one]
    exact print_one_ok hl (operand_ok (by omega) (ih (by omega))) (ih (by omega))
  | @fn o x ho hx ih =>
    have h1 := print_one_len o x
    rw [ex_one]
    exact print_one_ok hl (operand_ok (by omega) (ih (by omega))) (ih (by omega))
  | @bin o x y m hm ho hx hy ihx ihy =>
    have h1 := print_two_len o x y
    rw [ex_pair]
    exact print_two_ok hl (operand_ok (by omega) (ihx (by omega))) (operand_ok (by omega) (ihy (by omega)))
end Go.Proofs.YtomkgfdigldhcaaGreatDoor
namespace Go.Proofs.YtomkgfdigldhcaaGreatDoor
open Go.KX
set_option maxRecDepth 100000 in
theorem mrefs1_ok {x : Ex} (ih : ∀ y : Ex, exSize y < exSize x → Fc Tryz.prog gT 24 [exS y] (rB (refsX y))) (hz : exSize x ≤ 100000) : Fc Tryz.prog gT 24 [exS x] (rB (refsX x)) := by
 refine fb tOK (fn := Tryz.f24) 27 [.tmp 2] Tryz.func24 Tryz.results24 (fun g0 B0 Q ρ0 R => ?_)
 have e0 := refsX_eq x
 have hsz := exSize_eq x
 have hkl := kids_len x.kids
 refine en tOK 0 2 [] ?_
 refine sn tOK 0 3 [] ?_
 refine si 0 rfl rfl (fun h7 => ?_) (fun h7 => ?_)
 ·have e : refsX x = [x.name] := by rw [e0, if_pos h7]
  refine en tOK 0 4 [] ?_
  refine sr 0 R ?_
  rw [e]; rfl
 ·have e : refsX x = cmpB (sortL (refsL x.kids)) := by rw [e0, if_neg h7]
  refine en tOK 0 4 [] ?_
  refine sl 0 ?_
  refine eas 13 rfl (v' := nI x.kids.length) ?_ ?_
  ·rw [rowsE_len]
  refine eonl 2 902 9 1 ?_
  refine E_loop (σ := Nat) (fun j => j ≤ x.kids.length) (fun j => x.kids.length - j)
    (fun j => [(1, .l 1 0), (2, .o 902 (rowsB (refsL (x.kids.take j))).length), (12, .s (kz x.kids 5) (rowsE x.kids)), (13, nI x.kids.length), (14, nI j)])
    (fun j => [(902, .r 9 1 (rowsB (refsL (x.kids.take j)))), (1, .c 29 (exL x))]) 0 ?_ ?_
  ·exact Nat.zero_le _
  ·rintro J j hj0 hJ
   refine en tOK 0 1 [] ?_
   refine si 0 rfl rfl (fun h15 => ?_) (fun h15 => ?_)
   ·have hj : j < x.kids.length := by omega
    have hks := exSize_kid hj
    have hl1 := refs_lens (x.kids.take j)
    have hl2 := exSizes_take (l := x.kids) j
    have hl3 := refs_len x.kids[j]
    refine en tOK 0 4 [exL x.kids[j]] ?_ (hφ := by exact ⟨by omega, by simpa using rowsE_get hj⟩)
    refine sn tOK 0 2 [] ?_
    refine fc tOK 0 [] (ih x.kids[j] (by omega)) ?_
    refine sap tOK 1 [] rfl (fun _ => rfl) ?_ ?_
    ·show ((rowsB (refsL (x.kids.take j))).length + (rowsB (refsX x.kids[j])).length) * 16 ≤ _
     simp only [List.length_map]
     omega
    refine sn tOK 0 2 [] ?_
    refine sas 2 rfl (v' := .o 902 (rowsB (refsL (x.kids.take (j + 1)))).length) ?_ ?_
    ·rw [refsL_next hj]; simp
    refine smb 902 (mb' := .r 9 1 (rowsB (refsL (x.kids.take (j + 1))))) ?_ ?_
    ·rw [refsL_next hj]; simp
    exact hJ (j + 1) (by omega) (by omega)
   ·have ej : x.kids.take j = x.kids := List.take_of_length_le (by omega)
    rw [ej]
    have hl1 := refs_lens x.kids
    refine eas 2 rfl (v' := .o 902 (refsL x.kids).length) ?_ ?_
    ·simp
    refine en tOK 0 1 [] ?_
    refine fp tOK 902 0 [] (sortB_ok (l := refsL x.kids) (by omega)) ?_
    refine sas 2 rfl (v' := .o 902 (sortL (refsL x.kids)).length) ?_ ?_
    ·rw [sortL_len]
    refine sn tOK 0 1 [] ?_
    refine fp tOK 902 1 [] (compactB_ok (l := sortL (refsL x.kids)) (by rw [sortL_len]; omega)) ?_
    refine sezo 2 ?_ ?_ (hr := rowsB_len)
    ·simp
    refine sr 0 R ?_
    rw [e]; rfl
theorem mrefs_ok {x : Ex} (hz : exSize x ≤ 100000) : Fc Tryz.prog gT 24 [exS x] (rB (refsX x)) := by
  have key : ∀ (n : Nat) (x : Ex), exSize x ≤ n → n ≤ 100000 → Fc Tryz.prog gT 24 [exS x] (rB (refsX x)) := by
    intro n
    induction n with
    | zero => intro x h _; have := exSize_eq x; omega
    | succ n ih => intro x h hn; exact mrefs1_ok (fun y hy => ih y (by omega) (by omega)) (by omega)
  exact key _ x (Nat.le_refl _) hz
end Go.Proofs.YtomkgfdigldhcaaGreatDoor
namespace Go.Proofs.YtomkgfdigldhcaaGreatDoor
open Go.KX
theorem den_nil : ∀ g ρ x, Den g ρ (.s 0 []) x → Den g ρ (.v (.slice none 0 0)) x := fun g ρ x h => by
  cases h with
  | s xs _ _ _ _ ho _ _ =>
    obtain ⟨rfl, rfl⟩ := ho.2 rfl
    exact .v
end Go.Proofs.YtomkgfdigldhcaaGreatDoor
