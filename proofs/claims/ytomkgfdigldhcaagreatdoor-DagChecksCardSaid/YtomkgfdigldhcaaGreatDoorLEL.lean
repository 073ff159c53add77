/- UJ UK UL BZ RL RM RN RE. -/
import Derived.Test.YtomkgfdigldhcaaGreatDoorLEK
import Derived.ProofKit
import Derived.OpenShut
import Derived.Test.YtomkgfdigldhcaaGreatDoorRows
import Derived.Lib.LaidU8
import Derived.Shelf.Vars
import Derived.Handed
import Derived.Lay
import Derived.MakeChecks
import Derived.HandedShaped
import Derived.Stop.Joined
import Derived.JoinedOf
import Derived.KernelRfl
namespace Go.Proofs.YtomkgfdigldhcaaGreatDoor
open Go.KX
set_option maxRecDepth 100000 in
theorem sin_ok {l : List Bytes} {s : Bytes} : Fc Tryz.prog gT 210 [rB l, .str s] (bS (decide (s ∈ l))) := by
 refine fb tOK (fn := Tryz.f210) 18 [.tmp 4] Tryz.func210 Tryz.results210 (fun g0 B0 Q ρ0 R => ?_)
 refine elen 0 rfl (fun hl => ?_)
 rw [List.length_map] at hl
 refine en tOK 0 1 [] ?_
 refine sn tOK 0 1 [] ?_
 refine sl 0 ?_
 refine E_loop (σ := Nat) (fun j => j ≤ l.length ∧ ∀ x ∈ l.take j, decide (x = s) = false) (fun j => l.length - j)
   (fun j => [(0, rB l), (1, .str s), (5, nI j)])
   (fun j => []) 0 ?_ ?_
 ·exact ⟨Nat.zero_le _, by simp⟩
 ·rintro J j ⟨hj0, hj1⟩ hJ
  refine en tOK 0 4 [] ?_
  refine si 0 rfl rfl (fun h9 => ?_) (fun h9 => ?_)
  ·rw [List.length_map] at h9
   have hj : j < l.length := by omega
   refine en tOK 0 6 [[.str l[j]]] ?_ (hφ := by exact ⟨by omega, by simp [hj]⟩)
   refine si 0 rfl rfl (fun h17 => ?_) (fun h17 => ?_)
   ·have e : decide (s ∈ l) = true := decide_eq_true (h17 ▸ List.getElem_mem hj)
    refine en tOK 0 1 [] ?_
    refine sr 0 R ?_
    rw [e]; rfl
   ·have hx : decide (l[j] = s) = false := by simpa using h17
    refine en tOK 0 3 [] ?_
    refine sl 0 ?_
    exact hJ (j + 1) ⟨by omega, take_next hj hj1 hx⟩ (by omega)
  ·rw [List.length_map] at h9
   have e : decide (s ∈ l) = false := decide_eq_false (fun hm => by have := hj1 s (by rw [List.take_of_length_le (by omega)]; exact hm); simp at this)
   refine en tOK 0 1 [] ?_
   refine sr 0 R ?_
   rw [e]; rfl
set_option maxRecDepth 100000 in
theorem drefs1_ok {x : Ex} (ih : ∀ y : Ex, exSize y < exSize x → Fc Tryz.prog gT 74 [exS y] (rB (refsD y))) (hz : exSize x ≤ 100000) : Fc Tryz.prog gT 74 [exS x] (rB (refsD x)) := by
 refine fb tOK (fn := Tryz.f74) 40 [.tmp 2] Tryz.func74 Tryz.results74 (fun g0 B0 Q ρ0 R => ?_)
 have e0 := refsD_eq x
 have hsz := exSize_eq x
 have hkl := kids_len x.kids
 obtain ⟨o0, ho0⟩ : ∃ o0, o0 = (if x.kind = 2 then addB [] x.name else []) := ⟨_, rfl⟩
 rw [← ho0] at e0
 have hol : o0.length ≤ 1 := by rw [ho0]; split <;> simp [addB]
 refine en tOK 0 2 [] ?_
 refine sn tOK 0 1 [] ?_
 refine sdn 3 (v' := rB []) rfl (fun g ρ x h => den_s0 (by decide) h) ?_
 refine sn tOK 0 3 [] ?_
 refine si 0 rfl rfl (fun h9 => ?_) (fun h9 => ?_)
 ·have ho : addB [] x.name = o0 := by rw [ho0, if_pos h9]
  refine en tOK 0 3 [] ?_
  refine fc tOK 1 [] (raddB_ok (l := []) (by simp)) ?_
  refine sas 3 rfl (v' := rB o0) ?_ ?_
  ·rw [ho]
  refine sn tOK 0 1 [] ?_
  refine sl 0 ?_
  refine E_loop (σ := Nat) (fun j => j ≤ x.kids.length) (fun j => x.kids.length - j)
    (fun j => [(1, .l 1 0), (3, rB (refsDL o0 (x.kids.take j))), (4, nI j)])
    (fun j => [(1, .c 29 (exL x))]) 0 ?_ ?_
  ·exact Nat.zero_le _
  ·rintro J j hj0 hJ
   refine en tOK 0 5 [] ?_
   refine si 0 rfl rfl (fun h18 => ?_) (fun h18 => ?_)
   ·rw [rowsE_len] at h18
    have hj : j < x.kids.length := by omega
    have hks := exSize_kid hj
    have hl1 := refsDL_len (x.kids.take j) o0
    have hl2 := exSizes_take (l := x.kids) j
    have hl3 := refsD_len x.kids[j]
    obtain ⟨kd, hkd⟩ : ∃ kd, kd = x.kids[j] := ⟨_, rfl⟩
    refine en tOK 0 5 [exL x.kids[j]] ?_ (hφ := by exact ⟨by omega, by simpa using rowsE_get hj⟩)
    refine fc tOK 1 [] (ih x.kids[j] (by omega)) ?_
    refine sn tOK 0 1 [] ?_
    refine sl 0 ?_
    refine E_loop (σ := Nat) (fun i => i ≤ (refsD x.kids[j]).length) (fun i => (refsD x.kids[j]).length - i)
      (fun i => [(1, .l 1 0), (3, rB (((refsD x.kids[j]).take i).foldl addB (refsDL o0 (x.kids.take j)))), (4, nI j), (5, rB (refsD x.kids[j])), (6, nI i)])
      (fun i => [(1, .c 29 (exL x))]) 0 ?_ ?_
    ·exact Nat.zero_le _
    ·rintro J i hi0 hI
     refine en tOK 0 4 [] ?_
     refine si 0 rfl rfl (fun h30 => ?_) (fun h30 => ?_)
     ·rw [List.length_map] at h30
      have hi : i < (refsD x.kids[j]).length := by omega
      have hl4 := adds_len ((refsD x.kids[j]).take i) (refsDL o0 (x.kids.take j))
      have hl5 : ((refsD x.kids[j]).take i).length ≤ i := by rw [List.length_take]; omega
      refine en tOK 0 5 [[.str (refsD x.kids[j])[i]]] ?_ (hφ := by exact ⟨by omega, by simp [hi]⟩)
      refine fc tOK 1 [] (raddB_ok (l := ((refsD x.kids[j]).take i).foldl addB (refsDL o0 (x.kids.take j))) (by omega)) ?_
      refine sn tOK 0 3 [] ?_
      refine sl 0 ?_
      refine eas 3 rfl (v' := rB (((refsD x.kids[j]).take (i + 1)).foldl addB (refsDL o0 (x.kids.take j)))) ?_ ?_
      ·rw [List.take_succ_eq_append_getElem hi, List.foldl_append]; rfl
      exact hI (i + 1) (by omega) (by omega)
     ·rw [List.length_map] at h30
      have eti : (refsD x.kids[j]).take i = refsD x.kids[j] := List.take_of_length_le (by omega)
      refine en tOK 0 3 [] ?_
      refine sl 0 ?_
      refine eas 3 rfl (v' := rB (refsDL o0 (x.kids.take (j + 1)))) ?_ ?_
      ·rw [refsDL_next hj, eti]
      exact hJ (j + 1) (by omega) (by omega)
   ·rw [rowsE_len] at h18
    have e : refsD x = refsDL o0 (x.kids.take j) := by rw [e0, List.take_of_length_le (show x.kids.length ≤ j by omega)]
    refine en tOK 0 2 [] ?_
    refine sr 0 R ?_
    rw [e]; rfl
 ·have ho : ([] : List Bytes) = o0 := by rw [ho0, if_neg h9]
  refine eas 3 rfl (v' := rB o0) ?_ ?_
  ·rw [ho]
  refine en tOK 0 1 [] ?_
  refine sl 0 ?_
  refine E_loop (σ := Nat) (fun j => j ≤ x.kids.length) (fun j => x.kids.length - j)
    (fun j => [(1, .l 1 0), (3, rB (refsDL o0 (x.kids.take j))), (4, nI j)])
    (fun j => [(1, .c 29 (exL x))]) 0 ?_ ?_
  ·exact Nat.zero_le _
  ·rintro J j hj0 hJ
   refine en tOK 0 5 [] ?_
   refine si 0 rfl rfl (fun h18 => ?_) (fun h18 => ?_)
   ·rw [rowsE_len] at h18
    have hj : j < x.kids.length := by omega
    have hks := exSize_kid hj
    have hl1 := refsDL_len (x.kids.take j) o0
    have hl2 := exSizes_take (l := x.kids) j
    have hl3 := refsD_len x.kids[j]
    obtain ⟨kd, hkd⟩ : ∃ kd, kd = x.kids[j] := ⟨_, rfl⟩
    refine en tOK 0 5 [exL x.kids[j]] ?_ (hφ := by exact ⟨by omega, by simpa using rowsE_get hj⟩)
    refine fc tOK 1 [] (ih x.kids[j] (by omega)) ?_
    refine sn tOK 0 1 [] ?_
    refine sl 0 ?_
    refine E_loop (σ := Nat) (fun i => i ≤ (refsD x.kids[j]).length) (fun i => (refsD x.kids[j]).length - i)
      (fun i => [(1, .l 1 0), (3, rB (((refsD x.kids[j]).take i).foldl addB (refsDL o0 (x.kids.take j)))), (4, nI j), (5, rB (refsD x.kids[j])), (6, nI i)])
      (fun i => [(1, .c 29 (exL x))]) 0 ?_ ?_
    ·exact Nat.zero_le _
    ·rintro J i hi0 hI
     refine en tOK 0 4 [] ?_
     refine si 0 rfl rfl (fun h30 => ?_) (fun h30 => ?_)
     ·rw [List.length_map] at h30
      have hi : i < (refsD x.kids[j]).length := by omega
      have hl4 := adds_len ((refsD x.kids[j]).take i) (refsDL o0 (x.kids.take j))
      have hl5 : ((refsD x.kids[j]).take i).length ≤ i := by rw [List.length_take]; omega
      refine en tOK 0 5 [[.str (refsD x.kids[j])[i]]] ?_ (hφ := by exact ⟨by omega, by simp [hi]⟩)
      refine fc tOK 1 [] (raddB_ok (l := ((refsD x.kids[j]).take i).foldl addB (refsDL o0 (x.kids.take j))) (by omega)) ?_
      refine sn tOK 0 3 [] ?_
      refine sl 0 ?_
      refine eas 3 rfl (v' := rB (((refsD x.kids[j]).take (i + 1)).foldl addB (refsDL o0 (x.kids.take j)))) ?_ ?_
      ·rw [List.take_succ_eq_append_getElem hi, List.foldl_append]; rfl
      exact hI (i + 1) (by omega) (by omega)
     ·rw [List.length_map] at h30
      have eti : (refsD x.kids[j]).take i = refsD x.kids[j] := List.take_of_length_le (by omega)
      refine en tOK 0 3 [] ?_
      refine sl 0 ?_
      refine eas 3 rfl (v' := rB (refsDL o0 (x.kids.take (j + 1)))) ?_ ?_
      ·rw [refsDL_next hj, eti]
      exact hJ (j + 1) (by omega) (by omega)
   ·rw [rowsE_len] at h18
    have e : refsD x = refsDL o0 (x.kids.take j) := by rw [e0, List.take_of_length_le (show x.kids.length ≤ j by omega)]
    refine en tOK 0 2 [] ?_
    refine sr 0 R ?_
    rw [e]; rfl
theorem drefs_ok {x : Ex} (hz : exSize x ≤ 100000) : Fc Tryz.prog gT 74 [exS x] (rB (refsD x)) := by
  have key : ∀ (n : Nat) (x : Ex), exSize x ≤ n → n ≤ 100000 → Fc Tryz.prog gT 74 [exS x] (rB (refsD x)) := by
    intro n
    induction n with
    | zero => intro x h _; have := exSize_eq x; omega
    | succ n ih => intro x h hn; exact drefs1_ok (fun y hy => ih y (by omega) (by omega)) (by omega)
  exact key _ x (Nat.le_refl _) hz
set_option maxRecDepth 100000 in
theorem dinputs_ok {n : Nd} : Fc Tryz.prog gT 33 [ndS n] (rB (inputsN n)) := by
 refine fb tOK (fn := Tryz.f33) 27 [.tmp 2] Tryz.func33 Tryz.results33 (fun g0 B0 Q ρ0 R => ?_)
 refine en tOK 0 2 [] ?_
 refine sn tOK 0 2 [] ?_
 refine sn tOK 0 2 [] ?_
 refine si 0 rfl rfl (fun h8 => ?_) (fun h8 => ?_)
 ·refine ei 0 rfl rfl (fun h8 => ?_) (fun h8 => ?_)
  ·refine en tOK 0 4 [] ?_
   first
    | (refine sr 0 R ?_; rw [show inputsN n = [n.input] by unfold inputsN; simp_all]; rfl)
    | (refine sr 0 R ?_; rw [show inputsN n = refsX (parseX parseV n.text).1 by unfold inputsN; simp_all, ← parse_refs]; rfl)
    | (refine sdn 2 (v' := .s 1 []) rfl (fun g ρ x h => den_s0 (by decide) h) ?_; refine sr 0 R ?_; rw [show inputsN n = [] by unfold inputsN; simp_all]; rfl)
  ·exact absurd ‹n.kind = 2› h8
 ·refine en tOK 0 2 [] ?_
  refine si 0 rfl rfl (fun h8 => ?_) (fun h8 => ?_)
  ·refine en tOK 0 4 [] ?_
   first
    | (refine sr 0 R ?_; rw [show inputsN n = [n.input] by unfold inputsN; simp_all]; rfl)
    | (refine sr 0 R ?_; rw [show inputsN n = refsX (parseX parseV n.text).1 by unfold inputsN; simp_all, ← parse_refs]; rfl)
    | (refine sdn 2 (v' := .s 1 []) rfl (fun g ρ x h => den_s0 (by decide) h) ?_; refine sr 0 R ?_; rw [show inputsN n = [] by unfold inputsN; simp_all]; rfl)
  ·refine en tOK 0 2 [] ?_
   refine si 0 rfl rfl (fun h14 => ?_) (fun h14 => ?_)
   ·refine en tOK 0 2 [] ?_
    refine fc tOK 8 [] (dparse_ok) ?_
    refine sn tOK 0 2 [] ?_
    refine si 0 rfl rfl (fun h24 => ?_) (fun h24 => ?_)
    ·refine en tOK 0 1 [] ?_
     refine fc tOK 1 [] (drefs_ok (x := (parseX parseV n.text).1) (Nat.le_trans parse_sz (by decide))) ?_
     first
      | (refine sr 0 R ?_; rw [show inputsN n = [n.input] by unfold inputsN; simp_all]; rfl)
      | (refine sr 0 R ?_; rw [show inputsN n = refsX (parseX parseV n.text).1 by unfold inputsN; simp_all, ← parse_refs]; rfl)
      | (refine sdn 2 (v' := .s 1 []) rfl (fun g ρ x h => den_s0 (by decide) h) ?_; refine sr 0 R ?_; rw [show inputsN n = [] by unfold inputsN; simp_all]; rfl)
    ·refine en tOK 0 1 [] ?_
     first
      | (refine sr 0 R ?_; rw [show inputsN n = [n.input] by unfold inputsN; simp_all]; rfl)
      | (refine sr 0 R ?_; rw [show inputsN n = refsX (parseX parseV n.text).1 by unfold inputsN; simp_all, ← parse_refs]; rfl)
      | (refine sdn 2 (v' := .s 1 []) rfl (fun g ρ x h => den_s0 (by decide) h) ?_; refine sr 0 R ?_; rw [show inputsN n = [] by unfold inputsN; simp_all]; rfl)
   ·refine en tOK 0 1 [] ?_
    first
     | (refine sr 0 R ?_; rw [show inputsN n = [n.input] by unfold inputsN; simp_all]; rfl)
     | (refine sr 0 R ?_; rw [show inputsN n = refsX (parseX parseV n.text).1 by unfold inputsN; simp_all, ← parse_refs]; rfl)
     | (refine sdn 2 (v' := .s 1 []) rfl (fun g ρ x h => den_s0 (by decide) h) ?_; refine sr 0 R ?_; rw [show inputsN n = [] by unfold inputsN; simp_all]; rfl)
set_option maxRecDepth 100000 in
theorem dbound_ok {v : Val} : Fc Tryz.prog gT 131 [vS v] (bS (boundV v)) := by
 refine fb tOK (fn := Tryz.f131) 15 [.tmp 2] Tryz.func131 Tryz.results131 (fun g0 B0 Q ρ0 R => ?_)
 refine en tOK 0 2 [] ?_
 refine sn tOK 0 1 [] ?_
 refine fc tOK 11 [] (ris_ok) ?_
 refine sr 0 R ?_
 have e : (isV v && decide (¬ v.k = 2) && decide (¬ v.k = 3)) = boundV v := by unfold boundV; cases h : isV v <;> simp [h]
 exact congrArg (fun b => SV.v (.bool b)) e
set_option maxRecDepth 100000 in
theorem dred0_ok {how : Bytes} {strict : Bool} : Fc Tryz.prog gT 130 [.str how, bS strict, .s 0 []] (.t [vS (red0 how).1, nI (red0 how).2]) := by
 refine fb tOK (fn := Tryz.f130) 154 [.cell 6 26, .tmp 7] Tryz.func130 Tryz.results130 (fun g0 B0 Q ρ0 R => ?_)
 refine en tOK 0 2 [] ?_
 refine sn tOK 0 2 [] ?_
 refine fc tOK 1 [] (sin_ok (l := hows)) ?_
 refine sib 0 rfl rfl (fun h19 => ?_) (fun h19 => ?_)
 ·have e : red0 how = (zeroV, 100) := by unfold red0; rw [if_neg (by simpa using h19)]
  refine en tOK 0 3 [] ?_
  refine sr 0 R ?_
  rw [e]; rfl
 ·have hm : how ∈ hows := by simpa using h19
  refine en tOK 0 3 [] ?_
  refine sn tOK 1 1 [] ?_
  refine sn tOK 0 1 [] ?_
  refine sn tOK 0 1 [] ?_
  refine sl 0 ?_
  refine E_loop (σ := Unit) (fun _u => True) (fun _u => 0)
    (fun _u => [(0, .str how), (1, bS strict), (2, .s 0 []), (6, .l 6 0), (8, .s 0 []), (9, bS false), (10, nI 0)])
    (fun _u => [(6, .c 26 [nI 0, nI 0])]) () ?_ ?_
  ·exact trivial
  ·rintro J _u _ hJ
   refine en tOK 0 4 [] ?_
   refine sn tOK 1 2 [] ?_
   refine si 0 rfl rfl (fun h66 => ?_) (fun h66 => ?_)
   ·have e : red0 how = (numV 0, 0) := by unfold red0; rw [if_pos hm, if_pos h66]
    refine en tOK 0 3 [] ?_
    refine fc tOK 2 [] (rnum_ok) ?_
    refine sr 0 R ?_
    rw [e]; rfl
   ·have e : red0 how = (nullV, 0) := by unfold red0; rw [if_pos hm, if_neg h66]
    refine en tOK 0 3 [] ?_
    refine sn tOK 1 0 [] ?_
    refine fc tOK 2 [] (rnull_ok) ?_
    refine sr 0 R ?_
    rw [e]; rfl
set_option maxRecDepth 100000 in
theorem dis_ok {n : Nd} (hr : n.ref.length ≤ 1000000) : Fc Tryz.prog gT 78 [ndS n] (bS (isN n)) := by
 refine fb tOK (fn := Tryz.f78) 192 [.tmp 2] Tryz.func78 Tryz.results78 (fun g0 B0 Q ρ0 R => ?_)
 refine en tOK 0 2 [] ?_
 refine sn tOK 0 3 [] ?_
 refine sn tOK 0 2 [] ?_
 refine fc tOK 1 [] (rref_ok (w := n.ref) hr) ?_
 refine sib 0 rfl rfl (fun h15 => ?_) (fun h15 => ?_)
 ·have e : isN n = false := by rw [← isD_eq]; unfold isD; rw [if_neg (by simpa using h15)]
  refine en tOK 0 1 [] ?_
  refine sr 0 R ?_
  first
   | (rw [e]; rfl)
   | exact congrArg (fun b => SV.v (.bool b)) ((isKD1 h18).trans e0.symm)
   | exact congrArg (fun b => SV.v (.bool b)) ((isKD2 h62).trans e0.symm)
   | exact congrArg (fun b => SV.v (.bool b)) ((isKD3 h96).trans e0.symm)
   | exact congrArg (fun b => SV.v (.bool b)) ((isKD4 h139).trans e0.symm)
   | exact congrArg (fun b => SV.v (.bool b)) ((isKD0 h18 h62 h96 h139).trans e0.symm)
 ·have e0 : isN n = isKD n := by rw [← isD_eq]; unfold isD; rw [if_pos (by simpa using h15)]
  refine en tOK 0 2 [] ?_
  refine sn tOK 0 2 [] ?_
  refine si 0 rfl rfl (fun h18 => ?_) (fun h18 => ?_)
  ·refine en tOK 0 29 [] ?_
   refine sq tOK 5 [] false (b := decide (n.low = zeroV)) Tryz.underlying26 (by kernel_rfl) (fun w => val_eq _ _) ?_
   refine sq tOK 7 [] false (b := decide (n.high = zeroV)) Tryz.underlying26 (by kernel_rfl) (fun w => val_eq _ _) ?_
   refine sr 0 R ?_
   first
    | (rw [e]; rfl)
    | exact congrArg (fun b => SV.v (.bool b)) ((isKD1 h18).trans e0.symm)
    | exact congrArg (fun b => SV.v (.bool b)) ((isKD2 h62).trans e0.symm)
    | exact congrArg (fun b => SV.v (.bool b)) ((isKD3 h96).trans e0.symm)
    | exact congrArg (fun b => SV.v (.bool b)) ((isKD4 h139).trans e0.symm)
    | exact congrArg (fun b => SV.v (.bool b)) ((isKD0 h18 h62 h96 h139).trans e0.symm)
  ·refine en tOK 0 2 [] ?_
   refine si 0 rfl rfl (fun h62 => ?_) (fun h62 => ?_)
   ·refine en tOK 0 4 [] ?_
    refine fc tOK 6 [] (dred0_ok) ?_
    refine sn tOK 0 11 [] ?_
    refine sq tOK 5 [] false (b := decide (n.low = zeroV)) Tryz.underlying26 (by kernel_rfl) (fun w => val_eq _ _) ?_
    refine sq tOK 7 [] false (b := decide (n.high = zeroV)) Tryz.underlying26 (by kernel_rfl) (fun w => val_eq _ _) ?_
    refine sr 0 R ?_
    first
     | (rw [e]; rfl)
     | exact congrArg (fun b => SV.v (.bool b)) ((isKD1 h18).trans e0.symm)
     | exact congrArg (fun b => SV.v (.bool b)) ((isKD2 h62).trans e0.symm)
     | exact congrArg (fun b => SV.v (.bool b)) ((isKD3 h96).trans e0.symm)
     | exact congrArg (fun b => SV.v (.bool b)) ((isKD4 h139).trans e0.symm)
     | exact congrArg (fun b => SV.v (.bool b)) ((isKD0 h18 h62 h96 h139).trans e0.symm)
   ·refine en tOK 0 2 [] ?_
    refine si 0 rfl rfl (fun h96 => ?_) (fun h96 => ?_)
    ·refine en tOK 0 2 [] ?_
     refine fc tOK 8 [] (dparse_ok) ?_
     refine sn tOK 0 26 [] ?_
     refine sq tOK 5 [] false (b := decide (n.low = zeroV)) Tryz.underlying26 (by kernel_rfl) (fun w => val_eq _ _) ?_
     refine sq tOK 2 [] false (b := decide (n.high = zeroV)) Tryz.underlying26 (by kernel_rfl) (fun w => val_eq _ _) ?_
     refine sr 0 R ?_
     first
      | (rw [e]; rfl)
      | exact congrArg (fun b => SV.v (.bool b)) ((isKD1 h18).trans e0.symm)
      | exact congrArg (fun b => SV.v (.bool b)) ((isKD2 h62).trans e0.symm)
      | exact congrArg (fun b => SV.v (.bool b)) ((isKD3 h96).trans e0.symm)
      | exact congrArg (fun b => SV.v (.bool b)) ((isKD4 h139).trans e0.symm)
      | exact congrArg (fun b => SV.v (.bool b)) ((isKD0 h18 h62 h96 h139).trans e0.symm)
    ·refine en tOK 0 2 [] ?_
     refine si 0 rfl rfl (fun h139 => ?_) (fun h139 => ?_)
     ·refine en tOK 0 9 [] ?_
      refine sn tOK 0 9 [] ?_
      refine sn tOK 0 2 [] ?_
      refine fc tOK 6 [] (dbound_ok) ?_
      refine sq tOK 6 [] false (b := decide (n.high = zeroV)) Tryz.underlying26 (by kernel_rfl) (fun w => val_eq _ _) ?_ (hφ := by (repeat' refine And.intro ?_ ?_) <;> first | exact id | trivial | (intro h1 h2; rw [h1, h2]; rfl))
      refine fg tOK 19 [] (fun hg => dbound_ok) ?_ (hφ := by (repeat' refine And.intro ?_ ?_) <;> first | exact id | trivial | (intro h1 h2; rw [h1, h2]; rfl))
      refine sr 0 R ?_
      first
       | (rw [e]; rfl)
       | exact congrArg (fun b => SV.v (.bool b)) ((isKD1 h18).trans e0.symm)
       | exact congrArg (fun b => SV.v (.bool b)) ((isKD2 h62).trans e0.symm)
       | exact congrArg (fun b => SV.v (.bool b)) ((isKD3 h96).trans e0.symm)
       | exact congrArg (fun b => SV.v (.bool b)) ((isKD4 h139).trans e0.symm)
       | exact congrArg (fun b => SV.v (.bool b)) ((isKD0 h18 h62 h96 h139).trans e0.symm)
     ·refine en tOK 0 1 [] ?_
      refine sr 0 R ?_
      first
       | (rw [e]; rfl)
       | exact congrArg (fun b => SV.v (.bool b)) ((isKD1 h18).trans e0.symm)
       | exact congrArg (fun b => SV.v (.bool b)) ((isKD2 h62).trans e0.symm)
       | exact congrArg (fun b => SV.v (.bool b)) ((isKD3 h96).trans e0.symm)
       | exact congrArg (fun b => SV.v (.bool b)) ((isKD4 h139).trans e0.symm)
       | exact congrArg (fun b => SV.v (.bool b)) ((isKD0 h18 h62 h96 h139).trans e0.symm)
end Go.Proofs.YtomkgfdigldhcaaGreatDoor
namespace Go.Proofs.YtomkgfdigldhcaaGreatDoor
open Go.KX
set_option maxRecDepth 100000 in
theorem dorder_ok {l : List Nd} (hl : l.length ≤ 1000000) : Fc Tryz.prog gT 30 [rN l] (.t [rB (orderN l).1, nI (orderN l).2]) := by
 refine fb tOK (fn := Tryz.f30) 76 [.tmp 2, .tmp 3] Tryz.func30 Tryz.results30 (fun g0 B0 Q ρ0 R => ?_)
 refine en tOK 0 2 [] ?_
 refine sn tOK 0 1 [] ?_
 refine fc tOK 0 [] (rtwice_ok (l := l)) ?_
 refine sib 0 rfl rfl (fun h12 => ?_) (fun h12 => ?_)
 ·have ok0 : okN l = false := by simpa using h12
  have e : orderN l = ([], 8) := by unfold orderN; rw [if_pos ok0]
  refine en tOK 0 2 [] ?_
  refine sdn 2 (v' := .s 1 []) rfl (fun g ρ x h => den_s0 (by decide) h) ?_
  refine sr 0 R ?_
  rw [e]; rfl
 ·have ok1 : okN l = true := by simpa using h12
  have e0 : orderN l = orderL l.length [] l := by unfold orderN; rw [if_neg (by rw [ok1]; decide)]
  have hnd := okN_iff.1 ok1
  refine en tOK 0 1 [] ?_
  refine sl 0 ?_
  refine eonl 4 902 9 1 ?_
  refine E_loop (σ := List Bytes) (fun out => ((leftD out l).map (·.ref)).Nodup ∧ orderL (leftD out l).length out (leftD out l) = orderL l.length [] l ∧ out.length + (leftD out l).length = l.length) (fun out => (leftD out l).length)
    (fun out => [(0, rN l), (4, .o 902 (rowsB out).length)])
    (fun out => [(902, .r 9 1 (rowsB out))]) [] ?_ ?_
  ·rw [left_nil]; exact ⟨hnd, rfl, by simp⟩
  ·rintro J out ⟨hn, hord, hlen⟩ hO
   refine en tOK 0 5 [] ?_
   refine si 0 rfl rfl (fun h17 => ?_) (fun h17 => ?_)
   ·rw [List.length_map, List.length_map] at h17
    have hlt : 0 < (leftD out l).length := by omega
    refine en tOK 0 2 [] ?_
    refine sn tOK 0 1 [] ?_
    refine sl 0 ?_
    refine E_loop (σ := Nat) (fun j => j ≤ l.length) (fun j => l.length - j)
      (fun j => [(0, rN l), (4, .o 902 (rowsB out).length), (5, .str (bestD out (l.take j)).1), (6, bS (bestD out (l.take j)).2), (7, nI j)])
      (fun j => [(902, .r 9 1 (rowsB out))]) 0 ?_ ?_
    ·exact Nat.zero_le _
    ·rintro J j hj0 hJ
     refine en tOK 0 4 [] ?_
     refine si 0 rfl rfl (fun h21 => ?_) (fun h21 => ?_)
     ·rw [List.length_map] at h21
      have hj : j < l.length := by omega
      have hbn := bestD_next (out := out) hj
      refine en tOK 0 6 [ndL l[j]] ?_ (hφ := by exact ⟨by omega, by simpa using rN_get hj⟩)
      refine flc tOK 902 12 [ndL l[j]] (rin_ok (l := out) (s := l[j].ref)) rowsB_len ?_ (hφ := by (repeat' refine And.intro ?_ ?_) <;> first | exact id | exact fun _ => ⟨by omega, by simpa using rN_get hj⟩ | (intro h1; rw [h1]; rfl) | (intro h1 h2; rw [h1, h2]; rfl))
      refine sib 0 rfl rfl (fun h42 => ?_) (fun h42 => ?_)
      ·have hb : bestD out (l.take (j + 1)) = bestD out (l.take j) := by rw [hbn]; exact stepD_skip h42
       refine en tOK 0 3 [] ?_
       refine sl 0 ?_
       refine eas 5 rfl (v' := .str (bestD out (l.take (j + 1))).1) (by rw [hb]) ?_
       refine eas 6 rfl (v' := bS (bestD out (l.take (j + 1))).2) (by rw [hb]) ?_
       exact hJ (j + 1) (by omega) (by omega)
      ·refine en tOK 0 1 [] ?_
       refine sn tOK 0 4 [ndL l[j]] ?_ (hφ := by exact ⟨by omega, by simpa using rN_get hj⟩)
       refine fc tOK 1 [] (dinputs_ok (n := l[j])) ?_
       refine sn tOK 0 1 [] ?_
       refine sl 0 ?_
       refine E_loop (σ := Nat) (fun k => k ≤ (inputsN l[j]).length) (fun k => (inputsN l[j]).length - k)
         (fun k => [(0, rN l), (4, .o 902 (rowsB out).length), (5, .str (bestD out (l.take j)).1), (6, bS (bestD out (l.take j)).2), (7, nI j), (8, bS (((inputsN l[j]).take k).all fun i => decide (i ∈ out))), (9, rB (inputsN l[j])), (10, nI k)])
         (fun k => [(902, .r 9 1 (rowsB out))]) 0 ?_ ?_
       ·exact Nat.zero_le _
       ·rintro J k hk0 hK
        refine en tOK 0 4 [] ?_
        refine si 0 rfl rfl (fun h51 => ?_) (fun h51 => ?_)
        ·rw [List.length_map] at h51
         have hk : k < (inputsN l[j]).length := by omega
         have hil := inputs_len l[j]
         refine en tOK 0 7 [[.str (inputsN l[j])[k]]] ?_ (hφ := by (repeat' refine And.intro ?_ ?_) <;> first | exact id | exact fun _ => ⟨by omega, by simp [hk]⟩)
         refine flg tOK 902 2 [] (fun hg => rin_ok (l := out) (s := (inputsN l[j])[k])) rowsB_len ?_
         refine sn tOK 0 3 [] ?_
         refine sl 0 ?_
         refine eas 8 rfl (v' := bS (((inputsN l[j]).take (k + 1)).all fun i => decide (i ∈ out))) (by rw [List.take_succ_eq_append_getElem hk, List.all_append]; simp) ?_
         exact hK (k + 1) (by omega) (by omega)
        ·rw [List.length_map] at h51
         have ek : (inputsN l[j]).take k = inputsN l[j] := List.take_of_length_le (by omega)
         rw [ek]
         refine en tOK 0 1 [] ?_
         refine sib 0 rfl rfl (fun h63 => ?_) (fun h63 => ?_)
         ·have hb : bestD out (l.take (j + 1)) = (l[j].ref, true) := by rw [hbn]; exact stepD_take h42 h63
          refine en tOK 0 7 [ndL l[j]] ?_ (hφ := by exact ⟨by omega, by simpa using rN_get hj⟩)
          refine sn tOK 0 3 [] ?_
          refine sl 0 ?_
          refine eas 5 rfl (v' := .str (bestD out (l.take (j + 1))).1) (by rw [hb]) ?_
          refine eas 6 rfl (v' := bS (bestD out (l.take (j + 1))).2) (by rw [hb]) ?_
          exact hJ (j + 1) (by omega) (by omega)
         ·have hb : bestD out (l.take (j + 1)) = bestD out (l.take j) := by rw [hbn]; exact stepD_leave h63
          refine en tOK 0 3 [] ?_
          refine sl 0 ?_
          refine eas 5 rfl (v' := .str (bestD out (l.take (j + 1))).1) (by rw [hb]) ?_
          refine eas 6 rfl (v' := bS (bestD out (l.take (j + 1))).2) (by rw [hb]) ?_
          exact hJ (j + 1) (by omega) (by omega)
     ·rw [List.length_map] at h21
      have ej : l.take j = l := List.take_of_length_le (by omega)
      rw [ej]
      refine en tOK 0 2 [] ?_
      refine sib 0 rfl rfl (fun h70 => ?_) (fun h70 => ?_)
      ·have e : orderN l = ([], 121) := by rw [e0, ← hord]; exact orderD_stuck hlt (by simpa using h70)
       refine en tOK 0 2 [] ?_
       refine sdn 2 (v' := .s 1 []) rfl (fun g ρ x h => den_s0 (by decide) h) ?_
       refine sr 0 R ?_
       rw [e]; rfl
      ·obtain ⟨hs1, hs2, hs3⟩ := orderD_step hn (by simpa using h70)
       refine en tOK 0 3 [] ?_
       refine sap tOK 1 [] rfl (fun _ => rfl) ?_ ?_
       ·show ((rowsB out).length + 1) * 16 ≤ _
        simp only [List.length_map]
        omega
       refine sas 4 rfl (v' := .o 902 (rowsB (out ++ [(bestD out l).1])).length) ?_ ?_
       ·simp
       refine smb 902 (mb' := .r 9 1 (rowsB (out ++ [(bestD out l).1]))) ?_ ?_
       ·simp [cellsV]
       exact hO (out ++ [(bestD out l).1]) ⟨hs1, by rw [hs2, hord], by rw [List.length_append, List.length_singleton]; omega⟩ (by omega)
   ·rw [List.length_map, List.length_map] at h17
    have e : orderN l = (out, 0) := by rw [e0, ← hord]; exact orderD_end (by omega)
    refine eezo 4 (rows := rowsB out) ?_ ?_ (hr := rowsB_len)
    ·rfl
    refine en tOK 0 3 [] ?_
    refine sr 0 R ?_
    rw [e]; rfl
set_option maxRecDepth 100000 in
theorem dcheckD_ok {cond : Bytes} {l : List Nd} (hr : ∀ n ∈ l, n.ref.length ≤ 1000000) : Fc Tryz.prog gT 36 [.str cond, rN l] (nI (checkN cond l)) := by
 refine fb tOK (fn := Tryz.f36) 62 [.tmp 4] Tryz.func36 Tryz.results36 (fun g0 B0 Q ρ0 R => ?_)
 refine en tOK 0 1 [] ?_
 refine sn tOK 0 3 [] ?_
 refine si 0 rfl rfl (fun h13 => ?_) (fun h13 => ?_)
 ·rw [List.length_map] at h13
  have e : checkN cond l = 6 := by unfold checkN; rw [if_pos (by omega)]
  refine en tOK 0 1 [] ?_
  refine sr 0 R ?_
  rw [e]; rfl
 ·rw [List.length_map] at h13
  have h16 : ¬ 16 < l.length := by omega
  refine en tOK 0 1 [] ?_
  refine sl 0 ?_
  refine E_loop (σ := Nat) (fun j => j ≤ l.length ∧ ∀ n ∈ l.take j, isN n = true) (fun j => l.length - j)
    (fun j => [(0, .str cond), (1, rN l), (5, nI j)])
    (fun j => []) 0 ?_ ?_
  ·exact ⟨Nat.zero_le _, by simp⟩
  ·rintro J j ⟨hj0, hj1⟩ hJ
   refine en tOK 0 4 [] ?_
   refine si 0 rfl rfl (fun h17 => ?_) (fun h17 => ?_)
   ·rw [List.length_map] at h17
    have hj : j < l.length := by omega
    refine en tOK 0 4 [ndL l[j]] ?_ (hφ := by exact ⟨by omega, by simpa using rN_get hj⟩)
    refine fc tOK 1 [] (dis_ok (n := l[j]) (hr _ (List.getElem_mem hj))) ?_
    refine sib 0 rfl rfl (fun h25 => ?_) (fun h25 => ?_)
    ·have e : checkN cond l = 120 := checkD_120 h16 (List.getElem_mem hj) (by simpa using h25)
     refine en tOK 0 1 [] ?_
     refine sr 0 R ?_
     rw [e]; rfl
    ·have hx : isN l[j] = true := by simpa using h25
     refine en tOK 0 3 [] ?_
     refine sl 0 ?_
     exact hJ (j + 1) ⟨by omega, take_next2 hj hj1 hx⟩ (by omega)
   ·rw [List.length_map] at h17
    have hi : ∀ n ∈ l, isN n = true := by rw [List.take_of_length_le (by omega)] at hj1; exact hj1
    refine en tOK 0 1 [] ?_
    refine fc tOK 0 [] (rtwice_ok (l := l)) ?_
    refine sib 0 rfl rfl (fun h27 => ?_) (fun h27 => ?_)
    ·have e : checkN cond l = 8 := checkD_8 h16 hi (by simpa using h27)
     refine en tOK 0 1 [] ?_
     refine sr 0 R ?_
     rw [e]; rfl
    ·have hk : okN l = true := by simpa using h27
     refine en tOK 0 1 [] ?_
     refine sl 0 ?_
     refine E_loop (σ := Nat) (fun j => j ≤ l.length ∧ ∀ n ∈ l.take j, ∀ q ∈ inputsN n, 0 ≤ findD l q) (fun j => l.length - j)
       (fun j => [(0, .str cond), (1, rN l), (6, nI j)])
       (fun j => []) 0 ?_ ?_
     ·exact ⟨Nat.zero_le _, by simp⟩
     ·rintro J j ⟨hj0, hj1⟩ hJ
      refine en tOK 0 4 [] ?_
      refine si 0 rfl rfl (fun h31 => ?_) (fun h31 => ?_)
      ·rw [List.length_map] at h31
       have hj : j < l.length := by omega
       refine en tOK 0 4 [ndL l[j]] ?_ (hφ := by exact ⟨by omega, by simpa using rN_get hj⟩)
       refine fc tOK 1 [] (dinputs_ok (n := l[j])) ?_
       refine sn tOK 0 1 [] ?_
       refine sl 0 ?_
       refine E_loop (σ := Nat) (fun k => k ≤ (inputsN l[j]).length ∧ ∀ q ∈ (inputsN l[j]).take k, 0 ≤ findD l q) (fun k => (inputsN l[j]).length - k)
         (fun k => [(0, .str cond), (1, rN l), (6, nI j), (7, rB (inputsN l[j])), (8, nI k)])
         (fun k => []) 0 ?_ ?_
       ·exact ⟨Nat.zero_le _, by simp⟩
       ·rintro J k ⟨hk0, hk1⟩ hK
        refine en tOK 0 4 [] ?_
        refine si 0 rfl rfl (fun h42 => ?_) (fun h42 => ?_)
        ·rw [List.length_map] at h42
         have hkl : k < (inputsN l[j]).length := by omega
         have hil := inputs_len l[j]
         refine en tOK 0 5 [[.str (inputsN l[j])[k]]] ?_ (hφ := by exact ⟨by omega, by simp [hkl]⟩)
         refine fc tOK 1 [] (rfind_ok (l := l) (q := (inputsN l[j])[k])) ?_
         refine si 0 rfl rfl (fun h51 => ?_) (fun h51 => ?_)
         ·have e : checkN cond l = 7 := checkD_7 (q := (inputsN l[j])[k]) h16 hi hk (.inr ⟨_, List.getElem_mem hj, List.getElem_mem hkl⟩) (by omega)
          refine en tOK 0 1 [] ?_
          refine sr 0 R ?_
          rw [e]; rfl
         ·have hy : 0 ≤ findD l (inputsN l[j])[k] := by omega
          refine en tOK 0 3 [] ?_
          refine sl 0 ?_
          exact hK (k + 1) ⟨by omega, take_next2 hkl hk1 hy⟩ (by omega)
        ·rw [List.length_map] at h42
         have hx : ∀ q ∈ inputsN l[j], 0 ≤ findD l q := by rw [List.take_of_length_le (by omega)] at hk1; exact hk1
         refine en tOK 0 3 [] ?_
         refine sl 0 ?_
         exact hJ (j + 1) ⟨by omega, take_next2 hj hj1 hx⟩ (by omega)
      ·rw [List.length_map] at h31
       have hq : ∀ n ∈ l, ∀ q ∈ inputsN n, 0 ≤ findD l q := by rw [List.take_of_length_le (by omega)] at hj1; exact hj1
       refine en tOK 0 2 [] ?_
       refine fc tOK 1 [] (rfind_ok (l := l) (q := cond)) ?_
       refine si 0 rfl rfl (fun h55 => ?_) (fun h55 => ?_)
       ·have e : checkN cond l = 7 := checkD_7 (q := cond) h16 hi hk (.inl rfl) (by omega)
        refine en tOK 0 1 [] ?_
        refine sr 0 R ?_
        rw [e]; rfl
       ·have e := checkD_open (cond := cond) h16 hi hk hq (by omega)
        refine en tOK 0 1 [] ?_
        refine fc tOK 5 [] (dorder_ok (l := l) (by omega)) ?_
        refine sn tOK 0 2 [] ?_
        refine sr 0 R ?_
        rw [e]; rfl
set_option maxRecDepth 100000 in
theorem dneeds_ok {ref : Bytes} {l : List Nd} (hl : l.length ≤ 1000000) : Fc Tryz.prog gT 38 [.str ref, rN l] (rB (needsN l ref)) := by
 refine fb tOK (fn := Tryz.f38) 76 [.tmp 4] Tryz.func38 Tryz.results38 (fun g0 B0 Q ρ0 R => ?_)
 refine en tOK 0 1 [] ?_
 refine sn tOK 0 1 [] ?_
 refine sdn 5 (v' := rB []) rfl (fun g ρ x h => den_s0 (by decide) h) ?_
 refine sn tOK 0 2 [] ?_
 refine fc tOK 1 [] (rfind_ok (l := l) (q := ref)) ?_
 refine si 0 rfl rfl (fun h13 => ?_) (fun h13 => ?_)
 ·obtain ⟨o0, ho0⟩ : ∃ o0, o0 = [ref] := ⟨_, rfl⟩
  have hd0 : DI l ref o0 := by rw [ho0]; exact DI.one (by omega)
  have ht0 : 0 ≤ findD l ref → ref ∈ o0 := fun _ => by rw [ho0]; exact .head _
  refine en tOK 0 3 [] ?_
  refine sas 5 rfl (v' := rB o0) ?_ ?_
  ·rw [ho0] <;> rfl
  refine sn tOK 0 1 [] ?_
  refine sl 0 ?_
  refine E_loop (σ := Bool × List Bytes) (fun t => DI l ref t.2 ∧ (0 ≤ findD l ref → ref ∈ t.2) ∧ (t.1 = false → closD l t.2)) (fun t => (if t.1 then 1 else 0) + (l.length - t.2.length))
    (fun t => [(0, .str ref), (1, rN l), (5, rB t.2), (6, bS t.1)])
    (fun t => []) (true, o0) ?_ ?_
  ·exact ⟨hd0, ht0, fun h => by cases h⟩
  ·rintro J ⟨again, out⟩ ⟨hd, ht, hcl⟩ hO
   dsimp only at hd ht hcl ⊢
   have hle := hd.le
   refine en tOK 0 1 [] ?_
   refine sib 0 rfl rfl (fun h16 => ?_) (fun h16 => ?_)
   ·refine en tOK 0 1 [] ?_
    refine sn tOK 0 1 [] ?_
    refine sl 0 ?_
    refine E_loop (σ := Nat × Bool × List Bytes) (fun u => u.1 ≤ l.length ∧ NR l ref out u.2.2 u.2.1 (fun i _ => i < u.1)) (fun u => l.length - u.1)
      (fun u => [(0, .str ref), (1, rN l), (5, rB u.2.2), (6, bS u.2.1), (7, nI u.1)])
      (fun u => []) (0, false, out) ?_ ?_
    ·exact ⟨Nat.zero_le _, NR.start hd ht⟩
    ·rintro J ⟨j, ag, o⟩ ⟨hj0, hR⟩ hJ
     dsimp only at hj0 hR ⊢
     have hle2 := hR.di.le
     refine en tOK 0 4 [] ?_
     refine si 0 rfl rfl (fun h20 => ?_) (fun h20 => ?_)
     ·rw [List.length_map] at h20
      have hj : j < l.length := by omega
      refine en tOK 0 6 [ndL l[j]] ?_ (hφ := by exact ⟨by omega, by simpa using rN_get hj⟩)
      refine fc tOK 8 [ndL l[j]] (rin_ok (l := o) (s := l[j].ref)) ?_ (hφ := by (repeat' refine And.intro ?_ ?_) <;> first | exact id | exact fun _ => ⟨by omega, by simpa using rN_get hj⟩)
      refine fg tOK 3 [] (fun hg => rfind_ok (l := l) (q := l[j].ref)) ?_
      refine sib 0 rfl rfl (fun h41 => ?_) (fun h41 => ?_)
      ·have hR2 := hR.skip hj (by simpa using h41)
       refine en tOK 0 3 [] ?_
       refine sl 0 ?_
       exact hJ (j + 1, ag, o) ⟨by omega, hR2⟩ (by dsimp only; omega)
      ·have hm : l[j].ref ∈ o ∧ findD l l[j].ref = j := by simpa using h41
       refine en tOK 0 4 [ndL l[j]] ?_ (hφ := by exact ⟨by omega, by simpa using rN_get hj⟩)
       refine fc tOK 1 [] (dinputs_ok (n := l[j])) ?_
       refine sn tOK 0 1 [] ?_
       refine sl 0 ?_
       refine E_loop (σ := Nat × Bool × List Bytes) (fun v => v.1 ≤ (inputsN l[j]).length ∧ l[j].ref ∈ v.2.2 ∧ NR l ref out v.2.2 v.2.1 (fun i q => i < j ∨ i = j ∧ q ∈ (inputsN l[j]).take v.1)) (fun v => (inputsN l[j]).length - v.1)
         (fun v => [(0, .str ref), (1, rN l), (5, rB v.2.2), (6, bS v.2.1), (7, nI j), (8, rB (inputsN l[j])), (9, nI v.1)])
         (fun v => []) (0, ag, o) ?_ ?_
       ·exact ⟨Nat.zero_le _, hm.1, hR.open hj _⟩
       ·rintro J ⟨k, ag, o⟩ ⟨hk0, hmo, hK2⟩ hK
        dsimp only at hk0 hmo hK2 ⊢
        have hle3 := hK2.di.le
        refine en tOK 0 4 [] ?_
        refine si 0 rfl rfl (fun h50 => ?_) (fun h50 => ?_)
        ·rw [List.length_map] at h50
         have hk : k < (inputsN l[j]).length := by omega
         have hil := inputs_len l[j]
         refine en tOK 0 5 [[.str (inputsN l[j])[k]]] ?_ (hφ := by exact ⟨by omega, by simp [hk]⟩)
         refine fc tOK 7 [[.str (inputsN l[j])[k]]] (rfind_ok (l := l) (q := (inputsN l[j])[k])) ?_ (hφ := by (repeat' refine And.intro ?_ ?_) <;> first | exact id | exact fun _ => ⟨by omega, by simp [hk]⟩)
         refine fg tOK 2 [] (fun hg => rin_ok (l := o) (s := (inputsN l[j])[k])) ?_
         refine sib 0 rfl rfl (fun h68 => ?_) (fun h68 => ?_)
         ·have h68 : 0 ≤ findD l (inputsN l[j])[k] ∧ (inputsN l[j])[k] ∉ o := by simpa using h68
          have hadd := hK2.add hj hk hmo hm.2 h68.1 h68.2
          refine en tOK 0 5 [[.str (inputsN l[j])[k]]] ?_ (hφ := by exact ⟨by omega, by simp [hk]⟩)
          refine fc tOK 1 [] (raddB_ok (l := o) (by omega)) ?_
          refine sn tOK 0 1 [] ?_
          refine sn tOK 0 3 [] ?_
          first
           | (have hq := hadd; refine sl 0 ?_; exact hK (k + 1, true, addB o (inputsN l[j])[k]) ⟨by omega, add_mem.2 (.inl hmo), hq⟩ (by dsimp only; omega))
           | (refine sl 0 ?_; exact hK (k + 1, ag, o) ⟨by omega, hmo, hst⟩ (by dsimp only; omega))
         ·have hst := hK2.stay hj hk (by simpa using h68)
          refine en tOK 0 3 [] ?_
          first
           | (have hq := hadd; refine sl 0 ?_; exact hK (k + 1, true, addB o (inputsN l[j])[k]) ⟨by omega, add_mem.2 (.inl hmo), hq⟩ (by dsimp only; omega))
           | (refine sl 0 ?_; exact hK (k + 1, ag, o) ⟨by omega, hmo, hst⟩ (by dsimp only; omega))
        ·rw [List.length_map] at h50
         have hR2 := hK2.shut hj (by omega)
         refine en tOK 0 3 [] ?_
         refine sl 0 ?_
         exact hJ (j + 1, ag, o) ⟨by omega, hR2⟩ (by dsimp only; omega)
     ·rw [List.length_map] at h20
      refine el 0 ?_
      exact hO (ag, o) ⟨hR.di, hR.top, fun ha => (hR.close (by omega) ha).2⟩ (by dsimp only; rw [h16]; cases ag with
       | false => have := (hR.close (by omega) rfl).1; subst this; simp
       | true => have h1 := hR.grow rfl; have h2 := hR.di.le; simp; omega)
   ·have e : needsN l ref = out := hd.done ht (hcl h16)
    refine en tOK 0 2 [] ?_
    refine sr 0 R ?_
    rw [e]; rfl
 ·obtain ⟨o0, ho0⟩ : ∃ o0 : List Bytes, o0 = [] := ⟨_, rfl⟩
  have hd0 : DI l ref o0 := by rw [ho0]; exact DI.nil
  have ht0 : 0 ≤ findD l ref → ref ∈ o0 := fun h => absurd h (by omega)
  refine eas 5 rfl (v' := rB o0) ?_ ?_
  ·rw [ho0] <;> rfl
  refine en tOK 0 1 [] ?_
  refine sl 0 ?_
  refine E_loop (σ := Bool × List Bytes) (fun t => DI l ref t.2 ∧ (0 ≤ findD l ref → ref ∈ t.2) ∧ (t.1 = false → closD l t.2)) (fun t => (if t.1 then 1 else 0) + (l.length - t.2.length))
    (fun t => [(0, .str ref), (1, rN l), (5, rB t.2), (6, bS t.1)])
    (fun t => []) (true, o0) ?_ ?_
  ·exact ⟨hd0, ht0, fun h => by cases h⟩
  ·rintro J ⟨again, out⟩ ⟨hd, ht, hcl⟩ hO
   dsimp only at hd ht hcl ⊢
   have hle := hd.le
   refine en tOK 0 1 [] ?_
   refine sib 0 rfl rfl (fun h16 => ?_) (fun h16 => ?_)
   ·refine en tOK 0 1 [] ?_
    refine sn tOK 0 1 [] ?_
    refine sl 0 ?_
    refine E_loop (σ := Nat × Bool × List Bytes) (fun u => u.1 ≤ l.length ∧ NR l ref out u.2.2 u.2.1 (fun i _ => i < u.1)) (fun u => l.length - u.1)
      (fun u => [(0, .str ref), (1, rN l), (5, rB u.2.2), (6, bS u.2.1), (7, nI u.1)])
      (fun u => []) (0, false, out) ?_ ?_
    ·exact ⟨Nat.zero_le _, NR.start hd ht⟩
    ·rintro J ⟨j, ag, o⟩ ⟨hj0, hR⟩ hJ
     dsimp only at hj0 hR ⊢
     have hle2 := hR.di.le
     refine en tOK 0 4 [] ?_
     refine si 0 rfl rfl (fun h20 => ?_) (fun h20 => ?_)
     ·rw [List.length_map] at h20
      have hj : j < l.length := by omega
      refine en tOK 0 6 [ndL l[j]] ?_ (hφ := by exact ⟨by omega, by simpa using rN_get hj⟩)
      refine fc tOK 8 [ndL l[j]] (rin_ok (l := o) (s := l[j].ref)) ?_ (hφ := by (repeat' refine And.intro ?_ ?_) <;> first | exact id | exact fun _ => ⟨by omega, by simpa using rN_get hj⟩)
      refine fg tOK 3 [] (fun hg => rfind_ok (l := l) (q := l[j].ref)) ?_
      refine sib 0 rfl rfl (fun h41 => ?_) (fun h41 => ?_)
      ·have hR2 := hR.skip hj (by simpa using h41)
       refine en tOK 0 3 [] ?_
       refine sl 0 ?_
       exact hJ (j + 1, ag, o) ⟨by omega, hR2⟩ (by dsimp only; omega)
      ·have hm : l[j].ref ∈ o ∧ findD l l[j].ref = j := by simpa using h41
       refine en tOK 0 4 [ndL l[j]] ?_ (hφ := by exact ⟨by omega, by simpa using rN_get hj⟩)
       refine fc tOK 1 [] (dinputs_ok (n := l[j])) ?_
       refine sn tOK 0 1 [] ?_
       refine sl 0 ?_
       refine E_loop (σ := Nat × Bool × List Bytes) (fun v => v.1 ≤ (inputsN l[j]).length ∧ l[j].ref ∈ v.2.2 ∧ NR l ref out v.2.2 v.2.1 (fun i q => i < j ∨ i = j ∧ q ∈ (inputsN l[j]).take v.1)) (fun v => (inputsN l[j]).length - v.1)
         (fun v => [(0, .str ref), (1, rN l), (5, rB v.2.2), (6, bS v.2.1), (7, nI j), (8, rB (inputsN l[j])), (9, nI v.1)])
         (fun v => []) (0, ag, o) ?_ ?_
       ·exact ⟨Nat.zero_le _, hm.1, hR.open hj _⟩
       ·rintro J ⟨k, ag, o⟩ ⟨hk0, hmo, hK2⟩ hK
        dsimp only at hk0 hmo hK2 ⊢
        have hle3 := hK2.di.le
        refine en tOK 0 4 [] ?_
        refine si 0 rfl rfl (fun h50 => ?_) (fun h50 => ?_)
        ·rw [List.length_map] at h50
         have hk : k < (inputsN l[j]).length := by omega
         have hil := inputs_len l[j]
         refine en tOK 0 5 [[.str (inputsN l[j])[k]]] ?_ (hφ := by exact ⟨by omega, by simp [hk]⟩)
         refine fc tOK 7 [[.str (inputsN l[j])[k]]] (rfind_ok (l := l) (q := (inputsN l[j])[k])) ?_ (hφ := by (repeat' refine And.intro ?_ ?_) <;> first | exact id | exact fun _ => ⟨by omega, by simp [hk]⟩)
         refine fg tOK 2 [] (fun hg => rin_ok (l := o) (s := (inputsN l[j])[k])) ?_
         refine sib 0 rfl rfl (fun h68 => ?_) (fun h68 => ?_)
         ·have h68 : 0 ≤ findD l (inputsN l[j])[k] ∧ (inputsN l[j])[k] ∉ o := by simpa using h68
          have hadd := hK2.add hj hk hmo hm.2 h68.1 h68.2
          refine en tOK 0 5 [[.str (inputsN l[j])[k]]] ?_ (hφ := by exact ⟨by omega, by simp [hk]⟩)
          refine fc tOK 1 [] (raddB_ok (l := o) (by omega)) ?_
          refine sn tOK 0 1 [] ?_
          refine sn tOK 0 3 [] ?_
          first
           | (have hq := hadd; refine sl 0 ?_; exact hK (k + 1, true, addB o (inputsN l[j])[k]) ⟨by omega, add_mem.2 (.inl hmo), hq⟩ (by dsimp only; omega))
           | (refine sl 0 ?_; exact hK (k + 1, ag, o) ⟨by omega, hmo, hst⟩ (by dsimp only; omega))
         ·have hst := hK2.stay hj hk (by simpa using h68)
          refine en tOK 0 3 [] ?_
          first
           | (have hq := hadd; refine sl 0 ?_; exact hK (k + 1, true, addB o (inputsN l[j])[k]) ⟨by omega, add_mem.2 (.inl hmo), hq⟩ (by dsimp only; omega))
           | (refine sl 0 ?_; exact hK (k + 1, ag, o) ⟨by omega, hmo, hst⟩ (by dsimp only; omega))
        ·rw [List.length_map] at h50
         have hR2 := hK2.shut hj (by omega)
         refine en tOK 0 3 [] ?_
         refine sl 0 ?_
         exact hJ (j + 1, ag, o) ⟨by omega, hR2⟩ (by dsimp only; omega)
     ·rw [List.length_map] at h20
      refine el 0 ?_
      exact hO (ag, o) ⟨hR.di, hR.top, fun ha => (hR.close (by omega) ha).2⟩ (by dsimp only; rw [h16]; cases ag with
       | false => have := (hR.close (by omega) rfl).1; subst this; simp
       | true => have h1 := hR.grow rfl; have h2 := hR.di.le; simp; omega)
   ·have e : needsN l ref = out := hd.done ht (hcl h16)
    refine en tOK 0 2 [] ?_
    refine sr 0 R ?_
    rw [e]; rfl
end Go.Proofs.YtomkgfdigldhcaaGreatDoor
namespace Go.Proofs.YtomkgfdigldhcaaGreatDoor
open Go.KX
set_option maxRecDepth 100000 in
theorem dagChecks_ok {cond : Bytes} {l : List Nd} (hb : ∀ n ∈ l, wN n ≤ 703687441776640) : Fc Tryz.prog gT 6 [.str cond, rN l] (bS true) := by
 refine fb tOK (fn := Tryz.f6) 84 [.tmp 4] Tryz.func6 Tryz.results6 (fun g0 B0 Q ρ0 R => ?_)
 refine en tOK 0 1 [] ?_
 refine sn tOK 0 1 [] ?_
 refine fc tOK 6 [] (small_ok hb) ?_
 refine sib 0 rfl rfl (fun h17 => ?_) (fun h17 => ?_)
 ·refine en tOK 0 0 [] ?_
  refine fc tOK 1 [] (live12_ok) ?_
  refine sr 0 R ?_
  rfl
 ·simp only [Bool.or_eq_false_iff, Bool.not_eq_false', decide_eq_false_iff_not] at h17
  have hs : smallN l = true := by simpa using h17.1
  have hl := small_len hs
  have hrf := small_ref hs
  refine en tOK 0 0 [] ?_
  refine sbl0 tOK 902 ?_
  refine go tOK 1 [] ?_
  refine sap tOK (rows := []) 0 [] rfl (fun _ => rfl) ?_ ?_
  ·show (0 + (l.map ndL).length) * 128 ≤ _
   rw [List.length_map]
   omega
  refine sezo 22 (rows := l.map ndL) ?_ ?_ (hr := fun r hr => by
    obtain ⟨n, _, rfl⟩ := List.mem_map.1 hr
    rfl)
  ·simp
  refine fc tOK 5 [] (order_ok (l := l) (by omega)) ?_
  refine sn tOK 0 1 [] ?_
  refine fc tOK 5 [] (dorder_ok (l := l) (by omega)) ?_
  refine sn tOK 0 1 [] ?_
  refine sl 0 ?_
  refine E_loop (σ := Nat) (fun j => j ≤ l.length) (fun j => l.length - j)
    (fun j => [(0, .str cond), (1, rN l), (5, rB (orderN l).1), (6, nI (orderN l).2), (7, rB (orderN l).1), (8, nI (orderN l).2), (9, nI j)])
    (fun j => []) 0 ?_ ?_
  ·exact Nat.zero_le _
  ·rintro J j hj0 hJ
   refine en tOK 0 4 [] ?_
   refine si 0 rfl rfl (fun h34 => ?_) (fun h34 => ?_)
   ·rw [List.length_map] at h34
    have hj : j < l.length := by omega
    refine edr 0 0 [0, 0, 3, 7, 15, 0, 0, 96, 224, 511, 1023, 2047] [0, 1, 2, 3, 4, 5, 6, 7, 8, 9, 10, 11] ?_
    refine xd tOK 4 [ndL l[j]] ?_ (hφ := by exact ⟨by omega, by simpa using rN_get hj⟩)
    refine dc tOK 4 [ndL l[j]] (inputs_ok (n := l[j])) ?_ (hφ := by exact ⟨by omega, by simpa using rN_get hj⟩)
    refine dc tOK 0 [] (dinputs_ok (n := l[j])) ?_
    refine dc tOK 1 [] (texts_ok (a := inputsN l[j]) (b := inputsN l[j])) ?_
    refine xe ?_
    refine sib 0 rfl rfl (fun h48 => ?_) (fun h48 => ?_)
    ·simp at h48
    ·refine en tOK 0 3 [] ?_
     refine sl 0 ?_
     exact hJ (j + 1) (by omega) (by omega)
   ·refine en tOK 0 1 [] ?_
    refine sbl0 tOK 903 ?_
    refine go tOK 1 [] ?_
    refine sap tOK (rows := []) 0 [] rfl (fun _ => rfl) ?_ ?_
    ·show (0 + (l.map ndL).length) * 128 ≤ _
     rw [List.length_map]
     omega
    refine sezo 52 (rows := l.map ndL) ?_ ?_ (hr := fun r hr => by
      obtain ⟨n, _, rfl⟩ := List.mem_map.1 hr
      rfl)
    ·simp
    refine fc tOK 0 [] (check_ok (cond := cond) (l := l) hrf) ?_
    refine fc tOK 2 [] (num12_ok) ?_
    refine fc tOK 4 [] (dcheckD_ok (cond := cond) (l := l) hrf) ?_
    refine fg tOK 3 [] (fun hg => texts_ok (a := (orderN l).1) (b := (orderN l).1)) ?_
    refine fg tOK 4 [] (fun hg => num12_ok) ?_
    refine sas 70 rfl (v' := .v (.bool true)) (by simp) ?_
    refine sgd ?_
    refine go tOK 1 [] ?_
    refine sgd ?_
    refine sbl0 tOK 904 ?_
    refine sgd ?_
    refine go tOK 1 [] ?_
    refine sgd ?_
    refine sap tOK (rows := []) 0 [] rfl (fun _ => rfl) ?_ ?_
    ·show (0 + (l.map ndL).length) * 128 ≤ _
     rw [List.length_map]
     omega
    refine sezo 74 (rows := l.map ndL) ?_ ?_ (hr := fun r hr => by
      obtain ⟨n, _, rfl⟩ := List.mem_map.1 hr
      rfl)
    ·simp
    refine sgd ?_
    refine fc tOK 0 [] (needs_ok (ref := cond) (l := l) (by omega)) ?_
    refine go tOK 2 [] ?_
    refine fg tOK 0 [] (fun hg => dneeds_ok (ref := cond) (l := l) (by omega)) ?_
    refine fg tOK 2 [] (fun hg => texts_ok (a := needsN l cond) (b := needsN l cond)) ?_
    refine fg tOK 2 [] (fun hg => live12_ok) ?_
    refine sr 0 R ?_
    refine congrArg (fun b => SV.v (.bool b)) ?_
    simp
end Go.Proofs.YtomkgfdigldhcaaGreatDoor
namespace Go.KX
open Go.RowKit
/-- What was there is as it was. -/
structure OldSame (W W' : World) : Prop where
  os : W'.os = W.os
  output : W'.output = W.output
  size : W.heap.size ≤ W'.heap.size
  same : ∀ b, b < W.heap.size → W'.heap[b]? = W.heap[b]?
/-- All that is there is never written again. -/
def gAll (W : World) : GW := ⟨W, fun b => b < W.heap.size, fun _ h => h⟩
theorem OldSame.kept {W W' : World} (h : OldSame W W') (may : MemPlace → Prop) : W.keptBut W' may := by
  refine ⟨h.os, h.output, fun i hi => ?_⟩
  rw [h.same i hi]
  cases hq : W.heap[i]? with
  | none => rfl
  | some o => cases o <;> first | exact ⟨rfl, rfl, rfl, fun _ _ => rfl⟩ | exact .inr ⟨rfl, rfl⟩ | rfl
section
variable {H : Type} {enc : TypeId × Value → H} {P : Program} {W W' : World}
theorem mapM_keep {α β : Type} {f f' : α → Option β} : ∀ (l : List α) (ys : List β), l.mapM f = some ys → (∀ i ∈ l, ∀ y ∈ ys, f i = some y → f' i = some y) → l.mapM f' = some ys
  | [], ys, h, _ => by simpa using h
  | a :: l, ys, h, hk => by
    simp only [List.mapM_cons] at h ⊢
    cases hfa : f a with
    | none => rw [hfa] at h; cases h
    | some y =>
      rw [hfa] at h
      cases hl : l.mapM f with
      | none => rw [hl] at h; cases h
      | some zs =>
        rw [hl] at h
        cases h
        have h1 := hk a (.head _) y (.head _) hfa
        have h2 := mapM_keep l zs hl (fun i hi z hz hz2 => hk i (.tail _ hi) z (.tail _ hz) hz2)
        rw [h1, h2]; rfl
theorem mapM_len {α β : Type} {f : α → Option β} : ∀ (l : List α) (ys : List β), l.mapM f = some ys → ys.length = l.length
  | [], ys, h => by simp at h; subst h; rfl
  | a :: l, ys, h => by
    simp only [List.mapM_cons] at h
    cases hfa : f a with
    | none => rw [hfa] at h; cases h
    | some y =>
      rw [hfa] at h
      cases hl : l.mapM f with
      | none => rw [hl] at h; cases h
      | some zs =>
        rw [hl] at h
        cases h
        simp [mapM_len l zs hl]
theorem mapM_at {α β : Type} {f : α → Option β} : ∀ (l : List α) (ys : List β), l.mapM f = some ys → ∀ (i : Nat) a, l[i]? = some a → ∃ y, ys[i]? = some y ∧ f a = some y
  | [], ys, h, i, a, ha => by simp at ha
  | b :: l, ys, h, i, a, ha => by
    simp only [List.mapM_cons] at h
    cases hfa : f b with
    | none => rw [hfa] at h; cases h
    | some y =>
      rw [hfa] at h
      cases hl : l.mapM f with
      | none => rw [hl] at h; cases h
      | some zs =>
        rw [hl] at h
        cases h
        cases i with
        | zero => simp at ha; subst ha; exact ⟨y, rfl, hfa⟩
        | succ i => simp at ha; obtain ⟨y', h1, h2⟩ := mapM_at l zs hl i a ha; exact ⟨y', by simpa using h1, h2⟩
theorem cells_at {w : World} {base : Nat} {a : Addr} {n : Nat} {cs : List Value} (h : w.cells? base a n = some cs) : cs.length = n ∧ ∀ (j : Nat) v, cs[j]? = some v → w.cell? (a.add j) = some v := by
  unfold World.cells? at h
  split at h
  · refine ⟨by have := mapM_len _ _ h; simpa using this, fun j v hj => ?_⟩
    have hlt : j < n := by
      have := mapM_len _ _ h
      have h2 := (List.getElem?_eq_some_iff.1 hj).1
      simp at this; omega
    obtain ⟨y, h1, h2⟩ := mapM_at _ _ h j j (by simp [hlt])
    rw [hj] at h1
    cases h1
    exact h2
  · cases h
theorem add_block (a : Addr) (i : Nat) : (a.add i).block = a.block := by unfold Addr.add; split <;> rfl
theorem cells_keep {base n : Nat} {a : Addr} {cs : List Value} (hW : OldSame W W') (h : W.cells? base a n = some cs) : W'.cells? base a n = some cs := by
  unfold World.cells? at h ⊢
  split
  · rename_i hb
    rw [if_pos hb] at h
    refine mapM_keep _ _ h (fun i _ y _ hy => ?_)
    unfold World.cell? at hy ⊢
    have hlt : (a.add i).block < W.heap.size := by
      rcases Nat.lt_or_ge (a.add i).block W.heap.size with h | h
      · exact h
      · rw [Array.getElem?_eq_none h] at hy; cases hy
    rw [hW.same _ hlt]; exact hy
  · rename_i hb; rw [if_neg hb] at h; cases h
/-- Types that lead to no interface, map, function, pointer. -/
def plainT (P : Program) : Nat → TypeId → Bool
  | 0, _ => false
  | f + 1, t => match P.underlying t with
    | some .bool => true
    | some (.int _) => true
    | some .string => true
    | some (.slice e) => decide (0 < P.cellsOf e) && plainT P f e
    | some (.struct fs) => fs.toList.all fun fd => plainT P f fd.type
    | _ => false
theorem row_mem {a : Addr} {n j : Nat} (h : j < n) : MemPlace.cell a.block (a.off + j) ∈ MemPlace.row a n := List.mem_map.2 ⟨j, by simp [h], rfl⟩
theorem trod_keep (hW : OldSame W W') {base : Nat} {held : Bool} {sp : Nat → Bool} : ∀ (k fuel : Nat) (t : TypeId) (cs : List Value) (x : DataW H × List MemPlace), plainT P k t = true → (∀ p ∈ x.2, sp p.block = true) →
    DataW.trod enc P W base (fun _ => true) held fuel t cs = some x → DataW.trod enc P W' base sp held fuel t cs = some x
  | 0, _, _, _, _, hp, _, _ => by cases hp
  | _ + 1, 0, _, _, _, _, _, h => by cases h
  | k + 1, fuel + 1, t, cs, x, hp, hs, h => by
    rw [plainT] at hp
    unfold DataW.trod at h ⊢
    split at hp
    · rename_i u; rw [u] at h ⊢; revert h; split <;> intro h <;> first | exact h | (rename_i hq; cases hq; done) | (rename_i hq _; cases hq; done) | (cases h; done)
    · rename_i u; rw [u] at h ⊢; revert h; split <;> intro h <;> first | exact h | (rename_i hq; cases hq; done) | (rename_i hq _; cases hq; done) | (cases h; done)
    · rename_i u; rw [u] at h ⊢; revert h; split <;> intro h <;> first | exact h | (rename_i hq; cases hq; done) | (rename_i hq _; cases hq; done) | (cases h; done)
    · rename_i e u
      simp only [Bool.and_eq_true, decide_eq_true_eq] at hp
      obtain ⟨hz, hpe⟩ := hp
      rw [u] at h ⊢
      revert h
      split <;> intro h <;> first | exact h | (rename_i hq; cases hq; done) | (rename_i hq _; cases hq; done) | (cases h; done) | skip
      rename_i e2 a len cap heq
      injection heq with heq
      injection heq with heq
      subst heq
      dsimp only at h ⊢
      split at h
      · rename_i hc
        rw [if_pos hc]
        simp only [if_true, Option.bind_eq_some_iff, Option.map_eq_some_iff] at h ⊢
        obtain ⟨elems, h1, rest, h2, h3⟩ := h
        subst h3
        have hel : ∀ (i : Nat) y, y ∈ elems ++ rest → ((W.cells? base (a.add (i * P.cellsOf e)) (P.cellsOf e)).bind (DataW.trod enc P W base (fun _ => true) held fuel e)) = some y → ((W'.cells? base (a.add (i * P.cellsOf e)) (P.cellsOf e)).bind (DataW.trod enc P W' base sp held fuel e)) = some y := by
          intro i y hy hyx
          simp only [Option.bind_eq_some_iff] at hyx ⊢
          obtain ⟨c, hc1, hc2⟩ := hyx
          refine ⟨c, cells_keep hW hc1, trod_keep hW k fuel e c y hpe (fun p hp => hs p ?_) hc2⟩
          exact List.mem_append_right _ (List.mem_flatMap.2 ⟨y, hy, hp⟩)
        refine ⟨elems, mapM_keep _ _ h1 (fun i _ y hy => hel i y (List.mem_append_left _ hy)), rest, ?_, rfl⟩
        have hl1 := mapM_len _ _ h1
        have hl2 := mapM_len _ _ h2
        simp only [List.length_range] at hl1 hl2
        by_cases hsb : sp a.block = true
        · rw [if_pos hsb]
          exact mapM_keep _ _ h2 (fun i _ y hy => hel (len + i) y (List.mem_append_right _ hy))
        · have h0 : (elems.length + rest.length) * P.cellsOf e = 0 := by
            rcases Nat.eq_zero_or_pos ((elems.length + rest.length) * P.cellsOf e) with h | h
            · exact h
            · exact absurd (hs _ (List.mem_append_left _ (row_mem h))) hsb
          have h00 : elems.length + rest.length = 0 := by
            rcases Nat.mul_eq_zero.1 h0 with h | h
            · exact h
            · omega
          have : rest = [] := List.eq_nil_of_length_eq_zero (by omega)
          subst this
          rw [if_neg hsb]
      · cases h
    · rename_i fs u
      simp only [List.all_eq_true] at hp
      rw [u] at h ⊢
      dsimp only at h ⊢
      split at h
      · rename_i hc
        rw [if_pos hc]
        simp only [Option.map_eq_some_iff] at h ⊢
        obtain ⟨xs, h1, h2⟩ := h
        subst h2
        refine ⟨xs, mapM_keep _ _ h1 (fun fd hfd y hy hyx => trod_keep hW k fuel _ _ y (hp fd hfd) (fun p hp => hs p (List.mem_flatMap.2 ⟨y, hy, hp⟩)) hyx), rfl⟩
      · cases h
    · cases hp
theorem trodAll_keep (hW : OldSame W W') {base : Nat} {held : Bool} {sp : Nat → Bool} (k : Nat) : ∀ (ts : List TypeId) (vs : List Value) (ds : List (DataW H)) (ps : List MemPlace), (ts.all fun t => plainT P k t) = true → (∀ p ∈ ps, sp p.block = true) →
    DataW.TrodAll enc P W base (fun _ => true) held ts vs ds ps → DataW.TrodAll enc P W' base sp held ts vs ds ps
  | [], [], [], ps, _, _, h => h
  | t :: ts, v :: vs, d :: ds, ps, hp, hs, h => by
    obtain ⟨p, q, ⟨fuel, h1⟩, h2, h3⟩ := h
    subst h3
    simp only [List.all_cons, Bool.and_eq_true] at hp
    exact ⟨p, q, ⟨fuel, trod_keep hW k fuel t _ _ hp.1 (fun p' hp' => hs p' (List.mem_append_left _ hp')) h1⟩, trodAll_keep hW k ts vs ds q hp.2 (fun p' hp' => hs p' (List.mem_append_right _ hp')) h2, rfl⟩
/-- The row of a law whose arguments are plain data, out of its walk. -/
theorem law_post {f : Func} {s : ChangeSpec} {apart fresh : Bool} {args : Array Value} {ds gs : List (DataW H)} {before : List MemPlace} {ds' : List (DataW H)} (k : Nat) (hv : s.vars = [])
    (hW : DataW.Whole enc P f.params.toList s.vars apart W args.toList ds gs before) (hs : OldSame W W') (hpl : (f.params.toList.all fun t => plainT P k t) = true)
    (hr : ∃ t, f.resultTypes = #[t] ∧ P.underlying t = some .bool) (hds : ds = ds') (hfn : s.fn H (ds' ++ []) = { results := [.lit (.bool true)], args := ds' }) :
    s.post enc P f apart fresh false false W args (.bool true) W' := by
  have hW' := hW
  obtain ⟨p, q, hA, hV, rfl, hfz, hnd⟩ := hW
  subst hds
  rw [hv] at hV
  have hg : gs = [] ∧ q = [] := by
    cases gs with
    | nil => exact ⟨rfl, hV⟩
    | cons _ _ => exact hV.elim
  obtain ⟨rfl, rfl⟩ := hg
  obtain ⟨tb, hr1, hr2⟩ := hr
  refine ⟨ds, [], p ++ [], [], p, [], hW', ?_, ?_, ?_, hs.kept _, fun h => (by cases h)⟩
  · rw [hfn, hr1]
    exact ⟨[], [], ⟨1, by unfold DataW.trod; rw [hr2]; rfl⟩, rfl, rfl⟩
  · rw [hfn]
    refine trodAll_keep hs k _ _ _ _ hpl (fun pl hpl => ?_) hA
    have := hW'.lt pl (List.mem_append_left _ hpl)
    simpa using this
  · rw [hfn, hv]; rfl
end
end Go.KX
namespace Go.KX
end Go.KX
namespace Go.KX
open Go.RowKit
section
variable {H : Type} {enc : TypeId × Value → H} {P : Program} {W : World}
/-- No part of it takes more room than there is. -/
def Light (P : Program) (t : TypeId) (d : DataW H) : Prop := (d.weights P t).all (· ≤ reachBytes) = true
/-- How cells of a type read: as some α that is as Q says. -/
def Rd (enc : TypeId × Value → H) (P : Program) (W : World) (t : TypeId) {α : Type} (e : α → List Value) (Q : α → Prop) : Prop :=
  ∀ (fuel : Nat) (cs : List Value) (x : DataW H × List MemPlace), DataW.trod enc P W 0 (fun _ => true) true fuel t cs = some x → Light P t x.1 → ∃ y, cs = e y ∧ Q y
theorem rd_int {t : TypeId} {k : IntKind} (u : P.underlying t = some (.int k)) : Rd enc P W t (fun z : Int => [.int k z]) (fun z => (Lit.int k z).wf = true) := by
  intro fuel cs x h _
  cases fuel with
  | zero => cases h
  | succ fuel =>
    unfold DataW.trod at h
    rw [u] at h
    revert h
    split <;> intro h <;> first | (rename_i hq; cases hq; done) | (rename_i hq _; cases hq; done) | (cases h; done) | skip
    rename_i e2
    split at h
    · rename_i hw
      obtain ⟨hk, hw⟩ := hw
      injection e2 with e2
      injection e2 with e2
      subst hk
      subst e2
      exact ⟨_, rfl, hw⟩
    · cases h
theorem rd_str {t : TypeId} (u : P.underlying t = some .string) : Rd enc P W t (fun s : Bytes => [str s]) (fun s => s.length ≤ 140737488351232) := by
  intro fuel cs x h hl
  cases fuel with
  | zero => cases h
  | succ fuel =>
    unfold DataW.trod at h
    rw [u] at h
    revert h
    split <;> intro h <;> first | (rename_i hq; cases hq; done) | (rename_i hq _; cases hq; done) | (cases h; done) | skip
    rename_i s _
    split at h
    · cases h
      obtain ⟨b, hb⟩ := exists_str s
      refine ⟨b, by rw [hb], ?_⟩
      have hs : s = ⟨b.toArray⟩ := by unfold str at hb; injection hb
      simp only [Light, DataW.weights, List.all_cons, List.all_nil, Bool.and_true, decide_eq_true_eq] at hl
      rw [hs] at hl
      simp only [reachBytes] at hl
      simpa using hl
    · cases h
theorem exists_list {α : Type} (R : Nat → α → Prop) : ∀ (n : Nat), (∀ i, i < n → ∃ y, R i y) → ∃ ys : List α, ys.length = n ∧ ∀ (i : Nat) y, ys[i]? = some y → R i y
  | 0, _ => ⟨[], rfl, fun i y h => by simp at h⟩
  | n + 1, h => by
    obtain ⟨ys, h1, h2⟩ := exists_list R n (fun i hi => h i (by omega))
    obtain ⟨y, hy⟩ := h n (Nat.lt_succ_self n)
    refine ⟨ys ++ [y], by simp [h1], fun i z hz => ?_⟩
    rw [List.getElem?_append] at hz
    split at hz
    · exact h2 i z hz
    · rename_i hge
      have hi : i = n := by
        have := (List.getElem?_eq_some_iff.1 hz).1
        simp at this; omega
      subst hi
      rw [h1] at hz
      simp at hz; subst hz; exact hy
theorem weightsAll_mem {e : TypeId} : ∀ {l : List (DataW H)}, (DataW.weightsAll P e l).all (· ≤ reachBytes) = true → ∀ d ∈ l, Light P e d
  | a :: l, h, d, hd => by
    simp only [DataW.weightsAll, List.all_append, Bool.and_eq_true] at h
    rcases List.mem_cons.1 hd with rfl | hd
    · exact h.1
    · exact weightsAll_mem h.2 d hd
/-- A slice that is handed in. -/
def SlQ {α : Type} (E : El α) (W : World) (by_ : Nat) (Q : α → Prop) (y : SlE α) : Prop := (SlM E y.1 y.2.1 y.2.2).p (gAll W) ∧ (∀ z ∈ y.2.2, Q z) ∧ y.2.2.length * by_ ≤ 140737488351232
theorem rd_slice {α : Type} {E : El α} {Q : α → Prop} {t e : TypeId} (u : P.underlying t = some (.slice e)) (hsz : P.cellsOf e = E.sz) (hE : Rd enc P W e E.enc Q) : Rd enc P W t (elSl α).enc (SlQ E W (P.bytesOf e) Q) := by
  intro fuel cs x h hl
  cases fuel with
  | zero => cases h
  | succ fuel =>
    unfold DataW.trod at h
    rw [u] at h
    revert h
    split <;> intro h <;> first | (rename_i hq; cases hq; done) | (rename_i hq _; cases hq; done) | (cases h; done) | skip
    · exact ⟨(none, 0, []), rfl, SlM.nil _ _ _ _, (fun z hz => by cases hz), by simp⟩
    · rename_i e2 a len cap heq
      injection heq with heq
      injection heq with heq
      subst heq
      dsimp only at h
      split at h
      · rename_i hc
        simp only [if_true, Option.bind_eq_some_iff, Option.map_eq_some_iff] at h
        obtain ⟨elems, h1, rest, h2, h3⟩ := h
        subst h3
        simp only [Light, DataW.weights, u, List.all_cons, List.all_append, Bool.and_eq_true, decide_eq_true_eq, List.length_map] at hl
        obtain ⟨hl1, hl2, _⟩ := hl
        have hlen := mapM_len _ _ h1
        simp only [List.length_range] at hlen
        obtain ⟨ys, hy1, hy2⟩ := exists_list (fun (i : Nat) (y : α) => W.cells? 0 (a.add (i * P.cellsOf e)) (P.cellsOf e) = some (E.enc y) ∧ Q y) len (fun i hi => by
          obtain ⟨d, hd1, hd2⟩ := mapM_at _ _ h1 i i (by simp [hi])
          simp only [Option.bind_eq_some_iff] at hd2
          obtain ⟨cl, hc1, hc2⟩ := hd2
          obtain ⟨y, rfl, hq⟩ := hE fuel cl d hc2 (weightsAll_mem hl2 d.1 (List.mem_map.2 ⟨d, List.mem_of_getElem? hd1, rfl⟩))
          exact ⟨y, hc1, hq⟩)
        refine ⟨(some a, cap, ys), by show _ = [Value.slice (some a) ys.length cap]; rw [hy1], ⟨by rw [hy1]; omega, by rw [hy1]; exact hc.2.1, fun hne => ?_⟩, fun z hz => ?_, ?_⟩
        · have hpos : 0 < ys.length := List.length_pos_iff.2 hne
          have hcell : ∀ (i : Nat) y, ys[i]? = some y → ∀ (j : Nat) v, (E.enc y)[j]? = some v → W.cell? ((a.add (i * E.sz)).add j) = some v := by
            intro i y hy j v hv
            have := (cells_at (hy2 i y hy).1).2 j v hv
            rwa [hsz] at this
          obtain ⟨b, o, sp⟩ := a
          have hspot : sp = none ∧ b < W.heap.size := by
            obtain ⟨y0, hy0⟩ : ∃ y, ys[0]? = some y := ⟨_, List.getElem?_eq_getElem hpos⟩
            obtain ⟨v0, hv0⟩ : ∃ v, (E.enc y0)[0]? = some v := ⟨_, List.getElem?_eq_getElem (by rw [E.len]; exact E.pos)⟩
            have := hcell 0 y0 hy0 0 v0 hv0
            unfold World.cell? at this
            rw [add_block, add_block] at this
            have hlt : b < W.heap.size := by
              rcases Nat.lt_or_ge b W.heap.size with h | h
              · exact h
              · rw [show (⟨b, o, sp⟩ : Addr).block = b from rfl, Array.getElem?_eq_none h] at this; cases this
            refine ⟨?_, hlt⟩
            cases sp with
            | none => rfl
            | some q =>
              exfalso
              revert this
              cases W.heap[(⟨b, o, some q⟩ : Addr).block]? with
              | none => intro h; cases h
              | some ob =>
                cases ob <;> intro h <;> first | (cases h; done) | skip
                have hs : (((⟨b, o, some q⟩ : Addr).add (0 * E.sz)).add 0).spot.isSome = true := by
                  rw [Nat.zero_mul]; rfl
                dsimp only at h
                rw [if_pos hs] at h
                cases h
          obtain ⟨rfl, hlt⟩ := hspot
          refine ⟨b, o, rfl, hlt, fun j v hj => ?_⟩
          have hjl := (List.getElem?_eq_some_iff.1 hj).1
          rw [flat_len] at hjl
          have hi : j / E.sz < ys.length := Nat.div_lt_of_lt_mul (by rw [Nat.mul_comm]; exact hjl)
          obtain ⟨y, hy⟩ : ∃ y, ys[j / E.sz]? = some y := ⟨_, List.getElem?_eq_getElem hi⟩
          have hm : j % E.sz < (E.enc y).length := by rw [E.len]; exact Nat.mod_lt _ E.pos
          obtain ⟨v', hv'⟩ : ∃ v, (E.enc y)[j % E.sz]? = some v := ⟨_, List.getElem?_eq_getElem hm⟩
          have hg := flat_get E ys _ _ y v' hy hv'
          rw [Nat.mul_comm, Nat.div_add_mod] at hg
          rw [hj] at hg
          cases hg
          have := hcell _ y hy _ _ hv'
          rw [addr_add, addr_add, Nat.add_assoc, Nat.mul_comm (j / E.sz), Nat.div_add_mod] at this
          exact this
        · obtain ⟨i, hi⟩ := List.mem_iff_getElem?.1 hz
          exact (hy2 i z hi).2
        · show ys.length * _ ≤ _
          rw [hy1]
          simp only [reachBytes] at hl1
          have : len * P.bytesOf e ≤ (elems.length + rest.length) * P.bytesOf e := Nat.mul_le_mul_right _ (by omega)
          omega
      · cases h
/-- One argument, read. -/
theorem rd_arg {t : TypeId} {α : Type} {e : α → List Value} {Q : α → Prop} (hr : Rd enc P W t e Q) {v : Value} {d : DataW H} {ps : List MemPlace} (h : DataW.Trod enc P W 0 (fun _ => true) true t v d ps) (hl : Light P t d) : ∃ y, v.cells.toList = e y ∧ Q y := by
  obtain ⟨fuel, h⟩ := h
  exact hr fuel _ _ h hl
/-- A value of one cell. -/
theorem one_cell {v u : Value} (h : v.cells.toList = [u]) (hv : ∀ cs, v ≠ .agg cs) : v = u := by
  cases v <;> first | (simp [Value.cells] at h; exact h) | exact absurd rfl (hv _)
end
end Go.KX
namespace Go.Proofs.YtomkgfdigldhcaaGreatDoor
open Go.KX Go.RowKit
abbrev laidL : List (String × DataW Unit) := [("math/bits.deBruijn32tab", Rows.laid_math_bits_deBruijn32tab), ("math/bits.deBruijn64tab", Rows.laid_math_bits_deBruijn64tab), ("internal/strconv.uint64pow10", Rows.laid_internal_strconv_uint64pow10), ("unicode/utf8.acceptRanges", Rows.laid_unicode_utf8_acceptRanges), ("strconv.ErrRange", Rows.laid_strconv_ErrRange), ("strconv.ErrSyntax", Rows.laid_strconv_ErrSyntax), ("klaxon/math.levels", Rows.laid_klaxon_math_levels), ("klaxon/math.signs", Rows.laid_klaxon_math_signs), ("unicode/utf8.first", Rows.laid_unicode_utf8_first)]
theorem gg0 : Tryz.prog.globalNamed "klaxon/math.levels" = some 0 := by kernel_rfl
theorem gg1 : Tryz.prog.globalNamed "klaxon/math.signs" = some 1 := by kernel_rfl
theorem gg3 : Tryz.prog.globalNamed "internal/strconv.uint64pow10" = some 3 := by kernel_rfl
theorem gg10 : Tryz.prog.globalNamed "strconv.ErrSyntax" = some 10 := by kernel_rfl
theorem gt0 : (Tryz.prog.globals[0]?).map (·.type) = some 212 := by kernel_rfl
theorem gt1 : (Tryz.prog.globals[1]?).map (·.type) = some 262 := by kernel_rfl
theorem gt3 : (Tryz.prog.globals[3]?).map (·.type) = some 304 := by kernel_rfl
theorem gt10 : (Tryz.prog.globals[10]?).map (·.type) = some 318 := by kernel_rfl
theorem c9 : Tryz.prog.cellsOf 9 = 1 := by kernel_rfl
theorem c48 : Tryz.prog.cellsOf 48 = 1 := by kernel_rfl
section
variable {W : World} {enc : TypeId × Value → Unit} {sp : Nat → Bool} {held : Bool}
theorem trod_str9 {fuel : Nat} {cs : List Value} {x : Bytes} {p : List MemPlace} (h : DataW.trod enc Tryz.prog W 0 sp held fuel 9 cs = some (.lit (.string x), p)) : cs = [str x] := by
  obtain ⟨s, rfl, e, _⟩ := DataW.trod_string Tryz.underlying9 h
  simp only [Prod.mk.injEq, DataW.lit.injEq, Lit.string.injEq] at e
  have : s = ⟨x.toArray⟩ := by rw [e.1]
  rw [this]; rfl
set_option maxRecDepth 100000 in
theorem trod_if318 {fuel : Nat} {cs : List Value} {n : String} {d : DataW Unit} {p : List MemPlace} (h : DataW.trod enc Tryz.prog W 0 sp held fuel 318 cs = some (.iface n d, p)) : ∃ u v, cs = [.iface u v] := by
  cases fuel with
  | zero => cases h
  | succ fuel =>
    unfold DataW.trod at h
    rw [Tryz.underlying318] at h
    revert h
    split <;> intro h <;> first | (rename_i hq; cases hq; done) | (rename_i hq _; cases hq; done) | (cases h; done) | exact ⟨_, _, rfl⟩
theorem trod_sl48 {fuel : Nat} {cs : List Value} {ls : List Bytes} {rest : List (DataW Unit)} {p : List MemPlace} (h : DataW.trod enc Tryz.prog W 0 sp held fuel 48 cs = some (.slice (ls.map fun s => .lit (.string s)) rest, p)) (hne : ls ≠ []) :
    ∃ b o c, cs = [.slice (some ⟨b, o, none⟩) ls.length c] ∧ ls.length ≤ c ∧ ∀ (k : Nat) x, ls[k]? = some x → W.cell? ⟨b, o + k, none⟩ = some (str x) := by
  rcases DataW.trod_slice Tryz.underlying48 h with ⟨_, hx⟩ | ⟨a, len, cap, elems, rs, n, rfl, rfl, hx, _, hlc, _, hel, hcell, _⟩
  · simp at hx
  · simp only [Prod.mk.injEq, DataW.slice.injEq] at hx
    have hlen : ls.length = len := by
      have := congrArg List.length hx.1.1
      simp at this; omega
    rw [c9] at hcell
    have hk : ∀ (k : Nat) x, ls[k]? = some x → W.cell? (a.add k) = some (str x) := by
      intro k x hk
      have hkl : k < ls.length := by
        rcases Nat.lt_or_ge k ls.length with h | h
        · exact h
        · rw [List.getElem?_eq_none h] at hk; cases hk
      have h1 := hcell k (by omega)
      have h2 : (elems.map (·.1))[k]? = some (.lit (.string x)) := by rw [← hx.1.1]; simp [hk]
      rw [List.getElem?_map] at h2
      cases he : elems[k]? with
      | none => rw [he] at h2; cases h2
      | some y =>
        rw [he] at h1 h2
        obtain ⟨y1, y2⟩ := y
        simp only [Option.map_some, Option.some.injEq] at h2
        subst h2
        simp only [Option.bind_eq_some_iff] at h1
        obtain ⟨cl, hc1, hc2⟩ := h1
        have := trod_str9 hc2
        subst this
        have := (cells_at hc1).2 0 _ rfl
        rw [Nat.mul_one] at this
        have e : (a.add k).add 0 = a.add k := by
          obtain ⟨b, o, s⟩ := a
          cases s <;> simp [Addr.add]
        rw [e] at this
        exact this
    obtain ⟨b, o, s⟩ := a
    have h0 : s = none := by
      obtain ⟨x, hx0⟩ : ∃ x, ls[0]? = some x := ⟨_, List.getElem?_eq_getElem (List.length_pos_iff.2 hne)⟩
      have := World.cell?_spot (hk 0 x hx0)
      cases s with
      | none => rfl
      | some _ => simp [Addr.add] at this
    subst h0
    exact ⟨b, o, cap, by rw [hlen], by omega, fun k x hk' => by have := hk k x hk'; rwa [addr_add] at this⟩
end
set_option maxRecDepth 100000 in
theorem glF_of {W : World} (h : laidMetH Tryz.prog laidL W) (hs : W.ShapedOpen Tryz.prog) : GlF W := by
  rw [MakeChecks.laidMetH_plain _ _ _ (by kernel_rfl)] at h
  refine ⟨?_, ?_, ?_, fun j x hj => ?_, fun j ls hj => ?_⟩
  · obtain ⟨g, t, cs, fuel, p, hg, ht, hv, hd⟩ := Lib.laidMet.reads h (n := "internal/strconv.uint64pow10") (.tail _ (.tail _ (.head _)))
    obtain rfl := Option.some.inj (gg3.symm.trans hg)
    obtain rfl := Option.some.inj (gt3.symm.trans ht)
    unfold Lib.TabIs
    rw [hv]
    have hd' : DataW.trod (fun _ => ()) Tryz.prog W 0 (fun _ => true) false fuel 304 cs.toList = some (Lib.tabData .u64 Lib.pow10Tab, p) := hd
    rw [← Lib.cells_of_tab Tryz.underlying304 Tryz.underlying234 (by kernel_rfl) (by kernel_rfl) hd']
  · exact cell_of_shapedOpen_int (t := 3) (zero := #[.int .i64 0]) hs (of_decide_eq_true (by kernel_rfl)) (by kernel_rfl) rfl (by kernel_rfl) (by kernel_rfl) Tryz.underlying3
  · obtain ⟨g, t, cs, fuel, p, hg, ht, hv, hd⟩ := Lib.laidMet.reads h (n := "strconv.ErrSyntax") (.tail _ (.tail _ (.tail _ (.tail _ (.tail _ (.head _))))))
    obtain rfl := Option.some.inj (gg10.symm.trans hg)
    obtain rfl := Option.some.inj (gt10.symm.trans ht)
    have hc := World.var?_cell gg10 hv 0
    obtain ⟨u, v, e⟩ := trod_if318 hd
    rw [hc]
    refine ⟨.iface u v, ?_, .inr ⟨u, v, rfl⟩⟩
    have : cs.toList[0]? = some (.iface u v) := by rw [e]; rfl
    simpa using this
  · obtain ⟨g, t, cs, fuel, p, hg, ht, hv, hd⟩ := Lib.laidMet.reads h (n := "klaxon/math.signs") (.tail _ (.tail _ (.tail _ (.tail _ (.tail _ (.tail _ (.tail _ (.head _))))))))
    obtain rfl := Option.some.inj (gg1.symm.trans hg)
    obtain rfl := Option.some.inj (gt1.symm.trans ht)
    have hc := World.var?_cell gg1 hv j
    rw [hc]
    obtain ⟨xs, m, rfl, hx, hl, hn, hall⟩ := DataW.trod_array Tryz.underlying262 hd
    have e : xs.map (·.1) = signsT.map fun s => (DataW.lit (.string s) : DataW Unit) := by
      have := congrArg Prod.fst hx
      simp only [Rows.laid_klaxon_math_signs, DataW.agg.injEq] at this
      exact this.symm
    have hlt : j < signsT.length := (List.getElem?_eq_some_iff.1 hj).1
    have h15 : signsT.length = 15 := rfl
    have h1 := hall j (by omega)
    rw [c9, Nat.mul_one] at h1
    have h2 : (xs.map (·.1))[j]? = some (DataW.lit (.string x)) := by rw [e, List.getElem?_map, hj]; rfl
    rw [List.getElem?_map] at h2
    cases hy : xs[j]? with
    | none => rw [hy] at h2; cases h2
    | some y =>
      rw [hy] at h1 h2
      obtain ⟨y1, y2⟩ := y
      simp only [Option.map_some, Option.some.injEq] at h2
      subst h2
      have h3 := trod_str9 h1
      have h4 := congrArg (·[0]?) h3
      simpa [List.getElem?_take, List.getElem?_drop] using h4
  · obtain ⟨g, t, cs, fuel, p, hg, ht, hv, hd⟩ := Lib.laidMet.reads h (n := "klaxon/math.levels") (.tail _ (.tail _ (.tail _ (.tail _ (.tail _ (.tail _ (.head _)))))))
    obtain rfl := Option.some.inj (gg0.symm.trans hg)
    obtain rfl := Option.some.inj (gt0.symm.trans ht)
    have hc := World.var?_cell gg0 hv j
    obtain ⟨xs, m, rfl, hx, hl, hn, hall⟩ := DataW.trod_array Tryz.underlying212 hd
    have e : xs.map (·.1) = levelsT.map fun l => (DataW.slice (l.map fun s => .lit (.string s)) [] : DataW Unit) := by
      have := congrArg Prod.fst hx
      simp only [Rows.laid_klaxon_math_levels, DataW.agg.injEq] at this
      exact this.symm
    have hlt : j < levelsT.length := (List.getElem?_eq_some_iff.1 hj).1
    have h5 : levelsT.length = 5 := rfl
    have h1 := hall j (by omega)
    rw [c48, Nat.mul_one] at h1
    have h2 : (xs.map (·.1))[j]? = some (DataW.slice (ls.map fun s => .lit (.string s)) []) := by rw [e, List.getElem?_map, hj]; rfl
    rw [List.getElem?_map] at h2
    cases hy : xs[j]? with
    | none => rw [hy] at h2; cases h2
    | some y =>
      rw [hy] at h1 h2
      obtain ⟨y1, y2⟩ := y
      simp only [Option.map_some, Option.some.injEq] at h2
      subst h2
      have hne : ls ≠ [] := by
        have hm := List.mem_of_getElem? hj
        intro he
        subst he
        exact absurd hm (by decide)
      obtain ⟨b, o, c, h3, h6, h7⟩ := trod_sl48 h1 hne
      refine ⟨b, o, c, ?_, h6, h7⟩
      rw [hc]
      have h4 := congrArg (·[0]?) h3
      simpa [List.getElem?_take, List.getElem?_drop] using h4
end Go.Proofs.YtomkgfdigldhcaaGreatDoor
namespace Go.Proofs.YtomkgfdigldhcaaGreatDoor
open Go.ChangeShapes Go.WideShapes Go.ChangeAt Go.RowKit Go.KX
theorem ownR : ownKnob Tryz.prog.godebug = none := by kernel_rfl
/-- The wrap: what is listed, and the world's shape. -/
theorem returnsL {H : Type} {enc : TypeId × Value → H} {a : Assume} {C : Checked} {os : Os} {f : FuncId} {fn : Func} {s : ChangeSpec} {conds : List PathCond} {apart fresh handsOn again : Bool} {laid : List (String × DataW Unit)}
    (own : ownKnob C.prog.godebug = none) (started : os.Started) (noInit : C.prog.inits.idxOf? f = none) (hfn : C.prog.funcs[f]? = some fn)
    (witness : ∃ (w : World) (tape : Tape) (i : Input), w.os = os ∧ (w.forCall tape i).Shaped C.prog ∧ i.vars = [] ∧ Input.okWide C.prog (w.forCall tape i) .any w.heap.size f i ∧
      ((s.pre enc C.prog fn conds apart (w.forCall tape i).memory i.args ∧ laidMetH C.prog laid (w.forCall tape i).memory) ∧ sizedMet enc C.prog fn (OpenSpec.ofChange s) apart (w.forCall tape i).memory i.args) ∧ a.holds C.prog (lone (Frame.enter C.prog f i.args .normal) [] (w.forCall tape i)))
    (contract : ∀ (W : World) (base : Nat) (args : Array Value) (ds gs : List (DataW H)) (before : List MemPlace),
      (∀ (j : Nat) t v, fn.params[j]? = some t → args[j]? = some v → Value.okWide C.prog W .any base t v) →
      DataW.Whole enc C.prog fn.params.toList s.vars apart W args.toList ds gs before →
      (DataW.weightsEach C.prog (fn.params.toList ++ s.plain.varTypes C.prog) (ds ++ gs)).all (· ≤ reachBytes) = true → laidMetH C.prog laid W → W.ShapedOpen C.prog →
      Calls C.prog f args W fun e W' => ∃ v, e = .returned v ∧ s.post enc C.prog fn apart fresh handsOn again W args v W') :
    ReturnsInHanded a C os f .any (fun w args => (s.pre enc C.prog fn conds apart w args ∧ laidMetH C.prog laid w) ∧ sizedMet enc C.prog fn (OpenSpec.ofChange s) apart w args) (s.post enc C.prog fn apart fresh handsOn again) := by
  refine returnsInHanded_of_calls own started noInit witness ?_
  intro w tape i _ hsh _ hok hpre hholds
  obtain ⟨_, _, _, fn', hfn', _, _, _, _, hval⟩ := hok
  have e : fn' = fn := Option.some.inj (hfn'.symm.trans hfn)
  subst e
  obtain ⟨⟨⟨ds, gs, before, hw, hc⟩, hx⟩, hz⟩ := hpre
  have hw' := DataW.Whole.of_heap (w' := w.forCall tape i) (by rfl) hw
  refine (contract (w.forCall tape i) w.heap.size i.args ds gs before hval hw' (hz.weights hw) (laidMetH.of_heap (by rfl) hx) hsh).mono fun e W' ⟨v, he, hp⟩ => ?_
  subst he
  exact ChangeSpec.post_blind hp
/-- A law's contract, at whatever lies there. -/
theorem calls_lawF {f : FuncId} {args : List SV} {vs : List Value} {W : World} (h : Fc Tryz.prog gT f args (bS true)) (hg : GlF W) (ha : DenL (gAll W) (fun _ => ⟨0, none, 0⟩) args vs) :
    Calls Tryz.prog f vs.toArray W fun e W' => e = .returned (.bool true) ∧ OldSame W W' := by
  refine (h.2 _ (gAll W) vs (fun f hf => ?_) ha).mono ?_
  · rcases List.mem_singleton.1 hf with rfl
    exact ⟨W, hg, Below.refl _ _, fun b hb => hb⟩
  rintro e w' ⟨v, g', rfl, rfl, hE, dv⟩
  obtain rfl := den_v dv
  exact ⟨rfl, hE.os, hE.output, hE.size, fun b hb => hE.same b hb⟩
end Go.Proofs.YtomkgfdigldhcaaGreatDoor
namespace Go.KX
open Go.RowKit
section
variable {H : Type} {enc : TypeId × Value → H} {P : Program} {W : World}
theorem rd_bool {t : TypeId} (u : P.underlying t = some .bool) : Rd enc P W t (fun b : Bool => [.bool b]) (fun _ => True) := by
  intro fuel cs x h _
  cases fuel with
  | zero => cases h
  | succ fuel =>
    unfold DataW.trod at h
    rw [u] at h
    revert h
    split <;> intro h <;> first | (rename_i hq; cases hq; done) | (rename_i hq _; cases hq; done) | (cases h; done) | exact ⟨_, rfl, trivial⟩
theorem weightsEach_at : ∀ {ts : List TypeId} {ds : List (DataW H)}, (DataW.weightsEach P ts ds).all (· ≤ reachBytes) = true → ∀ (i : Nat) t d, ts[i]? = some t → ds[i]? = some d → Light P t d
  | [], _, _, i, t, d, h, _ => by simp at h
  | _ :: _, [], _, i, t, d, _, h => by simp at h
  | t :: ts, d :: ds, h, i, t', d', h1, h2 => by
    simp only [DataW.weightsEach, List.all_append, Bool.and_eq_true] at h
    cases i with
    | zero => simp at h1 h2; subst h1; subst h2; exact h.1
    | succ i => exact weightsEach_at h.2 i t' d' (by simpa using h1) (by simpa using h2)
/-- A struct that is handed in, field by field. -/
theorem open_struct {t : TypeId} {fs : Array Field} (u : P.underlying t = some (.struct fs)) {fuel : Nat} {cs : List Value} {x : DataW H × List MemPlace} (h : DataW.trod enc P W 0 (fun _ => true) true fuel t cs = some x) (hl : Light P t x.1) :
    cs.length = P.cellsOf t ∧ ∃ fuel' : Nat, ∀ (i : Nat) f, fs.toList[i]? = some f → ∃ y, DataW.trod enc P W 0 (fun _ => true) true fuel' f.type ((cs.drop f.offset).take (P.cellsOf f.type)) = some y ∧ Light P f.type y.1 := by
  cases fuel with
  | zero => cases h
  | succ fuel =>
    unfold DataW.trod at h
    rw [u] at h
    dsimp only at h
    split at h
    · rename_i hc
      refine ⟨hc, fuel, fun i f hf => ?_⟩
      simp only [Option.map_eq_some_iff] at h
      obtain ⟨xs, h1, rfl⟩ := h
      obtain ⟨y, i0, g0⟩ := mapM_at _ _ h1 i _ hf
      simp only [Light, DataW.weights, u] at hl
      exact ⟨y, g0, weightsEach_at hl i f.type y.1 (by rw [List.getElem?_map, hf]; rfl) (by rw [List.getElem?_map, i0]; rfl)⟩
    · cases h
theorem rd_part {t : TypeId} {fs : Array Field} {fuel' : Nat} {cs : List Value} (h : ∀ (i : Nat) f, fs.toList[i]? = some f → ∃ y : DataW H × List MemPlace, DataW.trod enc P W 0 (fun _ => true) true fuel' f.type ((cs.drop f.offset).take (P.cellsOf f.type)) = some y ∧ Light P f.type y.1)
    (i : Nat) {f : Field} (hf : fs.toList[i]? = some f) (ht : f.type = t) {α : Type} {e : α → List Value} {Q : α → Prop} (hr : Rd enc P W t e Q) : ∃ y, (cs.drop f.offset).take (P.cellsOf t) = e y ∧ Q y := by
  subst ht
  obtain ⟨y, h1, h2⟩ := h i f hf
  exact hr _ _ _ h1 h2
end
def elNd : El Nd := ⟨11, fun n => [str n.ref, .int .i64 n.kind, str n.source, str n.input, str n.how, .bool n.strict, .int .i64 n.low.k, .int .i64 n.low.n, .int .i64 n.high.k, .int .i64 n.high.n, str n.text], fun _ => rfl, by decide, fun n u h => by
  simp only [List.mem_cons, List.not_mem_nil, or_false] at h
  rcases h with h | h | h | h | h | h | h | h | h | h | h <;> subst h <;> rfl⟩
theorem denL_node {g : GW} {ρ : Nat → Lc} (n : Nd) : DenL g ρ (ndL n) (elNd.enc n) :=
  .cons .str <| .cons .v <| .cons .str <| .cons .str <| .cons .str <| .cons .v <| .cons .v <| .cons .v <| .cons .v <| .cons .v <| .cons .str .nil
theorem den_nodes {g : GW} {ρ : Nat → Lc} {ad : Option Addr} {c : Nat} {l : List Nd} (h : (SlM elNd ad c l).p g) : Den g ρ (rN l) (.slice ad l.length c) := by
  obtain ⟨h1, h2, h3⟩ := h
  have hm : (l.map ndL).length = l.length := List.length_map ..
  have := Den.s (g := g) (ρ := ρ) (sz := 11) (rows := l.map ndL) (ad := ad) (c := c) (flat elNd l) (by rw [hm]; exact h1) (by rw [hm]; exact h2) (by rw [hm, flat_len]; rfl)
    (fun r hr => by obtain ⟨n, _, rfl⟩ := List.mem_map.1 hr; rfl) ⟨flat_one elNd l, fun h => by cases h⟩ (fun hne => h3 (fun e => hne (by rw [e]; rfl)))
    (fun ρ' i j r sv x hi hj hx => by
      rw [List.getElem?_map] at hi
      cases hn : l[i]? with
      | none => rw [hn] at hi; cases hi
      | some n =>
        rw [hn] at hi
        cases hi
        obtain ⟨y, hy, hd⟩ := (denL_node (g := g) (ρ := ρ') n).get hj
        have hg := flat_get elNd l i j n y hn hy
        have e : x = y := Option.some.inj (hx.symm.trans hg)
        rw [e]; exact hd)
  rw [hm] at this
  exact this
end Go.KX
namespace Go.Proofs.YtomkgfdigldhcaaGreatDoor
open Go.ChangeShapes Go.WideShapes Go.ChangeAt Go.RowKit Go.KX
theorem notAggR {P : Program} {W : World} {r : Reach} {base : Nat} {t e : TypeId} {v : Value} (u : P.underlying t = some (.slice e)) (h : Value.okWide P W r base t v) : ∀ cs, v ≠ .agg cs := by
  intro cs hv
  subst hv
  simp [Value.okWide, Cell.okWide, u, Cell.ok] at h
structure NdQ (n : Nd) : Prop where
  ref : n.ref.length ≤ 140737488351232
  source : n.source.length ≤ 140737488351232
  input : n.input.length ≤ 140737488351232
  how : n.how.length ≤ 140737488351232
  text : n.text.length ≤ 140737488351232
  kind : (Lit.int .i64 n.kind).wf = true
  low : (Lit.int .i64 n.low.k).wf = true ∧ (Lit.int .i64 n.low.n).wf = true
  high : (Lit.int .i64 n.high.k).wf = true ∧ (Lit.int .i64 n.high.n).wf = true
set_option maxRecDepth 100000 in
theorem rd_val {H : Type} {enc : TypeId × Value → H} {W : World} : Rd enc Tryz.prog W 26 (fun v : Val => [.int .i64 v.k, .int .i64 v.n]) (fun v => (Lit.int .i64 v.k).wf = true ∧ (Lit.int .i64 v.n).wf = true) := by
  intro fuel cs x h hl
  obtain ⟨hc, fu, hp⟩ := open_struct Tryz.underlying26 h hl
  have c26 : Tryz.prog.cellsOf 26 = 2 := by kernel_rfl
  have c3 : Tryz.prog.cellsOf 3 = 1 := by kernel_rfl
  rw [c26] at hc
  obtain ⟨a, ea, qa⟩ := rd_part (t := 3) hp 0 rfl rfl (rd_int Tryz.underlying3)
  have c2 : Tryz.prog.cellsOf 2 = 1 := by kernel_rfl
  obtain ⟨b, eb, qb⟩ := rd_part (t := 2) hp 1 rfl rfl (rd_int Tryz.underlying2)
  rw [c3] at ea
  rw [c2] at eb
  match cs, hc with
  | [x, y], _ =>
    simp at ea eb
    subst ea; subst eb
    exact ⟨⟨a, b⟩, rfl, qa, qb⟩
set_option maxRecDepth 100000 in
/-- A node that is handed in. -/
theorem rd_node {H : Type} {enc : TypeId × Value → H} {W : World} : Rd enc Tryz.prog W 65 elNd.enc NdQ := by
  intro fuel cs x h hl
  obtain ⟨hc, fu, hp⟩ := open_struct Tryz.underlying65 h hl
  have c65 : Tryz.prog.cellsOf 65 = 11 := by kernel_rfl
  have c3 : Tryz.prog.cellsOf 3 = 1 := by kernel_rfl
  have c4 : Tryz.prog.cellsOf 4 = 1 := by kernel_rfl
  have c9 : Tryz.prog.cellsOf 9 = 1 := by kernel_rfl
  have c26 : Tryz.prog.cellsOf 26 = 2 := by kernel_rfl
  rw [c65] at hc
  obtain ⟨a0, e0, q0⟩ := rd_part (t := 9) hp 0 rfl rfl (rd_str Tryz.underlying9)
  obtain ⟨a1, e1, q1⟩ := rd_part (t := 3) hp 1 rfl rfl (rd_int Tryz.underlying3)
  obtain ⟨a2, e2, q2⟩ := rd_part (t := 9) hp 2 rfl rfl (rd_str Tryz.underlying9)
  obtain ⟨a3, e3, q3⟩ := rd_part (t := 9) hp 3 rfl rfl (rd_str Tryz.underlying9)
  obtain ⟨a4, e4, q4⟩ := rd_part (t := 9) hp 4 rfl rfl (rd_str Tryz.underlying9)
  obtain ⟨a5, e5, _⟩ := rd_part (t := 4) hp 5 rfl rfl (rd_bool Tryz.underlying4)
  obtain ⟨a6, e6, q6⟩ := rd_part (t := 26) hp 6 rfl rfl rd_val
  obtain ⟨a7, e7, q7⟩ := rd_part (t := 26) hp 7 rfl rfl rd_val
  obtain ⟨a8, e8, q8⟩ := rd_part (t := 9) hp 8 rfl rfl (rd_str Tryz.underlying9)
  rw [c9] at e0 e2 e3 e4 e8
  rw [c3] at e1
  rw [c4] at e5
  rw [c26] at e6 e7
  match cs, hc with
  | [x0, x1, x2, x3, x4, x5, x6, x7, x8, x9, x10], _ =>
    simp at e0 e1 e2 e3 e4 e5 e6 e7 e8
    obtain ⟨e60, e61⟩ := e6
    obtain ⟨e70, e71⟩ := e7
    subst e0; subst e1; subst e2; subst e3; subst e4; subst e5; subst e60; subst e61; subst e70; subst e71; subst e8
    exact ⟨⟨a0, a1, a2, a3, a4, a5, a6, a7, a8⟩, rfl, ⟨q0, q2, q3, q4, q8, q1, q6, q7⟩⟩
set_option maxRecDepth 100000 in
/-- Nodes that are handed in. -/
theorem rd_nodes {H : Type} {enc : TypeId × Value → H} {W : World} {v : Value} {d : DataW H} {ps : List MemPlace} (hv : ∀ cs, v ≠ .agg cs) (h : DataW.Trod enc Tryz.prog W 0 (fun _ => true) true 56 v d ps) (hl : Light Tryz.prog 56 d) :
    ∃ (ad : Option Addr) (c : Nat) (l : List Nd), v = .slice ad l.length c ∧ (∀ ρ, Den (gAll W) ρ (rN l) v) ∧ ∀ n ∈ l, NdQ n := by
  obtain ⟨y, hy1, hy2, hy3, hy4⟩ := rd_arg (rd_slice (E := elNd) Tryz.underlying56 (by kernel_rfl) rd_node) h hl
  have e := Go.KX.one_cell hy1 hv
  exact ⟨y.1, y.2.1, y.2.2, e, fun ρ => by rw [e]; exact den_nodes hy2, hy3⟩
theorem NdQ.w {n : Nd} (h : NdQ n) : wN n ≤ 703687441776640 := by
  have := h.ref; have := h.source; have := h.input; have := h.how; have := h.text
  unfold wN
  omega
end Go.Proofs.YtomkgfdigldhcaaGreatDoor
namespace Go.KX
theorem joined_of {P : Program} {f : FuncId} {fn : Func} {s : ChangeSpec} {c : OpenClaim} (g1 : laidOutB P = true) (g2 : mapsRowed P = true) (g3 : (P.stops == []) = true) (g4 : (P.stopKnobs == []) = true) (g5 : P.stopsHeard = true) (g6 : P.mayEnter = true) (g7 : (c.plainKeys == P.plainKeys) = true) (g8 : (c.lifted == P.liftsFinal) = true) (g9 : (P.make == some c.make) = true)
    (a1 : c.wf (OpenSpec.ofChange s) = true) (a2 : fn.params.all (P.readableRec ·) = true) (a3 : namedTie P c.named s.vars = true) (a4 : (c.stops == []) = true) (a5 : (c.knobs == []) = true)
    (b1 : (c.inPlace == P.inPlace f) = true) (b2 : (c.unfollowed == P.unfollowed f) = true) (b3 : (c.recurses == P.recurses f) = true) (b4 : (c.named == P.varsNamed f) = true)
    (c1 : (c.maps == (fn.params.toList ++ s.plain.varTypes P).any (P.mapsRec ·)) = true) (c2 : (c.ifaces == (fn.params.toList ++ s.plain.varTypes P).any (P.ifacesRec ·)) = true) (c3 : (c.mapsOut == P.mapsAmong fn.resultTypes.toList) = true) (c4 : (c.loops == (fn.params.toList ++ s.plain.varTypes P).any (P.loopsFrom ·)) = true) (c5 : (c.wideKeys == (fn.params.toList ++ s.plain.varTypes P ++ fn.resultTypes.toList).any (P.wideKeysFrom ·)) = true)
    (d1 : s.vars.all (P.varReadable ·) = true) (d2 : fn.resultTypes.all (fun t => P.readableRec t && decide (t < P.types.size)) = true) (d3 : (c.ifacesOut == fn.resultTypes.toList.any (P.ifacesRec ·)) = true) (d4 : (c.loopsOut == fn.resultTypes.toList.any (P.loopsFrom ·)) = true) (d5 : c.shortTexts.isNone = true)
    (d6 : (c.kinds == (if c.domain.isEmpty then [] else fn.params.toList.map fun t => match P.underlying t with | some (.int k) => some k | _ => none)) = true) (d7 : (c.pinned == c.pinnedBy) = true) (d8 : (c.veiled == (fn.params.toList ++ s.plain.varTypes P ++ fn.resultTypes.toList).any (P.veiledRec ·)) = true) (d9 : c.veiledFits P fn.params.toList (fn.params.toList ++ s.plain.varTypes P ++ fn.resultTypes.toList) = true) : joinedFacts P f fn s c = true := by
  unfold joinedFacts
  repeat' first | assumption | refine Bool.and_eq_true_iff.2 ⟨?_, ?_⟩
end Go.KX
