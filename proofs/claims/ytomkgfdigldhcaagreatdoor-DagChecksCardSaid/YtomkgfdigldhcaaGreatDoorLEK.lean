/- UC WI UD UE UF UG UH UI. -/
import Derived.Test.YtomkgfdigldhcaaGreatDoorLEJ
namespace Go.Proofs.YtomkgfdigldhcaaGreatDoor
open Go.KX
set_option maxRecDepth 100000 in
theorem rin_ok {l : List Bytes} {s : Bytes} : Fc Tryz.prog gT 73 [rB l, .str s] (bS (decide (s ∈ l))) := by
 refine fb tOK (fn := Tryz.f73) 18 [.tmp 4] Tryz.func73 Tryz.results73 (fun g0 B0 Q ρ0 R => ?_)
 refine elen 0 rfl (fun hl => ?_)
 rw [List.length_map] at hl
 refine en tOK 0 1 [] ?_
 refine sn tOK 0 1 [] ?_
 refine sl 0 ?_
 refine E_loop (σ := Nat) (fun j => j ≤ l.length ∧ ∀ x ∈ l.take j, decide (x = s) = false) (fun j => l.length - j)
   (fun j => [(0, rB l), (1, .str s), (5, nI j)])
   (fun j => []) 0 ?_ ?_
 ·exact ⟨Nat.zero_le _, by simp⟩
 ·rintro J j ⟨hj0, hj1⟩ hJ
  refine en tOK 0 4 [] ?_
  refine si 0 rfl rfl (fun h9 => ?_) (fun h9 => ?_)
  ·rw [List.length_map] at h9
   have hj : j < l.length := by omega
   refine en tOK 0 6 [[.str l[j]]] ?_ (hφ := by exact ⟨by omega, by simp [hj]⟩)
   refine si 0 rfl rfl (fun h17 => ?_) (fun h17 => ?_)
   ·have e : decide (s ∈ l) = true := decide_eq_true (h17 ▸ List.getElem_mem hj)
    refine en tOK 0 1 [] ?_
    refine sr 0 R ?_
    rw [e]; rfl
   ·have hx : decide (l[j] = s) = false := by simpa using h17
    refine en tOK 0 3 [] ?_
    refine sl 0 ?_
    exact hJ (j + 1) ⟨by omega, take_next hj hj1 hx⟩ (by omega)
  ·rw [List.length_map] at h9
   have e : decide (s ∈ l) = false := decide_eq_false (fun hm => by have := hj1 s (by rw [List.take_of_length_le (by omega)]; exact hm); simp at this)
   refine en tOK 0 1 [] ?_
   refine sr 0 R ?_
   rw [e]; rfl
set_option maxRecDepth 100000 in
theorem rfind_ok {l : List Nd} {q : Bytes} : Fc Tryz.prog gT 79 [rN l, .str q] (nI (findD l q)) := by
 refine fb tOK (fn := Tryz.f79) 20 [.tmp 4] Tryz.func79 Tryz.results79 (fun g0 B0 Q ρ0 R => ?_)
 refine elen 0 rfl (fun hl => ?_)
 rw [List.length_map] at hl
 refine en tOK 0 1 [] ?_
 refine sn tOK 0 1 [] ?_
 refine sl 0 ?_
 refine E_loop (σ := Nat) (fun j => j ≤ l.length ∧ ∀ x ∈ l.take j, decide (x.ref = q) = false) (fun j => l.length - j)
   (fun j => [(0, rN l), (1, .str q), (5, nI j)])
   (fun j => []) 0 ?_ ?_
 ·exact ⟨Nat.zero_le _, by simp⟩
 ·rintro J j ⟨hj0, hj1⟩ hJ
  refine en tOK 0 4 [] ?_
  refine si 0 rfl rfl (fun h9 => ?_) (fun h9 => ?_)
  ·rw [List.length_map] at h9
   have hj : j < l.length := by omega
   refine en tOK 0 7 [ndL l[j]] ?_ (hφ := by exact ⟨by omega, by simpa using rN_get hj⟩)
   refine si 0 rfl rfl (fun h18 => ?_) (fun h18 => ?_)
   ·have e : findD l q = j := idxF_some (p := fun x : Nd => decide (x.ref = q)) hj hj1 (by simpa using h18)
    refine en tOK 0 2 [] ?_
    refine sr 0 R ?_
    rw [e]; rfl
   ·have hx : decide (l[j].ref = q) = false := by simpa using h18
    refine en tOK 0 3 [] ?_
    refine sl 0 ?_
    exact hJ (j + 1) ⟨by omega, take_next hj hj1 hx⟩ (by omega)
  ·rw [List.length_map] at h9
   have e : findD l q = -1 := idxF_none (p := fun x : Nd => decide (x.ref = q)) (fun x hx => hj1 x (by rw [List.take_of_length_le (by omega)]; exact hx))
   refine en tOK 0 1 [] ?_
   refine sr 0 R ?_
   rw [e]; rfl
set_option maxRecDepth 100000 in
theorem rtwice_ok {l : List Nd} : Fc Tryz.prog gT 72 [rN l] (bS (!okN l)) := by
 refine fb tOK (fn := Tryz.f72) 19 [.tmp 2] Tryz.func72 Tryz.results72 (fun g0 B0 Q ρ0 R => ?_)
 refine elen 0 rfl (fun hl => ?_)
 rw [List.length_map] at hl
 refine en tOK 0 1 [] ?_
 refine sn tOK 0 1 [] ?_
 refine sl 0 ?_
 refine E_loop (σ := Nat) (fun j => j ≤ l.length ∧ ∀ (i : Nat) (hi : i < l.length), i < j → findD l l[i].ref = i) (fun j => l.length - j)
   (fun j => [(0, rN l), (3, nI j)])
   (fun j => []) 0 ?_ ?_
 ·exact ⟨Nat.zero_le _, fun i hi h => by omega⟩
 ·rintro J j ⟨hj0, hj1⟩ hJ
  refine en tOK 0 4 [] ?_
  refine si 0 rfl rfl (fun h7 => ?_) (fun h7 => ?_)
  ·rw [List.length_map] at h7
   have hj : j < l.length := by omega
   refine en tOK 0 6 [ndL l[j]] ?_ (hφ := by exact ⟨by omega, by simpa using rN_get hj⟩)
   refine fc tOK 2 [] (rfind_ok (l := l) (q := l[j].ref)) ?_
   refine si 0 rfl rfl (fun h18 => ?_) (fun h18 => ?_)
   ·have e : okN l = false := twice_yes hj h18
    refine en tOK 0 1 [] ?_
    refine sr 0 R ?_
    rw [e]; rfl
   ·have hx : findD l l[j].ref = j := Decidable.not_not.1 h18
    refine en tOK 0 3 [] ?_
    refine sl 0 ?_
    exact hJ (j + 1) ⟨by omega, fun i hi h => by
     by_cases hij : i < j
     · exact hj1 i hi hij
     · obtain rfl : i = j := by omega
       exact hx⟩ (by omega)
  ·rw [List.length_map] at h7
   have e : okN l = true := twice_no (fun i hi => hj1 i hi (by omega))
   refine en tOK 0 1 [] ?_
   refine sr 0 R ?_
   rw [e]; rfl
set_option maxRecDepth 100000 in
theorem raddB_ok {l : List Bytes} {s : Bytes} (hl : l.length ≤ 1000000) : Fc Tryz.prog gT 82 [rB l, .str s] (rB (addB l s)) := by
 refine fb tOK (fn := Tryz.f82) 45 [.tmp 4] Tryz.func82 Tryz.results82 (fun g0 B0 Q ρ0 R => ?_)
 refine en tOK 0 1 [] ?_
 refine sn tOK 0 1 [] ?_
 refine sl 0 ?_
 refine E_loop (σ := Nat) (fun j => j ≤ l.length ∧ ∀ x ∈ l.take j, blt x s = true) (fun j => l.length - j)
   (fun j => [(0, rB l), (1, .str s), (5, nI j)])
   (fun j => []) 0 ?_ ?_
 ·exact ⟨Nat.zero_le _, by simp⟩
 ·rintro J j ⟨hj0, hj1⟩ hJ
  refine en tOK 0 12 [[.str (l.getD j [])]] ?_ (hφ := by exact ⟨id, id, id, id, fun hg => ⟨by omega, rB_getD hg⟩, id, id⟩)
  refine sib 0 rfl rfl (fun h17 => ?_) (fun h17 => ?_)
  ·obtain ⟨hj, hg⟩ := rB_and h17
   have hlt : blt l[j] s = true := by rw [List.getD_eq_getElem?_getD, List.getElem?_eq_getElem hj] at hg; exact hg
   refine en tOK 0 3 [] ?_
   refine sl 0 ?_
   exact hJ (j + 1) ⟨by omega, fun x hx => by
    rw [List.take_succ_eq_append_getElem hj] at hx
    rcases List.mem_append.1 hx with hx | hx
    · exact hj1 x hx
    · simp only [List.mem_singleton] at hx; rw [hx]; exact hlt⟩ (by omega)
  ·have hge : ∀ h : j < l.length, blt l[j] s = false := fun h => by
    have := rB_andF h17 h
    rw [List.getD_eq_getElem?_getD, List.getElem?_eq_getElem h] at this
    exact this
   have e := add_at hj0 hj1 hge
   refine en tOK 0 12 [[.str (l.getD j [])]] ?_ (hφ := by exact ⟨id, id, id, id, fun hg => ⟨by omega, rB_getD hg⟩, id, id⟩)
   refine sib 0 rfl rfl (fun h31 => ?_) (fun h31 => ?_)
   ·obtain ⟨hj, hg⟩ := rB_and h31
    have hq : l[j] = s := by
     rw [List.getD_eq_getElem?_getD, List.getElem?_eq_getElem hj] at hg
     exact of_decide_eq_true hg
    rw [dif_pos hj, if_pos hq] at e
    refine en tOK 0 2 [] ?_
    refine sr 0 R ?_
    rw [e]; rfl
   ·have hq : ∀ h : j < l.length, l[j] ≠ s := fun h => by
     have := rB_andF h31 h
     rw [List.getD_eq_getElem?_getD, List.getElem?_eq_getElem h] at this
     exact of_decide_eq_false this
    have e2 : addB l s = l.take j ++ s :: l.drop j := add_new e hj0 hq
    have hjl : j ≤ (rowsB l).length := by rw [List.length_map]; exact hj0
    refine edr 0 2193 [0, 0, 0, 6, 15, 0, 32, 127, 0, 0, 768, 2047, 4095] [0, 1, 2, 3, 4, 5, 6, 7, 8, 9, 10, 11, 12] ?_
    refine dbl0 tOK 2 [] ?_
    refine dct tOK j 0 [] rfl hjl ?_
    refine dap tOK (rows := []) 2 [] rfl (fun _ => rfl) ?_ ?_
    ·show ((0 : Nat) + _) * 16 ≤ _
     simp only [List.length_take, List.length_map]
     omega
    refine dap tOK 2 [] rfl (fun _ => rfl) ?_ ?_
    ·show (_ + 1) * 16 ≤ _
     simp only [List.length_append, List.length_nil, List.length_take, List.length_map]
     omega
    refine dtl tOK j 0 [] rfl hjl ?_
    refine dap tOK 1 [] rfl (fun _ => rfl) ?_ ?_
    ·show (_ + _) * 16 ≤ _
     simp only [List.length_append, List.length_nil, List.length_cons, List.length_take, List.length_drop, List.length_map]
     omega
    refine xe ?_
    refine smb 44 (mb' := .r 9 1 (rowsB (addB l s))) ?_ ?_
    ·rw [e2]; simp [cellsV]
    refine sas 4 rfl (v' := .o 44 (rowsB (addB l s)).length) (by rw [e2]; simp) ?_
    refine sezo 4 ?_ ?_ (hr := rowsB_len)
    ·rfl
    refine sr 0 R ?_
    rfl
end Go.Proofs.YtomkgfdigldhcaaGreatDoor
namespace Go.Proofs.YtomkgfdigldhcaaGreatDoor
open Go.KX
theorem digI {p : Int} {x : Nat} {r : SV} (hp : p = x) (h : Fc Tryz.prog gT 92 [nI x] r) : Fc Tryz.prog gT 92 [nI p] r := by
  subst hp
  exact h
set_option maxRecDepth 100000 in
theorem rdigits_ok (n : Nat) (hn : n < 10000000000000000) : Fc Tryz.prog gT 92 [nI n] (.str (Lib.decDigits n)) := by
 induction n using Nat.strongRecOn
 rename_i n ih
 refine fb tOK (fn := Tryz.f92) 19 [.tmp 2] Tryz.func92 Tryz.results92 (fun g0 B0 Q ρ0 R => ?_)
 refine en tOK 0 1 [] ?_
 refine sn tOK 0 2 [] ?_
 refine si 0 rfl rfl (fun h4 => ?_) (fun h4 => ?_)
 ·have e := dec_one (n := n) (by omega)
  refine en tOK 0 5 [] ?_
  refine sr 0 R ?_
  first | (simp only [em]; rw [show (((n % 10 : Nat) : Int) + 1).toNat - ((n % 10 : Nat) : Int).toNat = 1 by omega, e]; rfl) | (rw [show ((n : Int) + 1).toNat - (n : Int).toNat = 1 by omega, e]; rfl)
 ·have e := dec_more (n := n) (by omega)
  have hlen := dec_len (n := n / 10) (by omega)
  have ed : ((n : Int)).tdiv 10 = ((n / 10 : Nat) : Int) := by rw [show (10 : Int) = ((10 : Nat) : Int) from rfl, ← Int.ofNat_tdiv]
  have em : ((n : Int)).tmod 10 = ((n % 10 : Nat) : Int) := by rw [show (10 : Int) = ((10 : Nat) : Int) from rfl, ← Int.ofNat_tmod]
  refine edr 0 0 [0, 1, 3, 0, 8, 0, 32, 96, 248, 511, 1023] [0, 1, 2, 3, 4, 5, 6, 7, 8, 9, 10] ?_
  refine xd tOK 2 [] ?_
  refine dc tOK 8 [] (digI (p := IntKind.wrap .i64 ((n : Int).tdiv 10)) (by rw [ed]; exact wrap_i64 (by omega) (by omega)) (ih (n / 10) (by omega) (by omega))) ?_
  refine xe ?_
  refine sr 0 R ?_
  first | (simp only [em]; rw [show (((n % 10 : Nat) : Int) + 1).toNat - ((n % 10 : Nat) : Int).toNat = 1 by omega, e]; rfl) | (rw [show ((n : Int) + 1).toNat - (n : Int).toNat = 1 by omega, e]; rfl)
set_option maxRecDepth 100000 in
theorem rprint0_ok {v : Val} (h0 : 0 ≤ v.n) : Fc Tryz.prog gT 47 [vS v] (.str (printV v)) := by
 refine fb tOK (fn := Tryz.f47) 57 [.tmp 2] Tryz.func47 Tryz.results47 (fun g0 B0 Q ρ0 R => ?_)
 refine en tOK 0 2 [] ?_
 refine sn tOK 0 1 [] ?_
 refine fc tOK 1 [] (ris_ok) ?_
 refine sib 0 rfl rfl (fun h8 => ?_) (fun h8 => ?_)
 ·have e : printV v = [] := by unfold printV; rw [if_pos (by simpa using h8)]
  refine en tOK 0 1 [] ?_
  refine sr 0 R ?_
  rw [e]; rfl
 ·have hv : isV v = true := by simpa using h8
  have hnn := isV_n hv
  refine en tOK 0 2 [] ?_
  refine sn tOK 0 2 [] ?_
  refine si 0 rfl rfl (fun h11 => ?_) (fun h11 => ?_)
  ·have e : printV v = [110, 117, 108, 108] := by unfold printV; rw [if_neg (by simp [hv]), if_pos h11]
   refine en tOK 0 1 [] ?_
   refine sr 0 R ?_
   rw [e]; rfl
  ·refine en tOK 0 2 [] ?_
   refine si 0 rfl rfl (fun h13 => ?_) (fun h13 => ?_)
   ·have e : printV v = [78, 97, 78] := by unfold printV; rw [if_neg (by simp [hv]), if_neg h11, if_pos h13]
    refine en tOK 0 1 [] ?_
    refine sr 0 R ?_
    rw [e]; rfl
   ·refine en tOK 0 2 [] ?_
    refine si 0 rfl rfl (fun h15 => ?_) (fun h15 => ?_)
    ·have e : printV v = [43, 73, 110, 102] := by unfold printV; rw [if_neg (by simp [hv]), if_neg h11, if_neg h13, if_pos h15]
     refine en tOK 0 1 [] ?_
     refine sr 0 R ?_
     rw [e]; rfl
    ·refine en tOK 0 2 [] ?_
     refine si 0 rfl rfl (fun h17 => ?_) (fun h17 => ?_)
     ·have e : printV v = [45, 73, 110, 102] := by unfold printV; rw [if_neg (by simp [hv]), if_neg h11, if_neg h13, if_neg h15, if_pos h17]
      refine en tOK 0 1 [] ?_
      refine sr 0 R ?_
      rw [e]; rfl
     ·have hm : printV v = if v.n < 0 then 45 :: magV v.n.natAbs else magV v.n.natAbs := by unfold printV; rw [if_neg (by simp [hv]), if_neg h11, if_neg h13, if_neg h15, if_neg h17]
      refine en tOK 0 3 [] ?_
      refine si 0 rfl rfl (fun h21 => ?_) (fun h21 => ?_)
      ·exact absurd h21 (by omega)
      ·obtain ⟨N, hN⟩ : ∃ N : Nat, v.n = N := ⟨v.n.toNat, by omega⟩
       have e0 : printV v = magV N := by rw [hm, if_neg h21, hN]; rfl
       have ed : ((N : Int)).tdiv 1000 = ((N / 1000 : Nat) : Int) := by rw [show (1000 : Int) = ((1000 : Nat) : Int) from rfl, ← Int.ofNat_tdiv]
       have em : ((N : Int)).tmod 1000 = ((N % 1000 : Nat) : Int) := by rw [show (1000 : Int) = ((1000 : Nat) : Int) from rfl, ← Int.ofNat_tmod]
       have hlen1 := dec_len (n := N / 1000) (by omega)
       refine en tOK 0 3 [] ?_
       refine fc tOK 1 [] (digI (p := IntKind.wrap .i64 (v.n.tdiv 1000)) (x := N / 1000) (by rw [hN, ed]; exact wrap_i64 (by omega) (by omega)) (rdigits_ok _ (by omega))) ?_
       refine sn tOK 0 4 [] ?_
       refine sas 4 rfl (v' := nI ((N % 1000 : Nat) : Int)) ?_ ?_
       ·rw [hN, em]
       refine sn tOK 0 2 [] ?_
       refine si 0 rfl rfl (fun h36 => ?_) (fun h36 => ?_)
       ·have e : printV v = Lib.decDigits (N / 1000) := by rw [e0]; unfold magV fracV; rw [if_pos (by omega), List.append_nil]
        refine en tOK 0 2 [] ?_
        refine sr 0 R ?_
        rw [e]; rfl
       ·have hr : N % 1000 ≠ 0 := by omega
        have hl4 : (Lib.decDigits (1000 + N % 1000)).length = 4 := by have := congrArg List.length (dec4 (r := N % 1000) (by omega)); simp at this; omega
        refine en tOK 0 2 [] ?_
        refine fc tOK 2 [] (digI (p := 1000 + ((N % 1000 : Nat) : Int)) (x := 1000 + N % 1000) (by omega) (rdigits_ok _ (by omega))) ?_
        refine sl 0 ?_
        refine E_loop (σ := Bytes) (fun t => Lib.trimRightB t 48 = Lib.trimRightB ((Lib.decDigits (1000 + N % 1000)).drop 1) 48 ∧ Lib.trimRightB t 48 ≠ [] ∧ t.length ≤ 3) (fun t => t.length)
          (fun t => [(1, .l 1 0), (3, .str (Lib.decDigits (N / 1000))), (5, .str t)])
          (fun t => [(1, .c 26 [nI v.k, nI v.n])]) ((Lib.decDigits (1000 + N % 1000)).drop 1) ?_ ?_
        ·exact ⟨rfl, frac_ne hr (by omega), by simp; omega⟩
        ·rintro J t ⟨ht1, ht2, ht3⟩ hJ
         have hp := trim_pos ht2
         have ei : ((t.length : Int) - 1).toNat = t.length - 1 := by omega
         refine en tOK 0 6 [] ?_
         refine si 0 rfl rfl (fun h47 => ?_) (fun h47 => ?_)
         ·have hd := trim_drop hp (UInt8.toNat_inj.1 (by have := h47; rw [ei] at this; exact Int.ofNat.inj this))
          refine en tOK 0 6 [] ?_
          refine eas 5 rfl (v' := .str (t.take (t.length - 1))) ?_ ?_
          ·rw [ei]
          exact hJ (t.take (t.length - 1)) ⟨by rw [← hd]; exact ht1, by rw [← hd]; exact ht2, by simp; omega⟩ (by simp; omega)
         ·have hs := trim_stay hp (fun hh => h47 (by rw [ei, hh]; rfl))
          have e : printV v = Lib.decDigits (N / 1000) ++ [46] ++ t := by rw [e0]; unfold magV fracV; rw [if_neg hr, ← ht1, hs]; simp
          refine en tOK 0 5 [] ?_
          refine sr 0 R ?_
          rw [e]; rfl
set_option maxRecDepth 100000 in
theorem rprint_ok {v : Val} : Fc Tryz.prog gT 47 [vS v] (.str (printV v)) := by
 refine fb tOK (fn := Tryz.f47) 57 [.tmp 2] Tryz.func47 Tryz.results47 (fun g0 B0 Q ρ0 R => ?_)
 refine en tOK 0 2 [] ?_
 refine sn tOK 0 1 [] ?_
 refine fc tOK 1 [] (ris_ok) ?_
 refine sib 0 rfl rfl (fun h8 => ?_) (fun h8 => ?_)
 ·have e : printV v = [] := by unfold printV; rw [if_pos (by simpa using h8)]
  refine en tOK 0 1 [] ?_
  refine sr 0 R ?_
  rw [e]; rfl
 ·have hv : isV v = true := by simpa using h8
  have hnn := isV_n hv
  refine en tOK 0 2 [] ?_
  refine sn tOK 0 2 [] ?_
  refine si 0 rfl rfl (fun h11 => ?_) (fun h11 => ?_)
  ·have e : printV v = [110, 117, 108, 108] := by unfold printV; rw [if_neg (by simp [hv]), if_pos h11]
   refine en tOK 0 1 [] ?_
   refine sr 0 R ?_
   rw [e]; rfl
  ·refine en tOK 0 2 [] ?_
   refine si 0 rfl rfl (fun h13 => ?_) (fun h13 => ?_)
   ·have e : printV v = [78, 97, 78] := by unfold printV; rw [if_neg (by simp [hv]), if_neg h11, if_pos h13]
    refine en tOK 0 1 [] ?_
    refine sr 0 R ?_
    rw [e]; rfl
   ·refine en tOK 0 2 [] ?_
    refine si 0 rfl rfl (fun h15 => ?_) (fun h15 => ?_)
    ·have e : printV v = [43, 73, 110, 102] := by unfold printV; rw [if_neg (by simp [hv]), if_neg h11, if_neg h13, if_pos h15]
     refine en tOK 0 1 [] ?_
     refine sr 0 R ?_
     rw [e]; rfl
    ·refine en tOK 0 2 [] ?_
     refine si 0 rfl rfl (fun h17 => ?_) (fun h17 => ?_)
     ·have e : printV v = [45, 73, 110, 102] := by unfold printV; rw [if_neg (by simp [hv]), if_neg h11, if_neg h13, if_neg h15, if_pos h17]
      refine en tOK 0 1 [] ?_
      refine sr 0 R ?_
      rw [e]; rfl
     ·have hm : printV v = if v.n < 0 then 45 :: magV v.n.natAbs else magV v.n.natAbs := by unfold printV; rw [if_neg (by simp [hv]), if_neg h11, if_neg h13, if_neg h15, if_neg h17]
      refine en tOK 0 3 [] ?_
      refine si 0 rfl rfl (fun h21 => ?_) (fun h21 => ?_)
      ·have h1 : v.k = 1 := by rcases isV_cases hv with ⟨h, _⟩ | rfl | rfl | rfl | rfl <;> first | exact h | exact absurd h21 (by decide)
       have hq : numV (0 - v.n) = ⟨1, 0 - v.n⟩ := numV_in (by omega) (by omega)
       have hlp := print_len (numV (0 - v.n))
       have e : printV v = [45] ++ printV (numV (0 - v.n)) := by rw [hm, if_pos h21, hq, print_pos (by omega) (by omega)]; congr 2; omega
       refine en tOK 0 3 [] ?_
       refine fc tOK 0 [] (rnum_ok) ?_
       refine fc tOK 2 [] (rprint0_ok (v := numV (0 - v.n)) (by rw [hq]; show 0 ≤ 0 - v.n; omega)) ?_ (hφ := by exact Nat.le_trans (Nat.add_le_add_left hlp 1) (by decide))
       refine sr 0 R ?_
       rw [e]; rfl
      ·obtain ⟨N, hN⟩ : ∃ N : Nat, v.n = N := ⟨v.n.toNat, by omega⟩
       have e0 : printV v = magV N := by rw [hm, if_neg h21, hN]; rfl
       have ed : ((N : Int)).tdiv 1000 = ((N / 1000 : Nat) : Int) := by rw [show (1000 : Int) = ((1000 : Nat) : Int) from rfl, ← Int.ofNat_tdiv]
       have em : ((N : Int)).tmod 1000 = ((N % 1000 : Nat) : Int) := by rw [show (1000 : Int) = ((1000 : Nat) : Int) from rfl, ← Int.ofNat_tmod]
       have hlen1 := dec_len (n := N / 1000) (by omega)
       refine en tOK 0 3 [] ?_
       refine fc tOK 1 [] (digI (p := IntKind.wrap .i64 (v.n.tdiv 1000)) (x := N / 1000) (by rw [hN, ed]; exact wrap_i64 (by omega) (by omega)) (rdigits_ok _ (by omega))) ?_
       refine sn tOK 0 4 [] ?_
       refine sas 4 rfl (v' := nI ((N % 1000 : Nat) : Int)) ?_ ?_
       ·rw [hN, em]
       refine sn tOK 0 2 [] ?_
       refine si 0 rfl rfl (fun h36 => ?_) (fun h36 => ?_)
       ·have e : printV v = Lib.decDigits (N / 1000) := by rw [e0]; unfold magV fracV; rw [if_pos (by omega), List.append_nil]
        refine en tOK 0 2 [] ?_
        refine sr 0 R ?_
        rw [e]; rfl
       ·have hr : N % 1000 ≠ 0 := by omega
        have hl4 : (Lib.decDigits (1000 + N % 1000)).length = 4 := by have := congrArg List.length (dec4 (r := N % 1000) (by omega)); simp at this; omega
        refine en tOK 0 2 [] ?_
        refine fc tOK 2 [] (digI (p := 1000 + ((N % 1000 : Nat) : Int)) (x := 1000 + N % 1000) (by omega) (rdigits_ok _ (by omega))) ?_
        refine sl 0 ?_
        refine E_loop (σ := Bytes) (fun t => Lib.trimRightB t 48 = Lib.trimRightB ((Lib.decDigits (1000 + N % 1000)).drop 1) 48 ∧ Lib.trimRightB t 48 ≠ [] ∧ t.length ≤ 3) (fun t => t.length)
          (fun t => [(1, .l 1 0), (3, .str (Lib.decDigits (N / 1000))), (5, .str t)])
          (fun t => [(1, .c 26 [nI v.k, nI v.n])]) ((Lib.decDigits (1000 + N % 1000)).drop 1) ?_ ?_
        ·exact ⟨rfl, frac_ne hr (by omega), by simp; omega⟩
        ·rintro J t ⟨ht1, ht2, ht3⟩ hJ
         have hp := trim_pos ht2
         have ei : ((t.length : Int) - 1).toNat = t.length - 1 := by omega
         refine en tOK 0 6 [] ?_
         refine si 0 rfl rfl (fun h47 => ?_) (fun h47 => ?_)
         ·have hd := trim_drop hp (UInt8.toNat_inj.1 (by have := h47; rw [ei] at this; exact Int.ofNat.inj this))
          refine en tOK 0 6 [] ?_
          refine eas 5 rfl (v' := .str (t.take (t.length - 1))) ?_ ?_
          ·rw [ei]
          exact hJ (t.take (t.length - 1)) ⟨by rw [← hd]; exact ht1, by rw [← hd]; exact ht2, by simp; omega⟩ (by simp; omega)
         ·have hs := trim_stay hp (fun hh => h47 (by rw [ei, hh]; rfl))
          have e : printV v = Lib.decDigits (N / 1000) ++ [46] ++ t := by rw [e0]; unfold magV fracV; rw [if_neg hr, ← ht1, hs]; simp
          refine en tOK 0 5 [] ?_
          refine sr 0 R ?_
          rw [e]; rfl
end Go.Proofs.YtomkgfdigldhcaaGreatDoor
namespace Go.Proofs.YtomkgfdigldhcaaGreatDoor
open Go.KX
set_option maxRecDepth 100000 in
theorem letter_ok {c : UInt8} {n : Int} (hn : n = (c.toNat : Int)) : Fc Tryz.prog gT 208 [.v (.int .u8 n)] (bS (decide (c ∈ gLet))) := by
 refine fb tOK (fn := Tryz.f208) 21 [.tmp 2] Tryz.func208 Tryz.results208 (fun g0 B0 Q ρ0 R => ?_)
 subst hn
 refine en tOK 0 1 [] ?_
 refine sn tOK 0 19 [] ?_
 refine sr 0 R ?_
 exact congrArg (fun b => SV.v (.bool b)) (letter_eq c)
set_option maxRecDepth 100000 in
theorem digit_ok {c : UInt8} {n : Int} (hn : n = (c.toNat : Int)) : Fc Tryz.prog gT 209 [.v (.int .u8 n)] (bS (decide (c ∈ gDig))) := by
 refine fb tOK (fn := Tryz.f209) 9 [.tmp 2] Tryz.func209 Tryz.results209 (fun g0 B0 Q ρ0 R => ?_)
 subst hn
 refine en tOK 0 1 [] ?_
 refine sn tOK 0 7 [] ?_
 refine sr 0 R ?_
 exact congrArg (fun b => SV.v (.bool b)) (digit_eq c)
set_option maxRecDepth 100000 in
theorem rcall2_ok {o : Bytes} {x y : Ex} : Fc Tryz.prog gT 95 [.str o, .s 5 [exL x, exL y]] (exS (exC o [x, y])) := by
 refine fb tOK (fn := Tryz.f95) 8 [.cell 4 29] Tryz.func95 Tryz.results95 (fun g0 B0 Q ρ0 R => ?_)
 refine en tOK 0 1 [] ?_
 refine sn tOK 0 4 [] ?_
 refine sr 0 R ?_
 rw [ex_pair]; rfl
set_option maxRecDepth 100000 in
theorem rcall1_ok {o : Bytes} {x : Ex} : Fc Tryz.prog gT 95 [.str o, .s 5 [exL x]] (exS (exC o [x])) := by
 refine fb tOK (fn := Tryz.f95) 8 [.cell 4 29] Tryz.func95 Tryz.results95 (fun g0 B0 Q ρ0 R => ?_)
 refine en tOK 0 1 [] ?_
 refine sn tOK 0 4 [] ?_
 refine sr 0 R ?_
 rw [ex_one]; rfl
set_option maxRecDepth 100000 in
theorem rfunction_ok {w : Bytes} : Fc Tryz.prog gT 341 [.str w] (bS (functionB w)) := by
 refine fb tOK (fn := Tryz.f341) 25 [.tmp 2] Tryz.func341 Tryz.results341 (fun g0 B0 Q ρ0 R => ?_)
 refine en tOK 0 1 [] ?_
 refine sn tOK 0 23 [] ?_
 refine sr 0 R ?_
 refine congrArg (fun b => SV.v (.bool b)) ?_
 unfold functionB
 simp only [List.mem_cons, List.not_mem_nil, or_false, Bool.decide_or, Bool.or_assoc]
set_option maxRecDepth 100000 in
theorem dfail_ok {s : Bytes} {p : Pd} {er a : Int} : Fp Tryz.prog gT 52 [.l 1000 0, nI er, nI a] (psD s p) (.t []) (psD s (p.fail er a)) := by
 refine fpb tOK (fn := Tryz.f52) 19 [] Tryz.func52 Tryz.results52 (fun g0 B0 Q ρ0 R => ?_)
 refine en tOK 0 5 [] ?_
 refine si 0 rfl rfl (fun h10 => ?_) (fun h10 => ?_)
 ·have ef : p.fail er a = ⟨p.i, er, a⟩ := by unfold Pd.fail; rw [if_pos h10]
  refine en tOK 0 5 [] ?_
  refine sn tOK 0 5 [] ?_
  refine sfp 0 R ?_
  exact ⟨rfl, by rw [ef] <;> rfl⟩
 ·have ef : p.fail er a = p := by unfold Pd.fail; rw [if_neg h10]
  refine efp 0 R ?_
  exact ⟨rfl, by rw [ef] <;> rfl⟩
set_option maxRecDepth 100000 in
theorem dblanks_ok {s : Bytes} {p : Pd} (hi : p.i ≤ s.length) (hs : s.length ≤ 1024) : Fp Tryz.prog gT 51 [.l 1000 0] (psD s p) (.t []) (psD s (p.blanks s)) := by
 refine fpb tOK (fn := Tryz.f51) 31 [] Tryz.func51 Tryz.results51 (fun g0 B0 Q ρ0 R => ?_)
 refine el 0 ?_
 refine E_loop (σ := Nat) (fun k => p.i + k ≤ s.length ∧ ∀ x ∈ (s.drop p.i).take k, x ∈ ([32] : Bytes)) (fun k => s.length - k)
   (fun k => [(0, .l 1000 0)])
   (fun k => [(1000, psD s { p with i := p.i + k })]) 0 ?_ ?_
 ·exact ⟨by omega, by simp⟩
 ·rintro J k ⟨hk0, hk1⟩ hK
  refine edr 0 0 [0, 1, 3, 7, 0, 16, 48, 112, 240, 511, 1023, 2047, 4095, 8191, 16383, 2047, 34815, 100351, 231423, 524287, 1048575, 2097151] [0, 1, 2, 3, 4, 5, 6, 7, 8, 9, 10, 11, 12, 13, 14, 15, 16, 17, 18, 19, 20, 21] ?_
  refine xd tOK 22 [] ?_ (hφ := by (repeat' refine And.intro ?_ ?_) <;> first | exact id | trivial | (intro hg; have hg := of_decide_eq_true hg; refine ⟨?_, ?_⟩ <;> first | omega | exact Int.natCast_nonneg _))
  refine xe ?_
  refine sib 0 rfl rfl (fun h23 => ?_) (fun h23 => ?_)
  ·simp only [Bool.and_eq_true, decide_eq_true_eq] at h23
   obtain ⟨q1, q2⟩ := h23
   have hlt : p.i + k < s.length := by omega
   have h32 : s.getD (p.i + k) 0 = 32 := UInt8.toNat_inj.1 (Int.ofNat.inj q2)
   refine en tOK 0 8 [] ?_
   refine sl 0 ?_
   refine emb 1000 (mb' := psD s { p with i := p.i + (k + 1) }) ?_ ?_
   ·exact congrArg (fun z : Int => MB.c 101 [.str s, nI z, nI p.e, nI p.at_]) (by show ((p.i + k : Nat) : Int) + 1 = ((p.i + (k + 1) : Nat) : Int); omega)
   exact hK (k + 1) ⟨by omega, fun x hx => by
    have hkl : k < (s.drop p.i).length := by rw [List.length_drop]; omega
    rw [List.take_succ_eq_append_getElem hkl] at hx
    rcases List.mem_append.1 hx with hx | hx
    · exact hk1 x hx
    · simp only [List.mem_singleton] at hx
      rw [hx, drop_getD (by omega), h32]; simp⟩ (by omega)
  ·have e : p.blanks s = { p with i := p.i + k } := by
    unfold Pd.blanks
    rw [runB_at (k := k) (by rw [List.length_drop]; omega) hk1 (fun hh hm => ?_)]
    rw [List.length_drop] at hh
    rw [drop_getD (by omega), List.mem_singleton] at hm
    rcases Bool.and_eq_false_iff.1 h23 with q | q
    · have q := of_decide_eq_false q
      exact q (by show ((p.i + k : Nat) : Int) < (s.length : Int); omega)
    · exact of_decide_eq_false q (by show ((s.getD (p.i + k) 0).toNat : Int) = 32; rw [hm]; rfl)
   refine efp 0 R ?_
   exact ⟨rfl, by rw [e] <;> rfl⟩
set_option maxRecDepth 100000 in
theorem dsign_ok {s : Bytes} {p : Pd} (hi : p.i ≤ s.length) (hs : s.length ≤ 1024) : Fp Tryz.prog gT 142 [.l 1000 0] (psD s p) (.str ((signD s p).getD [])) (psD s (p.blanks s)) := by
 refine fpb tOK (fn := Tryz.f142) 65 [.tmp 2] Tryz.func142 Tryz.results142 (fun g0 B0 Q ρ0 R => ?_)
 have hbf := blank_fit hi
 refine en tOK 0 1 [] ?_
 refine sn tOK 0 1 [] ?_
 refine fp tOK 1000 0 [] (dblanks_ok hi hs) ?_
 refine sn tOK 0 2 [] ?_
 refine sn tOK 0 1 [] ?_
 refine sl 0 ?_
 obtain ⟨q, hq⟩ : ∃ q, q = p.blanks s := ⟨_, rfl⟩
 have hqe : q.e = p.e := by rw [hq]; rfl
 rw [← hq] at hbf ⊢
 refine E_loop (σ := Nat) (fun j => j ≤ 15 ∧ ∀ x ∈ signsT.take j, Lib.hasPrefix (s.drop q.i) x = false) (fun j => 15 - j)
   (fun j => [(0, .l 1000 0), (3, rB signsT), (4, nI j)])
   (fun j => [(1000, psD s q)]) 0 ?_ ?_
 ·exact ⟨Nat.zero_le _, by simp⟩
 ·rintro J j ⟨hj0, hj1⟩ hJ
  refine en tOK 0 11 [] ?_
  refine sib 0 rfl rfl (fun h19 => ?_) (fun h19 => ?_)
  ·simp only [Bool.and_eq_true, decide_eq_true_eq] at h19
   obtain ⟨q1, q2⟩ := h19
   have hjl : j < 15 := by
    have h15 : signsT.length = 15 := rfl
    rw [List.length_map] at q1
    omega
   have hj : j < signsT.length := hjl
   have hp0 : p.e = 0 := by rw [← hqe]; exact q2
   have hsl : 1 ≤ signsT[j].length ∧ signsT[j].length ≤ 2 := (show ∀ x ∈ signsT, 1 ≤ x.length ∧ x.length ≤ 2 by decide) _ (List.getElem_mem hj)
   refine en tOK 0 6 [[.str signsT[j]]] ?_ (hφ := by exact ⟨by omega, row_at _ hj⟩)
   refine sdr 0 0 [0, 1, 3, 7, 0, 31, 0, 64, 192, 448, 960, 2047, 4095, 8191, 16383, 32767, 65535, 8191, 139263, 401407, 925695, 8191, 2105343, 6299647, 14688255, 8191, 65019903, 134217727, 8191, 8191, 805314559, 1879056383, 4294967295, 8589934591] [0, 1, 2, 3, 4, 5, 6, 7, 8, 9, 10, 11, 12, 13, 14, 15, 16, 17, 18, 19, 20, 21, 22, 23, 24, 25, 26, 27, 28, 29, 30, 31, 32, 33] ?_
   refine xd tOK 34 [[.str signsT[j]]] ?_ (hφ := by (repeat' refine And.intro ?_ ?_) <;> first | exact id | trivial | omega | (unfold i64ok; omega) | (intro hg; have hg := of_decide_eq_true hg; first | (refine ⟨by omega, row_at _ hj⟩) | (unfold i64ok; omega) | (refine ⟨by omega, by omega, by omega⟩)))
   refine xe ?_
   refine sib 0 rfl rfl (fun h60 => ?_) (fun h60 => ?_)
   ·rw [pre_eq hbf.2] at h60
    have e : signD s p = some signsT[j] := by unfold signD; rw [if_pos hp0, ← hq]; exact find_at hj hj1 h60
    refine en tOK 0 5 [[.str signsT[j]]] ?_ (hφ := by exact ⟨by omega, row_at _ hj⟩)
    refine srp 0 R ?_
    exact ⟨by rw [e] <;> rfl, by rw [← hq] <;> rfl⟩
   ·rw [pre_eq hbf.2] at h60
    have hx := h60
    refine en tOK 0 3 [] ?_
    refine sl 0 ?_
    exact hJ (j + 1) ⟨by omega, take_next hj hj1 hx⟩ (by omega)
  ·have e : signD s p = none := by
    unfold signD
    by_cases hp0 : p.e = 0
    · rw [if_pos hp0, ← hq]
      have hj15 : j = 15 := by
       rcases Bool.and_eq_false_iff.1 h19 with q1 | q1
       · have q1 := of_decide_eq_false q1
         have h15 : signsT.length = 15 := rfl
         rw [List.length_map] at q1
         omega
       · exact absurd (hqe.trans hp0) (of_decide_eq_false q1)
      subst hj15
      exact List.find?_eq_none.2 (fun x hx => by simp [hj1 x hx])
    · rw [if_neg hp0]
   refine en tOK 0 1 [] ?_
   refine srp 0 R ?_
   exact ⟨by rw [e] <;> rfl, by rw [← hq] <;> rfl⟩
set_option maxRecDepth 100000 in
theorem dtake_ok {s : Bytes} {l : List Bytes} {p : Pd} (hl : l.length ≤ 1000000) (hi : p.i ≤ s.length) (hs : s.length ≤ 1024) : Fp Tryz.prog gT 94 [.l 1000 0, rB l] (psD s p) (.str ((takeTD s l p).getD [])) (psD s (takePD s l p)) := by
 refine fpb tOK (fn := Tryz.f94) 36 [.tmp 4] Tryz.func94 Tryz.results94 (fun g0 B0 Q ρ0 R => ?_)
 refine en tOK 0 1 [] ?_
 refine sn tOK 0 1 [] ?_
 refine fp tOK 1000 1 [] (dsign_ok hi hs) ?_
 refine sn tOK 0 1 [] ?_
 refine sl 0 ?_
 obtain ⟨sg, hsg⟩ : ∃ sg, sg = (signD s p).getD [] := ⟨_, rfl⟩
 rw [← hsg]
 have hbf := blank_fit hi
 refine E_loop (σ := Nat) (fun j => j ≤ l.length ∧ ∀ x ∈ l.take j, ¬ (sg = x ∧ sg ≠ [])) (fun j => l.length - j)
   (fun j => [(0, .l 1000 0), (1, rB l), (5, .str sg), (6, nI j)])
   (fun j => [(1000, psD s (p.blanks s))]) 0 ?_ ?_
 ·exact ⟨Nat.zero_le _, by simp⟩
 ·rintro J j ⟨hj0, hj1⟩ hJ
  refine en tOK 0 4 [] ?_
  refine si 0 rfl rfl (fun h12 => ?_) (fun h12 => ?_)
  ·rw [List.length_map] at h12
   have hj : j < l.length := by omega
   refine en tOK 0 10 [[.str l[j]]] ?_ (hφ := by (repeat' refine And.intro ?_ ?_) <;> first | omega | exact id | (simp [hj]; done))
   refine sib 0 rfl rfl (fun h24 => ?_) (fun h24 => ?_)
   ·simp only [Bool.and_eq_true, decide_eq_true_eq] at h24
    obtain ⟨q1, q2⟩ := h24
    have hsome : signD s p = some sg := by
     cases hh : signD s p with
     | none => rw [hh] at hsg; exact absurd hsg q2
     | some y => rw [hh] at hsg; rw [hsg]; rfl
    have e1 : takeTD s l p = some sg := by unfold takeTD; rw [hsome]; simp only; rw [if_pos (by rw [q1]; exact List.getElem_mem hj)]
    have e2 : takePD s l p = { p.blanks s with i := (p.blanks s).i + sg.length } := by unfold takePD; rw [e1]
    have hso := signD_ok hsome
    refine en tOK 0 11 [] ?_ (hφ := by (repeat' refine And.intro ?_ ?_) <;> omega)
    refine sn tOK 0 2 [] ?_
    refine srp 0 R ?_
    exact ⟨by rw [e1] <;> rfl, by rw [e2] <;> rfl⟩
   ·have hno : ¬ (sg = l[j] ∧ sg ≠ []) := fun hh => by
     rw [decide_eq_true hh.1, decide_eq_true hh.2] at h24
     cases h24
    refine en tOK 0 3 [] ?_
    refine sl 0 ?_
    exact hJ (j + 1) ⟨by omega, fun x hx => by
     rw [List.take_succ_eq_append_getElem hj] at hx
     rcases List.mem_append.1 hx with hx | hx
     · exact hj1 x hx
     · simp only [List.mem_singleton] at hx
       subst hx; exact hno⟩ (by omega)
  ·rw [List.length_map] at h12
   have hjl : l.take j = l := List.take_of_length_le (by omega)
   rw [hjl] at hj1
   have e1 : takeTD s l p = none := by
    cases hh : takeTD s l p with
    | none => rfl
    | some y =>
     obtain ⟨h1, h2⟩ := takeTD_ok hh
     rw [h1] at hsg
     have h3 := (signD_ok h1).1
     exact absurd ⟨hsg, by rw [hsg]; rintro rfl; simp at h3⟩ (hj1 y h2)
   have e2 : takePD s l p = p.blanks s := by unfold takePD; rw [e1]
   refine en tOK 0 1 [] ?_
   refine srp 0 R ?_
   exact ⟨by rw [e1] <;> rfl, by rw [e2] <;> rfl⟩
end Go.Proofs.YtomkgfdigldhcaaGreatDoor
namespace Go.Proofs.YtomkgfdigldhcaaGreatDoor
open Go.KX
set_option maxRecDepth 100000 in
theorem dmust_ok {s x : Bytes} {p : Pd} (hi : p.i ≤ s.length) (hs : s.length ≤ 1024) : Fp Tryz.prog gT 338 [.l 1000 0, .str x] (psD s p) (.t []) (psD s (mustD s x p)) := by
 refine fpb tOK (fn := Tryz.f338) 15 [] Tryz.func338 Tryz.results338 (fun g0 B0 Q ρ0 R => ?_)
 refine en tOK 0 3 [] ?_
 refine fp tOK 1000 1 [] (dtake_ok (l := [x]) one_le hi hs) ?_
 refine si 0 rfl rfl (fun h8 => ?_) (fun h8 => ?_)
 ·have e1 : takeTD s [x] p = none := takeT_str.1 h8
  have e2 : mustD s x p = (takePD s [x] p).fail 110 (takePD s [x] p).i := by unfold mustD; rw [e1]
  refine en tOK 0 5 [] ?_
  refine fp tOK 1000 0 [] (dfail_ok) ?_
  refine sfp 0 R ?_
  exact ⟨rfl, by rw [e2] <;> rfl⟩
 ·obtain ⟨y, e1⟩ : ∃ y, takeTD s [x] p = some y := Option.ne_none_iff_exists'.1 (fun h => h8 (takeT_str.2 h))
  have e2 : mustD s x p = takePD s [x] p := by unfold mustD; rw [e1]
  refine efp 0 R ?_
  exact ⟨rfl, by rw [e2] <;> rfl⟩
set_option maxRecDepth 100000 in
theorem dword_ok {s : Bytes} {p : Pd} {fr : Nat} (hf : fr ≤ s.length) (hs : s.length ≤ 1024) : Fp Tryz.prog gT 340 [.l 1000 0, nI fr] (psD s p) (.str ((s.drop fr).take (runB gLD (s.drop fr)))) (psD s p) := by
 refine fpb tOK (fn := Tryz.f340) 41 [.tmp 4] Tryz.func340 Tryz.results340 (fun g0 B0 Q ρ0 R => ?_)
 refine en tOK 0 1 [] ?_
 refine sn tOK 0 2 [] ?_
 refine sl 0 ?_
 refine E_loop (σ := Nat) (fun k => fr + k ≤ s.length ∧ ∀ x ∈ (s.drop fr).take k, x ∈ gLD) (fun k => s.length - k)
   (fun k => [(0, .l 1000 0), (1, nI fr), (5, nI ((fr + k : Nat) : Int))])
   (fun k => [(1000, psD s p)]) 0 ?_ ?_
 ·exact ⟨by omega, by simp⟩
 ·rintro J k ⟨hk0, hk1⟩ hK
  refine en tOK 0 14 [] ?_ (hφ := by (repeat' refine And.intro ?_ ?_) <;> first | exact id | trivial | omega | (intro hg h2; rw [hg, h2]; rfl) | (intro hg; rw [hg]; rfl) | (intro hg; simp only [Bool.and_eq_true, decide_eq_true_eq] at hg; refine ⟨?_, ?_⟩ <;> omega))
  refine fg tOK 7 [] (fun hg => letter_ok (c := s.getD (fr + k) 0) rfl) ?_ (hφ := by (repeat' refine And.intro ?_ ?_) <;> first | exact id | trivial | omega | (intro hg h2; rw [hg, h2]; rfl) | (intro hg; rw [hg]; rfl) | (intro hg; simp only [Bool.and_eq_true, decide_eq_true_eq] at hg; refine ⟨?_, ?_⟩ <;> omega))
  refine fg tOK 2 [] (fun hg => digit_ok (c := s.getD (fr + k) 0) rfl) ?_ (hφ := by (repeat' refine And.intro ?_ ?_) <;> first | exact id | trivial | omega | (intro hg h2; rw [hg, h2]; rfl) | (intro hg; rw [hg]; rfl) | (intro hg; simp only [Bool.and_eq_true, decide_eq_true_eq] at hg; refine ⟨?_, ?_⟩ <;> omega))
  refine sib 0 rfl rfl (fun h31 => ?_) (fun h31 => ?_)
  ·simp only [Bool.and_eq_true] at h31
   obtain ⟨q1, q2⟩ := h31
   have q1 := of_decide_eq_true q1
   have hlt : fr + k < s.length := by omega
   rw [gLD_eq] at q2
   have hld := of_decide_eq_true q2
   refine en tOK 0 3 [] ?_
   refine sl 0 ?_
   refine eas 5 rfl (v' := nI ((fr + (k + 1) : Nat) : Int)) (congrArg (fun z : Int => nI z) (by omega)) ?_
   exact hK (k + 1) ⟨by omega, fun x hx => by
    have hkl : k < (s.drop fr).length := by rw [List.length_drop]; omega
    rw [List.take_succ_eq_append_getElem hkl] at hx
    rcases List.mem_append.1 hx with hx | hx
    · exact hk1 x hx
    · simp only [List.mem_singleton] at hx
      rw [hx, drop_getD (by omega)]; exact hld⟩ (by omega)
  ·have e : runB gLD (s.drop fr) = k := runB_at (by rw [List.length_drop]; omega) hk1 (fun hh hm => by
    rw [List.length_drop] at hh
    rw [drop_getD (by omega)] at hm
    rcases Bool.and_eq_false_iff.1 h31 with q | q
    · exact of_decide_eq_false q (by omega)
    · rw [gLD_eq] at q
      exact of_decide_eq_false q hm)
   refine en tOK 0 8 [] ?_ (hφ := by (repeat' refine And.intro ?_ ?_) <;> omega)
   refine srp 0 R ?_
   exact ⟨by rw [e, show ((fr + k : Nat) : Int).toNat - (fr : Int).toNat = k by omega] <;> rfl, rfl⟩
set_option maxRecDepth 100000 in
theorem rref_ok {w : Bytes} (hw : w.length ≤ 1000000) : Fc Tryz.prog gT 129 [.str w] (bS (refB w)) := by
 refine fb tOK (fn := Tryz.f129) 40 [.tmp 2] Tryz.func129 Tryz.results129 (fun g0 B0 Q ρ0 R => ?_)
 refine en tOK 0 1 [] ?_
 refine sn tOK 0 18 [] ?_ (hφ := by (repeat' refine And.intro ?_ ?_) <;> first | exact id | trivial | (intro hg; exact ref_ix hg) | (intro hg; exact ref_ix2 hg) | (intro hg; rw [hg]; rfl))
 refine sib 0 rfl rfl (fun h21 => ?_) (fun h21 => ?_)
 ·have e : refB w = false := ref_no h21
  refine en tOK 0 1 [] ?_
  refine sr 0 R ?_
  rw [e]; rfl
 ·obtain ⟨c, r, hcr, hg, hl⟩ := ref_yes h21
  refine en tOK 0 1 [] ?_
  refine sl 0 ?_
  refine E_loop (σ := Nat) (fun j => j ≤ w.length ∧ ∀ x ∈ w.take j, x ∈ gLD) (fun j => w.length - j)
    (fun j => [(0, .str w), (3, nI j)])
    (fun j => []) 0 ?_ ?_
  ·exact ⟨Nat.zero_le _, by simp⟩
  ·rintro J j ⟨hj0, hj1⟩ hJ
   refine en tOK 0 4 [] ?_
   refine si 0 rfl rfl (fun h25 => ?_) (fun h25 => ?_)
   ·have hj : j < w.length := by omega
    have ec : w.getD j 0 = w[j] := by rw [List.getD_eq_getElem?_getD, List.getElem?_eq_getElem hj]; rfl
    refine en tOK 0 3 [] ?_ (hφ := by (repeat' refine And.intro ?_ ?_) <;> first | exact id | trivial | omega | (intro hg h2; rw [hg, h2]; rfl) | (intro hg; rw [hg]; rfl) | (intro hg; simp only [Bool.and_eq_true, decide_eq_true_eq] at hg; refine ⟨?_, ?_⟩ <;> omega))
    refine fc tOK 5 [] (letter_ok (c := w[j]) (by rw [← ec])) ?_ (hφ := by (repeat' refine And.intro ?_ ?_) <;> first | exact id | trivial | omega | (intro hg h2; rw [hg, h2]; rfl) | (intro hg; rw [hg]; rfl) | (intro hg; simp only [Bool.and_eq_true, decide_eq_true_eq] at hg; refine ⟨?_, ?_⟩ <;> omega))
    refine fg tOK 2 [] (fun hg => digit_ok (c := w[j]) (by rw [← ec])) ?_ (hφ := by (repeat' refine And.intro ?_ ?_) <;> first | exact id | trivial | omega | (intro hg h2; rw [hg, h2]; rfl) | (intro hg; rw [hg]; rfl) | (intro hg; simp only [Bool.and_eq_true, decide_eq_true_eq] at hg; refine ⟨?_, ?_⟩ <;> omega))
    refine sib 0 rfl rfl (fun h39 => ?_) (fun h39 => ?_)
    ·have e : refB w = false := ref_bad hcr hj hj1 (by
      simp only [Bool.and_eq_true, Bool.not_eq_true', decide_eq_false_iff_not] at h39
      intro hm
      have := gLD_eq w[j]
      rw [decide_eq_true hm, decide_eq_false h39.1, decide_eq_false h39.2] at this
      cases this)
     refine en tOK 0 1 [] ?_
     refine sr 0 R ?_
     rw [e]; rfl
    ·have hx : w[j] ∈ gLD := by
      have := gLD_eq w[j]
      by_cases h1 : w[j] ∈ gLet
      · rw [decide_eq_true h1] at this; exact of_decide_eq_true this.symm
      · by_cases h2 : w[j] ∈ gDig
        · rw [decide_eq_true h2, Bool.or_true] at this; exact of_decide_eq_true this.symm
        · rw [decide_eq_false h1, decide_eq_false h2] at h39; cases h39
     refine en tOK 0 3 [] ?_
     refine sl 0 ?_
     exact hJ (j + 1) ⟨by omega, take_next hj hj1 hx⟩ (by omega)
   ·have e : refB w = true := ref_good hcr hg hl (by rw [show w.take j = w from List.take_of_length_le (by omega)] at hj1; exact hj1)
    refine en tOK 0 1 [] ?_
    refine sr 0 R ?_
    rw [e]; rfl
end Go.Proofs.YtomkgfdigldhcaaGreatDoor
namespace Go.Proofs.YtomkgfdigldhcaaGreatDoor
open Go.KX
set_option maxRecDepth 100000 in
theorem dand_ok {s : Bytes} {sub : Pd → Ex × Pd} {p : Pd} {dp : Nat} (fs : FitD s sub) (hsub : ∀ p : Pd, p.i ≤ s.length → Fp Tryz.prog gT 141 [.l 1000 0, nI dp] (psD s p) (exS (sub p).1) (psD s (sub p).2)) (hi : p.i ≤ s.length) (hs : s.length ≤ 1024) : Fp Tryz.prog gT 93 [.l 1000 0, nI dp] (psD s p) (exS (loopG (tkD s) sub [oAnd] false (s.length + 1) (sub p).1 (sub p).2).1) (psD s (loopG (tkD s) sub [oAnd] false (s.length + 1) (sub p).1 (sub p).2).2) := by
 refine fpb tOK (fn := Tryz.f93) 20 [.cell 4 29] Tryz.func93 Tryz.results93 (fun g0 B0 Q ρ0 R => ?_)
 refine en tOK 0 1 [] ?_
 refine sn tOK 0 2 [] ?_
 refine fp tOK 1000 2 [] (hsub p hi) ?_
 refine sl 0 ?_
 refine E_loop (σ := Nat × Ex × Pd) (fun t => t.2.2.i ≤ s.length ∧ s.length < t.1 + t.2.2.i ∧ loopG (tkD s) sub [oAnd] false t.1 t.2.1 t.2.2 = loopG (tkD s) sub [oAnd] false (s.length + 1) (sub p).1 (sub p).2) (fun t => t.1)
   (fun t => [(0, .l 1000 0), (1, nI dp), (4, .l 4 0), (5, .l 5 0)])
   (fun t => [(5, .c 29 (exL t.2.1)), (4, .c 29 [nI 0, .str [], nI 0, nI 0, .s 0 []]), (1000, psD s t.2.2)]) (s.length + 1, (sub p).1, (sub p).2) ?_ ?_
 ·exact ⟨(fs p hi).2, by simp only; omega, rfl⟩
 ·rintro J t ⟨ht1, ht2, ht3⟩ hJ
  obtain ⟨k, hk⟩ : ∃ k, t.1 = k + 1 := ⟨t.1 - 1, by omega⟩
  have htf := takeD_fit (l := [oAnd]) ht1
  have hsf := fs _ htf.2
  rw [hk] at ht3
  refine en tOK 0 2 [] ?_
  refine fp tOK 1000 1 [] (dtake_ok (l := [oAnd]) one_le ht1 hs) ?_
  refine si 0 rfl rfl (fun h12 => ?_) (fun h12 => ?_)
  ·obtain ⟨o, e1⟩ : ∃ o, takeTD s [oAnd] t.2.2 = some o := Option.ne_none_iff_exists'.1 (fun h => h12 (takeT_str.2 h))
   obtain rfl : o = oAnd := List.mem_singleton.1 (takeTD_ok e1).2
   refine edr 0 72 [0, 0, 0, 6, 15, 31, 63] [1, 2, 3, 0, 4, 5, 6] ?_
   refine xd tOK 2 [] ?_
   refine dpc tOK 1000 0 [] (hsub (takePD s [oAnd] t.2.2) htf.2) ?_
   refine dl tOK 1 [] ?_
   refine dc tOK 1 [] (rcall2_ok) ?_
   refine xe ?_
   refine sl 0 ?_
   exact hJ (k, exC oAnd [t.2.1, (sub (takePD s [oAnd] t.2.2)).1], (sub (takePD s [oAnd] t.2.2)).2) ⟨hsf.2, by simp only; have := takeD_more ht1 e1; omega, by rw [← ht3, loopD_more e1]⟩ (by simp only; omega)
  ·have e1 : takeTD s [oAnd] t.2.2 = none := takeT_str.1 (Decidable.not_not.1 h12)
   have e2 : loopG (tkD s) sub [oAnd] false (s.length + 1) (sub p).1 (sub p).2 = (t.2.1, takePD s [oAnd] t.2.2) := by rw [← ht3, loopD_none e1]
   refine en tOK 0 2 [] ?_
   refine srp 0 R ?_
   exact ⟨by rw [e2] <;> rfl, by rw [e2] <;> rfl⟩
set_option maxRecDepth 100000 in
theorem drel_ok {s : Bytes} {sub : Pd → Ex × Pd} {p : Pd} {dp : Nat} (fs : FitD s sub) (hsub : ∀ p : Pd, p.i ≤ s.length → Fp Tryz.prog gT 217 [.l 1000 0, nI dp] (psD s p) (exS (sub p).1) (psD s (sub p).2)) (hi : p.i ≤ s.length) (hs : s.length ≤ 1024) : Fp Tryz.prog gT 141 [.l 1000 0, nI dp] (psD s p) (exS (loopG (tkD s) sub [oEq, oNe, oLe, oGe, oLt, oGt] true (s.length + 1) (sub p).1 (sub p).2).1) (psD s (loopG (tkD s) sub [oEq, oNe, oLe, oGe, oLt, oGt] true (s.length + 1) (sub p).1 (sub p).2).2) := by
 refine fpb tOK (fn := Tryz.f141) 23 [.cell 4 29] Tryz.func141 Tryz.results141 (fun g0 B0 Q ρ0 R => ?_)
 refine en tOK 0 1 [] ?_
 refine sn tOK 0 2 [] ?_
 refine fp tOK 1000 2 [] (hsub p hi) ?_
 have ht1 := (fs p hi).2
 have htf := takeD_fit (l := [oEq, oNe, oLe, oGe, oLt, oGt]) ht1
 have hsf := fs _ htf.2
 refine sn tOK 0 2 [] ?_
 refine fp tOK 1000 1 [] (dtake_ok (l := [oEq, oNe, oLe, oGe, oLt, oGt]) six_le ht1 hs) ?_
 refine sn tOK 0 2 [] ?_
 refine si 0 rfl rfl (fun h14 => ?_) (fun h14 => ?_)
 ·obtain ⟨o, e1⟩ : ∃ o, takeTD s [oEq, oNe, oLe, oGe, oLt, oGt] (sub p).2 = some o := Option.ne_none_iff_exists'.1 (fun h => h14 (takeT_str.2 h))
  have e2 := loopD_alone (f := sub) (n := s.length) (x := (sub p).1) e1
  refine eas 6 rfl (v' := .str o) ?_ ?_
  ·rw [e1]; rfl
  refine edr 0 144 [0, 0, 0, 0, 12, 30, 63, 127] [0, 2, 3, 4, 1, 5, 6, 7] ?_
  refine xd tOK 3 [] ?_
  refine dpc tOK 1000 0 [] (hsub (takePD s [oEq, oNe, oLe, oGe, oLt, oGt] (sub p).2) htf.2) ?_
  refine dl tOK 1 [] ?_
  refine dc tOK 1 [] (rcall2_ok) ?_
  refine xe ?_
  refine sn tOK 0 2 [] ?_
  refine srp 0 R ?_
  exact ⟨by rw [e2] <;> rfl, by rw [e2] <;> rfl⟩
 ·have e1 : takeTD s [oEq, oNe, oLe, oGe, oLt, oGt] (sub p).2 = none := takeT_str.1 (Decidable.not_not.1 h14)
  have e2 := loopD_none (f := sub) (alone := true) (n := s.length) (x := (sub p).1) e1
  refine en tOK 0 2 [] ?_
  refine srp 0 R ?_
  exact ⟨by rw [e2] <;> rfl, by rw [e2] <;> rfl⟩
set_option maxRecDepth 100000 in
theorem dsum_ok {s : Bytes} {sub : Pd → Ex × Pd} {p : Pd} {dp : Nat} (fs : FitD s sub) (hsub : ∀ p : Pd, p.i ≤ s.length → Fp Tryz.prog gT 282 [.l 1000 0, nI dp] (psD s p) (exS (sub p).1) (psD s (sub p).2)) (hi : p.i ≤ s.length) (hs : s.length ≤ 1024) : Fp Tryz.prog gT 217 [.l 1000 0, nI dp] (psD s p) (exS (loopG (tkD s) sub [oAdd, oSub] false (s.length + 1) (sub p).1 (sub p).2).1) (psD s (loopG (tkD s) sub [oAdd, oSub] false (s.length + 1) (sub p).1 (sub p).2).2) := by
 refine fpb tOK (fn := Tryz.f217) 23 [.cell 4 29] Tryz.func217 Tryz.results217 (fun g0 B0 Q ρ0 R => ?_)
 refine en tOK 0 1 [] ?_
 refine sn tOK 0 2 [] ?_
 refine fp tOK 1000 2 [] (hsub p hi) ?_
 refine sl 0 ?_
 refine E_loop (σ := Nat × Ex × Pd) (fun t => t.2.2.i ≤ s.length ∧ s.length < t.1 + t.2.2.i ∧ loopG (tkD s) sub [oAdd, oSub] false t.1 t.2.1 t.2.2 = loopG (tkD s) sub [oAdd, oSub] false (s.length + 1) (sub p).1 (sub p).2) (fun t => t.1)
   (fun t => [(0, .l 1000 0), (1, nI dp), (4, .l 4 0), (5, .l 5 0)])
   (fun t => [(5, .c 29 (exL t.2.1)), (4, .c 29 [nI 0, .str [], nI 0, nI 0, .s 0 []]), (1000, psD s t.2.2)]) (s.length + 1, (sub p).1, (sub p).2) ?_ ?_
 ·exact ⟨(fs p hi).2, by simp only; omega, rfl⟩
 ·rintro J t ⟨ht1, ht2, ht3⟩ hJ
  obtain ⟨k, hk⟩ : ∃ k, t.1 = k + 1 := ⟨t.1 - 1, by omega⟩
  have htf := takeD_fit (l := [oAdd, oSub]) ht1
  have hsf := fs _ htf.2
  rw [hk] at ht3
  refine en tOK 0 2 [] ?_
  refine fp tOK 1000 1 [] (dtake_ok (l := [oAdd, oSub]) two_le ht1 hs) ?_
  refine sn tOK 0 2 [] ?_
  refine si 0 rfl rfl (fun h14 => ?_) (fun h14 => ?_)
  ·have e1 : takeTD s [oAdd, oSub] t.2.2 = none := takeT_str.1 h14
   have e2 : loopG (tkD s) sub [oAdd, oSub] false (s.length + 1) (sub p).1 (sub p).2 = (t.2.1, takePD s [oAdd, oSub] t.2.2) := by rw [← ht3, loopD_none e1]
   refine en tOK 0 2 [] ?_
   refine srp 0 R ?_
   exact ⟨by rw [e2] <;> rfl, by rw [e2] <;> rfl⟩
  ·obtain ⟨o, e1⟩ : ∃ o, takeTD s [oAdd, oSub] t.2.2 = some o := Option.ne_none_iff_exists'.1 (fun h => h14 (takeT_str.2 h))
   refine eas 6 rfl (v' := .str o) ?_ ?_
   ·rw [e1]; rfl
   refine edr 0 144 [0, 0, 0, 0, 12, 30, 63, 127] [0, 2, 3, 4, 1, 5, 6, 7] ?_
   refine xd tOK 3 [] ?_
   refine dpc tOK 1000 0 [] (hsub (takePD s [oAdd, oSub] t.2.2) htf.2) ?_
   refine dl tOK 1 [] ?_
   refine dc tOK 1 [] (rcall2_ok) ?_
   refine xe ?_
   refine sl 0 ?_
   exact hJ (k, exC o [t.2.1, (sub (takePD s [oAdd, oSub] t.2.2)).1], (sub (takePD s [oAdd, oSub] t.2.2)).2) ⟨hsf.2, by simp only; have := takeD_more ht1 e1; omega, by rw [← ht3, loopD_more e1]⟩ (by simp only; omega)
set_option maxRecDepth 100000 in
theorem dprod_ok {s : Bytes} {sub : Pd → Ex × Pd} {p : Pd} {dp : Nat} (fs : FitD s sub) (hsub : ∀ p : Pd, p.i ≤ s.length → Fp Tryz.prog gT 314 [.l 1000 0, nI dp] (psD s p) (exS (sub p).1) (psD s (sub p).2)) (hi : p.i ≤ s.length) (hs : s.length ≤ 1024) : Fp Tryz.prog gT 282 [.l 1000 0, nI dp] (psD s p) (exS (loopG (tkD s) sub [oMul, oDiv] false (s.length + 1) (sub p).1 (sub p).2).1) (psD s (loopG (tkD s) sub [oMul, oDiv] false (s.length + 1) (sub p).1 (sub p).2).2) := by
 refine fpb tOK (fn := Tryz.f282) 23 [.cell 4 29] Tryz.func282 Tryz.results282 (fun g0 B0 Q ρ0 R => ?_)
 refine en tOK 0 1 [] ?_
 refine sn tOK 0 2 [] ?_
 refine fp tOK 1000 2 [] (hsub p hi) ?_
 refine sl 0 ?_
 refine E_loop (σ := Nat × Ex × Pd) (fun t => t.2.2.i ≤ s.length ∧ s.length < t.1 + t.2.2.i ∧ loopG (tkD s) sub [oMul, oDiv] false t.1 t.2.1 t.2.2 = loopG (tkD s) sub [oMul, oDiv] false (s.length + 1) (sub p).1 (sub p).2) (fun t => t.1)
   (fun t => [(0, .l 1000 0), (1, nI dp), (4, .l 4 0), (5, .l 5 0)])
   (fun t => [(5, .c 29 (exL t.2.1)), (4, .c 29 [nI 0, .str [], nI 0, nI 0, .s 0 []]), (1000, psD s t.2.2)]) (s.length + 1, (sub p).1, (sub p).2) ?_ ?_
 ·exact ⟨(fs p hi).2, by simp only; omega, rfl⟩
 ·rintro J t ⟨ht1, ht2, ht3⟩ hJ
  obtain ⟨k, hk⟩ : ∃ k, t.1 = k + 1 := ⟨t.1 - 1, by omega⟩
  have htf := takeD_fit (l := [oMul, oDiv]) ht1
  have hsf := fs _ htf.2
  rw [hk] at ht3
  refine en tOK 0 2 [] ?_
  refine fp tOK 1000 1 [] (dtake_ok (l := [oMul, oDiv]) two_le ht1 hs) ?_
  refine sn tOK 0 2 [] ?_
  refine si 0 rfl rfl (fun h14 => ?_) (fun h14 => ?_)
  ·have e1 : takeTD s [oMul, oDiv] t.2.2 = none := takeT_str.1 h14
   have e2 : loopG (tkD s) sub [oMul, oDiv] false (s.length + 1) (sub p).1 (sub p).2 = (t.2.1, takePD s [oMul, oDiv] t.2.2) := by rw [← ht3, loopD_none e1]
   refine en tOK 0 2 [] ?_
   refine srp 0 R ?_
   exact ⟨by rw [e2] <;> rfl, by rw [e2] <;> rfl⟩
  ·obtain ⟨o, e1⟩ : ∃ o, takeTD s [oMul, oDiv] t.2.2 = some o := Option.ne_none_iff_exists'.1 (fun h => h14 (takeT_str.2 h))
   refine eas 6 rfl (v' := .str o) ?_ ?_
   ·rw [e1]; rfl
   refine edr 0 144 [0, 0, 0, 0, 12, 30, 63, 127] [0, 2, 3, 4, 1, 5, 6, 7] ?_
   refine xd tOK 3 [] ?_
   refine dpc tOK 1000 0 [] (hsub (takePD s [oMul, oDiv] t.2.2) htf.2) ?_
   refine dl tOK 1 [] ?_
   refine dc tOK 1 [] (rcall2_ok) ?_
   refine xe ?_
   refine sl 0 ?_
   exact hJ (k, exC o [t.2.1, (sub (takePD s [oMul, oDiv] t.2.2)).1], (sub (takePD s [oMul, oDiv] t.2.2)).2) ⟨hsf.2, by simp only; have := takeD_more ht1 e1; omega, by rw [← ht3, loopD_more e1]⟩ (by simp only; omega)
end Go.Proofs.YtomkgfdigldhcaaGreatDoor
namespace Go.Proofs.YtomkgfdigldhcaaGreatDoor
open Go.KX
set_option maxRecDepth 100000 in
theorem rvparse_ok {s : Bytes} (hs : s.length ≤ 1000000) : Fc Tryz.prog gT 339 [.str s] (.t [vS (parseV s).1, nI (parseV s).2]) := by
 refine fb tOK (fn := Tryz.f339) 131 [.cell 2 26, .tmp 3] Tryz.func339 Tryz.results339 (fun g0 B0 Q ρ0 R => ?_)
 refine en tOK 0 2 [] ?_
 refine sn tOK 0 0 [] ?_
 refine fc tOK 0 [] (rnull_ok) ?_
 refine fc tOK 0 [] (rnan_ok) ?_
 refine fc tOK 0 [] (rplus_ok) ?_
 refine fc tOK 2 [] (rminus_ok) ?_
 refine sn tOK 0 1 [] ?_
 refine sl 0 ?_
 refine E_loop (σ := Nat) (fun j => j ≤ 4 ∧ ∀ v ∈ c4.take j, ¬ printV v = s) (fun j => 4 - j)
   (fun j => [(0, .str s), (2, .l 2 0), (4, rV c4), (5, nI j)])
   (fun j => [(2, .c 26 [nI 0, nI 0])]) 0 ?_ ?_
 ·exact ⟨Nat.zero_le _, by simp⟩
 ·rintro J j ⟨hj0, hj1⟩ hJ
  refine en tOK 0 4 [] ?_
  refine si 0 rfl rfl (fun h18 => ?_) (fun h18 => ?_)
  ·have h4l : (List.map (fun v : Val => [nI v.k, nI v.n]) c4).length = 4 := rfl
   have hjl : j < 4 := by omega
   have hj : j < c4.length := hjl
   refine en tOK 0 4 [[nI c4[j].k, nI c4[j].n]] ?_ (hφ := by exact ⟨by omega, row_at _ hj⟩)
   refine fc tOK 2 [] (rprint_ok) ?_
   refine si 0 rfl rfl (fun h27 => ?_) (fun h27 => ?_)
   ·have e := parse_c4 hj h27.symm
    refine en tOK 0 6 [[nI c4[j].k, nI c4[j].n]] ?_ (hφ := by exact ⟨by omega, row_at _ hj⟩)
    refine sr 0 R ?_
    rw [e]; rfl
   ·have hx := h27
    refine en tOK 0 3 [] ?_
    refine sl 0 ?_
    exact hJ (j + 1) ⟨by omega, take_next hj hj1 hx⟩ (by omega)
  ·have h4l : (List.map (fun v : Val => [nI v.k, nI v.n]) c4).length = 4 := rfl
   have hn4 := not4_doc (fun v hv => hj1 v (by rw [List.take_of_length_le (show c4.length ≤ j by show 4 ≤ j; omega)]; exact hv))
   refine en tOK 0 3 [] ?_
   refine si 0 rfl rfl (fun h34 => ?_) (fun h34 => ?_)
   ·have e := doc_long hn4 (by omega)
    refine en tOK 0 3 [] ?_
    refine sr 0 R ?_
    rw [e]; rfl
   ·have h20 : ¬ 20 < s.length := by omega
    refine en tOK 0 1 [] ?_
    refine sn tOK 0 1 [] ?_
    refine sn tOK 0 1 [] ?_
    refine sl 0 ?_
    refine E_loop (σ := Nat × Int × Int) (fun t => t.1 ≤ s.length ∧ 0 ≤ t.2.1 ∧ t.2.1 ≤ 10000000000000009 ∧ -1 ≤ t.2.2 ∧ t.2.2 ≤ 3 ∧ docL (decide (t.1 = 0)) t.2.1 t.2.2 (s.drop t.1) = docL true 0 (-1) s) (fun t => s.length - t.1)
      (fun t => [(0, .str s), (2, .l 2 0), (6, nI t.2.1), (7, nI t.2.2), (8, nI t.1)])
      (fun t => [(2, .c 26 [nI 0, nI 0])]) (0, 0, -1) ?_ ?_
    ·exact ⟨Nat.zero_le _, by decide, by decide, by decide, by decide, rfl⟩
    ·rintro J t ⟨ht1, ht2, ht3, ht4, ht5, ht6⟩ hJ
     refine en tOK 0 4 [] ?_
     refine si 0 rfl rfl (fun h39 => ?_) (fun h39 => ?_)
     ·have hk : t.1 < s.length := by omega
      have ha := docL_at (n := t.2.1) (left := t.2.2) hk
      obtain ⟨c, hc⟩ : ∃ c, c = s.getD t.1 0 := ⟨_, rfl⟩
      have hc8 := UInt8.toNat_lt c
      rw [ht6] at ha
      refine en tOK 0 9 [] ?_ (hφ := by (repeat' refine And.intro ?_ ?_) <;> first | exact id | trivial | omega | (intro hg; omega) | (intro hg; exact ⟨by omega, by omega⟩))
      refine sib 0 rfl rfl (fun h43 => ?_) (fun h43 => ?_)
      ·simp only [Bool.and_eq_true, decide_eq_true_eq] at h43
       have hi1 : (fun t : Nat × Int × Int => t.1 ≤ s.length ∧ 0 ≤ t.2.1 ∧ t.2.1 ≤ 10000000000000009 ∧ -1 ≤ t.2.2 ∧ t.2.2 ≤ 3 ∧ docL (decide (t.1 = 0)) t.2.1 t.2.2 (s.drop t.1) = docL true 0 (-1) s) (t.1 + 1, t.2.1, t.2.2) := ⟨hk, ht2, ht3, ht4, ht5, by rw [ha, if_pos]; exact ⟨UInt8.toNat_inj.1 (Int.ofNat.inj h43.1), by omega⟩⟩
       refine en tOK 0 3 [] ?_
       refine sl 0 ?_
       first | exact hJ (t.1 + 1, t.2.1, t.2.2) hi1 (by simp only; omega) | exact hJ (t.1 + 1, t.2.1, 3) hi2 (by simp only; omega) | exact hJ (t.1 + 1, 10 * t.2.1 + (((s.getD t.1 0).toNat : Int) - 48), t.2.2 - 1) hi3 (by simp only; omega) | exact hJ (t.1 + 1, 10 * t.2.1 + (((s.getD t.1 0).toNat : Int) - 48), t.2.2) hi4 (by simp only; omega)
      ·have h43 : (decide (((s.getD t.1 0).toNat : Int) = 45) && decide ((t.1 : Int) = 0)) = false := h43
       have h45 : ¬ (s.getD t.1 0 = 45 ∧ t.1 = 0) := fun hh => by
        rw [decide_eq_true (show ((s.getD t.1 0).toNat : Int) = 45 by rw [hh.1]; rfl), decide_eq_true (show (t.1 : Int) = 0 by omega)] at h43
        cases h43
       rw [if_neg h45] at ha
       refine en tOK 0 9 [] ?_ (hφ := by (repeat' refine And.intro ?_ ?_) <;> first | exact id | trivial | omega | (intro hg; omega) | (intro hg; exact ⟨by omega, by omega⟩))
       refine sib 0 rfl rfl (fun h52 => ?_) (fun h52 => ?_)
       ·simp only [Bool.and_eq_true, decide_eq_true_eq] at h52
        have hi2 : (fun t : Nat × Int × Int => t.1 ≤ s.length ∧ 0 ≤ t.2.1 ∧ t.2.1 ≤ 10000000000000009 ∧ -1 ≤ t.2.2 ∧ t.2.2 ≤ 3 ∧ docL (decide (t.1 = 0)) t.2.1 t.2.2 (s.drop t.1) = docL true 0 (-1) s) (t.1 + 1, t.2.1, 3) := ⟨hk, ht2, ht3, (by show (-1 : Int) ≤ 3; decide), (by show (3 : Int) ≤ 3; decide), by rw [ha, if_pos]; exact ⟨UInt8.toNat_inj.1 (Int.ofNat.inj h52.1), h52.2⟩⟩
        refine en tOK 0 1 [] ?_
        refine sn tOK 0 3 [] ?_
        refine sl 0 ?_
        first | exact hJ (t.1 + 1, t.2.1, t.2.2) hi1 (by simp only; omega) | exact hJ (t.1 + 1, t.2.1, 3) hi2 (by simp only; omega) | exact hJ (t.1 + 1, 10 * t.2.1 + (((s.getD t.1 0).toNat : Int) - 48), t.2.2 - 1) hi3 (by simp only; omega) | exact hJ (t.1 + 1, 10 * t.2.1 + (((s.getD t.1 0).toNat : Int) - 48), t.2.2) hi4 (by simp only; omega)
       ·have h52 : (decide (((s.getD t.1 0).toNat : Int) = 46) && decide (t.2.2 < 0)) = false := h52
        have h46 : ¬ (s.getD t.1 0 = 46 ∧ t.2.2 < 0) := fun hh => by
         rw [decide_eq_true (show ((s.getD t.1 0).toNat : Int) = 46 by rw [hh.1]; rfl), decide_eq_true hh.2] at h52
         cases h52
        rw [if_neg h46] at ha
        refine en tOK 0 19 [] ?_ (hφ := by (repeat' refine And.intro ?_ ?_) <;> first | exact id | trivial | omega | (intro hg; omega) | (intro hg; exact ⟨by omega, by omega⟩))
        refine sib 0 rfl rfl (fun h61 => ?_) (fun h61 => ?_)
        ·simp only [Bool.and_eq_true, decide_eq_true_eq, ne_eq, Bool.not_eq_true', decide_eq_false_iff_not] at h61
         obtain ⟨⟨⟨g1, g2⟩, g3⟩, g4⟩ := h61
         have g1 : (48 : Int) ≤ ((s.getD t.1 0).toNat : Int) := g1
         have g2 : ((s.getD t.1 0).toNat : Int) ≤ 57 := g2
         have hw8 : IntKind.u8.wrap (((s.getD (t.1 : Int).toNat 0).toNat : Int) - 48) = ((s.getD t.1 0).toNat : Int) - 48 := wrap_u8 (x := ((s.getD t.1 0).toNat : Int) - 48) (by omega) (by omega)
         rw [if_pos ⟨by omega, by omega, g3, g4⟩] at ha
         refine en tOK 0 9 [] ?_ (hφ := by (try simp only [hw8]); (repeat' refine And.intro ?_ ?_) <;> first | exact id | trivial | omega)
         refine sas 6 rfl (v' := nI (10 * t.2.1 + (((s.getD t.1 0).toNat : Int) - 48))) ?_ ?_
         ·rw [hw8]
         refine sn tOK 0 2 [] ?_
         refine si 0 rfl rfl (fun h89 => ?_) (fun h89 => ?_)
         ·have hi3 : (fun t : Nat × Int × Int => t.1 ≤ s.length ∧ 0 ≤ t.2.1 ∧ t.2.1 ≤ 10000000000000009 ∧ -1 ≤ t.2.2 ∧ t.2.2 ≤ 3 ∧ docL (decide (t.1 = 0)) t.2.1 t.2.2 (s.drop t.1) = docL true 0 (-1) s) (t.1 + 1, 10 * t.2.1 + (((s.getD t.1 0).toNat : Int) - 48), t.2.2 - 1) := ⟨hk, by simp only; omega, by simp only; omega, by simp only; omega, by simp only; omega, by rw [ha, if_pos h89]⟩
          refine en tOK 0 3 [] ?_
          refine sn tOK 0 3 [] ?_
          refine sl 0 ?_
          first | exact hJ (t.1 + 1, t.2.1, t.2.2) hi1 (by simp only; omega) | exact hJ (t.1 + 1, t.2.1, 3) hi2 (by simp only; omega) | exact hJ (t.1 + 1, 10 * t.2.1 + (((s.getD t.1 0).toNat : Int) - 48), t.2.2 - 1) hi3 (by simp only; omega) | exact hJ (t.1 + 1, 10 * t.2.1 + (((s.getD t.1 0).toNat : Int) - 48), t.2.2) hi4 (by simp only; omega)
         ·have hi4 : (fun t : Nat × Int × Int => t.1 ≤ s.length ∧ 0 ≤ t.2.1 ∧ t.2.1 ≤ 10000000000000009 ∧ -1 ≤ t.2.2 ∧ t.2.2 ≤ 3 ∧ docL (decide (t.1 = 0)) t.2.1 t.2.2 (s.drop t.1) = docL true 0 (-1) s) (t.1 + 1, 10 * t.2.1 + (((s.getD t.1 0).toNat : Int) - 48), t.2.2) := ⟨hk, by simp only; omega, by simp only; omega, by simp only; omega, by simp only; omega, by rw [ha, if_neg h89]⟩
          refine en tOK 0 3 [] ?_
          refine sl 0 ?_
          first | exact hJ (t.1 + 1, t.2.1, t.2.2) hi1 (by simp only; omega) | exact hJ (t.1 + 1, t.2.1, 3) hi2 (by simp only; omega) | exact hJ (t.1 + 1, 10 * t.2.1 + (((s.getD t.1 0).toNat : Int) - 48), t.2.2 - 1) hi3 (by simp only; omega) | exact hJ (t.1 + 1, 10 * t.2.1 + (((s.getD t.1 0).toNat : Int) - 48), t.2.2) hi4 (by simp only; omega)
        ·have h61 : (decide ((48 : Int) ≤ ((s.getD t.1 0).toNat : Int)) && decide (((s.getD t.1 0).toNat : Int) ≤ 57) && decide (¬ t.2.2 = 0) && decide (t.2.1 ≤ 1000000000000000)) = false := h61
         have h61n : ¬ (48 ≤ (s.getD t.1 0).toNat ∧ (s.getD t.1 0).toNat ≤ 57 ∧ t.2.2 ≠ 0 ∧ t.2.1 ≤ 1000000000000000) := fun hh => by
          rw [decide_eq_true (show (48 : Int) ≤ ((s.getD t.1 0).toNat : Int) by omega), decide_eq_true (show ((s.getD t.1 0).toNat : Int) ≤ 57 by omega), decide_eq_true hh.2.2.2, decide_eq_true hh.2.2.1] at h61
          cases h61
         rw [if_neg h61n] at ha
         have e := doc_bad hn4 h20 ha
         refine en tOK 0 3 [] ?_
         refine sr 0 R ?_
         rw [e]; rfl
     ·have hd : docL true 0 (-1) s = some (t.2.1, t.2.2) := by rw [← ht6]; exact docL_end (by omega)
      refine en tOK 0 2 [] ?_
      refine si 0 rfl rfl (fun h93 => ?_) (fun h93 => ?_)
      ·obtain ⟨l0, hl0⟩ : ∃ l0 : Int, l0 = 3 := ⟨_, rfl⟩
       have hl : (if t.2.2 < 0 then 3 else t.2.2) = l0 := by rw [if_pos h93, hl0]
       have hlb : 0 ≤ l0 ∧ l0 ≤ 3 := by omega
       refine en tOK 0 1 [] ?_
       refine sl 0 ?_
       rw [← hl0]
       refine E_loop (σ := Nat × Int × Int) (fun u => u.2.2 ≤ u.1 ∧ 0 ≤ u.2.1 ∧ u.2.1 ≤ 10000000000000009 ∧ 0 ≤ u.2.2 ∧ u.2.2 ≤ 3 ∧ docT u.1 u.2.1 u.2.2 = docT 3 t.2.1 l0) (fun u => u.1)
         (fun u => [(0, .str s), (2, .l 2 0), (6, nI u.2.1), (7, nI u.2.2)])
         (fun u => [(2, .c 26 [nI 0, nI 0])]) (3, t.2.1, l0) ?_ ?_
       ·exact ⟨by simp only; omega, ht2, ht3, hlb.1, hlb.2, rfl⟩
       ·rintro J u ⟨hu1, hu2, hu3, hu4, hu5, hu6⟩ hJ
        refine en tOK 0 6 [] ?_
        refine sib 0 rfl rfl (fun h99 => ?_) (fun h99 => ?_)
        ·simp only [Bool.and_eq_true, decide_eq_true_eq] at h99
         obtain ⟨hg1, hg2⟩ := h99
         obtain ⟨q, hq⟩ : ∃ q, u.1 = q + 1 := ⟨u.1 - 1, by omega⟩
         rw [hq] at hu6
         refine en tOK 0 3 [] ?_
         refine sn tOK 0 3 [] ?_
         refine sl 0 ?_
         exact hJ (q, 10 * u.2.1, u.2.2 - 1) ⟨by simp only; omega, by simp only; omega, by simp only; omega, by simp only; omega, by simp only; omega, by rw [← hu6, docT_go hg1 hg2]⟩ (by simp only; omega)
        ·have hT : docT 3 t.2.1 (if t.2.2 < 0 then 3 else t.2.2) = (u.2.1, u.2.2) := by
          rw [hl, ← hu6]
          refine docT_no (fun hh => ?_)
          rw [decide_eq_true hh.1, decide_eq_true hh.2] at h99
          cases h99
         refine en tOK 0 1 [] ?_
         refine fc tOK 2 [] (rnum_ok) ?_
         refine sn tOK 0 7 [] ?_ (hφ := by (repeat' refine And.intro ?_ ?_) <;> first | exact id | trivial | omega | (intro hg; have hg := List.length_pos_iff.2 (of_decide_eq_true hg); exact ⟨by omega, by omega⟩))
         refine sib 0 rfl rfl (fun h112 => ?_) (fun h112 => ?_)
         ·simp only [Bool.and_eq_true, decide_eq_true_eq] at h112
          have hx : (if s.head? = some 45 then -u.2.1 else u.2.1) = 0 - u.2.1 := by
           rw [if_pos (head_getD.2 ⟨by simpa using h112.1, UInt8.toNat_inj.1 (Int.ofNat.inj h112.2)⟩)]; omega
          have e0 := doc_end hn4 h20 hd hT hx
          refine en tOK 0 2 [] ?_
          refine fc tOK 1 [] (rnum_ok) ?_
          refine sn tOK 0 4 [] ?_
          refine fg tOK 4 [] (fun hg => rfin_ok) ?_
          refine fg tOK 3 [] (fun hg => rprint_ok) ?_
          refine sib 0 rfl rfl (fun h128 => ?_) (fun h128 => ?_)
          ·have e := e0
           rw [if_pos (by simpa [or_assoc, and_assoc] using h128)] at e
           refine en tOK 0 3 [] ?_
           refine sr 0 R ?_
           rw [e]; rfl
          ·have e := e0
           rw [if_neg (by simpa [or_assoc, and_assoc] using h128)] at e
           refine en tOK 0 3 [] ?_
           refine sr 0 R ?_
           rw [e]; rfl
         ·have hx : (if s.head? = some 45 then -u.2.1 else u.2.1) = u.2.1 := if_neg (fun hh => by
           have hh := head_getD.1 hh
           have h112 : (decide (¬ s = []) && decide (((s.getD 0 0).toNat : Int) = 45)) = false := h112
           rw [decide_eq_true hh.1, decide_eq_true (show ((s.getD 0 0).toNat : Int) = 45 by rw [hh.2]; rfl)] at h112
           cases h112)
          have e0 := doc_end hn4 h20 hd hT hx
          refine en tOK 0 4 [] ?_
          refine fg tOK 4 [] (fun hg => rfin_ok) ?_
          refine fg tOK 3 [] (fun hg => rprint_ok) ?_
          refine sib 0 rfl rfl (fun h128 => ?_) (fun h128 => ?_)
          ·have e := e0
           rw [if_pos (by simpa [or_assoc, and_assoc] using h128)] at e
           refine en tOK 0 3 [] ?_
           refine sr 0 R ?_
           rw [e]; rfl
          ·have e := e0
           rw [if_neg (by simpa [or_assoc, and_assoc] using h128)] at e
           refine en tOK 0 3 [] ?_
           refine sr 0 R ?_
           rw [e]; rfl
      ·obtain ⟨l0, hl0⟩ : ∃ l0 : Int, l0 = t.2.2 := ⟨_, rfl⟩
       have hl : (if t.2.2 < 0 then 3 else t.2.2) = l0 := by rw [if_neg h93, hl0]
       have hlb : 0 ≤ l0 ∧ l0 ≤ 3 := by omega
       refine el 0 ?_
       rw [← hl0]
       refine E_loop (σ := Nat × Int × Int) (fun u => u.2.2 ≤ u.1 ∧ 0 ≤ u.2.1 ∧ u.2.1 ≤ 10000000000000009 ∧ 0 ≤ u.2.2 ∧ u.2.2 ≤ 3 ∧ docT u.1 u.2.1 u.2.2 = docT 3 t.2.1 l0) (fun u => u.1)
         (fun u => [(0, .str s), (2, .l 2 0), (6, nI u.2.1), (7, nI u.2.2)])
         (fun u => [(2, .c 26 [nI 0, nI 0])]) (3, t.2.1, l0) ?_ ?_
       ·exact ⟨by simp only; omega, ht2, ht3, hlb.1, hlb.2, rfl⟩
       ·rintro J u ⟨hu1, hu2, hu3, hu4, hu5, hu6⟩ hJ
        refine en tOK 0 6 [] ?_
        refine sib 0 rfl rfl (fun h99 => ?_) (fun h99 => ?_)
        ·simp only [Bool.and_eq_true, decide_eq_true_eq] at h99
         obtain ⟨hg1, hg2⟩ := h99
         obtain ⟨q, hq⟩ : ∃ q, u.1 = q + 1 := ⟨u.1 - 1, by omega⟩
         rw [hq] at hu6
         refine en tOK 0 3 [] ?_
         refine sn tOK 0 3 [] ?_
         refine sl 0 ?_
         exact hJ (q, 10 * u.2.1, u.2.2 - 1) ⟨by simp only; omega, by simp only; omega, by simp only; omega, by simp only; omega, by simp only; omega, by rw [← hu6, docT_go hg1 hg2]⟩ (by simp only; omega)
        ·have hT : docT 3 t.2.1 (if t.2.2 < 0 then 3 else t.2.2) = (u.2.1, u.2.2) := by
          rw [hl, ← hu6]
          refine docT_no (fun hh => ?_)
          rw [decide_eq_true hh.1, decide_eq_true hh.2] at h99
          cases h99
         refine en tOK 0 1 [] ?_
         refine fc tOK 2 [] (rnum_ok) ?_
         refine sn tOK 0 7 [] ?_ (hφ := by (repeat' refine And.intro ?_ ?_) <;> first | exact id | trivial | omega | (intro hg; have hg := List.length_pos_iff.2 (of_decide_eq_true hg); exact ⟨by omega, by omega⟩))
         refine sib 0 rfl rfl (fun h112 => ?_) (fun h112 => ?_)
         ·simp only [Bool.and_eq_true, decide_eq_true_eq] at h112
          have hx : (if s.head? = some 45 then -u.2.1 else u.2.1) = 0 - u.2.1 := by
           rw [if_pos (head_getD.2 ⟨by simpa using h112.1, UInt8.toNat_inj.1 (Int.ofNat.inj h112.2)⟩)]; omega
          have e0 := doc_end hn4 h20 hd hT hx
          refine en tOK 0 2 [] ?_
          refine fc tOK 1 [] (rnum_ok) ?_
          refine sn tOK 0 4 [] ?_
          refine fg tOK 4 [] (fun hg => rfin_ok) ?_
          refine fg tOK 3 [] (fun hg => rprint_ok) ?_
          refine sib 0 rfl rfl (fun h128 => ?_) (fun h128 => ?_)
          ·have e := e0
           rw [if_pos (by simpa [or_assoc, and_assoc] using h128)] at e
           refine en tOK 0 3 [] ?_
           refine sr 0 R ?_
           rw [e]; rfl
          ·have e := e0
           rw [if_neg (by simpa [or_assoc, and_assoc] using h128)] at e
           refine en tOK 0 3 [] ?_
           refine sr 0 R ?_
           rw [e]; rfl
         ·have hx : (if s.head? = some 45 then -u.2.1 else u.2.1) = u.2.1 := if_neg (fun hh => by
           have hh := head_getD.1 hh
           have h112 : (decide (¬ s = []) && decide (((s.getD 0 0).toNat : Int) = 45)) = false := h112
           rw [decide_eq_true hh.1, decide_eq_true (show ((s.getD 0 0).toNat : Int) = 45 by rw [hh.2]; rfl)] at h112
           cases h112)
          have e0 := doc_end hn4 h20 hd hT hx
          refine en tOK 0 4 [] ?_
          refine fg tOK 4 [] (fun hg => rfin_ok) ?_
          refine fg tOK 3 [] (fun hg => rprint_ok) ?_
          refine sib 0 rfl rfl (fun h128 => ?_) (fun h128 => ?_)
          ·have e := e0
           rw [if_pos (by simpa [or_assoc, and_assoc] using h128)] at e
           refine en tOK 0 3 [] ?_
           refine sr 0 R ?_
           rw [e]; rfl
          ·have e := e0
           rw [if_neg (by simpa [or_assoc, and_assoc] using h128)] at e
           refine en tOK 0 3 [] ?_
           refine sr 0 R ?_
           rw [e]; rfl
end Go.Proofs.YtomkgfdigldhcaaGreatDoor
namespace Go.Proofs.YtomkgfdigldhcaaGreatDoor
open Go.KX
set_option maxRecDepth 100000 in
theorem dprim0_ok {s : Bytes} {ex : Pd → Ex × Pd} {p : Pd} {dp : Nat} (hi : p.i ≤ s.length) (hs : s.length ≤ 1024) (hd : p.e ≠ 0) : Fp Tryz.prog gT 329 [.l 1000 0, nI dp] (psD s p) (exS (primD parseV s ex p).1) (psD s (primD parseV s ex p).2) := by
 refine fpb tOK (fn := Tryz.f329) 215 [.cell 4 29] Tryz.func329 Tryz.results329 (fun g0 B0 Q ρ0 R => ?_)
 have e2 := primD_dead (pv := parseV) (s := s) (ex := ex) hd
 refine en tOK 0 1 [] ?_
 refine sn tOK 0 1 [] ?_
 refine fp tOK 1000 0 [] (dblanks_ok hi hs) ?_
 refine sn tOK 0 5 [] ?_
 refine sn tOK 0 5 [] ?_
 refine si 0 rfl rfl (fun h24 => ?_) (fun h24 => ?_)
 ·refine en tOK 0 2 [] ?_
  refine srp 0 R ?_
  exact ⟨by rw [e2] <;> rfl, by rw [e2] <;> rfl⟩
 ·exact absurd hd h24
set_option maxRecDepth 100000 in
theorem dprim_ok {s : Bytes} {p : Pd} {ex : Pd → Ex × Pd} {dp : Nat} (hdp : dp ≤ 33) (fx : FitD s ex) (hex : ∀ p : Pd, p.i ≤ s.length → Fp Tryz.prog gT 50 [.l 1000 0, nI ((dp : Int) + 1)] (psD s p) (exS (ex p).1) (psD s (ex p).2)) (hi : p.i ≤ s.length) (hs : s.length ≤ 1024) : Fp Tryz.prog gT 329 [.l 1000 0, nI dp] (psD s p) (exS (primD parseV s ex p).1) (psD s (primD parseV s ex p).2) := by
 refine fpb tOK (fn := Tryz.f329) 215 [.cell 4 29] Tryz.func329 Tryz.results329 (fun g0 B0 Q ρ0 R => ?_)
 obtain ⟨q, hq⟩ : ∃ q, q = p.blanks s := ⟨_, rfl⟩
 have hbf := blank_fit hi
 have hqe : q.e = p.e := by rw [hq]; rfl
 rw [← hq] at hbf
 refine en tOK 0 1 [] ?_
 refine sn tOK 0 1 [] ?_
 refine fp tOK 1000 0 [] (dblanks_ok hi hs) ?_
 rw [← hq]
 refine sn tOK 0 5 [] ?_
 refine sn tOK 0 5 [] ?_
 refine si 0 rfl rfl (fun h24 => ?_) (fun h24 => ?_)
 ·have e2 := primD_dead (pv := parseV) (s := s) (ex := ex) (p := p) (hqe ▸ h24)
  rw [← hq] at e2
  refine en tOK 0 2 [] ?_
  refine srp 0 R ?_
  exact ⟨by rw [e2] <;> rfl, by rw [e2] <;> first | rfl | (rw [hp2i] <;> rfl) | (rw [hfi] <;> rfl)⟩
 ·have hd : p.e = 0 := hqe ▸ Decidable.not_not.1 h24
  refine en tOK 0 2 [] ?_
  refine fp tOK 1000 1 [] (dtake_ok (l := [oPL]) one_le hbf.2 hs) ?_
  refine si 0 rfl rfl (fun h29 => ?_) (fun h29 => ?_)
  ·obtain ⟨o, e1⟩ : ∃ o, takeTD s [oPL] q = some o := Option.ne_none_iff_exists'.1 (fun h => h29 (takeT_str.2 h))
   have e2 := primD_par (pv := parseV) (ex := ex) hd (hq ▸ e1)
   rw [← hq] at e2
   have htf := takeD_fit (l := [oPL]) hbf.2
   have hx1 := fx _ htf.2
   refine en tOK 0 3 [] ?_
   refine fp tOK 1000 2 [] (hex (takePD s [oPL] q) htf.2) ?_
   refine sn tOK 0 1 [] ?_
   refine fp tOK 1000 0 [] (dmust_ok (x := oPR) (p := (ex (takePD s [oPL] q)).2) hx1.2 hs) ?_
   refine sn tOK 0 2 [] ?_
   refine srp 0 R ?_
   exact ⟨by rw [e2] <;> rfl, by rw [e2] <;> first | rfl | (rw [hp2i] <;> rfl) | (rw [hfi] <;> rfl)⟩
  ·have e1 : takeTD s [oPL] q = none := takeT_str.1 (Decidable.not_not.1 h29)
   have e1p : takeTD s [oPL] (p.blanks s) = none := hq ▸ e1
   have etp : takePD s [oPL] q = q := by rw [hq]; exact take_blank e1p
   rw [etp]
   refine en tOK 0 7 [] ?_
   refine si 0 rfl rfl (fun h43 => ?_) (fun h43 => ?_)
   ·have e2 := primD_nil (pv := parseV) (ex := ex) hd e1p (by rw [← hq]; exact List.drop_eq_nil_of_le (by omega))
    rw [← hq] at e2
    refine en tOK 0 2 [] ?_
    refine fp tOK 1000 0 [] (dfail_ok) ?_
    refine sn tOK 0 2 [] ?_
    refine srp 0 R ?_
    exact ⟨by rw [e2] <;> rfl, by rw [e2] <;> first | rfl | (rw [hp2i] <;> rfl) | (rw [hfi] <;> rfl)⟩
   ·have hlt : q.i < s.length := by omega
    obtain ⟨c, hc⟩ : ∃ c, c = s.getD q.i 0 := ⟨_, rfl⟩
    obtain ⟨r, hr⟩ : ∃ r, r = s.drop (q.i + 1) := ⟨_, rfl⟩
    have hcr : s.drop q.i = c :: r := by rw [hc, hr]; exact dropD_cons hlt
    have e0 := primD_cons (pv := parseV) (ex := ex) hd e1p (by rw [← hq]; exact hcr)
    rw [← hq] at e0
    refine en tOK 0 7 [] ?_ (hφ := by (repeat' refine And.intro ?_ ?_) <;> first | exact id | trivial | omega | (intro hg h2; rw [hg, h2]; rfl) | (intro hg; rw [hg]; rfl) | (intro hg; simp only [Bool.and_eq_true, decide_eq_true_eq] at hg; refine ⟨?_, ?_⟩ <;> omega))
    refine sas 7 rfl (v' := .v (.int .u8 (c.toNat : Int))) ?_ ?_
    ·rw [hc] <;> rfl
    refine sn tOK 0 1 [] ?_
    refine fc tOK 1 [] (digit_ok (c := c) rfl) ?_
    refine sib 0 rfl rfl (fun h54 => ?_) (fun h54 => ?_)
    ·have hg : c ∈ gDig := of_decide_eq_true h54
     refine en tOK 0 2 [] ?_
     refine sl 0 ?_
     refine E_loop (σ := Nat) (fun k => q.i + k ≤ s.length ∧ ∀ x ∈ (s.drop (q.i)).take k, x ∈ gDig) (fun k => s.length - k)
       (fun k => [(0, .l 1000 0), (1, nI dp), (4, .l 4 0), (5, nI q.i), (8, nI ((q.i + k : Nat) : Int))])
       (fun k => [(4, .c 29 [nI 0, .str [], nI 0, nI 0, .s 0 []]), (1000, psD s q)]) 0 ?_ ?_
     ·exact ⟨by omega, by simp⟩
     ·rintro J k ⟨hk0, hk1⟩ hK
      refine en tOK 0 14 [] ?_ (hφ := by (repeat' refine And.intro ?_ ?_) <;> first | exact id | trivial | omega | (intro hg h2; rw [hg, h2]; rfl) | (intro hg; rw [hg]; rfl) | (intro hg; simp only [Bool.and_eq_true, decide_eq_true_eq] at hg; refine ⟨?_, ?_⟩ <;> omega))
      refine fg tOK 1 [] (fun hg => digit_ok (c := s.getD (q.i + k) 0) rfl) ?_ (hφ := by (repeat' refine And.intro ?_ ?_) <;> first | exact id | trivial | omega | (intro hg h2; rw [hg, h2]; rfl) | (intro hg; rw [hg]; rfl) | (intro hg; simp only [Bool.and_eq_true, decide_eq_true_eq] at hg; refine ⟨?_, ?_⟩ <;> omega))
      refine sib 0 rfl rfl (fun h73 => ?_) (fun h73 => ?_)
      ·simp only [Bool.and_eq_true] at h73
       have q1 := of_decide_eq_true h73.1
       have hld1 := of_decide_eq_true h73.2
       refine en tOK 0 3 [] ?_ (hφ := by (repeat' refine And.intro ?_ ?_) <;> first | omega | exact id | trivial)
       refine sl 0 ?_
       refine eas 8 rfl (v' := nI ((q.i + (k + 1) : Nat) : Int)) (congrArg (fun z : Int => nI z) (by omega)) ?_
       exact hK (k + 1) ⟨by omega, fun x hx => by
        have hkl : k < (s.drop (q.i)).length := by rw [List.length_drop]; omega
        rw [List.take_succ_eq_append_getElem hkl] at hx
        rcases List.mem_append.1 hx with hx | hx
        · exact hk1 x hx
        · simp only [List.mem_singleton] at hx
          rw [hx, drop_getD (by omega)]; exact hld1⟩ (by omega)
      ·have ek : runB gDig (s.drop (q.i)) = k := runB_at (by rw [List.length_drop]; omega) hk1 (fun hh hm => by
        rw [List.length_drop] at hh
        rw [drop_getD (by omega)] at hm
        rcases Bool.and_eq_false_iff.1 h73 with q | q
        · exact of_decide_eq_false q (by omega)
        · exact of_decide_eq_false q hm)
       refine en tOK 0 25 [] ?_ (hφ := by (repeat' refine And.intro ?_ ?_) <;> first | exact id | trivial | omega | (intro hg h2; rw [hg, h2]; rfl) | (intro hg; rw [hg]; rfl) | (intro hg; simp only [Bool.and_eq_true, decide_eq_true_eq] at hg; refine ⟨?_, ?_⟩ <;> omega))
       refine fg tOK 1 [] (fun hg => digit_ok (c := s.getD (q.i + k + 1) 0) rfl) ?_ (hφ := by (repeat' refine And.intro ?_ ?_) <;> first | exact id | trivial | omega | (intro hg h2; rw [hg, h2]; rfl) | (intro hg; rw [hg]; rfl) | (intro hg; simp only [Bool.and_eq_true, decide_eq_true_eq] at hg; refine ⟨?_, ?_⟩ <;> omega))
       refine sib 0 rfl rfl (fun h102 => ?_) (fun h102 => ?_)
       ·simp only [Bool.and_eq_true, decide_eq_true_eq] at h102
        obtain ⟨⟨g1, g2⟩, g3⟩ := h102
        have g1 : q.i + k + 1 < s.length := by omega
        have g2 : s.getD (q.i + k) 0 = 46 := UInt8.toNat_inj.1 (Int.ofNat.inj g2)
        refine en tOK 0 3 [] ?_ (hφ := by (repeat' refine And.intro ?_ ?_) <;> first | omega | exact id | trivial)
        refine sl 0 ?_
        refine E_loop (σ := Nat) (fun m => q.i + k + 1 + m ≤ s.length ∧ ∀ x ∈ (s.drop (q.i + k + 1)).take m, x ∈ gDig) (fun m => s.length - m)
          (fun m => [(0, .l 1000 0), (1, nI dp), (4, .l 4 0), (5, nI q.i), (8, nI ((q.i + k + 1 + m : Nat) : Int))])
          (fun m => [(4, .c 29 [nI 0, .str [], nI 0, nI 0, .s 0 []]), (1000, psD s q)]) 0 ?_ ?_
        ·exact ⟨by omega, by simp⟩
        ·rintro J m ⟨hm0, hm1⟩ hM
         refine en tOK 0 14 [] ?_ (hφ := by (repeat' refine And.intro ?_ ?_) <;> first | exact id | trivial | omega | (intro hg h2; rw [hg, h2]; rfl) | (intro hg; rw [hg]; rfl) | (intro hg; simp only [Bool.and_eq_true, decide_eq_true_eq] at hg; refine ⟨?_, ?_⟩ <;> omega))
         refine fg tOK 1 [] (fun hg => digit_ok (c := s.getD (q.i + k + 1 + m) 0) rfl) ?_ (hφ := by (repeat' refine And.intro ?_ ?_) <;> first | exact id | trivial | omega | (intro hg h2; rw [hg, h2]; rfl) | (intro hg; rw [hg]; rfl) | (intro hg; simp only [Bool.and_eq_true, decide_eq_true_eq] at hg; refine ⟨?_, ?_⟩ <;> omega))
         refine sib 0 rfl rfl (fun h120 => ?_) (fun h120 => ?_)
         ·simp only [Bool.and_eq_true] at h120
          have q1 := of_decide_eq_true h120.1
          have hld2 := of_decide_eq_true h120.2
          refine en tOK 0 3 [] ?_ (hφ := by (repeat' refine And.intro ?_ ?_) <;> first | omega | exact id | trivial)
          refine sl 0 ?_
          refine eas 8 rfl (v' := nI ((q.i + k + 1 + (m + 1) : Nat) : Int)) (congrArg (fun z : Int => nI z) (by omega)) ?_
          exact hM (m + 1) ⟨by omega, fun x hx => by
           have hkl : m < (s.drop (q.i + k + 1)).length := by rw [List.length_drop]; omega
           rw [List.take_succ_eq_append_getElem hkl] at hx
           rcases List.mem_append.1 hx with hx | hx
           · exact hm1 x hx
           · simp only [List.mem_singleton] at hx
             rw [hx, drop_getD (by omega)]; exact hld2⟩ (by omega)
         ·have em : runB gDig (s.drop (q.i + k + 1)) = m := runB_at (by rw [List.length_drop]; omega) hm1 (fun hh hm => by
           rw [List.length_drop] at hh
           rw [drop_getD (by omega)] at hm
           rcases Bool.and_eq_false_iff.1 h120 with q | q
           · exact of_decide_eq_false q (by omega)
           · exact of_decide_eq_false q hm)
          obtain ⟨nl, hnl⟩ : ∃ nl, nl = numLen (s.drop q.i) := ⟨_, rfl⟩
          have enl : nl = k + 1 + m := by rw [hnl]; exact numLen_long ek g1 g2 g3 em
          refine eas 8 rfl (v' := nI ((q.i + nl : Nat) : Int)) ?_ ?_
          ·exact nI_eq (by omega)
          refine en tOK 0 7 [] ?_ (hφ := by (repeat' refine And.intro ?_ ?_) <;> first | exact id | trivial | omega | (intro hg h2; rw [hg, h2]; rfl) | (intro hg; rw [hg]; rfl) | (intro hg; simp only [Bool.and_eq_true, decide_eq_true_eq] at hg; refine ⟨?_, ?_⟩ <;> omega))
          obtain ⟨W, hW⟩ : ∃ W, W = (s.drop q.i).take nl := ⟨_, rfl⟩
          have hWl : W.length ≤ 1000000 := by rw [hW, List.length_take, List.length_drop]; omega
          have e3 : primD parseV s ex p = (exN (parseV W).1, { (if (parseV W).2 = 0 then q else q.fail 110 q.i) with i := q.i + nl }) := by rw [e0, if_pos hg, ← hcr, hW, hnl]; rfl
          refine sas 130 rfl (v' := .str W) ?_ ?_
          ·rw [hW, show ((q.i + nl : Nat) : Int).toNat - (q.i : Int).toNat = nl by omega] <;> rfl
          refine fc tOK 6 [] (rvparse_ok (s := W) hWl) ?_
          refine sn tOK 0 2 [] ?_
          refine si 0 rfl rfl (fun h135 => ?_) (fun h135 => ?_)
          ·have hfi := dfail_i q 110 q.i
           have e2 := e3
           rw [if_neg h135] at e2
           refine en tOK 0 2 [] ?_
           refine fp tOK 1000 0 [] (dfail_ok) ?_
           refine sn tOK 0 5 [] ?_
           refine sn tOK 0 3 [] ?_
           refine srp 0 R ?_
           exact ⟨by rw [e2] <;> rfl, by rw [e2] <;> first | rfl | (rw [hp2i] <;> rfl) | (rw [hfi] <;> rfl)⟩
          ·have e2 := e3
           rw [if_pos (Decidable.not_not.1 h135)] at e2
           refine en tOK 0 5 [] ?_
           refine sn tOK 0 3 [] ?_
           refine srp 0 R ?_
           exact ⟨by rw [e2] <;> rfl, by rw [e2] <;> first | rfl | (rw [hp2i] <;> rfl) | (rw [hfi] <;> rfl)⟩
       ·obtain ⟨nl, hnl⟩ : ∃ nl, nl = numLen (s.drop q.i) := ⟨_, rfl⟩
        have enl : nl = k := by
         rw [hnl]
         refine numLen_short ek (fun hh => ?_)
         have h102 : (decide ((q.i : Int) + k + 1 < s.length) && decide (((s.getD (q.i + k) 0).toNat : Int) = 46) && decide (s.getD (q.i + k + 1) 0 ∈ gDig)) = false := h102
         rw [decide_eq_true (show (q.i : Int) + k + 1 < s.length by omega), decide_eq_true (show ((s.getD (q.i + k) 0).toNat : Int) = 46 by rw [hh.2.1]; rfl), decide_eq_true hh.2.2] at h102
         cases h102
        refine eas 8 rfl (v' := nI ((q.i + nl : Nat) : Int)) ?_ ?_
        ·exact nI_eq (by omega)
        refine en tOK 0 7 [] ?_ (hφ := by (repeat' refine And.intro ?_ ?_) <;> first | exact id | trivial | omega | (intro hg h2; rw [hg, h2]; rfl) | (intro hg; rw [hg]; rfl) | (intro hg; simp only [Bool.and_eq_true, decide_eq_true_eq] at hg; refine ⟨?_, ?_⟩ <;> omega))
        obtain ⟨W, hW⟩ : ∃ W, W = (s.drop q.i).take nl := ⟨_, rfl⟩
        have hWl : W.length ≤ 1000000 := by rw [hW, List.length_take, List.length_drop]; omega
        have e3 : primD parseV s ex p = (exN (parseV W).1, { (if (parseV W).2 = 0 then q else q.fail 110 q.i) with i := q.i + nl }) := by rw [e0, if_pos hg, ← hcr, hW, hnl]; rfl
        refine sas 130 rfl (v' := .str W) ?_ ?_
        ·rw [hW, show ((q.i + nl : Nat) : Int).toNat - (q.i : Int).toNat = nl by omega] <;> rfl
        refine fc tOK 6 [] (rvparse_ok (s := W) hWl) ?_
        refine sn tOK 0 2 [] ?_
        refine si 0 rfl rfl (fun h135 => ?_) (fun h135 => ?_)
        ·have hfi := dfail_i q 110 q.i
         have e2 := e3
         rw [if_neg h135] at e2
         refine en tOK 0 2 [] ?_
         refine fp tOK 1000 0 [] (dfail_ok) ?_
         refine sn tOK 0 5 [] ?_
         refine sn tOK 0 3 [] ?_
         refine srp 0 R ?_
         exact ⟨by rw [e2] <;> rfl, by rw [e2] <;> first | rfl | (rw [hp2i] <;> rfl) | (rw [hfi] <;> rfl)⟩
        ·have e2 := e3
         rw [if_pos (Decidable.not_not.1 h135)] at e2
         refine en tOK 0 5 [] ?_
         refine sn tOK 0 3 [] ?_
         refine srp 0 R ?_
         exact ⟨by rw [e2] <;> rfl, by rw [e2] <;> first | rfl | (rw [hp2i] <;> rfl) | (rw [hfi] <;> rfl)⟩
    ·have hg : c ∉ gDig := of_decide_eq_false h54
     refine en tOK 0 3 [] ?_
     refine si 0 rfl rfl (fun h145 => ?_) (fun h145 => ?_)
     ·have hc2 : c = 36 := u8_eq (k := 36) h145
      obtain ⟨w, hw⟩ : ∃ w, w = r.take (runB gLD r) := ⟨_, rfl⟩
      have hwl : w.length ≤ s.length - (q.i + 1) := by rw [hw, List.length_take, hr, List.length_drop]; omega
      obtain ⟨p2, hp2⟩ : ∃ p2, p2 = (if refB w then q else q.fail 110 q.i) := ⟨_, rfl⟩
      have hp2i : p2.i = q.i := by rw [hp2]; split <;> simp [dfail_i]
      have e2 : primD parseV s ex p = (exR w, { p2 with i := q.i + (1 + w.length) }) := by rw [e0, if_neg hg, if_pos hc2, hp2, hw]; rfl
      refine en tOK 0 3 [] ?_ (hφ := by (repeat' refine And.intro ?_ ?_) <;> first | omega | exact id | trivial)
      refine sas 150 rfl (v' := nI ((q.i + 1 : Nat) : Int)) ?_ ?_
      ·rfl
      refine fp tOK 1000 1 [] (dword_ok (fr := q.i + 1) (by omega) hs) ?_
      refine sas 11 rfl (v' := .str w) ?_ ?_
      ·rw [hw, hr]
      refine sn tOK 0 1 [] ?_
      refine fc tOK 1 [] (rref_ok (w := w) (by omega)) ?_
      refine sib 0 rfl rfl (fun h154 => ?_) (fun h154 => ?_)
      ·refine en tOK 0 2 [] ?_
       refine fp tOK 1000 0 [] (dfail_ok) ?_
       refine smb 1000 (mb' := psD s p2) ?_ ?_
       ·rw [hp2]; first | rw [if_pos (by simpa using h154)] | rw [if_neg (by simpa using h154)]
       refine sn tOK 0 9 [] ?_ (hφ := by (repeat' refine And.intro ?_ ?_) <;> omega)
       refine smb 1000 (mb' := psD s { p2 with i := q.i + (1 + w.length) }) ?_ ?_
       ·exact congrArg (fun z : Int => MB.c 101 [.str s, nI z, nI p2.e, nI p2.at_]) (by show ((q.i : Int) + 1 + w.length) = ((q.i + (1 + w.length) : Nat) : Int); omega)
       refine sn tOK 0 3 [] ?_
       refine srp 0 R ?_
       exact ⟨by rw [e2] <;> rfl, by rw [e2] <;> first | rfl | (rw [hp2i] <;> rfl) | (rw [hfi] <;> rfl)⟩
      ·refine emb 1000 (mb' := psD s p2) ?_ ?_
       ·rw [hp2]; first | rw [if_pos (by simpa using h154)] | rw [if_neg (by simpa using h154)]
       refine en tOK 0 9 [] ?_ (hφ := by (repeat' refine And.intro ?_ ?_) <;> omega)
       refine smb 1000 (mb' := psD s { p2 with i := q.i + (1 + w.length) }) ?_ ?_
       ·exact congrArg (fun z : Int => MB.c 101 [.str s, nI z, nI p2.e, nI p2.at_]) (by show ((q.i : Int) + 1 + w.length) = ((q.i + (1 + w.length) : Nat) : Int); omega)
       refine sn tOK 0 3 [] ?_
       refine srp 0 R ?_
       exact ⟨by rw [e2] <;> rfl, by rw [e2] <;> first | rfl | (rw [hp2i] <;> rfl) | (rw [hfi] <;> rfl)⟩
     ·have hc2 : c ≠ 36 := fun h => h145 (by rw [h]; rfl)
      refine en tOK 0 1 [] ?_
      refine fc tOK 1 [] (letter_ok (c := c) rfl) ?_
      refine sib 0 rfl rfl (fun h168 => ?_) (fun h168 => ?_)
      ·have hg2 : c ∈ gLet := of_decide_eq_true h168
       obtain ⟨w, hw⟩ : ∃ w, w = (s.drop q.i).take (runB gLD (s.drop q.i)) := ⟨_, rfl⟩
       have hwl : w.length ≤ s.length - q.i := by rw [hw, List.length_take, List.length_drop]; omega
       obtain ⟨p1, hp1⟩ : ∃ p1 : Pd, p1 = { q with i := q.i + w.length } := ⟨_, rfl⟩
       have hp1i : p1.i = q.i + w.length := by rw [hp1]
       have e4 : primD parseV s ex p = wordD s ex (s.drop q.i) q := by rw [e0, if_neg hg, if_neg hc2, if_pos hg2, hcr]
       have hm1 := mustD_fit (s := s) (x := oPL) (p := p1) (by omega)
       have hx1 := fx _ hm1.2
       refine en tOK 0 2 [] ?_
       refine fp tOK 1000 1 [] (dword_ok (fr := q.i) (by omega) hs) ?_
       refine sas 12 rfl (v' := .str w) ?_ ?_
       ·rw [hw]
       refine sn tOK 0 8 [] ?_ (hφ := by (repeat' refine And.intro ?_ ?_) <;> omega)
       refine smb 1000 (mb' := psD s p1) ?_ ?_
       ·rw [hp1]; rfl
       refine sn tOK 0 3 [] ?_
       refine si 0 rfl rfl (fun h181 => ?_) (fun h181 => ?_)
       ·have e2 : primD parseV s ex p = (exN nullV, p1) := by rw [e4]; unfold wordD; simp only; rw [← hw, if_pos h181, hp1]
        refine en tOK 0 0 [] ?_
        refine fc tOK 2 [] (rnull_ok) ?_
        refine srp 0 R ?_
        exact ⟨by rw [e2] <;> rfl, by rw [e2] <;> first | rfl | (rw [hp2i] <;> rfl) | (rw [hfi] <;> rfl)⟩
       ·refine en tOK 0 3 [] ?_
        refine si 0 rfl rfl (fun h186 => ?_) (fun h186 => ?_)
        ·have e2 : primD parseV s ex p = (exN nanV, p1) := by rw [e4]; unfold wordD; simp only; rw [← hw, if_neg h181, if_pos h186, hp1]
         refine en tOK 0 0 [] ?_
         refine fc tOK 2 [] (rnan_ok) ?_
         refine srp 0 R ?_
         exact ⟨by rw [e2] <;> rfl, by rw [e2] <;> first | rfl | (rw [hp2i] <;> rfl) | (rw [hfi] <;> rfl)⟩
        ·refine en tOK 0 3 [] ?_
         refine si 0 rfl rfl (fun h191 => ?_) (fun h191 => ?_)
         ·have e2 : primD parseV s ex p = (exN plusV, p1) := by rw [e4]; unfold wordD; simp only; rw [← hw, if_neg h181, if_neg h186, if_pos h191, hp1]
          refine en tOK 0 0 [] ?_
          refine fc tOK 2 [] (rplus_ok) ?_
          refine srp 0 R ?_
          exact ⟨by rw [e2] <;> rfl, by rw [e2] <;> first | rfl | (rw [hp2i] <;> rfl) | (rw [hfi] <;> rfl)⟩
         ·refine en tOK 0 1 [] ?_
          refine fc tOK 1 [] (rfunction_ok) ?_
          refine sib 0 rfl rfl (fun h196 => ?_) (fun h196 => ?_)
          ·have e2 : primD parseV s ex p = (exC w [(parD s ex (mustD s oPL p1)).1], (parD s ex (mustD s oPL p1)).2) := by rw [e4]; unfold wordD; simp only; rw [← hw, if_neg h181, if_neg h186, if_neg h191, if_pos h196, hp1]
           refine en tOK 0 1 [] ?_
           refine fp tOK 1000 0 [] (dmust_ok (x := oPL) (p := p1) (by omega) hs) ?_
           refine sn tOK 0 3 [] ?_
           refine fp tOK 1000 2 [] (hex (mustD s oPL p1) hm1.2) ?_
           refine sn tOK 0 1 [] ?_
           refine fp tOK 1000 0 [] (dmust_ok (x := oPR) (p := (ex (mustD s oPL p1)).2) hx1.2 hs) ?_
           refine sn tOK 0 3 [] ?_
           refine fc tOK 1 [] (rcall1_ok) ?_
           refine srp 0 R ?_
           exact ⟨by rw [e2] <;> rfl, by rw [e2] <;> first | rfl | (rw [hp2i] <;> rfl) | (rw [hfi] <;> rfl)⟩
          ·have e2 : primD parseV s ex p = (ex0, p1.fail 110 q.i) := by rw [e4]; unfold wordD; simp only; rw [← hw, if_neg h181, if_neg h186, if_neg h191, if_neg (by rw [h196]; decide), hp1]
           refine en tOK 0 2 [] ?_
           refine fp tOK 1000 0 [] (dfail_ok) ?_
           refine sn tOK 0 2 [] ?_
           refine srp 0 R ?_
           exact ⟨by rw [e2] <;> rfl, by rw [e2] <;> first | rfl | (rw [hp2i] <;> rfl) | (rw [hfi] <;> rfl)⟩
      ·have hg2 : c ∉ gLet := of_decide_eq_false h168
       have e2 : primD parseV s ex p = (ex0, q.fail 110 q.i) := by rw [e0, if_neg hg, if_neg hc2, if_neg hg2]
       refine en tOK 0 2 [] ?_
       refine fp tOK 1000 0 [] (dfail_ok) ?_
       refine sn tOK 0 2 [] ?_
       refine srp 0 R ?_
       exact ⟨by rw [e2] <;> rfl, by rw [e2] <;> first | rfl | (rw [hp2i] <;> rfl) | (rw [hfi] <;> rfl)⟩
end Go.Proofs.YtomkgfdigldhcaaGreatDoor
namespace Go.Proofs.YtomkgfdigldhcaaGreatDoor
open Go.KX
theorem dlev1_ok {s : Bytes} {u : Pd → Ex × Pd} {dp : Nat} (hs : s.length ≤ 1024) (fu : FitD s u) (hu : (∀ p : Pd, p.i ≤ s.length → Fp Tryz.prog gT 314 [.l 1000 0, nI dp] (psD s p) (exS (u p).1) (psD s (u p).2))) (p : Pd) (hi : p.i ≤ s.length) : Fp Tryz.prog gT 282 [.l 1000 0, nI dp] (psD s p) (exS (levD s u 1 p).1) (psD s (levD s u 1 p).2) := dprod_ok (sub := u) fu hu hi hs
theorem dlev2_ok {s : Bytes} {u : Pd → Ex × Pd} {dp : Nat} (hs : s.length ≤ 1024) (fu : FitD s u) (hu : (∀ p : Pd, p.i ≤ s.length → Fp Tryz.prog gT 314 [.l 1000 0, nI dp] (psD s p) (exS (u p).1) (psD s (u p).2))) (p : Pd) (hi : p.i ≤ s.length) : Fp Tryz.prog gT 217 [.l 1000 0, nI dp] (psD s p) (exS (levD s u 2 p).1) (psD s (levD s u 2 p).2) := dsum_ok (sub := levD s u 1) (levD_fit fu 1) (dlev1_ok hs fu hu) hi hs
theorem dlev3_ok {s : Bytes} {u : Pd → Ex × Pd} {dp : Nat} (hs : s.length ≤ 1024) (fu : FitD s u) (hu : (∀ p : Pd, p.i ≤ s.length → Fp Tryz.prog gT 314 [.l 1000 0, nI dp] (psD s p) (exS (u p).1) (psD s (u p).2))) (p : Pd) (hi : p.i ≤ s.length) : Fp Tryz.prog gT 141 [.l 1000 0, nI dp] (psD s p) (exS (levD s u 3 p).1) (psD s (levD s u 3 p).2) := drel_ok (sub := levD s u 2) (levD_fit fu 2) (dlev2_ok hs fu hu) hi hs
theorem dlev4_ok {s : Bytes} {u : Pd → Ex × Pd} {dp : Nat} (hs : s.length ≤ 1024) (fu : FitD s u) (hu : (∀ p : Pd, p.i ≤ s.length → Fp Tryz.prog gT 314 [.l 1000 0, nI dp] (psD s p) (exS (u p).1) (psD s (u p).2))) (p : Pd) (hi : p.i ≤ s.length) : Fp Tryz.prog gT 93 [.l 1000 0, nI dp] (psD s p) (exS (levD s u 4 p).1) (psD s (levD s u 4 p).2) := dand_ok (sub := levD s u 3) (levD_fit fu 3) (dlev3_ok hs fu hu) hi hs
set_option maxRecDepth 100000 in
theorem dexpr_ok {s : Bytes} {u : Pd → Ex × Pd} {p : Pd} {dp : Nat} (fu : FitD s u) (hu : (∀ p : Pd, p.i ≤ s.length → Fp Tryz.prog gT 314 [.l 1000 0, nI dp] (psD s p) (exS (u p).1) (psD s (u p).2))) (hi : p.i ≤ s.length) (hs : s.length ≤ 1024) : Fp Tryz.prog gT 50 [.l 1000 0, nI dp] (psD s p) (exS (exprD s u dp p).1) (psD s (exprD s u dp p).2) := by
 refine fpb tOK (fn := Tryz.f50) 30 [.cell 4 29] Tryz.func50 Tryz.results50 (fun g0 B0 Q ρ0 R => ?_)
 obtain ⟨E, hE⟩ : ∃ E, E = enterD s dp p := ⟨_, rfl⟩
 have he := enterD_fit (s := s) (d := dp) hi
 rw [← hE] at he
 have hf4 := levD_fit fu 4
 have e3 : exprD s u dp p = loopG (tkD s) (levD s u 4) [oOr] false (s.length + 1) (levD s u 4 E).1 (levD s u 4 E).2 := by rw [hE]; rfl
 refine en tOK 0 1 [] ?_
 refine sn tOK 0 1 [] ?_
 refine fp tOK 1000 0 [] (dblanks_ok hi hs) ?_
 refine sn tOK 0 2 [] ?_
 refine si 0 rfl rfl (fun h9 => ?_) (fun h9 => ?_)
 ·have ee : (p.blanks s).fail 111 (p.blanks s).i = E := by rw [hE]; unfold enterD; rw [if_pos (by omega)]
  refine en tOK 0 5 [] ?_
  refine fp tOK 1000 0 [] (dfail_ok) ?_
  refine smb 1000 (mb' := psD s E) ?_ ?_
  ·rw [ee]
  refine sn tOK 0 2 [] ?_
  refine fp tOK 1000 2 [] (dlev4_ok hs fu hu E he.2) ?_
  refine sl 0 ?_
  refine E_loop (σ := Nat × Ex × Pd) (fun t => t.2.2.i ≤ s.length ∧ s.length < t.1 + t.2.2.i ∧ loopG (tkD s) (levD s u 4) [oOr] false t.1 t.2.1 t.2.2 = loopG (tkD s) (levD s u 4) [oOr] false (s.length + 1) (levD s u 4 E).1 (levD s u 4 E).2) (fun t => t.1)
    (fun t => [(0, .l 1000 0), (1, nI dp), (4, .l 4 0), (5, .l 5 0)])
    (fun t => [(5, .c 29 (exL t.2.1)), (4, .c 29 [nI 0, .str [], nI 0, nI 0, .s 0 []]), (1000, psD s t.2.2)]) (s.length + 1, (levD s u 4 E).1, (levD s u 4 E).2) ?_ ?_
  ·exact ⟨(hf4 E he.2).2, by simp only; omega, rfl⟩
  ·rintro J t ⟨ht1, ht2, ht3⟩ hJ
   obtain ⟨k, hk⟩ : ∃ k, t.1 = k + 1 := ⟨t.1 - 1, by omega⟩
   have htf := takeD_fit (l := [oOr]) ht1
   have hsf := hf4 _ htf.2
   rw [hk] at ht3
   refine en tOK 0 2 [] ?_
   refine fp tOK 1000 1 [] (dtake_ok (l := [oOr]) one_le ht1 hs) ?_
   refine si 0 rfl rfl (fun h22 => ?_) (fun h22 => ?_)
   ·obtain ⟨o, e1⟩ : ∃ o, takeTD s [oOr] t.2.2 = some o := Option.ne_none_iff_exists'.1 (fun h => h22 (takeT_str.2 h))
    obtain rfl : o = oOr := List.mem_singleton.1 (takeTD_ok e1).2
    refine edr 0 72 [0, 0, 0, 6, 15, 31, 63] [1, 2, 3, 0, 4, 5, 6] ?_
    refine xd tOK 2 [] ?_
    refine dpc tOK 1000 0 [] (dlev4_ok hs fu hu (takePD s [oOr] t.2.2) htf.2) ?_
    refine dl tOK 1 [] ?_
    refine dc tOK 1 [] (rcall2_ok) ?_
    refine xe ?_
    refine sl 0 ?_
    exact hJ (k, exC oOr [t.2.1, (levD s u 4 (takePD s [oOr] t.2.2)).1], (levD s u 4 (takePD s [oOr] t.2.2)).2) ⟨hsf.2, by simp only; have := takeD_more ht1 e1; omega, by rw [← ht3, loopD_more e1]⟩ (by simp only; omega)
   ·have e1 : takeTD s [oOr] t.2.2 = none := takeT_str.1 (Decidable.not_not.1 h22)
    have e2 : exprD s u dp p = (t.2.1, takePD s [oOr] t.2.2) := by rw [e3, ← ht3, loopD_none e1]
    refine en tOK 0 2 [] ?_
    refine srp 0 R ?_
    exact ⟨by rw [e2] <;> rfl, by rw [e2] <;> rfl⟩
 ·have ee : p.blanks s = E := by rw [hE]; unfold enterD; rw [if_neg (by omega)]
  refine emb 1000 (mb' := psD s E) ?_ ?_
  ·rw [ee]
  refine en tOK 0 2 [] ?_
  refine fp tOK 1000 2 [] (dlev4_ok hs fu hu E he.2) ?_
  refine sl 0 ?_
  refine E_loop (σ := Nat × Ex × Pd) (fun t => t.2.2.i ≤ s.length ∧ s.length < t.1 + t.2.2.i ∧ loopG (tkD s) (levD s u 4) [oOr] false t.1 t.2.1 t.2.2 = loopG (tkD s) (levD s u 4) [oOr] false (s.length + 1) (levD s u 4 E).1 (levD s u 4 E).2) (fun t => t.1)
    (fun t => [(0, .l 1000 0), (1, nI dp), (4, .l 4 0), (5, .l 5 0)])
    (fun t => [(5, .c 29 (exL t.2.1)), (4, .c 29 [nI 0, .str [], nI 0, nI 0, .s 0 []]), (1000, psD s t.2.2)]) (s.length + 1, (levD s u 4 E).1, (levD s u 4 E).2) ?_ ?_
  ·exact ⟨(hf4 E he.2).2, by simp only; omega, rfl⟩
  ·rintro J t ⟨ht1, ht2, ht3⟩ hJ
   obtain ⟨k, hk⟩ : ∃ k, t.1 = k + 1 := ⟨t.1 - 1, by omega⟩
   have htf := takeD_fit (l := [oOr]) ht1
   have hsf := hf4 _ htf.2
   rw [hk] at ht3
   refine en tOK 0 2 [] ?_
   refine fp tOK 1000 1 [] (dtake_ok (l := [oOr]) one_le ht1 hs) ?_
   refine si 0 rfl rfl (fun h22 => ?_) (fun h22 => ?_)
   ·obtain ⟨o, e1⟩ : ∃ o, takeTD s [oOr] t.2.2 = some o := Option.ne_none_iff_exists'.1 (fun h => h22 (takeT_str.2 h))
    obtain rfl : o = oOr := List.mem_singleton.1 (takeTD_ok e1).2
    refine edr 0 72 [0, 0, 0, 6, 15, 31, 63] [1, 2, 3, 0, 4, 5, 6] ?_
    refine xd tOK 2 [] ?_
    refine dpc tOK 1000 0 [] (dlev4_ok hs fu hu (takePD s [oOr] t.2.2) htf.2) ?_
    refine dl tOK 1 [] ?_
    refine dc tOK 1 [] (rcall2_ok) ?_
    refine xe ?_
    refine sl 0 ?_
    exact hJ (k, exC oOr [t.2.1, (levD s u 4 (takePD s [oOr] t.2.2)).1], (levD s u 4 (takePD s [oOr] t.2.2)).2) ⟨hsf.2, by simp only; have := takeD_more ht1 e1; omega, by rw [← ht3, loopD_more e1]⟩ (by simp only; omega)
   ·have e1 : takeTD s [oOr] t.2.2 = none := takeT_str.1 (Decidable.not_not.1 h22)
    have e2 : exprD s u dp p = (t.2.1, takePD s [oOr] t.2.2) := by rw [e3, ← ht3, loopD_none e1]
    refine en tOK 0 2 [] ?_
    refine srp 0 R ?_
    exact ⟨by rw [e2] <;> rfl, by rw [e2] <;> rfl⟩
set_option maxRecDepth 100000 in
theorem dsigned0_ok {s : Bytes} {p : Pd} (hi : p.i ≤ s.length) (hs : s.length ≤ 1024) : Fp Tryz.prog gT 314 [.l 1000 0, nI ((33 : Nat) : Int)] (psD s p) (exS (unD parseV s 0 p).1) (psD s (unD parseV s 0 p).2) := by
 refine fpb tOK (fn := Tryz.f314) 31 [.cell 4 29] Tryz.func314 Tryz.results314 (fun g0 B0 Q ρ0 R => ?_)
 obtain ⟨E, hE⟩ : ∃ E, E = enterD s 33 p := ⟨_, rfl⟩
 have he := enterD_fit (s := s) (d := 33) hi
 have hd := enterD33 (s := s) (p := p)
 rw [← hE] at he hd
 have e1 : takeTD s [oSub, oNot] E = none := takeTD_dead hd
 have htf := takeD_fit (l := [oSub, oNot]) he.2
 have e2 : unD parseV s 0 p = primD parseV s (fun q => (ex0, q)) (takePD s [oSub, oNot] E) := by rw [hE]; rfl
 refine en tOK 0 1 [] ?_
 refine sn tOK 0 1 [] ?_
 refine fp tOK 1000 0 [] (dblanks_ok hi hs) ?_
 refine sn tOK 0 2 [] ?_
 refine si 0 rfl rfl (fun h9 => ?_) (fun h9 => ?_)
 ·have ee : (p.blanks s).fail 111 (p.blanks s).i = E := by rw [hE]; unfold enterD; rw [if_pos (by omega)]
  refine en tOK 0 5 [] ?_
  refine fp tOK 1000 0 [] (dfail_ok) ?_
  refine smb 1000 (mb' := psD s E) ?_ ?_
  ·rw [ee]
  refine sn tOK 0 2 [] ?_
  refine fp tOK 1000 1 [] (dtake_ok (l := [oSub, oNot]) two_le he.2 hs) ?_
  refine sn tOK 0 2 [] ?_
  refine si 0 rfl rfl (fun h20 => ?_) (fun h20 => ?_)
  ·refine en tOK 0 2 [] ?_
   refine fp tOK 1000 1 [] (dprim0_ok (ex := fun q => (ex0, q)) (dp := 33) htf.2 hs (by rw [takePD_e]; exact hd)) ?_
   refine srp 0 R ?_
   exact ⟨by rw [e2] <;> rfl, by rw [e2] <;> rfl⟩
  ·exact absurd (takeT_str.2 e1) h20
 ·exact absurd h9 (by decide)
set_option maxRecDepth 100000 in
theorem dsignedS_ok {s : Bytes} {p : Pd} {d dp : Nat} (hdp : dp + d = 32) (hun : ∀ p : Pd, p.i ≤ s.length → Fp Tryz.prog gT 314 [.l 1000 0, nI ((dp : Int) + 1)] (psD s p) (exS (unD parseV s d p).1) (psD s (unD parseV s d p).2)) (hi : p.i ≤ s.length) (hs : s.length ≤ 1024) : Fp Tryz.prog gT 314 [.l 1000 0, nI dp] (psD s p) (exS (unD parseV s (d + 1) p).1) (psD s (unD parseV s (d + 1) p).2) := by
 refine fpb tOK (fn := Tryz.f314) 31 [.cell 4 29] Tryz.func314 Tryz.results314 (fun g0 B0 Q ρ0 R => ?_)
 have h32 : 32 - d = dp := by omega
 have h33 : 33 - d = dp + 1 := by omega
 obtain ⟨E, hE⟩ : ∃ E, E = enterD s dp p := ⟨_, rfl⟩
 have he := enterD_fit (s := s) (d := dp) hi
 rw [← hE] at he
 have htf := takeD_fit (l := [oSub, oNot]) he.2
 have hfx := unD_fit (pv := parseV) (s := s) d
 refine en tOK 0 1 [] ?_
 refine sn tOK 0 1 [] ?_
 refine fp tOK 1000 0 [] (dblanks_ok hi hs) ?_
 refine sn tOK 0 2 [] ?_
 refine si 0 rfl rfl (fun h9 => ?_) (fun h9 => ?_)
 ·exact absurd h9 (by omega)
 ·have ee : p.blanks s = E := by rw [hE]; unfold enterD; rw [if_neg (by omega)]
  refine emb 1000 (mb' := psD s E) ?_ ?_
  ·rw [ee]
  refine en tOK 0 2 [] ?_
  refine fp tOK 1000 1 [] (dtake_ok (l := [oSub, oNot]) two_le he.2 hs) ?_
  refine sn tOK 0 2 [] ?_
  refine si 0 rfl rfl (fun h20 => ?_) (fun h20 => ?_)
  ·have e1 : takeTD s [oSub, oNot] E = none := takeT_str.1 h20
   have e2 := unD_none (pv := parseV) (s := s) (p := p) (d := d) (by rw [h32, ← hE]; exact e1)
   rw [h32, h33, ← hE] at e2
   refine en tOK 0 2 [] ?_
   refine fp tOK 1000 1 [] (dprim_ok (ex := exprD s (unD parseV s d) (dp + 1)) (dp := dp) (by omega) (exprD_fit hfx (dp + 1)) (fun p hi => dexpr_ok (dp := dp + 1) hfx hun hi hs) htf.2 hs) ?_
   refine srp 0 R ?_
   exact ⟨by rw [e2] <;> rfl, by rw [e2] <;> rfl⟩
  ·obtain ⟨o, e1⟩ : ∃ o, takeTD s [oSub, oNot] E = some o := Option.ne_none_iff_exists'.1 (fun h => h20 (takeT_str.2 h))
   have e2 := unD_some (pv := parseV) (s := s) (p := p) (d := d) (o := o) (by rw [h32, ← hE]; exact e1)
   rw [h32, ← hE] at e2
   refine eas 5 rfl (v' := .str o) ?_ ?_
   ·rw [e1]; rfl
   refine en tOK 0 4 [] ?_
   refine fp tOK 1000 1 [] (hun (takePD s [oSub, oNot] E) htf.2) ?_
   refine fc tOK 1 [] (rcall1_ok) ?_
   refine srp 0 R ?_
   exact ⟨by rw [e2] <;> rfl, by rw [e2] <;> rfl⟩
theorem dsigned_ok {s : Bytes} (hs : s.length ≤ 1024) : ∀ (d dp : Nat), dp + d = 33 → ∀ p : Pd, p.i ≤ s.length → Fp Tryz.prog gT 314 [.l 1000 0, nI dp] (psD s p) (exS (unD parseV s d p).1) (psD s (unD parseV s d p).2)
  | 0, dp, h, p, hi => by
    have : dp = 33 := by omega
    subst this
    exact dsigned0_ok hi hs
  | d + 1, dp, h, p, hi => dsignedS_ok (by omega) (fun p hi => dsigned_ok hs d (dp + 1) (by omega) p hi) hi hs
set_option maxRecDepth 100000 in
theorem dparse_ok {s : Bytes} : Fc Tryz.prog gT 15 [.str s] (.t [exS (parseX parseV s).1, nI (parseX parseV s).2.1, nI (parseX parseV s).2.2]) := by
 refine fb tOK (fn := Tryz.f15) 46 [.cell 2 29, .tmp 3, .tmp 4] Tryz.func15 Tryz.results15 (fun g0 B0 Q ρ0 R => ?_)
 refine en tOK 0 3 [] ?_
 refine sn tOK 0 3 [] ?_
 refine si 0 rfl rfl (fun h9 => ?_) (fun h9 => ?_)
 ·have e : parseX parseV s = (ex0, 1, 0) := by rw [parse_eq]; unfold parseD; rw [if_pos (by omega)]
  refine en tOK 0 4 [] ?_
  refine sr 0 R ?_
  rw [e]; rfl
 ·have hs : s.length ≤ 1024 := by omega
  obtain ⟨A, hA⟩ : ∃ A, A = exprD s (unD parseV s 33) 0 ⟨0, 0, 0⟩ := ⟨_, rfl⟩
  have hfA : A.2.i ≤ s.length := by rw [hA]; exact (exprD_fit (unD_fit 33) 0 _ (Nat.zero_le _)).2
  obtain ⟨q2, hq2⟩ : ∃ q2, q2 = (if (A.2.blanks s).i < s.length then (A.2.blanks s).fail 110 (A.2.blanks s).i else A.2.blanks s) := ⟨_, rfl⟩
  have e0 := parseD_open (by omega) hA hq2
  have hE : Fp Tryz.prog gT 50 [.l 1000 0, nI ((0 : Nat) : Int)] (psD s ⟨0, 0, 0⟩) (exS A.1) (psD s A.2) := by rw [hA]; exact dexpr_ok (unD_fit 33) (dsigned_ok hs 33 0 rfl) (Nat.zero_le _) hs
  refine en tOK 0 4 [] ?_
  refine smb 13 (mb' := psD s ⟨0, 0, 0⟩) ?_ ?_
  ·rfl
  refine sn tOK 0 1 [] ?_
  refine fp tOK 13 2 [] (hE) ?_
  refine sn tOK 0 1 [] ?_
  refine fp tOK 13 0 [] (dblanks_ok hfA hs) ?_
  refine sn tOK 0 7 [] ?_
  refine si 0 rfl rfl (fun h24 => ?_) (fun h24 => ?_)
  ·rw [if_pos (by omega)] at hq2
   refine en tOK 0 5 [] ?_
   refine fp tOK 13 0 [] (dfail_ok) ?_
   refine smb 13 (mb' := psD s q2) ?_ ?_
   ·rw [hq2]
   refine sn tOK 0 5 [] ?_
   refine si 0 rfl rfl (fun h35 => ?_) (fun h35 => ?_)
   ·have e : parseX parseV s = (ex0, q2.e, q2.at_) := by rw [parse_eq, e0, if_neg h35]
    refine edr 0 512 [0, 0, 2, 6, 14, 0, 32, 96, 224, 1, 543, 2047] [0, 1, 2, 3, 5, 6, 7, 9, 4, 8, 10, 11] ?_
    refine xd tOK 8 [] ?_
    refine dl tOK 0 [] ?_
    refine dl tOK 2 [] ?_
    refine xe ?_
    refine sr 0 R ?_
    rw [e]; rfl
   ·have e : parseX parseV s = (A.1, 0, 0) := by rw [parse_eq, e0, if_pos (Decidable.not_not.1 h35)]
    refine en tOK 0 4 [] ?_
    refine sr 0 R ?_
    rw [e]; rfl
  ·rw [if_neg (by omega)] at hq2
   refine emb 13 (mb' := psD s q2) ?_ ?_
   ·rw [hq2]
   refine en tOK 0 5 [] ?_
   refine si 0 rfl rfl (fun h35 => ?_) (fun h35 => ?_)
   ·have e : parseX parseV s = (ex0, q2.e, q2.at_) := by rw [parse_eq, e0, if_neg h35]
    refine edr 0 512 [0, 0, 2, 6, 14, 0, 32, 96, 224, 1, 543, 2047] [0, 1, 2, 3, 5, 6, 7, 9, 4, 8, 10, 11] ?_
    refine xd tOK 8 [] ?_
    refine dl tOK 0 [] ?_
    refine dl tOK 2 [] ?_
    refine xe ?_
    refine sr 0 R ?_
    rw [e]; rfl
   ·have e : parseX parseV s = (A.1, 0, 0) := by rw [parse_eq, e0, if_pos (Decidable.not_not.1 h35)]
    refine en tOK 0 4 [] ?_
    refine sr 0 R ?_
    rw [e]; rfl
end Go.Proofs.YtomkgfdigldhcaaGreatDoor
