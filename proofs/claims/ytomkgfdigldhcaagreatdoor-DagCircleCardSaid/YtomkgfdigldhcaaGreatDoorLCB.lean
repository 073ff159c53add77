/- Walks: UB. -/
import Derived.Test.YtomkgfdigldhcaaGreatDoorLCA
namespace Go.Proofs.YtomkgfdigldhcaaGreatDoor
open Go.KX
set_option maxRecDepth 100000 in
theorem dagCircle_ok {n a b : Int} : Fc Tryz.prog gT 9 [nI n, nI a, nI b] (bS true) := by
 refine fb tOK (fn := Tryz.f9) 163 [.tmp 6] Tryz.func9 Tryz.results9 (fun g0 B0 Q ρ0 R => ?_)
 refine en tOK 0 1 [] ?_
 refine sn tOK 0 24 [] ?_
 refine sib 0 rfl rfl (fun h36 => ?_) (fun h36 => ?_)
 ·refine en tOK 0 0 [] ?_
  refine fc tOK 1 [] (live12_ok) ?_
  refine sr 0 R ?_
  rfl
 ·simp only [Bool.or_eq_false_iff, decide_eq_false_iff_not] at h36
  obtain ⟨m, rfl⟩ : ∃ m : Nat, n = m := ⟨n.toNat, by omega⟩
  obtain ⟨p, rfl⟩ : ∃ p : Nat, a = p := ⟨a.toNat, by omega⟩
  obtain ⟨q, rfl⟩ : ∃ q : Nat, b = q := ⟨b.toNat, by omega⟩
  have h2 : 2 ≤ m := by omega
  have h10 : m ≤ 10 := by omega
  have hp : p < m := by omega
  have hq : q < m := by omega
  have hcc := chain_c (n := m) (by omega) h10
  have e1 : checkN (nmC (m - 1)) (cL m) = 0 := chk_iff.2 hcc.chk
  have e2 : (needsN (cL m) (nmC (m - 1))).length = m := hcc.needs
  have hcl := cL_len m
  have hxl := xL_len m p q
  have hcl2 : (cL m).length ≤ 1000000 := by omega
  have hpl : p < ((cL m).map ndL).length := by rw [List.length_map, cL_len]; omega
  have htx := tx_len p
  refine en tOK 0 2 [] ?_
  refine sn tOK 0 1 [] ?_
  refine sblr tOK 902 (sz := 11) ?_
  refine go tOK 1 [] ?_
  refine sn tOK 0 1 [] ?_
  refine sl 0 ?_
  refine E_loop (σ := Nat) (fun j => 1 ≤ j ∧ j ≤ m) (fun j => m - j)
    (fun j => [(0, nI m), (1, nI p), (2, nI q), (7, rB namesC), (8, .o 902 ((cL j).map ndL).length), (9, nI j)])
    (fun j => [(902, .r 65 11 ((cL j).map ndL))]) 1 ?_ ?_
  ·exact ⟨Nat.le_refl _, by omega⟩
  ·rintro J j ⟨hj1, hj2⟩ hJ
   refine en tOK 0 3 [] ?_
   refine si 0 rfl rfl (fun h43 => ?_) (fun h43 => ?_)
   ·have hjm : j < m := by omega
    refine edr 0 16384 [0, 0, 0, 6, 14, 0, 0, 64, 224, 480, 992, 2016, 4094, 8190, 16383, 32767] [0, 1, 2, 3, 4, 5, 6, 7, 8, 9, 10, 11, 12, 13, 14, 15] ?_
    refine xd tOK 14 [[.str (nmC j)], [.str (nmC (j - 1))]] ?_ (hφ := by (repeat' refine And.intro ?_ ?_) <;> first | trivial | omega | exact (names_get (by omega) (by omega)).2 | (simp only [nm_len, List.length_append, List.length_cons, List.length_nil]; omega) | (unfold i64ok; omega))
    refine dap tOK 1 [] rfl (fun _ => rfl) ?_ ?_
    ·show (((cL j).map ndL).length + 1) * 128 ≤ _
     rw [List.length_map, cL_len]
     omega
    refine xe ?_
    refine sn tOK 0 3 [] ?_
    refine sl 0 ?_
    refine eri 8 902 60 ?_
    refine eas 8 rfl (v' := .o 902 ((cL (j + 1)).map ndL).length) (by rw [cL_row hj1]; first | done | rfl | simp) ?_
    refine emb 902 (mb' := .r 65 11 ((cL (j + 1)).map ndL)) ?_ ?_
    ·rw [cL_row hj1]; rfl
    exact hJ (j + 1) ⟨by omega, by omega⟩ (by omega)
   ·have ej : m = j := by omega
    subst ej
    refine en tOK 0 6 [[.str (nmC (m - 1))]] ?_ (hφ := by (repeat' refine And.intro ?_ ?_) <;> first | trivial | omega | exact (names_get (by omega) (by omega)).2 | (simp only [nm_len, List.length_append, List.length_cons, List.length_nil]; omega) | (unfold i64ok; omega))
    refine flc tOK 902 0 [] (check_ok (cond := nmC (m - 1)) (l := cL m) cL_ref) rows11 ?_
    refine fc tOK 8 [[.str (nmC (m - 1))]] (num12_ok) ?_ (hφ := by (repeat' refine And.intro ?_ ?_) <;> first | exact fun _ => names_get (by omega) (by omega) | (intro _; omega) | (intro _; unfold i64ok; omega))
    refine flgs tOK 902 906 4 [] (fun hg => needs_ok (ref := nmC (m - 1)) (l := cL m) hcl2) rows11 ?_
    refine sib 0 rfl rfl (fun h81 => ?_) (fun h81 => ?_)
    ·exfalso
     simp [e1, e2] at h81
    ·refine edr 0 32768 [0, 0, 0, 0, 12, 28, 60, 124, 0, 0, 768, 1792, 4092, 8191, 16383, 32767] [0, 1, 2, 3, 4, 5, 6, 7, 8, 9, 10, 11, 12, 13, 14, 15] ?_
     refine xd tOK 4 [] ?_ (hφ := by (repeat' refine And.intro ?_ ?_) <;> first | trivial | omega | exact (names_get (by omega) (by omega)).2 | (simp only [nm_len, List.length_append, List.length_cons, List.length_nil]; omega) | (unfold i64ok; omega))
     refine dri tOK p 1 [] rfl hpl rfl ?_
     refine drl tOK p 10 6 [[.str (nmC q)]] (cL_get hp) (cN_txt p) ?_ (hφ := by (repeat' refine And.intro ?_ ?_) <;> first | trivial | omega | exact (names_get (by omega) (by omega)).2 | (simp [conj, nm_len]; omega))
     refine dri tOK p 1 [] rfl hpl rfl ?_
     refine drs tOK p 10 0 [] (sz := 11) (cL_get hp) ?_
     refine xe ?_
     refine smb 902 (mb' := .r 65 11 ((xL m p q).map ndL)) ?_ ?_
     ·exact congrArg (MB.r 65 11) (xL_row hp)
     refine sas 8 rfl (v' := .o 902 ((xL m p q).map ndL).length) (by simp only [List.length_map, cL_len, xL_len]) ?_
     refine sezo 8 (rows := (xL m p q).map ndL) ?_ ?_ (hr := rows11)
     ·rfl
     refine sn tOK 0 6 [[.str (nmC (m - 1))]] ?_ (hφ := by (repeat' refine And.intro ?_ ?_) <;> first | trivial | omega | exact (names_get (by omega) (by omega)).2 | (simp only [nm_len, List.length_append, List.length_cons, List.length_nil]; omega) | (unfold i64ok; omega))
     refine fc tOK 0 [] (check_ok (cond := nmC (m - 1)) (l := xL m p q) xL_ref) ?_
     refine fc tOK 1 [] (num12_ok) ?_
     refine sn tOK 0 1 [] ?_
     refine fc tOK 5 [] (order_ok (l := xL m p q) (by omega)) ?_
     refine sn tOK 0 3 [] ?_
     refine si 0 rfl rfl (fun h112 => ?_) (fun h112 => ?_)
     ·obtain ⟨eo, ec⟩ := circle_x h10 hp hq (by omega : p ≤ q)
      refine en tOK 0 4 [] ?_
      refine fg tOK 8 [] (fun hg => num12_ok) ?_
      refine fg tOK 2 [] (fun hg => live12_ok) ?_
      refine sr 0 R ?_
      refine congrArg (fun b => SV.v (.bool b)) ?_
      simp [eo, ec]
     ·have hcx := chain_x (n := m) (f := p) (t := q) (by omega) h10 hp (by omega)
      have ec : checkN (nmC (m - 1)) (xL m p q) = 0 := chk_iff.2 hcx.chk
      have eo : orderN (xL m p q) = ((List.range m).map nmC, 0) := hcx.order
      refine eas 10 rfl (v' := nI 0) (by rw [ec]) ?_
      refine eas 11 rfl (v' := rB ((List.range m).map nmC)) (by rw [eo]) ?_
      refine eas 12 rfl (v' := nI 0) (by rw [eo]) ?_
      refine edr 0 0 [0, 1, 3, 7, 15, 31, 63, 127, 255, 511, 255, 2047, 4095, 8191, 16383, 32767, 65535, 131071, 262143, 524287, 1048575, 1048575, 3145727, 8388607, 16777215, 1048575, 1048575, 68157439, 235929599, 504365055, 1073741823, 2147483647, 4294967295, 8589934591, 17179869183, 34359738367] [0, 1, 2, 3, 4, 5, 6, 7, 8, 9, 10, 11, 12, 13, 14, 15, 16, 17, 18, 19, 20, 21, 22, 23, 24, 25, 26, 27, 28, 29, 30, 31, 32, 33, 34, 35] ?_
      refine xd tOK 4 [] ?_
      refine dg tOK 28 [[.str (nmC 0)], [.str (nmC (m - 1))], [.str (nmC (m - 1))]] (fun hg => num12_ok) ?_ (hφ := by (repeat' refine And.intro ?_ ?_) <;> first | exact fun _ => nms_get (by omega) (by omega) | exact fun _ => names_get (by omega) (by omega) | (intro _; unfold i64ok; omega) | (intro _; omega))
      refine dg tOK 2 [] (fun hg => live12_ok) ?_
      refine xe ?_
      refine sr 0 R ?_
      refine congrArg (fun b => SV.v (.bool b)) ?_
      simp [nmC]
end Go.Proofs.YtomkgfdigldhcaaGreatDoor
