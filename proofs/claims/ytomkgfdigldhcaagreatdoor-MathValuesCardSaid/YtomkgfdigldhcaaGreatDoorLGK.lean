/- WX US UW UX BZ RL RM RN RV RE. -/
import Derived.Test.YtomkgfdigldhcaaGreatDoorLGJ
import Derived.ProofKit
import Derived.OpenShut
import Derived.Test.YtomkgfdigldhcaaGreatDoorRows
import Derived.Lib.LaidU8
import Derived.Shelf.Vars
import Derived.Handed
import Derived.Lay
import Derived.MakeChecks
import Derived.HandedShaped
import Derived.Stop.Joined
import Derived.JoinedOf
import Derived.KernelRfl
namespace Go.Proofs.YtomkgfdigldhcaaGreatDoor
open Go.KX
set_option maxRecDepth 100000 in
theorem texts_ok {a b : List Bytes} : Fc Tryz.prog gT 31 [rB a, rB b] (bS (decide (a = b))) := by
 refine fb tOK (fn := Tryz.f31) 26 [.tmp 4] Tryz.func31 Tryz.results31 (fun g0 B0 Q ρ0 R => ?_)
 refine elen 0 rfl (fun hl => ?_)
 rw [List.length_map] at hl
 refine en tOK 0 1 [] ?_
 refine sn tOK 0 5 [] ?_
 refine si 0 rfl rfl (fun h10 => ?_) (fun h10 => ?_)
 ·rw [List.length_map, List.length_map] at h10
  have e : decide (a = b) = false := decide_eq_false (fun h => h10 (by rw [h]))
  refine en tOK 0 1 [] ?_
  refine sr 0 R ?_
  rw [e]; rfl
 ·rw [List.length_map, List.length_map] at h10
  have hab : a.length = b.length := by omega
  refine en tOK 0 1 [] ?_
  refine sl 0 ?_
  refine E_loop (σ := Nat) (fun j => j ≤ a.length ∧ a.take j = b.take j) (fun j => a.length - j)
    (fun j => [(0, rB a), (1, rB b), (5, nI j)])
    (fun j => []) 0 ?_ ?_
  ·exact ⟨Nat.zero_le _, by simp⟩
  ·rintro J j ⟨hj0, hj1⟩ hJ
   refine en tOK 0 4 [] ?_
   refine si 0 rfl rfl (fun h14 => ?_) (fun h14 => ?_)
   ·rw [List.length_map] at h14
    have hj : j < a.length := by omega
    have hjb : j < b.length := by omega
    refine edr 0 0 [0, 0, 3, 7, 0, 0, 48, 112, 255] [0, 1, 2, 3, 4, 5, 6, 7, 8] ?_
    refine xd tOK 9 [[.str a[j]], [.str b[j]]] ?_ (hφ := by (repeat' refine And.intro ?_ ?_) <;> first | omega | simp [hj] | simp [hjb])
    refine xe ?_
    refine si 0 rfl rfl (fun h25 => ?_) (fun h25 => ?_)
    ·have e : decide (a = b) = false := decide_eq_false (fun h => by subst h; exact h25 rfl)
     refine en tOK 0 1 [] ?_
     refine sr 0 R ?_
     rw [e]; rfl
    ·have h25 : a[j] = b[j] := Decidable.not_not.1 h25
     refine en tOK 0 3 [] ?_
     refine sl 0 ?_
     exact hJ (j + 1) ⟨by omega, eq_next hj (by omega) hj1 h25⟩ (by omega)
   ·rw [List.length_map] at h14
    have e : decide (a = b) = true := decide_eq_true (by rw [List.take_of_length_le (by omega), List.take_of_length_le (by omega)] at hj1; exact hj1)
    refine en tOK 0 1 [] ?_
    refine sr 0 R ?_
    rw [e]; rfl
end Go.Proofs.YtomkgfdigldhcaaGreatDoor
namespace Go.Proofs.YtomkgfdigldhcaaGreatDoor
open Go.KX
set_option maxRecDepth 100000 in
theorem lsame0_ok  : Fc Tryz.prog gT 61 [.s 0 [], .s 0 []] (bS true) := by
 refine fb tOK (fn := Tryz.f61) 26 [.tmp 4] Tryz.func61 Tryz.results61 (fun g0 B0 Q ρ0 R => ?_)
 refine en tOK 0 1 [] ?_
 refine sn tOK 0 5 [] ?_
 refine sn tOK 1 1 [] ?_
 refine sl 0 ?_
 refine E_loop (σ := Unit) (fun _ => True) (fun _ => 0)
   (fun _ => [(0, .s 0 []), (5, nI 0)])
   (fun _ => []) () ?_ ?_
 ·trivial
 ·rintro J _ _ hJ
  refine en tOK 0 4 [] ?_
  refine sn tOK 1 1 [] ?_
  refine sr 0 R ?_
  rfl
set_option maxRecDepth 100000 in
theorem ssame_ok {v : Val} : Fc Tryz.prog gT 18 [rS1 [v], rS1 [v]] (bS true) := by
 refine fb tOK (fn := Tryz.f18) 42 [.tmp 4] Tryz.func18 Tryz.results18 (fun g0 B0 Q ρ0 R => ?_)
 refine en tOK 0 1 [] ?_
 refine sn tOK 0 5 [] ?_
 refine sn tOK 1 1 [] ?_
 refine sl 0 ?_
 refine E_loop (σ := Nat) (fun j => j ≤ 1) (fun j => 1 - j)
   (fun j => [(0, rS1 [v]), (1, rS1 [v]), (5, nI j)])
   (fun j => []) 0 ?_ ?_
 ·exact Nat.zero_le _
 ·rintro J j hj0 hJ
  refine en tOK 0 4 [] ?_
  refine si 0 rfl rfl (fun h14 => ?_) (fun h14 => ?_)
  ·have hj : j = 0 := by simp at h14; omega
   subst hj
   refine edr 0 0 [0, 0, 3, 7, 15, 0, 0, 96, 224, 480, 1023, 2047, 4095, 4095, 16383, 32767, 65535, 4095, 4095, 397311, 921599, 1970175, 4194303, 8388607, 16777215] [0, 1, 2, 3, 4, 5, 6, 7, 8, 9, 10, 11, 12, 13, 14, 15, 16, 17, 18, 19, 20, 21, 22, 23, 24] ?_
   refine xd tOK 10 [serL v, serL v] ?_
   refine dsq tOK 1 [] true (b := decide (v = v)) Tryz.underlying26 (by kernel_rfl) (fun w => val_eq _ _) ?_
   refine xd tOK 10 [serL v, serL v] ?_
   refine dg tOK 2 [] (fun hg => lsame0_ok) ?_ (hφ := by first | trivial | omega | (simp +contextual [conj]; done)) (hψ := by simp [conj, wq, cd1])
   refine xe ?_
   refine sib 0 rfl rfl (fun h41 => ?_) (fun h41 => ?_)
   ·simp [neB] at h41
   ·refine en tOK 0 3 [] ?_
    refine sl 0 ?_
    exact hJ 1 (by omega) (by omega)
  ·skip
   refine en tOK 0 1 [] ?_
   refine sr 0 R ?_
   rfl
theorem parseA_ok : Fc Tryz.prog gT 20 [.str sA] (.t [exS xA, nI 0, nI 0]) := by
  have h := mparse_ok (s := sA)
  rw [live_a] at h
  exact h
theorem parseB_ok : Fc Tryz.prog gT 20 [.str sB] (.t [exS (parseX parseV sB).1, nI 110, nI 4]) := by
  have h := mparse_ok (s := sB)
  rw [live_b] at h
  exact h
theorem parseC_ok : Fc Tryz.prog gT 20 [.str sC] (.t [exS xC, nI 0, nI 0]) := by
  have h := mparse_ok (s := sC)
  rw [live_c] at h
  exact h
theorem evC_ok : Fc Tryz.prog gT 16 [exS xC, rF [([65], numV (-1000))]] (.t [rS1 [numV 1000], nI 0]) := evo_ok (a := exR [65]) (v := numV (-1000)) (evr_ok (by decide) (by intro p hp; simp only [List.mem_singleton] at hp; subst hp; decide) (by decide)) (by decide) (by decide) live_v
set_option maxRecDepth 100000 in
theorem live11_ok  : Fc Tryz.prog gT 14 [] (bS true) := by
 refine fb tOK (fn := Tryz.f14) 76 [.tmp 0] Tryz.func14 Tryz.results14 (fun g0 B0 Q ρ0 R => ?_)
 refine en tOK 0 1 [] ?_
 refine sn tOK 0 0 [] ?_
 refine fc tOK 8 [] (parseA_ok) ?_
 refine sn tOK 0 0 [] ?_
 refine fc tOK 8 [] (parseB_ok) ?_
 refine sn tOK 0 0 [] ?_
 refine fc tOK 8 [] (parseC_ok) ?_
 refine sdr 0 0 [0, 0, 2, 6, 14, 31, 63, 127, 127, 255, 1023] [0, 1, 2, 3, 4, 5, 6, 7, 8, 9, 10] ?_
 refine xd tOK 1 [] ?_
 refine dc tOK 0 [] (rnum_ok (n := -1000)) ?_
 refine dc tOK 2 [] (rscalar_ok (v := numV (-1000))) ?_
 refine dc tOK 5 [] (evC_ok) ?_
 refine xe ?_
 refine sn tOK 0 1 [] ?_
 refine fc tOK 1 [] (num11_ok) ?_
 refine fc tOK 2 [] (num11_ok) ?_
 refine fc tOK 9 [] (num11_ok) ?_
 refine fg tOK 4 [] (fun hg => mprint_ok live_w (by rw [live_p]; decide)) ?_
 refine fg tOK 8 [] (fun hg => num11_ok) ?_
 refine fg tOK 0 [] (fun hg => rnum_ok (n := 1000)) ?_
 refine fg tOK 0 [] (fun hg => rscalar_ok (v := numV 1000)) ?_
 refine fg tOK 3 [] (fun hg => ssame_ok (v := numV 1000)) ?_
 refine fg tOK 1 [] (fun hg => mrefs_ok (x := xA) (by decide)) ?_
 refine fg tOK 2 [] (fun hg => texts_ok (a := refsX xA) (b := [[65], [66]])) ?_
 refine sr 0 R ?_
 simp only [live_p, live_r]
 rfl
end Go.Proofs.YtomkgfdigldhcaaGreatDoor
namespace Go.Proofs.YtomkgfdigldhcaaGreatDoor
open Go.KX
set_option maxRecDepth 100000 in
theorem valo_ok {ns : List Bytes} {l : List Val} {o : Bytes} {a : Ex} {v : Val} (ha : Fc Tryz.prog gT 26 [exS a, rB ns, rV l] (.t [vS v, bS true])) : Fc Tryz.prog gT 26 [.a [nI 3, .str o, nI 0, nI 0, .s 5 [exL a]], rB ns, rV l] (.t [vS (doV o [v]).1, bS (decide ((doV o [v]).2 = 0))]) := by
 refine fb tOK (fn := Tryz.f26) 82 [.cell 6 26, .tmp 7] Tryz.func26 Tryz.results26 (fun g0 B0 Q ρ0 R => ?_)
 refine en tOK 0 3 [] ?_
 refine sz 3 ?_
 refine sn tOK 0 2 [] ?_
 refine sn tOK 0 2 [] ?_
 refine sn tOK 1 2 [] ?_
 refine sn tOK 1 1 [] ?_
 refine sn tOK 0 1 [] ?_
 refine sl 0 ?_
 refine eonl 9 903 26 2 ?_
 refine E_loop (σ := Nat) (fun j => j ≤ 1) (fun j => 1 - j)
   (fun j => [(1, rB ns), (2, rV l), (3, .p [nI 3, .str o, nI 0, nI 0, .s 5 [exL a]]), (6, .l 6 0), (9, .o 903 (List.take j [[nI v.k, nI v.n]]).length), (10, nI j)])
   (fun j => [(903, .r 26 2 (List.take j [[nI v.k, nI v.n]])), (6, .c 26 [nI 0, nI 0])]) 0 ?_ ?_
 ·exact Nat.zero_le _
 ·rintro J j hj0 hJ
  refine en tOK 0 5 [] ?_
  refine si 0 rfl rfl (fun h51 => ?_) (fun h51 => ?_)
  ·have hj : j = 0 := by simp at h51; omega
   subst hj
   refine en tOK 0 7 [exL a] ?_
   refine fc tOK 6 [] (ha) ?_
   refine sn tOK 0 2 [] ?_
   refine sn tOK 1 3 [] ?_
   refine sap tOK 1 [] rfl (fun _ => rfl) ?_ ?_
   ·simp
   refine sn tOK 0 3 [] ?_
   refine sl 0 ?_
   first | exact hJ 1 (by omega) (by omega) | exact hJ 2 (by omega) (by omega)
  ·have hj : j = 1 := by simp at h51; omega
   subst hj
   refine eezo 9 (rows := [[nI v.k, nI v.n]]) rfl ?_ (hr := by simp)
   refine en tOK 0 3 [] ?_
   refine fc tOK 6 [] (rdo_ok (op := o) (l := [v])) ?_
   refine sn tOK 0 5 [] ?_
   refine sr 0 R ?_
   rw [← doR_eq]; rfl
set_option maxRecDepth 100000 in
theorem valb_ok {ns : List Bytes} {l : List Val} {o : Bytes} {a b : Ex} {v w : Val} (ha : Fc Tryz.prog gT 26 [exS a, rB ns, rV l] (.t [vS v, bS true])) (hb : Fc Tryz.prog gT 26 [exS b, rB ns, rV l] (.t [vS w, bS true])) : Fc Tryz.prog gT 26 [.a [nI 3, .str o, nI 0, nI 0, .s 5 [exL a, exL b]], rB ns, rV l] (.t [vS (doV o [v, w]).1, bS (decide ((doV o [v, w]).2 = 0))]) := by
 refine fb tOK (fn := Tryz.f26) 82 [.cell 6 26, .tmp 7] Tryz.func26 Tryz.results26 (fun g0 B0 Q ρ0 R => ?_)
 refine en tOK 0 3 [] ?_
 refine sz 3 ?_
 refine sn tOK 0 2 [] ?_
 refine sn tOK 0 2 [] ?_
 refine sn tOK 1 2 [] ?_
 refine sn tOK 1 1 [] ?_
 refine sn tOK 0 1 [] ?_
 refine sl 0 ?_
 refine eonl 9 903 26 2 ?_
 refine E_loop (σ := Nat) (fun j => j ≤ 2) (fun j => 2 - j)
   (fun j => [(1, rB ns), (2, rV l), (3, .p [nI 3, .str o, nI 0, nI 0, .s 5 [exL a, exL b]]), (6, .l 6 0), (9, .o 903 (List.take j [[nI v.k, nI v.n], [nI w.k, nI w.n]]).length), (10, nI j)])
   (fun j => [(903, .r 26 2 (List.take j [[nI v.k, nI v.n], [nI w.k, nI w.n]])), (6, .c 26 [nI 0, nI 0])]) 0 ?_ ?_
 ·exact Nat.zero_le _
 ·rintro J j hj0 hJ
  refine en tOK 0 5 [] ?_
  refine si 0 rfl rfl (fun h51 => ?_) (fun h51 => ?_)
  ·rcases (show j = 0 ∨ j = 1 by simp at h51; omega) with hj | hj <;> subst hj
   ·refine en tOK 0 7 [exL a] ?_
    refine fc tOK 6 [] (ha) ?_
    refine sn tOK 0 2 [] ?_
    refine sn tOK 1 3 [] ?_
    refine sap tOK 1 [] rfl (fun _ => rfl) ?_ ?_
    ·simp
    refine sn tOK 0 3 [] ?_
    refine sl 0 ?_
    first | exact hJ 1 (by omega) (by omega) | exact hJ 2 (by omega) (by omega)
   ·refine en tOK 0 7 [exL b] ?_
    refine fc tOK 6 [] (hb) ?_
    refine sn tOK 0 2 [] ?_
    refine sn tOK 1 3 [] ?_
    refine sap tOK 1 [] rfl (fun _ => rfl) ?_ ?_
    ·simp
    refine sn tOK 0 3 [] ?_
    refine sl 0 ?_
    first | exact hJ 1 (by omega) (by omega) | exact hJ 2 (by omega) (by omega)
  ·have hj : j = 2 := by simp at h51; omega
   subst hj
   refine eezo 9 (rows := [[nI v.k, nI v.n], [nI w.k, nI w.n]]) rfl ?_ (hr := by simp)
   refine en tOK 0 3 [] ?_
   refine fc tOK 6 [] (rdo_ok (op := o) (l := [v, w])) ?_
   refine sn tOK 0 5 [] ?_
   refine sr 0 R ?_
   rw [← doR_eq]; rfl
theorem val_ok {ns : List Bytes} {l : List Val} (hall : ∀ v ∈ l, isV v = true) {x : Ex} (h : Wf x) : ∀ {v : Val}, evX (firstR (ns.zip l)) x = some v → Fc Tryz.prog gT 26 [exS x, rB ns, rV l] (.t [vS v, bS true]) := by
  have hlook : ∀ n v, firstR (ns.zip l) n = some v → isV v = true := fun n v e => hall v (List.of_mem_zip (firstR_mem e)).2
  have one : ∀ {o : Bytes} {x : Ex}, (o ∈ ([oSub, oNot] : List Bytes) ∨ functionB o = true) → Wf x → (∀ {v : Val}, evX (firstR (ns.zip l)) x = some v → Fc Tryz.prog gT 26 [exS x, rB ns, rV l] (.t [vS v, bS true])) → ∀ {v : Val}, evX (firstR (ns.zip l)) (exC o [x]) = some v → Fc Tryz.prog gT 26 [exS (exC o [x]), rB ns, rV l] (.t [vS v, bS true]) := by
    intro o x ho hx ih v e
    rw [ev_call, evL_cons, evL_nil] at e
    cases hw : evX (firstR (ns.zip l)) x with
    | none => rw [hw] at e; cases e
    | some w =>
      rw [hw] at e
      injection e with e
      have e : (doV o [w]).1 = v := e
      rw [ex_one]
      have h0 := doV_one ho (ev_isV hlook hx hw).1
      have hv := valo_ok (o := o) (ih hw)
      rw [h0, e] at hv
      exact hv
  induction h with
  | num h =>
    intro v e
    rw [ev_num] at e
    cases e
    exact valn_ok
  | ref h =>
    intro v e
    rw [ev_ref] at e
    exact valr_ok e
  | sign ho hx ih => exact one (.inl ho) hx ih
  | fn ho hx ih => exact one (.inr ho) hx ih
  | @bin o x y m hm ho hx hy ihx ihy =>
    intro v e
    rw [ev_call, evL_cons, evL_cons, evL_nil] at e
    cases hw : evX (firstR (ns.zip l)) x with
    | none => rw [hw] at e; cases e
    | some w =>
      cases hz : evX (firstR (ns.zip l)) y with
      | none => rw [hw, hz] at e; cases e
      | some z =>
        rw [hw, hz] at e
        injection e with e
        have e : (doV o [w, z]).1 = v := e
        rw [ex_pair]
        have h0 := doV_two hm ho (ev_isV hlook hx hw).1 (ev_isV hlook hy hz).1
        have hv := valb_ok (o := o) (ihx hw) (ihy hz)
        rw [h0, e] at hv
        exact hv
end Go.Proofs.YtomkgfdigldhcaaGreatDoor
namespace Go.Proofs.YtomkgfdigldhcaaGreatDoor
open Go.KX
set_option maxRecDepth 100000 in
theorem mathValues_ok {s : Bytes} {l : List Val} : Fc Tryz.prog gT 5 [.str s, rV l] (bS true) := by
 refine fb tOK (fn := Tryz.f5) 94 [.tmp 4] Tryz.func5 Tryz.results5 (fun g0 B0 Q ρ0 R => ?_)
 have hsz := parse_sz (pv := parseV) (s := s)
 refine en tOK 0 1 [] ?_
 refine sn tOK 0 5 [] ?_
 refine fg tOK 7 [] (fun hg => rcheck_ok (l := l)) ?_
 refine sib 0 rfl rfl (fun h27 => ?_) (fun h27 => ?_)
 ·refine en tOK 0 0 [] ?_
  refine fc tOK 1 [] (live11_ok) ?_
  refine sr 0 R ?_
  rfl
 ·have hh : l.length ≤ 40 ∧ ∀ v ∈ l, isV v = true := by
   rw [List.length_map] at h27
   simp only [Bool.or_eq_false_iff, decide_eq_false_iff_not, Decidable.not_not] at h27
   refine ⟨by omega, ?_⟩
   have h5 := h27.1.2
   by_cases ha : l.all isV = true
   · exact List.all_eq_true.1 ha
   · rw [if_neg ha] at h5; cases h5
  obtain ⟨h40, hall⟩ := hh
  refine en tOK 0 1 [] ?_
  refine fc tOK 8 [] (mparse_ok (s := s)) ?_
  refine sn tOK 0 1 [] ?_
  refine fc tOK 1 [] (num11_ok) ?_
  refine si 0 rfl rfl (fun h37 => ?_) (fun h37 => ?_)
  ·refine en tOK 0 0 [] ?_
   refine fc tOK 1 [] (live11_ok) ?_
   refine sr 0 R ?_
   rfl
  ·have h0 : (parseX parseV s).2.1 = 0 := Decidable.not_not.1 h37
   have hw := parse_wf h0
   generalize hA : (parseX parseV s).1 = A at hw hsz
   refine en tOK 0 1 [] ?_
   refine fc tOK 1 [] (mrefs_ok (x := A) (by omega)) ?_
   refine sn tOK 0 5 [] ?_
   refine si 0 rfl rfl (fun h45 => ?_) (fun h45 => ?_)
   ·refine en tOK 0 0 [] ?_
    refine fc tOK 1 [] (live11_ok) ?_
    refine sr 0 R ?_
    rfl
   ·rw [List.length_map, List.length_map] at h45
    have hn : (refsX A).length ≤ l.length := by omega
    obtain ⟨v, e1, e2, hv⟩ := values_ok hw hall hn
    obtain ⟨E, hE⟩ : ∃ E, E = (refsX A).zip l := ⟨_, rfl⟩
    rw [← hE] at e1
    have hEl : E.length = (refsX A).length := by rw [hE, List.length_zip]; omega
    have hallE : ∀ p ∈ E, isV p.2 = true := fun p hp => hall p.2 (List.of_mem_zip (hE ▸ hp : p ∈ (refsX A).zip l)).2
    refine en tOK 0 1 [] ?_
    refine sn tOK 0 1 [] ?_
    refine sl 0 ?_
    refine eonl 9 903 52 2 ?_
    refine E_loop (σ := Nat) (fun j => j ≤ (refsX A).length) (fun j => (refsX A).length - j)
      (fun j => [(1, rV l), (5, .l 5 0), (8, rB (refsX A)), (9, .o 903 ((E.take j).map fun p => frF p.1 p.2).length), (10, nI j)])
      (fun j => [(903, .r 52 2 ((E.take j).map fun p => frF p.1 p.2)), (5, .c 29 (exL A))]) 0 ?_ ?_
    ·exact Nat.zero_le _
    ·rintro J j hj0 hJ
     refine en tOK 0 4 [] ?_
     refine si 0 rfl rfl (fun h50 => ?_) (fun h50 => ?_)
     ·rw [List.length_map] at h50
      have hj : j < (refsX A).length := by omega
      have hj2 : j < l.length := by omega
      refine edr 0 4096 [0, 0, 0, 6, 14, 0, 0, 96, 224, 480, 1022, 2046, 4095, 8191] [0, 1, 2, 3, 4, 5, 6, 7, 8, 9, 10, 11, 12, 13] ?_
      refine xd tOK 9 [[.str (refsX A)[j]], [nI l[j].k, nI l[j].n]] ?_ (hφ := by (repeat' refine And.intro ?_ ?_) <;> first | omega | exact row_at _ hj2 | (simp [hj]; done))
      refine dc tOK 2 [] (rscalar_ok (v := l[j])) ?_
      refine dap tOK 1 [] rfl (fun _ => rfl) ?_ ?_
      ·show (((E.take j).map fun p => frF p.1 p.2).length + 1) * 40 ≤ _
       rw [List.length_map, List.length_take]
       omega
      refine xe ?_
      refine sn tOK 0 3 [] ?_
      refine sl 0 ?_
      refine eri 9 903 65 ?_
      refine eas 9 rfl (v' := .o 903 ((E.take (j + 1)).map fun p => frF p.1 p.2).length) (by rw [zip_next hE hj hj2, List.map_append, List.length_append, List.length_append]; rfl) ?_
      refine emb 903 (mb' := .r 52 2 ((E.take (j + 1)).map fun p => frF p.1 p.2)) ?_ ?_
      ·rw [zip_next hE hj hj2, List.map_append]; rfl
      exact hJ (j + 1) (by omega) (by omega)
     ·rw [List.length_map] at h50
      have ej : E.take j = E := List.take_of_length_le (by omega)
      rw [ej]
      refine eezo 9 (rows := E.map fun p => frF p.1 p.2) rfl ?_ (hr := fun r hr => by
       obtain ⟨p, _, rfl⟩ := List.mem_map.1 hr
       rfl)
      refine en tOK 0 2 [] ?_
      refine fc tOK 5 [] (ev_ok (l := E) (by omega) hallE hw e1) ?_
      refine sn tOK 0 3 [] ?_
      refine fc tOK 6 [] (val_ok (ns := refsX A) (l := l) hall hw e2) ?_
      refine sn tOK 0 3 [] ?_
      refine fg tOK 5 [] (fun hg => num11_ok) ?_
      refine fg tOK 0 [] (fun hg => rscalar_ok (v := v)) ?_
      refine fg tOK 2 [] (fun hg => ssame_ok (v := v)) ?_
      refine fg tOK 2 [] (fun hg => live11_ok) ?_
      refine sr 0 R ?_
      rfl
end Go.Proofs.YtomkgfdigldhcaaGreatDoor
namespace Go.KX
open Go.RowKit
/-- What was there is as it was. -/
structure OldSame (W W' : World) : Prop where
  os : W'.os = W.os
  output : W'.output = W.output
  size : W.heap.size ≤ W'.heap.size
  same : ∀ b, b < W.heap.size → W'.heap[b]? = W.heap[b]?
/-- All that is there is never written again. -/
def gAll (W : World) : GW := ⟨W, fun b => b < W.heap.size, fun _ h => h⟩
theorem OldSame.kept {W W' : World} (h : OldSame W W') (may : MemPlace → Prop) : W.keptBut W' may := by
  refine ⟨h.os, h.output, fun i hi => ?_⟩
  rw [h.same i hi]
  cases hq : W.heap[i]? with
  | none => rfl
  | some o => cases o <;> first | exact ⟨rfl, rfl, rfl, fun _ _ => rfl⟩ | exact .inr ⟨rfl, rfl⟩ | rfl
section
variable {H : Type} {enc : TypeId × Value → H} {P : Program} {W W' : World}
theorem mapM_keep {α β : Type} {f f' : α → Option β} : ∀ (l : List α) (ys : List β), l.mapM f = some ys → (∀ i ∈ l, ∀ y ∈ ys, f i = some y → f' i = some y) → l.mapM f' = some ys
  | [], ys, h, _ => by simpa using h
  | a :: l, ys, h, hk => by
    simp only [List.mapM_cons] at h ⊢
    cases hfa : f a with
    | none => rw [hfa] at h; cases h
    | some y =>
      rw [hfa] at h
      cases hl : l.mapM f with
      | none => rw [hl] at h; cases h
      | some zs =>
        rw [hl] at h
        cases h
        have h1 := hk a (.head _) y (.head _) hfa
        have h2 := mapM_keep l zs hl (fun i hi z hz hz2 => hk i (.tail _ hi) z (.tail _ hz) hz2)
        rw [h1, h2]; rfl
theorem mapM_len {α β : Type} {f : α → Option β} : ∀ (l : List α) (ys : List β), l.mapM f = some ys → ys.length = l.length
  | [], ys, h => by simp at h; subst h; rfl
  | a :: l, ys, h => by
    simp only [List.mapM_cons] at h
    cases hfa : f a with
    | none => rw [hfa] at h; cases h
    | some y =>
      rw [hfa] at h
      cases hl : l.mapM f with
      | none => rw [hl] at h; cases h
      | some zs =>
        rw [hl] at h
        cases h
        simp [mapM_len l zs hl]
theorem mapM_at {α β : Type} {f : α → Option β} : ∀ (l : List α) (ys : List β), l.mapM f = some ys → ∀ (i : Nat) a, l[i]? = some a → ∃ y, ys[i]? = some y ∧ f a = some y
  | [], ys, h, i, a, ha => by simp at ha
  | b :: l, ys, h, i, a, ha => by
    simp only [List.mapM_cons] at h
    cases hfa : f b with
    | none => rw [hfa] at h; cases h
    | some y =>
      rw [hfa] at h
      cases hl : l.mapM f with
      | none => rw [hl] at h; cases h
      | some zs =>
        rw [hl] at h
        cases h
        cases i with
        | zero => simp at ha; subst ha; exact ⟨y, rfl, hfa⟩
        | succ i => simp at ha; obtain ⟨y', h1, h2⟩ := mapM_at l zs hl i a ha; exact ⟨y', by simpa using h1, h2⟩
theorem cells_at {w : World} {base : Nat} {a : Addr} {n : Nat} {cs : List Value} (h : w.cells? base a n = some cs) : cs.length = n ∧ ∀ (j : Nat) v, cs[j]? = some v → w.cell? (a.add j) = some v := by
  unfold World.cells? at h
  split at h
  · refine ⟨by have := mapM_len _ _ h; simpa using this, fun j v hj => ?_⟩
    have hlt : j < n := by
      have := mapM_len _ _ h
      have h2 := (List.getElem?_eq_some_iff.1 hj).1
      simp at this; omega
    obtain ⟨y, h1, h2⟩ := mapM_at _ _ h j j (by simp [hlt])
    rw [hj] at h1
    cases h1
    exact h2
  · cases h
theorem add_block (a : Addr) (i : Nat) : (a.add i).block = a.block := by unfold Addr.add; split <;> rfl
theorem cells_keep {base n : Nat} {a : Addr} {cs : List Value} (hW : OldSame W W') (h : W.cells? base a n = some cs) : W'.cells? base a n = some cs := by
  unfold World.cells? at h ⊢
  split
  · rename_i hb
    rw [if_pos hb] at h
    refine mapM_keep _ _ h (fun i _ y _ hy => ?_)
    unfold World.cell? at hy ⊢
    have hlt : (a.add i).block < W.heap.size := by
      rcases Nat.lt_or_ge (a.add i).block W.heap.size with h | h
      · exact h
      · rw [Array.getElem?_eq_none h] at hy; cases hy
    rw [hW.same _ hlt]; exact hy
  · rename_i hb; rw [if_neg hb] at h; cases h
/-- Types that lead to no interface, map, function, pointer. -/
def plainT (P : Program) : Nat → TypeId → Bool
  | 0, _ => false
  | f + 1, t => match P.underlying t with
    | some .bool => true
    | some (.int _) => true
    | some .string => true
    | some (.slice e) => decide (0 < P.cellsOf e) && plainT P f e
    | some (.struct fs) => fs.toList.all fun fd => plainT P f fd.type
    | _ => false
theorem row_mem {a : Addr} {n j : Nat} (h : j < n) : MemPlace.cell a.block (a.off + j) ∈ MemPlace.row a n := List.mem_map.2 ⟨j, by simp [h], rfl⟩
theorem trod_keep (hW : OldSame W W') {base : Nat} {held : Bool} {sp : Nat → Bool} : ∀ (k fuel : Nat) (t : TypeId) (cs : List Value) (x : DataW H × List MemPlace), plainT P k t = true → (∀ p ∈ x.2, sp p.block = true) →
    DataW.trod enc P W base (fun _ => true) held fuel t cs = some x → DataW.trod enc P W' base sp held fuel t cs = some x
  | 0, _, _, _, _, hp, _, _ => by cases hp
  | _ + 1, 0, _, _, _, _, _, h => by cases h
  | k + 1, fuel + 1, t, cs, x, hp, hs, h => by
    rw [plainT] at hp
    unfold DataW.trod at h ⊢
    split at hp
    · rename_i u; rw [u] at h ⊢; revert h; split <;> intro h <;> first | exact h | (rename_i hq; cases hq; done) | (rename_i hq _; cases hq; done) | (cases h; done)
    · rename_i u; rw [u] at h ⊢; revert h; split <;> intro h <;> first | exact h | (rename_i hq; cases hq; done) | (rename_i hq _; cases hq; done) | (cases h; done)
    · rename_i u; rw [u] at h ⊢; revert h; split <;> intro h <;> first | exact h | (rename_i hq; cases hq; done) | (rename_i hq _; cases hq; done) | (cases h; done)
    · rename_i e u
      simp only [Bool.and_eq_true, decide_eq_true_eq] at hp
      obtain ⟨hz, hpe⟩ := hp
      rw [u] at h ⊢
      revert h
      split <;> intro h <;> first | exact h | (rename_i hq; cases hq; done) | (rename_i hq _; cases hq; done) | (cases h; done) | skip
      rename_i e2 a len cap heq
      injection heq with heq
      injection heq with heq
      subst heq
      dsimp only at h ⊢
      split at h
      · rename_i hc
        rw [if_pos hc]
        simp only [if_true, Option.bind_eq_some_iff, Option.map_eq_some_iff] at h ⊢
        obtain ⟨elems, h1, rest, h2, h3⟩ := h
        subst h3
        have hel : ∀ (i : Nat) y, y ∈ elems ++ rest → ((W.cells? base (a.add (i * P.cellsOf e)) (P.cellsOf e)).bind (DataW.trod enc P W base (fun _ => true) held fuel e)) = some y → ((W'.cells? base (a.add (i * P.cellsOf e)) (P.cellsOf e)).bind (DataW.trod enc P W' base sp held fuel e)) = some y := by
          intro i y hy hyx
          simp only [Option.bind_eq_some_iff] at hyx ⊢
          obtain ⟨c, hc1, hc2⟩ := hyx
          refine ⟨c, cells_keep hW hc1, trod_keep hW k fuel e c y hpe (fun p hp => hs p ?_) hc2⟩
          exact List.mem_append_right _ (List.mem_flatMap.2 ⟨y, hy, hp⟩)
        refine ⟨elems, mapM_keep _ _ h1 (fun i _ y hy => hel i y (List.mem_append_left _ hy)), rest, ?_, rfl⟩
        have hl1 := mapM_len _ _ h1
        have hl2 := mapM_len _ _ h2
        simp only [List.length_range] at hl1 hl2
        by_cases hsb : sp a.block = true
        · rw [if_pos hsb]
          exact mapM_keep _ _ h2 (fun i _ y hy => hel (len + i) y (List.mem_append_right _ hy))
        · have h0 : (elems.length + rest.length) * P.cellsOf e = 0 := by
            rcases Nat.eq_zero_or_pos ((elems.length + rest.length) * P.cellsOf e) with h | h
            · exact h
            · exact absurd (hs _ (List.mem_append_left _ (row_mem h))) hsb
          have h00 : elems.length + rest.length = 0 := by
            rcases Nat.mul_eq_zero.1 h0 with h | h
            · exact h
            · omega
          have : rest = [] := List.eq_nil_of_length_eq_zero (by omega)
          subst this
          rw [if_neg hsb]
      · cases h
    · rename_i fs u
      simp only [List.all_eq_true] at hp
      rw [u] at h ⊢
      dsimp only at h ⊢
      split at h
      · rename_i hc
        rw [if_pos hc]
        simp only [Option.map_eq_some_iff] at h ⊢
        obtain ⟨xs, h1, h2⟩ := h
        subst h2
        refine ⟨xs, mapM_keep _ _ h1 (fun fd hfd y hy hyx => trod_keep hW k fuel _ _ y (hp fd hfd) (fun p hp => hs p (List.mem_flatMap.2 ⟨y, hy, hp⟩)) hyx), rfl⟩
      · cases h
    · cases hp
theorem trodAll_keep (hW : OldSame W W') {base : Nat} {held : Bool} {sp : Nat → Bool} (k : Nat) : ∀ (ts : List TypeId) (vs : List Value) (ds : List (DataW H)) (ps : List MemPlace), (ts.all fun t => plainT P k t) = true → (∀ p ∈ ps, sp p.block = true) →
    DataW.TrodAll enc P W base (fun _ => true) held ts vs ds ps → DataW.TrodAll enc P W' base sp held ts vs ds ps
  | [], [], [], ps, _, _, h => h
  | t :: ts, v :: vs, d :: ds, ps, hp, hs, h => by
    obtain ⟨p, q, ⟨fuel, h1⟩, h2, h3⟩ := h
    subst h3
    simp only [List.all_cons, Bool.and_eq_true] at hp
    exact ⟨p, q, ⟨fuel, trod_keep hW k fuel t _ _ hp.1 (fun p' hp' => hs p' (List.mem_append_left _ hp')) h1⟩, trodAll_keep hW k ts vs ds q hp.2 (fun p' hp' => hs p' (List.mem_append_right _ hp')) h2, rfl⟩
/-- The row of a law whose arguments are plain data, out of its walk. -/
theorem law_post {f : Func} {s : ChangeSpec} {apart fresh : Bool} {args : Array Value} {ds gs : List (DataW H)} {before : List MemPlace} {ds' : List (DataW H)} (k : Nat) (hv : s.vars = [])
    (hW : DataW.Whole enc P f.params.toList s.vars apart W args.toList ds gs before) (hs : OldSame W W') (hpl : (f.params.toList.all fun t => plainT P k t) = true)
    (hr : ∃ t, f.resultTypes = #[t] ∧ P.underlying t = some .bool) (hds : ds = ds') (hfn : s.fn H (ds' ++ []) = { results := [.lit (.bool true)], args := ds' }) :
    s.post enc P f apart fresh false false W args (.bool true) W' := by
  have hW' := hW
  obtain ⟨p, q, hA, hV, rfl, hfz, hnd⟩ := hW
  subst hds
  rw [hv] at hV
  have hg : gs = [] ∧ q = [] := by
    cases gs with
    | nil => exact ⟨rfl, hV⟩
    | cons _ _ => exact hV.elim
  obtain ⟨rfl, rfl⟩ := hg
  obtain ⟨tb, hr1, hr2⟩ := hr
  refine ⟨ds, [], p ++ [], [], p, [], hW', ?_, ?_, ?_, hs.kept _, fun h => (by cases h)⟩
  · rw [hfn, hr1]
    exact ⟨[], [], ⟨1, by unfold DataW.trod; rw [hr2]; rfl⟩, rfl, rfl⟩
  · rw [hfn]
    refine trodAll_keep hs k _ _ _ _ hpl (fun pl hpl => ?_) hA
    have := hW'.lt pl (List.mem_append_left _ hpl)
    simpa using this
  · rw [hfn, hv]; rfl
end
end Go.KX
namespace Go.KX
end Go.KX
namespace Go.KX
open Go.RowKit
section
variable {H : Type} {enc : TypeId × Value → H} {P : Program} {W : World}
/-- No part of it takes more room than there is. -/
def Light (P : Program) (t : TypeId) (d : DataW H) : Prop := (d.weights P t).all (· ≤ reachBytes) = true
/-- How cells of a type read: as some α that is as Q says. -/
def Rd (enc : TypeId × Value → H) (P : Program) (W : World) (t : TypeId) {α : Type} (e : α → List Value) (Q : α → Prop) : Prop :=
  ∀ (fuel : Nat) (cs : List Value) (x : DataW H × List MemPlace), DataW.trod enc P W 0 (fun _ => true) true fuel t cs = some x → Light P t x.1 → ∃ y, cs = e y ∧ Q y
theorem rd_int {t : TypeId} {k : IntKind} (u : P.underlying t = some (.int k)) : Rd enc P W t (fun z : Int => [.int k z]) (fun z => (Lit.int k z).wf = true) := by
  intro fuel cs x h _
  cases fuel with
  | zero => cases h
  | succ fuel =>
    unfold DataW.trod at h
    rw [u] at h
    revert h
    split <;> intro h <;> first | (rename_i hq; cases hq; done) | (rename_i hq _; cases hq; done) | (cases h; done) | skip
    rename_i e2
    split at h
    · rename_i hw
      obtain ⟨hk, hw⟩ := hw
      injection e2 with e2
      injection e2 with e2
      subst hk
      subst e2
      exact ⟨_, rfl, hw⟩
    · cases h
theorem rd_str {t : TypeId} (u : P.underlying t = some .string) : Rd enc P W t (fun s : Bytes => [str s]) (fun s => s.length ≤ 140737488351232) := by
  intro fuel cs x h hl
  cases fuel with
  | zero => cases h
  | succ fuel =>
    unfold DataW.trod at h
    rw [u] at h
    revert h
    split <;> intro h <;> first | (rename_i hq; cases hq; done) | (rename_i hq _; cases hq; done) | (cases h; done) | skip
    rename_i s _
    split at h
    · cases h
      obtain ⟨b, hb⟩ := exists_str s
      refine ⟨b, by rw [hb], ?_⟩
      have hs : s = ⟨b.toArray⟩ := by unfold str at hb; injection hb
      simp only [Light, DataW.weights, List.all_cons, List.all_nil, Bool.and_true, decide_eq_true_eq] at hl
      rw [hs] at hl
      simp only [reachBytes] at hl
      simpa using hl
    · cases h
theorem exists_list {α : Type} (R : Nat → α → Prop) : ∀ (n : Nat), (∀ i, i < n → ∃ y, R i y) → ∃ ys : List α, ys.length = n ∧ ∀ (i : Nat) y, ys[i]? = some y → R i y
  | 0, _ => ⟨[], rfl, fun i y h => by simp at h⟩
  | n + 1, h => by
    obtain ⟨ys, h1, h2⟩ := exists_list R n (fun i hi => h i (by omega))
    obtain ⟨y, hy⟩ := h n (Nat.lt_succ_self n)
    refine ⟨ys ++ [y], by simp [h1], fun i z hz => ?_⟩
    rw [List.getElem?_append] at hz
    split at hz
    · exact h2 i z hz
    · rename_i hge
      have hi : i = n := by
        have := (List.getElem?_eq_some_iff.1 hz).1
        simp at this; omega
      subst hi
      rw [h1] at hz
      simp at hz; subst hz; exact hy
theorem weightsAll_mem {e : TypeId} : ∀ {l : List (DataW H)}, (DataW.weightsAll P e l).all (· ≤ reachBytes) = true → ∀ d ∈ l, Light P e d
  | a :: l, h, d, hd => by
    simp only [DataW.weightsAll, List.all_append, Bool.and_eq_true] at h
    rcases List.mem_cons.1 hd with rfl | hd
    · exact h.1
    · exact weightsAll_mem h.2 d hd
/-- A slice that is handed in. -/
def SlQ {α : Type} (E : El α) (W : World) (by_ : Nat) (Q : α → Prop) (y : SlE α) : Prop := (SlM E y.1 y.2.1 y.2.2).p (gAll W) ∧ (∀ z ∈ y.2.2, Q z) ∧ y.2.2.length * by_ ≤ 140737488351232
theorem rd_slice {α : Type} {E : El α} {Q : α → Prop} {t e : TypeId} (u : P.underlying t = some (.slice e)) (hsz : P.cellsOf e = E.sz) (hE : Rd enc P W e E.enc Q) : Rd enc P W t (elSl α).enc (SlQ E W (P.bytesOf e) Q) := by
  intro fuel cs x h hl
  cases fuel with
  | zero => cases h
  | succ fuel =>
    unfold DataW.trod at h
    rw [u] at h
    revert h
    split <;> intro h <;> first | (rename_i hq; cases hq; done) | (rename_i hq _; cases hq; done) | (cases h; done) | skip
    · exact ⟨(none, 0, []), rfl, SlM.nil _ _ _ _, (fun z hz => by cases hz), by simp⟩
    · rename_i e2 a len cap heq
      injection heq with heq
      injection heq with heq
      subst heq
      dsimp only at h
      split at h
      · rename_i hc
        simp only [if_true, Option.bind_eq_some_iff, Option.map_eq_some_iff] at h
        obtain ⟨elems, h1, rest, h2, h3⟩ := h
        subst h3
        simp only [Light, DataW.weights, u, List.all_cons, List.all_append, Bool.and_eq_true, decide_eq_true_eq, List.length_map] at hl
        obtain ⟨hl1, hl2, _⟩ := hl
        have hlen := mapM_len _ _ h1
        simp only [List.length_range] at hlen
        obtain ⟨ys, hy1, hy2⟩ := exists_list (fun (i : Nat) (y : α) => W.cells? 0 (a.add (i * P.cellsOf e)) (P.cellsOf e) = some (E.enc y) ∧ Q y) len (fun i hi => by
          obtain ⟨d, hd1, hd2⟩ := mapM_at _ _ h1 i i (by simp [hi])
          simp only [Option.bind_eq_some_iff] at hd2
          obtain ⟨cl, hc1, hc2⟩ := hd2
          obtain ⟨y, rfl, hq⟩ := hE fuel cl d hc2 (weightsAll_mem hl2 d.1 (List.mem_map.2 ⟨d, List.mem_of_getElem? hd1, rfl⟩))
          exact ⟨y, hc1, hq⟩)
        refine ⟨(some a, cap, ys), by show _ = [Value.slice (some a) ys.length cap]; rw [hy1], ⟨by rw [hy1]; omega, by rw [hy1]; exact hc.2.1, fun hne => ?_⟩, fun z hz => ?_, ?_⟩
        · have hpos : 0 < ys.length := List.length_pos_iff.2 hne
          have hcell : ∀ (i : Nat) y, ys[i]? = some y → ∀ (j : Nat) v, (E.enc y)[j]? = some v → W.cell? ((a.add (i * E.sz)).add j) = some v := by
            intro i y hy j v hv
            have := (cells_at (hy2 i y hy).1).2 j v hv
            rwa [hsz] at this
          obtain ⟨b, o, sp⟩ := a
          have hspot : sp = none ∧ b < W.heap.size := by
            obtain ⟨y0, hy0⟩ : ∃ y, ys[0]? = some y := ⟨_, List.getElem?_eq_getElem hpos⟩
            obtain ⟨v0, hv0⟩ : ∃ v, (E.enc y0)[0]? = some v := ⟨_, List.getElem?_eq_getElem (by rw [E.len]; exact E.pos)⟩
            have := hcell 0 y0 hy0 0 v0 hv0
            unfold World.cell? at this
            rw [add_block, add_block] at this
            have hlt : b < W.heap.size := by
              rcases Nat.lt_or_ge b W.heap.size with h | h
              · exact h
              · rw [show (⟨b, o, sp⟩ : Addr).block = b from rfl, Array.getElem?_eq_none h] at this; cases this
            refine ⟨?_, hlt⟩
            cases sp with
            | none => rfl
            | some q =>
              exfalso
              revert this
              cases W.heap[(⟨b, o, some q⟩ : Addr).block]? with
              | none => intro h; cases h
              | some ob =>
                cases ob <;> intro h <;> first | (cases h; done) | skip
                have hs : (((⟨b, o, some q⟩ : Addr).add (0 * E.sz)).add 0).spot.isSome = true := by
                  rw [Nat.zero_mul]; rfl
                dsimp only at h
                rw [if_pos hs] at h
                cases h
          obtain ⟨rfl, hlt⟩ := hspot
          refine ⟨b, o, rfl, hlt, fun j v hj => ?_⟩
          have hjl := (List.getElem?_eq_some_iff.1 hj).1
          rw [flat_len] at hjl
          have hi : j / E.sz < ys.length := Nat.div_lt_of_lt_mul (by rw [Nat.mul_comm]; exact hjl)
          obtain ⟨y, hy⟩ : ∃ y, ys[j / E.sz]? = some y := ⟨_, List.getElem?_eq_getElem hi⟩
          have hm : j % E.sz < (E.enc y).length := by rw [E.len]; exact Nat.mod_lt _ E.pos
          obtain ⟨v', hv'⟩ : ∃ v, (E.enc y)[j % E.sz]? = some v := ⟨_, List.getElem?_eq_getElem hm⟩
          have hg := flat_get E ys _ _ y v' hy hv'
          rw [Nat.mul_comm, Nat.div_add_mod] at hg
          rw [hj] at hg
          cases hg
          have := hcell _ y hy _ _ hv'
          rw [addr_add, addr_add, Nat.add_assoc, Nat.mul_comm (j / E.sz), Nat.div_add_mod] at this
          exact this
        · obtain ⟨i, hi⟩ := List.mem_iff_getElem?.1 hz
          exact (hy2 i z hi).2
        · show ys.length * _ ≤ _
          rw [hy1]
          simp only [reachBytes] at hl1
          have : len * P.bytesOf e ≤ (elems.length + rest.length) * P.bytesOf e := Nat.mul_le_mul_right _ (by omega)
          omega
      · cases h
/-- One argument, read. -/
theorem rd_arg {t : TypeId} {α : Type} {e : α → List Value} {Q : α → Prop} (hr : Rd enc P W t e Q) {v : Value} {d : DataW H} {ps : List MemPlace} (h : DataW.Trod enc P W 0 (fun _ => true) true t v d ps) (hl : Light P t d) : ∃ y, v.cells.toList = e y ∧ Q y := by
  obtain ⟨fuel, h⟩ := h
  exact hr fuel _ _ h hl
/-- A value of one cell. -/
theorem one_cell {v u : Value} (h : v.cells.toList = [u]) (hv : ∀ cs, v ≠ .agg cs) : v = u := by
  cases v <;> first | (simp [Value.cells] at h; exact h) | exact absurd rfl (hv _)
end
end Go.KX
namespace Go.Proofs.YtomkgfdigldhcaaGreatDoor
open Go.KX Go.RowKit
abbrev laidL : List (String × DataW Unit) := [("math/bits.deBruijn32tab", Rows.laid_math_bits_deBruijn32tab), ("math/bits.deBruijn64tab", Rows.laid_math_bits_deBruijn64tab), ("internal/strconv.uint64pow10", Rows.laid_internal_strconv_uint64pow10), ("unicode/utf8.acceptRanges", Rows.laid_unicode_utf8_acceptRanges), ("strconv.ErrRange", Rows.laid_strconv_ErrRange), ("strconv.ErrSyntax", Rows.laid_strconv_ErrSyntax), ("klaxon/math.levels", Rows.laid_klaxon_math_levels), ("klaxon/math.signs", Rows.laid_klaxon_math_signs), ("unicode/utf8.first", Rows.laid_unicode_utf8_first)]
theorem gg0 : Tryz.prog.globalNamed "klaxon/math.levels" = some 0 := by kernel_rfl
theorem gg1 : Tryz.prog.globalNamed "klaxon/math.signs" = some 1 := by kernel_rfl
theorem gg3 : Tryz.prog.globalNamed "internal/strconv.uint64pow10" = some 3 := by kernel_rfl
theorem gg10 : Tryz.prog.globalNamed "strconv.ErrSyntax" = some 10 := by kernel_rfl
theorem gt0 : (Tryz.prog.globals[0]?).map (·.type) = some 212 := by kernel_rfl
theorem gt1 : (Tryz.prog.globals[1]?).map (·.type) = some 262 := by kernel_rfl
theorem gt3 : (Tryz.prog.globals[3]?).map (·.type) = some 304 := by kernel_rfl
theorem gt10 : (Tryz.prog.globals[10]?).map (·.type) = some 318 := by kernel_rfl
theorem c9 : Tryz.prog.cellsOf 9 = 1 := by kernel_rfl
theorem c48 : Tryz.prog.cellsOf 48 = 1 := by kernel_rfl
section
variable {W : World} {enc : TypeId × Value → Unit} {sp : Nat → Bool} {held : Bool}
theorem trod_str9 {fuel : Nat} {cs : List Value} {x : Bytes} {p : List MemPlace} (h : DataW.trod enc Tryz.prog W 0 sp held fuel 9 cs = some (.lit (.string x), p)) : cs = [str x] := by
  obtain ⟨s, rfl, e, _⟩ := DataW.trod_string Tryz.underlying9 h
  simp only [Prod.mk.injEq, DataW.lit.injEq, Lit.string.injEq] at e
  have : s = ⟨x.toArray⟩ := by rw [e.1]
  rw [this]; rfl
set_option maxRecDepth 100000 in
theorem trod_if318 {fuel : Nat} {cs : List Value} {n : String} {d : DataW Unit} {p : List MemPlace} (h : DataW.trod enc Tryz.prog W 0 sp held fuel 318 cs = some (.iface n d, p)) : ∃ u v, cs = [.iface u v] := by
  cases fuel with
  | zero => cases h
  | succ fuel =>
    unfold DataW.trod at h
    rw [Tryz.underlying318] at h
    revert h
    split <;> intro h <;> first | (rename_i hq; cases hq; done) | (rename_i hq _; cases hq; done) | (cases h; done) | exact ⟨_, _, rfl⟩
theorem trod_sl48 {fuel : Nat} {cs : List Value} {ls : List Bytes} {rest : List (DataW Unit)} {p : List MemPlace} (h : DataW.trod enc Tryz.prog W 0 sp held fuel 48 cs = some (.slice (ls.map fun s => .lit (.string s)) rest, p)) (hne : ls ≠ []) :
    ∃ b o c, cs = [.slice (some ⟨b, o, none⟩) ls.length c] ∧ ls.length ≤ c ∧ ∀ (k : Nat) x, ls[k]? = some x → W.cell? ⟨b, o + k, none⟩ = some (str x) := by
  rcases DataW.trod_slice Tryz.underlying48 h with ⟨_, hx⟩ | ⟨a, len, cap, elems, rs, n, rfl, rfl, hx, _, hlc, _, hel, hcell, _⟩
  · simp at hx
  · simp only [Prod.mk.injEq, DataW.slice.injEq] at hx
    have hlen : ls.length = len := by
      have := congrArg List.length hx.1.1
      simp at this; omega
    rw [c9] at hcell
    have hk : ∀ (k : Nat) x, ls[k]? = some x → W.cell? (a.add k) = some (str x) := by
      intro k x hk
      have hkl : k < ls.length := by
        rcases Nat.lt_or_ge k ls.length with h | h
        · exact h
        · rw [List.getElem?_eq_none h] at hk; cases hk
      have h1 := hcell k (by omega)
      have h2 : (elems.map (·.1))[k]? = some (.lit (.string x)) := by rw [← hx.1.1]; simp [hk]
      rw [List.getElem?_map] at h2
      cases he : elems[k]? with
      | none => rw [he] at h2; cases h2
      | some y =>
        rw [he] at h1 h2
        obtain ⟨y1, y2⟩ := y
        simp only [Option.map_some, Option.some.injEq] at h2
        subst h2
        simp only [Option.bind_eq_some_iff] at h1
        obtain ⟨cl, hc1, hc2⟩ := h1
        have := trod_str9 hc2
        subst this
        have := (cells_at hc1).2 0 _ rfl
        rw [Nat.mul_one] at this
        have e : (a.add k).add 0 = a.add k := by
          obtain ⟨b, o, s⟩ := a
          cases s <;> simp [Addr.add]
        rw [e] at this
        exact this
    obtain ⟨b, o, s⟩ := a
    have h0 : s = none := by
      obtain ⟨x, hx0⟩ : ∃ x, ls[0]? = some x := ⟨_, List.getElem?_eq_getElem (List.length_pos_iff.2 hne)⟩
      have := World.cell?_spot (hk 0 x hx0)
      cases s with
      | none => rfl
      | some _ => simp [Addr.add] at this
    subst h0
    exact ⟨b, o, cap, by rw [hlen], by omega, fun k x hk' => by have := hk k x hk'; rwa [addr_add] at this⟩
end
set_option maxRecDepth 100000 in
theorem glF_of {W : World} (h : laidMetH Tryz.prog laidL W) (hs : W.ShapedOpen Tryz.prog) : GlF W := by
  rw [MakeChecks.laidMetH_plain _ _ _ (by kernel_rfl)] at h
  refine ⟨?_, ?_, ?_, fun j x hj => ?_, fun j ls hj => ?_⟩
  · obtain ⟨g, t, cs, fuel, p, hg, ht, hv, hd⟩ := Lib.laidMet.reads h (n := "internal/strconv.uint64pow10") (.tail _ (.tail _ (.head _)))
    obtain rfl := Option.some.inj (gg3.symm.trans hg)
    obtain rfl := Option.some.inj (gt3.symm.trans ht)
    unfold Lib.TabIs
    rw [hv]
    have hd' : DataW.trod (fun _ => ()) Tryz.prog W 0 (fun _ => true) false fuel 304 cs.toList = some (Lib.tabData .u64 Lib.pow10Tab, p) := hd
    rw [← Lib.cells_of_tab Tryz.underlying304 Tryz.underlying234 (by kernel_rfl) (by kernel_rfl) hd']
  · exact cell_of_shapedOpen_int (t := 3) (zero := #[.int .i64 0]) hs (of_decide_eq_true (by kernel_rfl)) (by kernel_rfl) rfl (by kernel_rfl) (by kernel_rfl) Tryz.underlying3
  · obtain ⟨g, t, cs, fuel, p, hg, ht, hv, hd⟩ := Lib.laidMet.reads h (n := "strconv.ErrSyntax") (.tail _ (.tail _ (.tail _ (.tail _ (.tail _ (.head _))))))
    obtain rfl := Option.some.inj (gg10.symm.trans hg)
    obtain rfl := Option.some.inj (gt10.symm.trans ht)
    have hc := World.var?_cell gg10 hv 0
    obtain ⟨u, v, e⟩ := trod_if318 hd
    rw [hc]
    refine ⟨.iface u v, ?_, .inr ⟨u, v, rfl⟩⟩
    have : cs.toList[0]? = some (.iface u v) := by rw [e]; rfl
    simpa using this
  · obtain ⟨g, t, cs, fuel, p, hg, ht, hv, hd⟩ := Lib.laidMet.reads h (n := "klaxon/math.signs") (.tail _ (.tail _ (.tail _ (.tail _ (.tail _ (.tail _ (.tail _ (.head _))))))))
    obtain rfl := Option.some.inj (gg1.symm.trans hg)
    obtain rfl := Option.some.inj (gt1.symm.trans ht)
    have hc := World.var?_cell gg1 hv j
    rw [hc]
    obtain ⟨xs, m, rfl, hx, hl, hn, hall⟩ := DataW.trod_array Tryz.underlying262 hd
    have e : xs.map (·.1) = signsT.map fun s => (DataW.lit (.string s) : DataW Unit) := by
      have := congrArg Prod.fst hx
      simp only [Rows.laid_klaxon_math_signs, DataW.agg.injEq] at this
      exact this.symm
    have hlt : j < signsT.length := (List.getElem?_eq_some_iff.1 hj).1
    have h15 : signsT.length = 15 := rfl
    have h1 := hall j (by omega)
    rw [c9, Nat.mul_one] at h1
    have h2 : (xs.map (·.1))[j]? = some (DataW.lit (.string x)) := by rw [e, List.getElem?_map, hj]; rfl
    rw [List.getElem?_map] at h2
    cases hy : xs[j]? with
    | none => rw [hy] at h2; cases h2
    | some y =>
      rw [hy] at h1 h2
      obtain ⟨y1, y2⟩ := y
      simp only [Option.map_some, Option.some.injEq] at h2
      subst h2
      have h3 := trod_str9 h1
      have h4 := congrArg (·[0]?) h3
      simpa [List.getElem?_take, List.getElem?_drop] using h4
  · obtain ⟨g, t, cs, fuel, p, hg, ht, hv, hd⟩ := Lib.laidMet.reads h (n := "klaxon/math.levels") (.tail _ (.tail _ (.tail _ (.tail _ (.tail _ (.tail _ (.head _)))))))
    obtain rfl := Option.some.inj (gg0.symm.trans hg)
    obtain rfl := Option.some.inj (gt0.symm.trans ht)
    have hc := World.var?_cell gg0 hv j
    obtain ⟨xs, m, rfl, hx, hl, hn, hall⟩ := DataW.trod_array Tryz.underlying212 hd
    have e : xs.map (·.1) = levelsT.map fun l => (DataW.slice (l.map fun s => .lit (.string s)) [] : DataW Unit) := by
      have := congrArg Prod.fst hx
      simp only [Rows.laid_klaxon_math_levels, DataW.agg.injEq] at this
      exact this.symm
    have hlt : j < levelsT.length := (List.getElem?_eq_some_iff.1 hj).1
    have h5 : levelsT.length = 5 := rfl
    have h1 := hall j (by omega)
    rw [c48, Nat.mul_one] at h1
    have h2 : (xs.map (·.1))[j]? = some (DataW.slice (ls.map fun s => .lit (.string s)) []) := by rw [e, List.getElem?_map, hj]; rfl
    rw [List.getElem?_map] at h2
    cases hy : xs[j]? with
    | none => rw [hy] at h2; cases h2
    | some y =>
      rw [hy] at h1 h2
      obtain ⟨y1, y2⟩ := y
      simp only [Option.map_some, Option.some.injEq] at h2
      subst h2
      have hne : ls ≠ [] := by
        have hm := List.mem_of_getElem? hj
        intro he
        subst he
        exact absurd hm (by decide)
      obtain ⟨b, o, c, h3, h6, h7⟩ := trod_sl48 h1 hne
      refine ⟨b, o, c, ?_, h6, h7⟩
      rw [hc]
      have h4 := congrArg (·[0]?) h3
      simpa [List.getElem?_take, List.getElem?_drop] using h4
end Go.Proofs.YtomkgfdigldhcaaGreatDoor
namespace Go.Proofs.YtomkgfdigldhcaaGreatDoor
open Go.ChangeShapes Go.WideShapes Go.ChangeAt Go.RowKit Go.KX
theorem ownR : ownKnob Tryz.prog.godebug = none := by kernel_rfl
/-- The wrap: what is listed, and the world's shape. -/
theorem returnsL {H : Type} {enc : TypeId × Value → H} {a : Assume} {C : Checked} {os : Os} {f : FuncId} {fn : Func} {s : ChangeSpec} {conds : List PathCond} {apart fresh handsOn again : Bool} {laid : List (String × DataW Unit)}
    (own : ownKnob C.prog.godebug = none) (started : os.Started) (noInit : C.prog.inits.idxOf? f = none) (hfn : C.prog.funcs[f]? = some fn)
    (witness : ∃ (w : World) (tape : Tape) (i : Input), w.os = os ∧ (w.forCall tape i).Shaped C.prog ∧ i.vars = [] ∧ Input.okWide C.prog (w.forCall tape i) .any w.heap.size f i ∧
      ((s.pre enc C.prog fn conds apart (w.forCall tape i).memory i.args ∧ laidMetH C.prog laid (w.forCall tape i).memory) ∧ sizedMet enc C.prog fn (OpenSpec.ofChange s) apart (w.forCall tape i).memory i.args) ∧ a.holds C.prog (lone (Frame.enter C.prog f i.args .normal) [] (w.forCall tape i)))
    (contract : ∀ (W : World) (base : Nat) (args : Array Value) (ds gs : List (DataW H)) (before : List MemPlace),
      (∀ (j : Nat) t v, fn.params[j]? = some t → args[j]? = some v → Value.okWide C.prog W .any base t v) →
      DataW.Whole enc C.prog fn.params.toList s.vars apart W args.toList ds gs before →
      (DataW.weightsEach C.prog (fn.params.toList ++ s.plain.varTypes C.prog) (ds ++ gs)).all (· ≤ reachBytes) = true → laidMetH C.prog laid W → W.ShapedOpen C.prog →
      Calls C.prog f args W fun e W' => ∃ v, e = .returned v ∧ s.post enc C.prog fn apart fresh handsOn again W args v W') :
    ReturnsInHanded a C os f .any (fun w args => (s.pre enc C.prog fn conds apart w args ∧ laidMetH C.prog laid w) ∧ sizedMet enc C.prog fn (OpenSpec.ofChange s) apart w args) (s.post enc C.prog fn apart fresh handsOn again) := by
  refine returnsInHanded_of_calls own started noInit witness ?_
  intro w tape i _ hsh _ hok hpre hholds
  obtain ⟨_, _, _, fn', hfn', _, _, _, _, hval⟩ := hok
  have e : fn' = fn := Option.some.inj (hfn'.symm.trans hfn)
  subst e
  obtain ⟨⟨⟨ds, gs, before, hw, hc⟩, hx⟩, hz⟩ := hpre
  have hw' := DataW.Whole.of_heap (w' := w.forCall tape i) (by rfl) hw
  refine (contract (w.forCall tape i) w.heap.size i.args ds gs before hval hw' (hz.weights hw) (laidMetH.of_heap (by rfl) hx) hsh).mono fun e W' ⟨v, he, hp⟩ => ?_
  subst he
  exact ChangeSpec.post_blind hp
/-- A law's contract, at whatever lies there. -/
theorem calls_lawF {f : FuncId} {args : List SV} {vs : List Value} {W : World} (h : Fc Tryz.prog gT f args (bS true)) (hg : GlF W) (ha : DenL (gAll W) (fun _ => ⟨0, none, 0⟩) args vs) :
    Calls Tryz.prog f vs.toArray W fun e W' => e = .returned (.bool true) ∧ OldSame W W' := by
  refine (h.2 _ (gAll W) vs (fun f hf => ?_) ha).mono ?_
  · rcases List.mem_singleton.1 hf with rfl
    exact ⟨W, hg, Below.refl _ _, fun b hb => hb⟩
  rintro e w' ⟨v, g', rfl, rfl, hE, dv⟩
  obtain rfl := den_v dv
  exact ⟨rfl, hE.os, hE.output, hE.size, fun b hb => hE.same b hb⟩
end Go.Proofs.YtomkgfdigldhcaaGreatDoor
namespace Go.KX
open Go.RowKit
section
variable {H : Type} {enc : TypeId × Value → H} {P : Program} {W : World}
theorem weightsEach_at : ∀ {ts : List TypeId} {ds : List (DataW H)}, (DataW.weightsEach P ts ds).all (· ≤ reachBytes) = true → ∀ (i : Nat) t d, ts[i]? = some t → ds[i]? = some d → Light P t d
  | [], _, _, i, t, d, h, _ => by simp at h
  | _ :: _, [], _, i, t, d, _, h => by simp at h
  | t :: ts, d :: ds, h, i, t', d', h1, h2 => by
    simp only [DataW.weightsEach, List.all_append, Bool.and_eq_true] at h
    cases i with
    | zero => simp at h1 h2; subst h1; subst h2; exact h.1
    | succ i => exact weightsEach_at h.2 i t' d' (by simpa using h1) (by simpa using h2)
/-- A struct that is handed in, field by field. -/
theorem open_struct {t : TypeId} {fs : Array Field} (u : P.underlying t = some (.struct fs)) {fuel : Nat} {cs : List Value} {x : DataW H × List MemPlace} (h : DataW.trod enc P W 0 (fun _ => true) true fuel t cs = some x) (hl : Light P t x.1) :
    cs.length = P.cellsOf t ∧ ∃ fuel' : Nat, ∀ (i : Nat) f, fs.toList[i]? = some f → ∃ y, DataW.trod enc P W 0 (fun _ => true) true fuel' f.type ((cs.drop f.offset).take (P.cellsOf f.type)) = some y ∧ Light P f.type y.1 := by
  cases fuel with
  | zero => cases h
  | succ fuel =>
    unfold DataW.trod at h
    rw [u] at h
    dsimp only at h
    split at h
    · rename_i hc
      refine ⟨hc, fuel, fun i f hf => ?_⟩
      simp only [Option.map_eq_some_iff] at h
      obtain ⟨xs, h1, rfl⟩ := h
      obtain ⟨y, i0, g0⟩ := mapM_at _ _ h1 i _ hf
      simp only [Light, DataW.weights, u] at hl
      exact ⟨y, g0, weightsEach_at hl i f.type y.1 (by rw [List.getElem?_map, hf]; rfl) (by rw [List.getElem?_map, i0]; rfl)⟩
    · cases h
theorem rd_part {t : TypeId} {fs : Array Field} {fuel' : Nat} {cs : List Value} (h : ∀ (i : Nat) f, fs.toList[i]? = some f → ∃ y : DataW H × List MemPlace, DataW.trod enc P W 0 (fun _ => true) true fuel' f.type ((cs.drop f.offset).take (P.cellsOf f.type)) = some y ∧ Light P f.type y.1)
    (i : Nat) {f : Field} (hf : fs.toList[i]? = some f) (ht : f.type = t) {α : Type} {e : α → List Value} {Q : α → Prop} (hr : Rd enc P W t e Q) : ∃ y, (cs.drop f.offset).take (P.cellsOf t) = e y ∧ Q y := by
  subst ht
  obtain ⟨y, h1, h2⟩ := h i f hf
  exact hr _ _ _ h1 h2
end
end Go.KX
namespace Go.Proofs.YtomkgfdigldhcaaGreatDoor
open Go.ChangeShapes Go.WideShapes Go.ChangeAt Go.RowKit Go.KX
theorem notAggR {P : Program} {W : World} {r : Reach} {base : Nat} {t e : TypeId} {v : Value} (u : P.underlying t = some (.slice e)) (h : Value.okWide P W r base t v) : ∀ cs, v ≠ .agg cs := by
  intro cs hv
  subst hv
  simp [Value.okWide, Cell.okWide, u, Cell.ok] at h
structure NdQ (n : Nd) : Prop where
  ref : n.ref.length ≤ 140737488351232
  source : n.source.length ≤ 140737488351232
  input : n.input.length ≤ 140737488351232
  how : n.how.length ≤ 140737488351232
  text : n.text.length ≤ 140737488351232
  kind : (Lit.int .i64 n.kind).wf = true
  low : (Lit.int .i64 n.low.k).wf = true ∧ (Lit.int .i64 n.low.n).wf = true
  high : (Lit.int .i64 n.high.k).wf = true ∧ (Lit.int .i64 n.high.n).wf = true
set_option maxRecDepth 100000 in
theorem rd_val {H : Type} {enc : TypeId × Value → H} {W : World} : Rd enc Tryz.prog W 26 (fun v : Val => [.int .i64 v.k, .int .i64 v.n]) (fun v => (Lit.int .i64 v.k).wf = true ∧ (Lit.int .i64 v.n).wf = true) := by
  intro fuel cs x h hl
  obtain ⟨hc, fu, hp⟩ := open_struct Tryz.underlying26 h hl
  have c26 : Tryz.prog.cellsOf 26 = 2 := by kernel_rfl
  have c3 : Tryz.prog.cellsOf 3 = 1 := by kernel_rfl
  rw [c26] at hc
  obtain ⟨a, ea, qa⟩ := rd_part (t := 3) hp 0 rfl rfl (rd_int Tryz.underlying3)
  have c2 : Tryz.prog.cellsOf 2 = 1 := by kernel_rfl
  obtain ⟨b, eb, qb⟩ := rd_part (t := 2) hp 1 rfl rfl (rd_int Tryz.underlying2)
  rw [c3] at ea
  rw [c2] at eb
  match cs, hc with
  | [x, y], _ =>
    simp at ea eb
    subst ea; subst eb
    exact ⟨⟨a, b⟩, rfl, qa, qb⟩
theorem NdQ.w {n : Nd} (h : NdQ n) : wN n ≤ 703687441776640 := by
  have := h.ref; have := h.source; have := h.input; have := h.how; have := h.text
  unfold wN
  omega
end Go.Proofs.YtomkgfdigldhcaaGreatDoor
namespace Go.KX
theorem denL_val {g : GW} {ρ : Nat → Lc} (v : Val) : DenL g ρ [nI v.k, nI v.n] (elVal.enc v) := .cons .v <| .cons .v .nil
theorem den_vals {g : GW} {ρ : Nat → Lc} {ad : Option Addr} {c : Nat} {l : List Val} (h : (SlM elVal ad c l).p g) : Den g ρ (rV l) (.slice ad l.length c) := by
  obtain ⟨h1, h2, h3⟩ := h
  have hm : (l.map fun v : Val => [nI v.k, nI v.n]).length = l.length := List.length_map ..
  have := Den.s (g := g) (ρ := ρ) (sz := 2) (rows := l.map fun v : Val => [nI v.k, nI v.n]) (ad := ad) (c := c) (flat elVal l) (by rw [hm]; exact h1) (by rw [hm]; exact h2) (by rw [hm, flat_len]; rfl)
    (fun r hr => by obtain ⟨n, _, rfl⟩ := List.mem_map.1 hr; rfl) ⟨flat_one elVal l, fun h => by cases h⟩ (fun hne => h3 (fun e => hne (by rw [e]; rfl)))
    (fun ρ' i j r sv x hi hj hx => by
      rw [List.getElem?_map] at hi
      cases hn : l[i]? with
      | none => rw [hn] at hi; cases hi
      | some n =>
        rw [hn] at hi
        cases hi
        obtain ⟨y, hy, hd⟩ := (denL_val (g := g) (ρ := ρ') n).get hj
        have hg := flat_get elVal l i j n y hn hy
        have e : x = y := Option.some.inj (hx.symm.trans hg)
        rw [e]; exact hd)
  rw [hm] at this
  exact this
end Go.KX
namespace Go.Proofs.YtomkgfdigldhcaaGreatDoor
open Go.ChangeShapes Go.WideShapes Go.ChangeAt Go.RowKit Go.KX
set_option maxRecDepth 100000 in
/-- Values that are handed in. -/
theorem rd_vals {H : Type} {enc : TypeId × Value → H} {W : World} {v : Value} {d : DataW H} {ps : List MemPlace} (hv : ∀ cs, v ≠ .agg cs) (h : DataW.Trod enc Tryz.prog W 0 (fun _ => true) true 46 v d ps) (hl : Light Tryz.prog 46 d) :
    ∃ (ad : Option Addr) (c : Nat) (l : List Val), v = .slice ad l.length c ∧ (∀ ρ, Den (gAll W) ρ (rV l) v) := by
  obtain ⟨y, hy1, hy2, hy3, hy4⟩ := rd_arg (rd_slice (E := elVal) Tryz.underlying46 (by kernel_rfl) rd_val) h hl
  have e := Go.KX.one_cell hy1 hv
  exact ⟨y.1, y.2.1, y.2.2, e, fun ρ => by rw [e]; exact den_vals hy2⟩
end Go.Proofs.YtomkgfdigldhcaaGreatDoor
namespace Go.KX
theorem joined_of {P : Program} {f : FuncId} {fn : Func} {s : ChangeSpec} {c : OpenClaim} (g1 : laidOutB P = true) (g2 : mapsRowed P = true) (g3 : (P.stops == []) = true) (g4 : (P.stopKnobs == []) = true) (g5 : P.stopsHeard = true) (g6 : P.mayEnter = true) (g7 : (c.plainKeys == P.plainKeys) = true) (g8 : (c.lifted == P.liftsFinal) = true) (g9 : (P.make == some c.make) = true)
    (a1 : c.wf (OpenSpec.ofChange s) = true) (a2 : fn.params.all (P.readableRec ·) = true) (a3 : namedTie P c.named s.vars = true) (a4 : (c.stops == []) = true) (a5 : (c.knobs == []) = true)
    (b1 : (c.inPlace == P.inPlace f) = true) (b2 : (c.unfollowed == P.unfollowed f) = true) (b3 : (c.recurses == P.recurses f) = true) (b4 : (c.named == P.varsNamed f) = true)
    (c1 : (c.maps == (fn.params.toList ++ s.plain.varTypes P).any (P.mapsRec ·)) = true) (c2 : (c.ifaces == (fn.params.toList ++ s.plain.varTypes P).any (P.ifacesRec ·)) = true) (c3 : (c.mapsOut == P.mapsAmong fn.resultTypes.toList) = true) (c4 : (c.loops == (fn.params.toList ++ s.plain.varTypes P).any (P.loopsFrom ·)) = true) (c5 : (c.wideKeys == (fn.params.toList ++ s.plain.varTypes P ++ fn.resultTypes.toList).any (P.wideKeysFrom ·)) = true)
    (d1 : s.vars.all (P.varReadable ·) = true) (d2 : fn.resultTypes.all (fun t => P.readableRec t && decide (t < P.types.size)) = true) (d3 : (c.ifacesOut == fn.resultTypes.toList.any (P.ifacesRec ·)) = true) (d4 : (c.loopsOut == fn.resultTypes.toList.any (P.loopsFrom ·)) = true) (d5 : c.shortTexts.isNone = true)
    (d6 : (c.kinds == (if c.domain.isEmpty then [] else fn.params.toList.map fun t => match P.underlying t with | some (.int k) => some k | _ => none)) = true) (d7 : (c.pinned == c.pinnedBy) = true) (d8 : (c.veiled == (fn.params.toList ++ s.plain.varTypes P ++ fn.resultTypes.toList).any (P.veiledRec ·)) = true) (d9 : c.veiledFits P fn.params.toList (fn.params.toList ++ s.plain.varTypes P ++ fn.resultTypes.toList) = true) : joinedFacts P f fn s c = true := by
  unfold joinedFacts
  repeat' first | assumption | refine Bool.and_eq_true_iff.2 ⟨?_, ?_⟩
end Go.KX
