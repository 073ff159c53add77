/- WN WO UM WP WR WX US BZ RL RM RN RE. -/
import Derived.Test.YtomkgfdigldhcaaGreatDoorLFI
import Derived.ProofKit
import Derived.OpenShut
import Derived.Test.YtomkgfdigldhcaaGreatDoorRows
import Derived.Lib.LaidU8
import Derived.Shelf.Vars
import Derived.Handed
import Derived.Lay
import Derived.MakeChecks
import Derived.HandedShaped
import Derived.Stop.Joined
import Derived.JoinedOf
import Derived.KernelRfl
namespace Go.Proofs.YtomkgfdigldhcaaGreatDoor
open Go.KX
set_option maxRecDepth 100000 in
theorem number_ok {s r : Bytes} {p : Ps} (hi : p.i + r.length ≤ s.length) (hs : s.length ≤ 1024) : Fp Tryz.prog gT 298 [.l 1000 0, .str r] (psC s p) (exS (numberX parseV r p).1) (psC s (numberX parseV r p).2) := by
 refine fpb tOK (fn := Tryz.f298) 58 [.cell 4 29] Tryz.func298 Tryz.results298 (fun g0 B0 Q ρ0 R => ?_)
 have hb := runB_le gDig r
 have hnl := numLen_le r
 refine en tOK 0 1 [] ?_
 refine sn tOK 0 1 [] ?_
 refine fc tOK 1 [] (run_ok (g := gDig) (s := r) (by omega)) ?_
 refine sn tOK 0 11 [] ?_ (hφ := by exact ⟨id, id, fun h => ⟨by omega, by have := of_decide_eq_true h; omega⟩, id, id, by omega, by omega⟩)
 refine sib 0 rfl rfl (fun h21 => ?_) (fun h21 => ?_)
 ·simp only [Bool.and_eq_true, decide_eq_true_eq] at h21
  obtain ⟨q1, q2⟩ := h21
  have q3 : r.getD (runB gDig r) 0 = 46 := UInt8.toNat_inj.1 (Int.ofNat.inj q2)
  have hb2 := runB_le gDig (r.drop (runB gDig r + 1))
  have hb3 : (r.drop (runB gDig r + 1)).length = r.length - (runB gDig r + 1) := List.length_drop
  refine en tOK 0 4 [] ?_
  refine sas 25 rfl (v' := .str (r.drop (runB gDig r + 1))) ?_ ?_
  ·rw [show ((runB gDig r : Int) + 1).toNat = runB gDig r + 1 by omega]
  refine fc tOK 1 [] (run_ok (g := gDig) (s := r.drop (runB gDig r + 1)) (by omega)) ?_
  refine sn tOK 0 2 [] ?_
  refine si 0 rfl rfl (fun h28 => ?_) (fun h28 => ?_)
  ·have e : numLen r = runB gDig r + 1 + runB gDig (r.drop (runB gDig r + 1)) := by unfold numLen; rw [if_pos ⟨by omega, q3, by omega⟩]
   refine en tOK 0 5 [] ?_
   refine sas 5 rfl (v' := nI (numLen r)) ?_ ?_
   ·exact nI_eq (by omega)
   refine sn tOK 0 3 [] ?_
   refine fc tOK 6 [] (vparse_ok (s := r.take (numLen r)) (by simp; omega)) ?_
   refine sn tOK 0 2 [] ?_
   refine si 0 rfl rfl (fun h41 => ?_) (fun h41 => ?_)
   ·have hfi := fails_i p 110 p.i
    have e2 : numberX parseV r p = (exN (parseV (r.take (numLen r))).1, { p.fails 110 p.i with i := p.i + numLen r }) := by unfold numberX; rw [if_neg h41]
    refine en tOK 0 5 [] ?_
    refine fp tOK 1000 0 [] (fails_ok) ?_
    refine sn tOK 0 9 [] ?_
    refine sn tOK 0 3 [] ?_
    refine srp 0 R ?_
    exact ⟨by rw [e2] <;> rfl, by rw [e2] <;> first | rfl | (rw [hfi] <;> rfl)⟩
   ·have e2 : numberX parseV r p = (exN (parseV (r.take (numLen r))).1, { p with i := p.i + numLen r }) := by unfold numberX; rw [if_pos (Decidable.of_not_not h41)]
    refine en tOK 0 9 [] ?_
    refine sn tOK 0 3 [] ?_
    refine srp 0 R ?_
    exact ⟨by rw [e2] <;> rfl, by rw [e2] <;> first | rfl | (rw [hfi] <;> rfl)⟩
  ·have e : numLen r = runB gDig r := by unfold numLen; rw [if_neg (fun h => by omega)]
   refine eas 5 rfl (v' := nI (numLen r)) ?_ ?_
   ·exact nI_eq (by omega)
   refine en tOK 0 3 [] ?_
   refine fc tOK 6 [] (vparse_ok (s := r.take (numLen r)) (by simp; omega)) ?_
   refine sn tOK 0 2 [] ?_
   refine si 0 rfl rfl (fun h41 => ?_) (fun h41 => ?_)
   ·have hfi := fails_i p 110 p.i
    have e2 : numberX parseV r p = (exN (parseV (r.take (numLen r))).1, { p.fails 110 p.i with i := p.i + numLen r }) := by unfold numberX; rw [if_neg h41]
    refine en tOK 0 5 [] ?_
    refine fp tOK 1000 0 [] (fails_ok) ?_
    refine sn tOK 0 9 [] ?_
    refine sn tOK 0 3 [] ?_
    refine srp 0 R ?_
    exact ⟨by rw [e2] <;> rfl, by rw [e2] <;> first | rfl | (rw [hfi] <;> rfl)⟩
   ·have e2 : numberX parseV r p = (exN (parseV (r.take (numLen r))).1, { p with i := p.i + numLen r }) := by unfold numberX; rw [if_pos (Decidable.of_not_not h41)]
    refine en tOK 0 9 [] ?_
    refine sn tOK 0 3 [] ?_
    refine srp 0 R ?_
    exact ⟨by rw [e2] <;> rfl, by rw [e2] <;> first | rfl | (rw [hfi] <;> rfl)⟩
 ·have e : numLen r = runB gDig r := by
    unfold numLen
    rw [if_neg]
    intro h
    rcases Bool.and_eq_false_iff.1 h21 with q | q
    · have q := of_decide_eq_false q
      omega
    · exact of_decide_eq_false q (by show ((r.getD (runB gDig r) 0).toNat : Int) = 46; rw [h.2.1]; rfl)
  refine eas 5 rfl (v' := nI (numLen r)) ?_ ?_
  ·exact nI_eq (by omega)
  refine en tOK 0 3 [] ?_
  refine fc tOK 6 [] (vparse_ok (s := r.take (numLen r)) (by simp; omega)) ?_
  refine sn tOK 0 2 [] ?_
  refine si 0 rfl rfl (fun h41 => ?_) (fun h41 => ?_)
  ·have hfi := fails_i p 110 p.i
   have e2 : numberX parseV r p = (exN (parseV (r.take (numLen r))).1, { p.fails 110 p.i with i := p.i + numLen r }) := by unfold numberX; rw [if_neg h41]
   refine en tOK 0 5 [] ?_
   refine fp tOK 1000 0 [] (fails_ok) ?_
   refine sn tOK 0 9 [] ?_
   refine sn tOK 0 3 [] ?_
   refine srp 0 R ?_
   exact ⟨by rw [e2] <;> rfl, by rw [e2] <;> first | rfl | (rw [hfi] <;> rfl)⟩
  ·have e2 : numberX parseV r p = (exN (parseV (r.take (numLen r))).1, { p with i := p.i + numLen r }) := by unfold numberX; rw [if_pos (Decidable.of_not_not h41)]
   refine en tOK 0 9 [] ?_
   refine sn tOK 0 3 [] ?_
   refine srp 0 R ?_
   exact ⟨by rw [e2] <;> rfl, by rw [e2] <;> first | rfl | (rw [hfi] <;> rfl)⟩
set_option maxRecDepth 100000 in
theorem word_ok {s r : Bytes} {p : Ps} {ex : Ps → Ex × Ps} {dp : Nat} (hdp : dp ≤ 33) (fx : Fit s ex) (hex : ∀ p : Ps, p.i ≤ s.length → Fp Tryz.prog gT 62 [.l 1000 0, nI ((dp : Int) + 1)] (psC s p) (exS (ex p).1) (psC s (ex p).2)) (hi : p.i + r.length ≤ s.length) (hs : s.length ≤ 1024) : Fp Tryz.prog gT 299 [.l 1000 0, .str r, nI dp] (psC s p) (exS (wordX s ex r p).1) (psC s (wordX s ex r p).2) := by
 refine fpb tOK (fn := Tryz.f299) 57 [.cell 6 29] Tryz.func299 Tryz.results299 (fun g0 B0 Q ρ0 R => ?_)
 have hb := runB_le gLD r
 obtain ⟨w, hw⟩ : ∃ w, w = r.take (runB gLD r) := ⟨_, rfl⟩
 have hwl : w.length ≤ r.length := by rw [hw]; simp; omega
 obtain ⟨p1, hp1⟩ : ∃ p1 : Ps, p1 = { p with i := p.i + w.length } := ⟨_, rfl⟩
 have hp1i : p1.i = p.i + w.length := by rw [hp1]
 refine en tOK 0 1 [] ?_
 refine sn tOK 0 5 [] ?_
 refine sn tOK 0 2 [] ?_
 refine fc tOK 2 [] (run_ok (g := gLD) (s := r) (by omega)) ?_
 refine sas 1 rfl (v' := .str w) ?_ ?_
 ·rw [hw]; rfl
 refine sn tOK 0 10 [] ?_
 refine smb 1000 (mb' := psC s p1) ?_ ?_
 ·rw [hp1]; rfl
 refine sn tOK 0 1 [] ?_
 refine sn tOK 0 2 [] ?_
 refine si 0 rfl rfl (fun h27 => ?_) (fun h27 => ?_)
 ·have e2 : wordX s ex r p = (exN nullV, p1) := by unfold wordX; simp only; rw [← hw, if_pos h27, hp1]
  refine en tOK 0 0 [] ?_
  refine fc tOK 2 [] (vnull_ok) ?_
  refine srp 0 R ?_
  exact ⟨by rw [e2] <;> rfl, by rw [e2] <;> rfl⟩
 ·refine en tOK 0 2 [] ?_
  refine si 0 rfl rfl (fun h31 => ?_) (fun h31 => ?_)
  ·have e2 : wordX s ex r p = (exN nanV, p1) := by unfold wordX; simp only; rw [← hw, if_neg h27, if_pos h31, hp1]
   refine en tOK 0 0 [] ?_
   refine fc tOK 2 [] (vnan_ok) ?_
   refine srp 0 R ?_
   exact ⟨by rw [e2] <;> rfl, by rw [e2] <;> rfl⟩
  ·refine en tOK 0 2 [] ?_
   refine si 0 rfl rfl (fun h35 => ?_) (fun h35 => ?_)
   ·have e2 : wordX s ex r p = (exN plusV, p1) := by unfold wordX; simp only; rw [← hw, if_neg h27, if_neg h31, if_pos h35, hp1]
    refine en tOK 0 0 [] ?_
    refine fc tOK 2 [] (vplus_ok) ?_
    refine srp 0 R ?_
    exact ⟨by rw [e2] <;> rfl, by rw [e2] <;> rfl⟩
   ·obtain ⟨p2, hp2⟩ : ∃ p2, p2 = (if functionB w then p1 else p1.fails 110 p.i) := ⟨_, rfl⟩
    have e2 : wordX s ex r p = (exC w [(parX s ex (mustP s oPL p2)).1], (parX s ex (mustP s oPL p2)).2) := by unfold wordX; simp only; rw [← hw, if_neg h27, if_neg h31, if_neg h35, hp2, hp1]
    have hp2i : p2.i = p1.i := by rw [hp2]; split <;> simp [fails_i]
    have hm1 := must_fit (s := s) (x := oPL) (p := p2) (by omega)
    have hx1 := fx _ hm1.2
    refine en tOK 0 1 [] ?_
    refine fc tOK 1 [] (function_ok) ?_
    refine sib 0 rfl rfl (fun h41 => ?_) (fun h41 => ?_)
    ·refine en tOK 0 2 [] ?_
     refine fp tOK 1000 0 [] (fails_ok) ?_
     refine smb 1000 (mb' := psC s p2) ?_ ?_
     ·rw [hp2]; first | rw [if_pos (by simpa using h41)] | rw [if_neg (by simpa using h41)]
     refine sn tOK 0 1 [] ?_
     refine fp tOK 1000 0 [] (must_ok (x := oPL) (p := p2) (by omega) hs) ?_
     refine sn tOK 0 3 [] ?_
     refine fp tOK 1000 2 [] (hex (mustP s oPL p2) hm1.2) ?_
     refine sn tOK 0 1 [] ?_
     refine fp tOK 1000 0 [] (must_ok (x := oPR) (p := (ex (mustP s oPL p2)).2) hx1.2 hs) ?_
     refine sn tOK 0 3 [] ?_
     refine fc tOK 1 [] (call1_ok) ?_
     refine srp 0 R ?_
     exact ⟨by rw [e2] <;> rfl, by rw [e2] <;> rfl⟩
    ·refine emb 1000 (mb' := psC s p2) ?_ ?_
     ·rw [hp2]; first | rw [if_pos (by simpa using h41)] | rw [if_neg (by simpa using h41)]
     refine en tOK 0 1 [] ?_
     refine fp tOK 1000 0 [] (must_ok (x := oPL) (p := p2) (by omega) hs) ?_
     refine sn tOK 0 3 [] ?_
     refine fp tOK 1000 2 [] (hex (mustP s oPL p2) hm1.2) ?_
     refine sn tOK 0 1 [] ?_
     refine fp tOK 1000 0 [] (must_ok (x := oPR) (p := (ex (mustP s oPL p2)).2) hx1.2 hs) ?_
     refine sn tOK 0 3 [] ?_
     refine fc tOK 1 [] (call1_ok) ?_
     refine srp 0 R ?_
     exact ⟨by rw [e2] <;> rfl, by rw [e2] <;> rfl⟩
set_option maxRecDepth 100000 in
theorem prim0_ok {s : Bytes} {ex : Ps → Ex × Ps} {p : Ps} {dp : Nat} (hi : p.i ≤ s.length) (hs : s.length ≤ 1024) (hd : p.dead = true) : Fp Tryz.prog gT 256 [.l 1000 0, nI dp] (psC s p) (exS (primX parseV s ex p).1) (psC s (primX parseV s ex p).2) := by
 refine fpb tOK (fn := Tryz.f256) 95 [.cell 4 29] Tryz.func256 Tryz.results256 (fun g0 B0 Q ρ0 R => ?_)
 have e2 := prim_dead (pv := parseV) (s := s) (ex := ex) hd
 have hd2 : (p.restP s).dead = true := (restP_dead s p).trans hd
 refine en tOK 0 1 [] ?_
 refine sn tOK 0 1 [] ?_
 refine fp tOK 1000 1 [] (rest_ok hi hs) ?_
 refine sn tOK 0 5 [] ?_
 refine sib 0 rfl rfl (fun h15 => ?_) (fun h15 => ?_)
 ·refine en tOK 0 2 [] ?_
  refine srp 0 R ?_
  exact ⟨by rw [e2] <;> rfl, by rw [e2] <;> rfl⟩
 ·rw [hd2] at h15; cases h15
set_option maxRecDepth 100000 in
theorem prim_ok {s : Bytes} {p : Ps} {ex : Ps → Ex × Ps} {dp : Nat} (hdp : dp ≤ 33) (fx : Fit s ex) (hex : ∀ p : Ps, p.i ≤ s.length → Fp Tryz.prog gT 62 [.l 1000 0, nI ((dp : Int) + 1)] (psC s p) (exS (ex p).1) (psC s (ex p).2)) (hi : p.i ≤ s.length) (hs : s.length ≤ 1024) : Fp Tryz.prog gT 256 [.l 1000 0, nI dp] (psC s p) (exS (primX parseV s ex p).1) (psC s (primX parseV s ex p).2) := by
 refine fpb tOK (fn := Tryz.f256) 95 [.cell 4 29] Tryz.func256 Tryz.results256 (fun g0 B0 Q ρ0 R => ?_)
 have hlen := restT_len (s := s) hi
 have hdd := restP_dead s p
 refine en tOK 0 1 [] ?_
 refine sn tOK 0 1 [] ?_
 refine fp tOK 1000 1 [] (rest_ok hi hs) ?_
 refine sn tOK 0 5 [] ?_
 refine sib 0 rfl rfl (fun h15 => ?_) (fun h15 => ?_)
 ·have e2 := prim_dead (pv := parseV) (s := s) (ex := ex) (p := p) (hdd ▸ h15)
  refine en tOK 0 2 [] ?_
  refine srp 0 R ?_
  exact ⟨by rw [e2] <;> rfl, by rw [e2] <;> first | rfl | (rw [hp2i] <;> rfl)⟩
 ·have hd : p.dead = false := hdd ▸ h15
  refine en tOK 0 3 [] ?_
  refine si 0 rfl rfl (fun h20 => ?_) (fun h20 => ?_)
  ·have e2 := prim_nil (pv := parseV) (s := s) (ex := ex) hd h20
   refine en tOK 0 5 [] ?_
   refine fp tOK 1000 0 [] (fails_ok) ?_
   refine sn tOK 0 2 [] ?_
   refine srp 0 R ?_
   exact ⟨by rw [e2] <;> rfl, by rw [e2] <;> first | rfl | (rw [hp2i] <;> rfl)⟩
  ·obtain ⟨c, r, hcr⟩ : ∃ c r, p.restT s = c :: r := by
     cases hx : p.restT s with
     | nil => exact absurd hx h20
     | cons c r => exact ⟨c, r, rfl⟩
   have e0 := prim_cons (pv := parseV) (s := s) (ex := ex) hd hcr
   have hlr : (p.restP s).i + (c :: r).length ≤ s.length := by rw [hcr] at hlen; omega
   have hlr1 : (c :: r).length = r.length + 1 := rfl
   refine eas 5 rfl (v' := .str (c :: r)) ?_ ?_
   ·rw [hcr]
   refine en tOK 0 4 [] ?_
   refine si 0 rfl rfl (fun h29 => ?_) (fun h29 => ?_)
   ·have hc : c = 40 := u8_eq (k := 40) h29
    have e2 : primX parseV s ex p = parX s ex { p.restP s with i := (p.restP s).i + 1 } := by rw [e0, if_pos hc]
    have hx1 := fx { p.restP s with i := (p.restP s).i + 1 } (by show (p.restP s).i + 1 ≤ _; omega)
    refine en tOK 0 8 [] ?_
    refine smb 1000 (mb' := psC s { p.restP s with i := (p.restP s).i + 1 }) ?_ ?_
    ·rfl
    refine sn tOK 0 3 [] ?_
    refine fp tOK 1000 1 [] (hex { p.restP s with i := (p.restP s).i + 1 } (by show (p.restP s).i + 1 ≤ _; omega)) ?_
    refine sn tOK 0 1 [] ?_
    refine fp tOK 1000 0 [] (must_ok (x := oPR) (p := (ex { p.restP s with i := (p.restP s).i + 1 }).2) hx1.2 hs) ?_
    refine sn tOK 0 2 [] ?_
    refine srp 0 R ?_
    exact ⟨by rw [e2] <;> rfl, by rw [e2] <;> first | rfl | (rw [hp2i] <;> rfl)⟩
   ·have hc : c ≠ 40 := fun h => h29 (by rw [h]; rfl)
    refine en tOK 0 4 [] ?_
    refine si 0 rfl rfl (fun h46 => ?_) (fun h46 => ?_)
    ·have hc2 : c = 36 := u8_eq (k := 36) h46
     have hb := runB_le gLD r
     obtain ⟨w, hw⟩ : ∃ w, w = r.take (runB gLD r) := ⟨_, rfl⟩
     have hwl : w.length ≤ r.length := by rw [hw]; simp; omega
     obtain ⟨p2, hp2⟩ : ∃ p2, p2 = (if refB w then p.restP s else (p.restP s).fails 110 (p.restP s).i) := ⟨_, rfl⟩
     have hp2i : p2.i = (p.restP s).i := by rw [hp2]; split <;> simp [fails_i]
     have e2 : primX parseV s ex p = (exR w, { p2 with i := (p.restP s).i + (1 + w.length) }) := by rw [e0, if_neg hc, if_pos hc2, hp2, hw]; rfl
     refine en tOK 0 3 [] ?_
     refine fc tOK 3 [] (run_ok (g := gLD) (s := r) (by omega)) ?_
     refine sas 6 rfl (v' := .str w) ?_ ?_
     ·rw [hw]; show SV.str (r.take ((1 + (runB gLD r : Int)).toNat - 1)) = _; rw [show (1 + (runB gLD r : Int)).toNat - 1 = runB gLD r by omega]
     refine sn tOK 0 1 [] ?_
     refine fc tOK 1 [] (ref_ok (w := w) (by omega)) ?_
     refine sib 0 rfl rfl (fun h58 => ?_) (fun h58 => ?_)
     ·refine en tOK 0 5 [] ?_
      refine fp tOK 1000 0 [] (fails_ok) ?_
      refine smb 1000 (mb' := psC s p2) ?_ ?_
      ·rw [hp2]; first | rw [if_pos (by simpa using h58)] | rw [if_neg (by simpa using h58)]
      refine sn tOK 0 11 [] ?_ (hφ := by exact ⟨⟨by omega, by omega⟩, ⟨by omega, by omega⟩⟩)
      refine sn tOK 0 3 [] ?_
      refine sn tOK 0 2 [] ?_
      refine srp 0 R ?_
      exact ⟨by rw [e2] <;> rfl, by rw [e2] <;> first | rfl | (rw [hp2i] <;> rfl)⟩
     ·refine emb 1000 (mb' := psC s p2) ?_ ?_
      ·rw [hp2]; first | rw [if_pos (by simpa using h58)] | rw [if_neg (by simpa using h58)]
      refine en tOK 0 11 [] ?_ (hφ := by exact ⟨⟨by omega, by omega⟩, ⟨by omega, by omega⟩⟩)
      refine sn tOK 0 3 [] ?_
      refine sn tOK 0 2 [] ?_
      refine srp 0 R ?_
      exact ⟨by rw [e2] <;> rfl, by rw [e2] <;> first | rfl | (rw [hp2i] <;> rfl)⟩
    ·have hc2 : c ≠ 36 := fun h => h46 (by rw [h]; rfl)
     refine en tOK 0 2 [] ?_
     refine fc tOK 2 [] (ib_ok (g := gDig) (c := c) rfl) ?_
     refine si 0 rfl rfl (fun h77 => ?_) (fun h77 => ?_)
     ·have hg : c ∈ gDig := Classical.byContradiction fun h => absurd ((ib_mem _ _).2 h) (by omega)
      have e2 : primX parseV s ex p = numberX parseV (c :: r) (p.restP s) := by rw [e0, if_neg hc, if_neg hc2, if_pos hg]
      refine en tOK 0 2 [] ?_
      refine fp tOK 1000 1 [] (number_ok (r := c :: r) hlr hs) ?_
      refine sn tOK 0 2 [] ?_
      refine srp 0 R ?_
      exact ⟨by rw [e2] <;> rfl, by rw [e2] <;> first | rfl | (rw [hp2i] <;> rfl)⟩
     ·have hg : c ∉ gDig := (ib_mem _ _).1 (by omega)
      refine en tOK 0 2 [] ?_
      refine fc tOK 2 [] (ib_ok (g := gLet) (c := c) rfl) ?_
      refine si 0 rfl rfl (fun h85 => ?_) (fun h85 => ?_)
      ·have hg2 : c ∈ gLet := Classical.byContradiction fun h => absurd ((ib_mem _ _).2 h) (by omega)
       have e2 : primX parseV s ex p = wordX s ex (c :: r) (p.restP s) := by rw [e0, if_neg hc, if_neg hc2, if_neg hg, if_pos hg2]
       refine en tOK 0 3 [] ?_
       refine fp tOK 1000 1 [] (word_ok (r := c :: r) hdp fx hex hlr hs) ?_
       refine sn tOK 0 2 [] ?_
       refine srp 0 R ?_
       exact ⟨by rw [e2] <;> rfl, by rw [e2] <;> first | rfl | (rw [hp2i] <;> rfl)⟩
      ·have hg2 : c ∉ gLet := (ib_mem _ _).1 (by omega)
       have e2 : primX parseV s ex p = (ex0, (p.restP s).fails 110 (p.restP s).i) := by rw [e0, if_neg hc, if_neg hc2, if_neg hg, if_neg hg2]
       refine en tOK 0 5 [] ?_
       refine fp tOK 1000 0 [] (fails_ok) ?_
       refine sn tOK 0 2 [] ?_
       refine srp 0 R ?_
       exact ⟨by rw [e2] <;> rfl, by rw [e2] <;> first | rfl | (rw [hp2i] <;> rfl)⟩
end Go.Proofs.YtomkgfdigldhcaaGreatDoor
namespace Go.Proofs.YtomkgfdigldhcaaGreatDoor
open Go.KX
set_option maxRecDepth 100000 in
theorem binary0_ok {s : Bytes} {u : Ps → Ex × Ps} {p : Ps} {q : Int} {dp : Nat} (hq : q = 5) (hu : Fp Tryz.prog gT 167 [.l 1000 0, nI dp] (psC s p) (exS (u p).1) (psC s (u p).2)) : Fp Tryz.prog gT 115 [.l 1000 0, nI q, nI dp] (psC s p) (exS (u p).1) (psC s (u p).2) := by
 refine fpb tOK (fn := Tryz.f115) 43 [.cell 6 29] Tryz.func115 Tryz.results115 (fun g0 B0 Q ρ0 R => ?_)
 refine en tOK 0 1 [] ?_
 refine sn tOK 0 2 [] ?_
 refine si 0 rfl rfl (fun h11 => ?_) (fun h11 => ?_)
 ·refine en tOK 0 2 [] ?_
  refine fp tOK 1000 1 [] (hu) ?_
  refine srp 0 R ?_
  exact ⟨rfl, rfl⟩
 ·exact absurd hq h11
set_option maxRecDepth 100000 in
theorem binaryS_ok {s : Bytes} {sub : Ps → Ex × Ps} {p : Ps} {q : Int} {dp n : Nat} (hq : q = 4 - (n : Int)) (hn : n ≤ 4) (fs : Fit s sub) (hsub : ∀ p : Ps, p.i ≤ s.length → Fp Tryz.prog gT 115 [.l 1000 0, nI (q + 1), nI dp] (psC s p) (exS (sub p).1) (psC s (sub p).2)) (hi : p.i ≤ s.length) (hs : s.length ≤ 1024) : Fp Tryz.prog gT 115 [.l 1000 0, nI q, nI dp] (psC s p) (exS (loopG (tkX s) sub (levelsT.getD (4 - n) []) (n == 2) (s.length + 1) (sub p).1 (sub p).2).1) (psC s (loopG (tkX s) sub (levelsT.getD (4 - n) []) (n == 2) (s.length + 1) (sub p).1 (sub p).2).2) := by
 refine fpb tOK (fn := Tryz.f115) 43 [.cell 6 29] Tryz.func115 Tryz.results115 (fun g0 B0 Q ρ0 R => ?_)
 refine en tOK 0 1 [] ?_
 refine sn tOK 0 2 [] ?_
 refine si 0 rfl rfl (fun h11 => ?_) (fun h11 => ?_)
 ·exact absurd h11 (by omega)
 ·refine en tOK 0 4 [] ?_
  refine fp tOK 1000 2 [] (hsub p hi) ?_
  refine sl 0 ?_
  obtain ⟨ops, hops⟩ : ∃ ops, ops = levelsT.getD (4 - n) [] := ⟨_, rfl⟩
  obtain ⟨rest, hrest⟩ := levels_row hn hq
  rw [← hops] at hrest
  refine E_loop (σ := Nat × Ex × Ps) (fun t => t.2.2.i ≤ s.length ∧ s.length < t.1 + t.2.2.i ∧ loopG (tkX s) sub ops (n == 2) t.1 t.2.1 t.2.2 = loopG (tkX s) sub ops (n == 2) (s.length + 1) (sub p).1 (sub p).2) (fun t => t.1)
    (fun t => [(0, .l 1000 0), (1, nI q), (2, nI dp), (6, .l 6 0), (7, .l 7 0)])
    (fun t => [(7, .c 29 (exL t.2.1)), (6, .c 29 [nI 0, .str [], nI 0, nI 0, .s 0 []]), (1000, psC s t.2.2)]) (s.length + 1, (sub p).1, (sub p).2) ?_ ?_
  ·exact ⟨(fs p hi).2, by simp only; omega, rfl⟩
  ·rintro J t ⟨ht1, ht2, ht3⟩ hJ
   obtain ⟨k, hk⟩ : ∃ k, t.1 = k + 1 := ⟨t.1 - 1, by omega⟩
   have htf := take_fit (l := ops) ht1
   have hsf := fs _ htf.2
   rw [hk] at ht3
   refine en tOK 0 2 [] ?_
   refine gix tOK 1 [] (n := 5) (z := q) (rB ops :: rest) levels_den (by omega) hrest ?_
   refine fp tOK 1000 5 [] (take_ok (l := ops) ht1 hs) ?_
   refine sn tOK 0 2 [] ?_
   refine sib 0 rfl rfl (fun h29 => ?_) (fun h29 => ?_)
   ·have e1 : takeT s ops t.2.2 = none := by simpa using h29
    have e2 : loopG (tkX s) sub (levelsT.getD (4 - n) []) (n == 2) (s.length + 1) (sub p).1 (sub p).2 = (t.2.1, takeP s ops t.2.2) := by rw [← hops, ← ht3, loop_none e1]
    refine en tOK 0 2 [] ?_
    refine srp 0 R ?_
    exact ⟨by rw [e2] <;> rfl, by rw [e2] <;> rfl⟩
   ·obtain ⟨o, e1⟩ : ∃ o, takeT s ops t.2.2 = some o := Option.isSome_iff_exists.1 (by simpa using h29)
    refine eas 8 rfl (v' := .str o) ?_ ?_
    ·rw [e1]; rfl
    refine edr 0 576 [0, 0, 0, 0, 8, 0, 60, 126, 255, 511] [0, 2, 3, 4, 5, 6, 1, 7, 8, 9] ?_
    refine xd tOK 5 [] ?_
    refine dpc tOK 1000 0 [] (hsub (takeP s ops t.2.2) htf.2) ?_
    refine dl tOK 1 [] ?_
    refine dc tOK 1 [] (call2_ok) ?_
    refine xe ?_
    refine sn tOK 0 2 [] ?_
    refine si 0 rfl rfl (fun h41 => ?_) (fun h41 => ?_)
    ·have hb : (n == 2) = true := by simp; omega
     have e2 : loopG (tkX s) sub (levelsT.getD (4 - n) []) (n == 2) (s.length + 1) (sub p).1 (sub p).2 = (exC o [t.2.1, (sub (takeP s ops t.2.2)).1], (sub (takeP s ops t.2.2)).2) := by rw [← hops, ← ht3, hb, loop_alone e1]
     refine en tOK 0 2 [] ?_
     refine srp 0 R ?_
     exact ⟨by rw [e2] <;> rfl, by rw [e2] <;> rfl⟩
    ·have hb : (n == 2) = false := by simp; omega
     refine el 0 ?_
     exact hJ (k, exC o [t.2.1, (sub (takeP s ops t.2.2)).1], (sub (takeP s ops t.2.2)).2) ⟨hsf.2, by simp only; have := take_more e1; omega, by rw [← ht3, hb, loop_more e1]⟩ (by simp only; omega)
theorem binary_ok {s : Bytes} {u : Ps → Ex × Ps} {dp : Nat} (hs : s.length ≤ 1024) (fu : Fit s u) (hu : (∀ p : Ps, p.i ≤ s.length → Fp Tryz.prog gT 167 [.l 1000 0, nI dp] (psC s p) (exS (u p).1) (psC s (u p).2))) : ∀ (n : Nat), n ≤ 5 → ∀ (q : Int), q = 5 - (n : Int) → ∀ p : Ps, p.i ≤ s.length → Fp Tryz.prog gT 115 [.l 1000 0, nI q, nI dp] (psC s p) (exS (levX s u n p).1) (psC s (levX s u n p).2)
  | 0, _, q, hq, p, hi => binary0_ok (by omega) (hu p hi)
  | n + 1, hn, q, hq, p, hi => binaryS_ok (n := n) (by omega) (by omega) (lev_fit fu n) (fun p hi => binary_ok hs fu hu n (by omega) (q + 1) (by omega) p hi) hi hs
set_option maxRecDepth 100000 in
theorem expr_ok {s : Bytes} {u : Ps → Ex × Ps} {p : Ps} {dp : Nat} (fu : Fit s u) (hu : (∀ p : Ps, p.i ≤ s.length → Fp Tryz.prog gT 167 [.l 1000 0, nI dp] (psC s p) (exS (u p).1) (psC s (u p).2))) (hi : p.i ≤ s.length) (hs : s.length ≤ 1024) : Fp Tryz.prog gT 62 [.l 1000 0, nI dp] (psC s p) (exS (exprX s u dp p).1) (psC s (exprX s u dp p).2) := by
 refine fpb tOK (fn := Tryz.f62) 11 [.cell 4 29] Tryz.func62 Tryz.results62 (fun g0 B0 Q ρ0 R => ?_)
 refine en tOK 0 1 [] ?_
 refine sn tOK 0 2 [] ?_
 refine fp tOK 1000 0 [] (enter_ok (by omega) (by omega)) ?_
 refine sn tOK 0 2 [] ?_
 refine fp tOK 1000 1 [] (binary_ok hs fu hu 5 (by omega) 0 rfl (enterP s dp p) (enter_fit hi).2) ?_
 refine srp 0 R ?_
 exact ⟨rfl, rfl⟩
set_option maxRecDepth 100000 in
theorem unary0_ok {s : Bytes} {p : Ps} (hi : p.i ≤ s.length) (hs : s.length ≤ 1024) : Fp Tryz.prog gT 167 [.l 1000 0, nI ((33 : Nat) : Int)] (psC s p) (exS (unX parseV s 0 p).1) (psC s (unX parseV s 0 p).2) := by
 refine fpb tOK (fn := Tryz.f167) 27 [.cell 4 29] Tryz.func167 Tryz.results167 (fun g0 B0 Q ρ0 R => ?_)
 have hd := enter33 (s := s) (p := p)
 have he := enter_fit (d := 33) hi
 have e1 : takeT s [oSub, oNot] (enterP s 33 p) = none := takeT_dead hd
 have hf := take_fit (l := [oSub, oNot]) he.2
 refine en tOK 0 1 [] ?_
 refine sn tOK 0 2 [] ?_
 refine fp tOK 1000 0 [] (enter_ok (by omega) (by omega)) ?_
 refine sn tOK 0 2 [] ?_
 refine fp tOK 1000 5 [] (take_ok (l := [oSub, oNot]) he.2 hs) ?_
 refine sn tOK 0 1 [] ?_
 refine sib 0 rfl rfl (fun h16 => ?_) (fun h16 => ?_)
 ·rw [e1] at h16; cases h16
 ·refine en tOK 0 2 [] ?_
  refine fp tOK 1000 1 [] (prim0_ok (ex := fun q => (ex0, q)) (dp := 33) hf.2 hs ((gone_take _ _ hd).1)) ?_
  refine srp 0 R ?_
  exact ⟨rfl, rfl⟩
set_option maxRecDepth 100000 in
theorem unaryS_ok {s : Bytes} {p : Ps} {d dp : Nat} (hdp : dp + d = 32) (hun : ∀ p : Ps, p.i ≤ s.length → Fp Tryz.prog gT 167 [.l 1000 0, nI ((dp : Int) + 1)] (psC s p) (exS (unX parseV s d p).1) (psC s (unX parseV s d p).2)) (hi : p.i ≤ s.length) (hs : s.length ≤ 1024) : Fp Tryz.prog gT 167 [.l 1000 0, nI dp] (psC s p) (exS (unX parseV s (d + 1) p).1) (psC s (unX parseV s (d + 1) p).2) := by
 refine fpb tOK (fn := Tryz.f167) 27 [.cell 4 29] Tryz.func167 Tryz.results167 (fun g0 B0 Q ρ0 R => ?_)
 have h32 : 32 - d = dp := by omega
 have h33 : 33 - d = dp + 1 := by omega
 have he := enter_fit (d := dp) hi
 have hf := take_fit (l := [oSub, oNot]) he.2
 have hfx := un_fit (pv := parseV) (s := s) d
 refine en tOK 0 1 [] ?_
 refine sn tOK 0 2 [] ?_
 refine fp tOK 1000 0 [] (enter_ok (by omega) (by omega)) ?_
 refine sn tOK 0 2 [] ?_
 refine fp tOK 1000 5 [] (take_ok (l := [oSub, oNot]) he.2 hs) ?_
 refine sn tOK 0 1 [] ?_
 refine sib 0 rfl rfl (fun h16 => ?_) (fun h16 => ?_)
 ·obtain ⟨o, e1⟩ : ∃ o, takeT s [oSub, oNot] (enterP s dp p) = some o := Option.isSome_iff_exists.1 h16
  have e2 := un_some (pv := parseV) (s := s) (p := p) (d := d) (o := o) (by rw [h32]; exact e1)
  rw [h32] at e2
  refine eas 5 rfl (v' := .str o) ?_ ?_
  ·rw [e1]; rfl
  refine en tOK 0 4 [] ?_
  refine fp tOK 1000 1 [] (hun (takeP s [oSub, oNot] (enterP s dp p)) hf.2) ?_
  refine fc tOK 1 [] (call1_ok) ?_
  refine srp 0 R ?_
  exact ⟨by rw [e2] <;> rfl, by rw [e2] <;> rfl⟩
 ·have e1 : takeT s [oSub, oNot] (enterP s dp p) = none := by simpa using h16
  have e2 := un_none (pv := parseV) (s := s) (p := p) (d := d) (by rw [h32]; exact e1)
  rw [h32, h33] at e2
  refine en tOK 0 2 [] ?_
  refine fp tOK 1000 1 [] (prim_ok (ex := exprX s (unX parseV s d) (dp + 1)) (dp := dp) (by omega) (expr_fit hfx (dp + 1)) (fun p hi => expr_ok (dp := dp + 1) hfx hun hi hs) hf.2 hs) ?_
  refine srp 0 R ?_
  exact ⟨by rw [e2] <;> rfl, by rw [e2] <;> rfl⟩
theorem unary_ok {s : Bytes} (hs : s.length ≤ 1024) : ∀ (d dp : Nat), dp + d = 33 → ∀ p : Ps, p.i ≤ s.length → Fp Tryz.prog gT 167 [.l 1000 0, nI dp] (psC s p) (exS (unX parseV s d p).1) (psC s (unX parseV s d p).2)
  | 0, dp, h, p, hi => by
    have : dp = 33 := by omega
    subst this
    exact unary0_ok hi hs
  | d + 1, dp, h, p, hi => unaryS_ok (by omega) (fun p hi => unary_ok hs d (dp + 1) (by omega) p hi) hi hs
set_option maxRecDepth 100000 in
theorem mparse_ok {s : Bytes} : Fc Tryz.prog gT 20 [.str s] (.t [exS (parseX parseV s).1, nI (parseX parseV s).2.1, nI (parseX parseV s).2.2]) := by
 refine fb tOK (fn := Tryz.f20) 39 [.cell 2 29, .tmp 3, .tmp 4] Tryz.func20 Tryz.results20 (fun g0 B0 Q ρ0 R => ?_)
 refine en tOK 0 3 [] ?_
 refine sn tOK 0 3 [] ?_
 refine si 0 rfl rfl (fun h9 => ?_) (fun h9 => ?_)
 ·have e : parseX parseV s = (ex0, 1, 0) := by unfold parseX; rw [if_pos (by omega)]
  refine en tOK 0 4 [] ?_
  refine sr 0 R ?_
  rw [e]; rfl
 ·have hs : s.length ≤ 1024 := by omega
  obtain ⟨A, hA⟩ : ∃ A, A = exprX s (unX parseV s 33) 0 ⟨0, 0, 0, false⟩ := ⟨_, rfl⟩
  have hfA : A.2.i ≤ s.length := by rw [hA]; exact (expr_fit (un_fit 33) 0 _ (Nat.zero_le _)).2
  have e0 : parseX parseV s = (if (if A.2.restT s = [] then A.2.restP s else (A.2.restP s).fails 110 (A.2.restP s).i).dead then (ex0, (if A.2.restT s = [] then A.2.restP s else (A.2.restP s).fails 110 (A.2.restP s).i).err, (if A.2.restT s = [] then A.2.restP s else (A.2.restP s).fails 110 (A.2.restP s).i).at_) else (A.1, 0, 0)) := by unfold parseX; rw [if_neg (by omega), ← hA]
  have hE : Fp Tryz.prog gT 62 [.l 1000 0, nI ((0 : Nat) : Int)] (psC s ⟨0, 0, 0, false⟩) (exS A.1) (psC s A.2) := by rw [hA]; exact expr_ok (un_fit 33) (unary_ok hs 33 0 rfl) (Nat.zero_le _) hs
  refine en tOK 0 4 [] ?_
  refine smb 13 (mb' := psC s ⟨0, 0, 0, false⟩) ?_ ?_
  ·rfl
  refine sn tOK 0 1 [] ?_
  refine fp tOK 13 2 [] (hE) ?_
  refine sn tOK 0 1 [] ?_
  refine fp tOK 13 1 [] (rest_ok hfA hs) ?_
  refine si 0 rfl rfl (fun h18 => ?_) (fun h18 => ?_)
  ·obtain ⟨q2, hq2⟩ : ∃ q2, q2 = (A.2.restP s).fails 110 (A.2.restP s).i := ⟨_, rfl⟩
   have e3 : (if A.2.restT s = [] then A.2.restP s else (A.2.restP s).fails 110 (A.2.restP s).i) = q2 := by rw [hq2, if_neg h18]
   rw [e3] at e0
   refine en tOK 0 5 [] ?_
   refine fp tOK 13 0 [] (fails_ok) ?_
   refine smb 13 (mb' := psC s q2) ?_ ?_
   ·rw [hq2]
   refine sn tOK 0 4 [] ?_
   refine sib 0 rfl rfl (fun h28 => ?_) (fun h28 => ?_)
   ·have e : parseX parseV s = (ex0, q2.err, q2.at_) := by rw [e0, if_pos h28]
    refine edr 0 512 [0, 0, 2, 6, 14, 0, 32, 96, 224, 1, 543, 2047] [0, 1, 2, 3, 5, 6, 7, 9, 4, 8, 10, 11] ?_
    refine xd tOK 8 [] ?_
    refine dl tOK 0 [] ?_
    refine dl tOK 2 [] ?_
    refine xe ?_
    refine sr 0 R ?_
    rw [e]; rfl
   ·have e : parseX parseV s = (A.1, 0, 0) := by rw [e0, if_neg (by simp [h28])]
    refine en tOK 0 4 [] ?_
    refine sr 0 R ?_
    rw [e]; rfl
  ·obtain ⟨q2, hq2⟩ : ∃ q2, q2 = A.2.restP s := ⟨_, rfl⟩
   have e3 : (if A.2.restT s = [] then A.2.restP s else (A.2.restP s).fails 110 (A.2.restP s).i) = q2 := by rw [hq2, if_pos (Decidable.of_not_not h18)]
   rw [e3] at e0
   refine emb 13 (mb' := psC s q2) ?_ ?_
   ·rw [hq2]
   refine en tOK 0 4 [] ?_
   refine sib 0 rfl rfl (fun h28 => ?_) (fun h28 => ?_)
   ·have e : parseX parseV s = (ex0, q2.err, q2.at_) := by rw [e0, if_pos h28]
    refine edr 0 512 [0, 0, 2, 6, 14, 0, 32, 96, 224, 1, 543, 2047] [0, 1, 2, 3, 5, 6, 7, 9, 4, 8, 10, 11] ?_
    refine xd tOK 8 [] ?_
    refine dl tOK 0 [] ?_
    refine dl tOK 2 [] ?_
    refine xe ?_
    refine sr 0 R ?_
    rw [e]; rfl
   ·have e : parseX parseV s = (A.1, 0, 0) := by rw [e0, if_neg (by simp [h28])]
    refine en tOK 0 4 [] ?_
    refine sr 0 R ?_
    rw [e]; rfl
end Go.Proofs.YtomkgfdigldhcaaGreatDoor
namespace Go.Proofs.YtomkgfdigldhcaaGreatDoor
open Go.KX
set_option maxRecDepth 100000 in
theorem operand_ok {x : Ex} (hl : (printX x).length ≤ 1000000) (h : Fc Tryz.prog gT 21 [exS x] (.str (printX x))) : Fc Tryz.prog gT 66 [exS x] (.str (opdX x)) := by
 refine fb tOK (fn := Tryz.f66) 13 [.tmp 2] Tryz.func66 Tryz.results66 (fun g0 B0 Q ρ0 R => ?_)
 refine en tOK 0 2 [] ?_
 refine sn tOK 0 4 [] ?_
 refine si 0 rfl rfl (fun h6 => ?_) (fun h6 => ?_)
 ·have hk : x.kids.length = 2 := by have h6 := h6; rw [rowsE_len] at h6; omega
  have e : opdX x = 40 :: (printX x ++ [41]) := by unfold opdX; rw [if_pos hk]
  refine en tOK 0 1 [] ?_
  refine fc tOK 3 [] (h) ?_
  refine sr 0 R ?_
  rw [e]; rfl
 ·have hk : ¬ x.kids.length = 2 := by have h6 := h6; rw [rowsE_len] at h6; omega
  have e : opdX x = printX x := opd_not2 hk
  refine en tOK 0 1 [] ?_
  refine fc tOK 1 [] (h) ?_
  refine sr 0 R ?_
  rw [e]; rfl
set_option maxRecDepth 100000 in
theorem print_ref_ok {n : Bytes} (hl : n.length ≤ 1000000) : Fc Tryz.prog gT 21 [.a [nI 2, .str n, nI 0, nI 0, .s 0 []]] (.str (36 :: n)) := by
 refine fb tOK (fn := Tryz.f21) 80 [.tmp 2] Tryz.func21 Tryz.results21 (fun g0 B0 Q ρ0 R => ?_)
 refine en tOK 0 2 [] ?_
 refine sn tOK 0 4 [] ?_
 refine sn tOK 1 4 [] ?_
 refine sr 0 R ?_
 rfl
set_option maxRecDepth 100000 in
theorem print_num_ok {v : Val} : Fc Tryz.prog gT 21 [.a [nI 1, .str [], nI v.k, nI v.n, .s 0 []]] (.str (printX (exN v))) := by
 refine fb tOK (fn := Tryz.f21) 80 [.tmp 2] Tryz.func21 Tryz.results21 (fun g0 B0 Q ρ0 R => ?_)
 have e0 : printX (exN v) = _ := print_num3 [] v []
 refine en tOK 0 2 [] ?_
 refine sn tOK 0 4 [] ?_
 refine sn tOK 1 10 [] ?_
 refine sib 0 rfl rfl (fun h10 => ?_) (fun h10 => ?_)
 ·rw [if_pos (by simpa using h10)] at e0
  refine en tOK 0 1 [] ?_
  refine sr 0 R ?_
  rw [e0]; rfl
 ·rw [if_neg (by simpa using h10)] at e0
  refine en tOK 0 10 [] ?_
  refine sib 0 rfl rfl (fun h20 => ?_) (fun h20 => ?_)
  ·rw [if_pos (by simpa using h20)] at e0
   refine en tOK 0 1 [] ?_
   refine sr 0 R ?_
   rw [e0]; rfl
  ·rw [if_neg (by simpa using h20)] at e0
   refine en tOK 0 4 [] ?_
   refine sn tOK 1 2 [] ?_
   refine fc tOK 1 [] (vprint_ok (v := v)) ?_
   refine sr 0 R ?_
   rw [e0]; rfl
set_option maxRecDepth 100000 in
theorem print_two_ok {n : Bytes} {a b : Ex} (hl : (printX (exC n [a, b])).length ≤ 1000000) (ha : Fc Tryz.prog gT 66 [exS a] (.str (opdX a))) (hb : Fc Tryz.prog gT 66 [exS b] (.str (opdX b))) : Fc Tryz.prog gT 21 [.a [nI 3, .str n, nI 0, nI 0, .s 5 [exL a, exL b]]] (.str (printX (exC n [a, b]))) := by
 refine fb tOK (fn := Tryz.f21) 80 [.tmp 2] Tryz.func21 Tryz.results21 (fun g0 B0 Q ρ0 R => ?_)
 rw [print_two] at hl
 simp only [List.length_append, List.length_cons] at hl
 refine en tOK 0 2 [] ?_
 refine sn tOK 0 4 [] ?_
 refine sn tOK 1 10 [] ?_
 refine sn tOK 1 10 [] ?_
 refine sn tOK 1 4 [] ?_
 refine sn tOK 1 5 [] ?_
 refine sdr 1 0 [0, 1, 3, 7, 15, 31, 0, 64, 255, 511, 0, 1024, 3072, 7168, 15391, 32767, 65535] [0, 1, 2, 3, 4, 5, 6, 7, 8, 9, 10, 11, 12, 13, 14, 15, 16] ?_
 refine xd tOK 4 [exL a] ?_
 refine dc tOK 9 [exL b] (ha) ?_
 refine dc tOK 2 [] (hb) ?_
 refine xe ?_
 refine sr 0 R ?_
 rw [print_two]
 show SV.str _ = SV.str _
 simp
set_option maxRecDepth 100000 in
theorem print_one_ok {n : Bytes} {a : Ex} (hl : (printX (exC n [a])).length ≤ 1000000) (ho : Fc Tryz.prog gT 66 [exS a] (.str (opdX a))) (hp : Fc Tryz.prog gT 21 [exS a] (.str (printX a))) : Fc Tryz.prog gT 21 [.a [nI 3, .str n, nI 0, nI 0, .s 5 [exL a]]] (.str (printX (exC n [a]))) := by
 refine fb tOK (fn := Tryz.f21) 80 [.tmp 2] Tryz.func21 Tryz.results21 (fun g0 B0 Q ρ0 R => ?_)
 have e0 := print_one n a
 rw [e0] at hl
 refine en tOK 0 2 [] ?_
 refine sn tOK 0 4 [] ?_
 refine sn tOK 1 10 [] ?_
 refine sn tOK 1 10 [] ?_
 refine sn tOK 1 4 [] ?_
 refine sn tOK 1 5 [] ?_
 refine sn tOK 1 2 [] ?_
 refine fc tOK 1 [] (function_ok) ?_
 refine sib 0 rfl rfl (fun h58 => ?_) (fun h58 => ?_)
 ·rw [if_pos (by simpa using h58)] at e0 hl
  simp only [List.length_append, List.length_cons] at hl
  refine edr 0 0 [0, 1, 3, 0, 8, 24, 56, 120, 255, 511, 1023] [0, 1, 2, 3, 4, 5, 6, 7, 8, 9, 10] ?_
  refine xd tOK 7 [exL a] ?_
  refine dc tOK 3 [] (hp) ?_
  refine xe ?_
  refine sr 0 R ?_
  rw [e0]
  show SV.str _ = SV.str _
  simp
 ·rw [if_neg (by simpa using h58)] at e0 hl
  simp only [List.length_append, List.length_cons] at hl
  refine edr 0 0 [0, 1, 0, 4, 12, 28, 60, 127, 255] [0, 1, 2, 3, 4, 5, 6, 7, 8] ?_
  refine xd tOK 6 [exL a] ?_
  refine dc tOK 2 [] (ho) ?_
  refine xe ?_
  refine sr 0 R ?_
  rw [e0]
  show SV.str _ = SV.str _
  simp
theorem mprint_ok {x : Ex} (h : Wf x) (hl : (printX x).length ≤ 1000000) : Fc Tryz.prog gT 21 [exS x] (.str (printX x)) := by
  induction h with
  | num h => exact print_num_ok
  | @ref n h =>
    have e : printX (exR n) = 36 :: n := print_ref n zeroV []
    rw [e] at hl ⊢
    exact print_ref_ok (n := n) (by simp only [List.length_cons] at hl; omega)
  | @sign o x ho hx ih =>
    have h1 := print_one_len o x
    rw [ex_one]
    exact print_one_ok hl (operand_ok (by omega) (ih (by omega))) (ih (by omega))
  | @fn o x ho hx ih =>
    have h1 := print_one_len o x
    rw [ex_one]
    exact print_one_ok hl (operand_ok (by omega) (ih (by omega))) (ih (by omega))
  | @bin o x y m hm ho hx hy ihx ihy =>
    have h1 := print_two_len o x y
    rw [ex_pair]
    exact print_two_ok hl (operand_ok (by omega) (ihx (by omega))) (operand_ok (by omega) (ihy (by omega)))
set_option maxRecDepth 100000 in
theorem same1_ok {x y : Ex} (hz : exSize x ≤ 100000) (ih : ∀ z ∈ x.kids, ∀ z2, Fc Tryz.prog gT 22 [exS z, exS z2] (bS (sameX z z2))) : Fc Tryz.prog gT 22 [exS x, exS y] (bS (sameX x y)) := by
 refine fb tOK (fn := Tryz.f22) 53 [.tmp 4] Tryz.func22 Tryz.results22 (fun g0 B0 Q ρ0 R => ?_)
 have hkl := kids_len x.kids
 have hsz := exSize_eq x
 have e0 := sameX_eq x y
 refine en tOK 0 3 [] ?_
 refine sn tOK 0 17 [] ?_
 refine sq tOK 10 [] true (b := decide (x.val = y.val)) Tryz.underlying26 (by kernel_rfl) (fun w => val_eq _ _) ?_
 refine sib 0 rfl rfl (fun h33 => ?_) (fun h33 => ?_)
 ·have e : sameX x y = false := by
   rw [e0]
   rw [rowsE_len, rowsE_len] at h33
   simp only [neB, Bool.or_eq_true, decide_eq_true_eq] at h33
   rcases h33 with ((h | h) | h) | h
   · rw [decide_eq_false h]; simp
   · rw [decide_eq_false h]; simp
   · have : decide (x.val = y.val) = false := by simpa using h
     rw [this]; simp
   · rw [sameL_len (fun q => h (by rw [q]))]; simp
  refine en tOK 0 1 [] ?_
  refine sr 0 R ?_
  rw [e]; rfl
 ·have hh : x.kind = y.kind ∧ x.name = y.name ∧ x.val = y.val ∧ x.kids.length = y.kids.length := by
   rw [rowsE_len, rowsE_len] at h33
   simp only [neB, Bool.or_eq_false_iff, decide_eq_false_iff_not, Decidable.not_not] at h33
   refine ⟨h33.1.1.1, h33.1.1.2, by simpa using h33.1.2, by omega⟩
  obtain ⟨hk1, hk2, hk3, hk4⟩ := hh
  refine en tOK 0 1 [] ?_
  refine sl 0 ?_
  refine E_loop (σ := Nat) (fun j => j ≤ x.kids.length ∧ ∀ (i : Nat) (h : i < x.kids.length) (h2 : i < y.kids.length), i < j → sameX x.kids[i] y.kids[i] = true) (fun j => x.kids.length - j)
    (fun j => [(2, .l 2 0), (3, .l 3 0), (5, nI j)])
    (fun j => [(3, .c 29 (exL y)), (2, .c 29 (exL x))]) 0 ?_ ?_
  ·exact ⟨Nat.zero_le _, fun i _ _ h => absurd h (Nat.not_lt_zero _)⟩
  ·rintro J j ⟨hj0, hj1⟩ hJ
   refine en tOK 0 5 [] ?_
   refine si 0 rfl rfl (fun h38 => ?_) (fun h38 => ?_)
   ·rw [rowsE_len] at h38
    have hj : j < x.kids.length := by omega
    have hj2 : j < y.kids.length := by omega
    refine edr 0 0 [0, 1, 0, 7, 15, 0, 32, 0, 224, 480, 1023, 2047] [0, 1, 2, 3, 4, 5, 6, 7, 8, 9, 10, 11] ?_
    refine xd tOK 10 [exL x.kids[j], exL y.kids[j]] ?_ (hφ := by (repeat' refine And.intro ?_ ?_) <;> first | omega | simpa using rowsE_get hj | simpa using rowsE_get hj2 | (rw [rowsE_len]; omega))
    refine dc tOK 1 [] (ih x.kids[j] (List.getElem_mem hj) y.kids[j]) ?_
    refine xe ?_
    refine sib 0 rfl rfl (fun h52 => ?_) (fun h52 => ?_)
    ·have e : sameX x y = false := by rw [e0, sameL_at hj hj2 (by simpa using h52)]; simp
     refine en tOK 0 1 [] ?_
     refine sr 0 R ?_
     rw [e]; rfl
    ·have hs : sameX x.kids[j] y.kids[j] = true := by simpa using h52
     refine en tOK 0 3 [] ?_
     refine sl 0 ?_
     exact hJ (j + 1) ⟨by omega, fun i h1 h2 h3 => by
      by_cases hi : i = j
      · subst hi; exact hs
      · exact hj1 i h1 h2 (by omega)⟩ (by omega)
   ·rw [rowsE_len] at h38
    have e : sameX x y = true := by rw [e0, sameL_all hk4 (fun i h1 h2 => hj1 i h1 h2 (by omega)), hk1, hk2, hk3]; simp
    refine en tOK 0 1 [] ?_
    refine sr 0 R ?_
    rw [e]; rfl
theorem same_ok {x y : Ex} (hz : exSize x ≤ 100000) : Fc Tryz.prog gT 22 [exS x, exS y] (bS (sameX x y)) := by
  have key : ∀ (n : Nat) (x y : Ex), exSize x ≤ n → n ≤ 100000 → Fc Tryz.prog gT 22 [exS x, exS y] (bS (sameX x y)) := by
    intro n
    induction n with
    | zero => intro x y h _; have := exSize_eq x; omega
    | succ n ih => exact fun x y h hn => same1_ok (by omega) (fun z hz z2 => ih z z2 (by
        obtain ⟨j, hj, rfl⟩ := List.mem_iff_getElem.1 hz
        have h1 := exSize_kid hj
        have h2 := exSize_eq x
        omega) (by omega))
  exact key _ x y (Nat.le_refl _) hz
end Go.Proofs.YtomkgfdigldhcaaGreatDoor
namespace Go.Proofs.YtomkgfdigldhcaaGreatDoor
open Go.KX
set_option maxRecDepth 100000 in
theorem mrefs1_ok {x : Ex} (ih : ∀ y : Ex, exSize y < exSize x → Fc Tryz.prog gT 24 [exS y] (rB (refsX y))) (hz : exSize x ≤ 100000) : Fc Tryz.prog gT 24 [exS x] (rB (refsX x)) := by
 refine fb tOK (fn := Tryz.f24) 27 [.tmp 2] Tryz.func24 Tryz.results24 (fun g0 B0 Q ρ0 R => ?_)
 have e0 := refsX_eq x
 have hsz := exSize_eq x
 have hkl := kids_len x.kids
 refine en tOK 0 2 [] ?_
 refine sn tOK 0 3 [] ?_
 refine si 0 rfl rfl (fun h7 => ?_) (fun h7 => ?_)
 ·have e : refsX x = [x.name] := by rw [e0, if_pos h7]
  refine en tOK 0 4 [] ?_
  refine sr 0 R ?_
  rw [e]; rfl
 ·have e : refsX x = cmpB (sortL (refsL x.kids)) := by rw [e0, if_neg h7]
  refine en tOK 0 4 [] ?_
  refine sl 0 ?_
  refine eas 13 rfl (v' := nI x.kids.length) ?_ ?_
  ·rw [rowsE_len]
  refine eonl 2 902 9 1 ?_
  refine E_loop (σ := Nat) (fun j => j ≤ x.kids.length) (fun j => x.kids.length - j)
    (fun j => [(1, .l 1 0), (2, .o 902 (rowsB (refsL (x.kids.take j))).length), (12, .s (kz x.kids 5) (rowsE x.kids)), (13, nI x.kids.length), (14, nI j)])
    (fun j => [(902, .r 9 1 (rowsB (refsL (x.kids.take j)))), (1, .c 29 (exL x))]) 0 ?_ ?_
  ·exact Nat.zero_le _
  ·rintro J j hj0 hJ
   refine en tOK 0 1 [] ?_
   refine si 0 rfl rfl (fun h15 => ?_) (fun h15 => ?_)
   ·have hj : j < x.kids.length := by omega
    have hks := exSize_kid hj
    have hl1 := refs_lens (x.kids.take j)
    have hl2 := exSizes_take (l := x.kids) j
    have hl3 := refs_len x.kids[j]
    refine en tOK 0 4 [exL x.kids[j]] ?_ (hφ := by exact ⟨by omega, by simpa using rowsE_get hj⟩)
    refine sn tOK 0 2 [] ?_
    refine fc tOK 0 [] (ih x.kids[j] (by omega)) ?_
    refine sap tOK 1 [] rfl (fun _ => rfl) ?_ ?_
    ·show ((rowsB (refsL (x.kids.take j))).length + (rowsB (refsX x.kids[j])).length) * 16 ≤ _
     simp only [List.length_map]
     omega
    refine sn tOK 0 2 [] ?_
    refine sas 2 rfl (v' := .o 902 (rowsB (refsL (x.kids.take (j + 1)))).length) ?_ ?_
    ·rw [refsL_next hj]; simp
    refine smb 902 (mb' := .r 9 1 (rowsB (refsL (x.kids.take (j + 1))))) ?_ ?_
    ·rw [refsL_next hj]; simp
    exact hJ (j + 1) (by omega) (by omega)
   ·have ej : x.kids.take j = x.kids := List.take_of_length_le (by omega)
    rw [ej]
    have hl1 := refs_lens x.kids
    refine eas 2 rfl (v' := .o 902 (refsL x.kids).length) ?_ ?_
    ·simp
    refine en tOK 0 1 [] ?_
    refine fp tOK 902 0 [] (sortB_ok (l := refsL x.kids) (by omega)) ?_
    refine sas 2 rfl (v' := .o 902 (sortL (refsL x.kids)).length) ?_ ?_
    ·rw [sortL_len]
    refine sn tOK 0 1 [] ?_
    refine fp tOK 902 1 [] (compactB_ok (l := sortL (refsL x.kids)) (by rw [sortL_len]; omega)) ?_
    refine sezo 2 ?_ ?_ (hr := rowsB_len)
    ·simp
    refine sr 0 R ?_
    rw [e]; rfl
theorem mrefs_ok {x : Ex} (hz : exSize x ≤ 100000) : Fc Tryz.prog gT 24 [exS x] (rB (refsX x)) := by
  have key : ∀ (n : Nat) (x : Ex), exSize x ≤ n → n ≤ 100000 → Fc Tryz.prog gT 24 [exS x] (rB (refsX x)) := by
    intro n
    induction n with
    | zero => intro x h _; have := exSize_eq x; omega
    | succ n ih => intro x h hn; exact mrefs1_ok (fun y hy => ih y (by omega) (by omega)) (by omega)
  exact key _ x (Nat.le_refl _) hz
end Go.Proofs.YtomkgfdigldhcaaGreatDoor
namespace Go.Proofs.YtomkgfdigldhcaaGreatDoor
open Go.KX
theorem den_nil : ∀ g ρ x, Den g ρ (.s 0 []) x → Den g ρ (.v (.slice none 0 0)) x := fun g ρ x h => by
  cases h with
  | s xs _ _ _ _ ho _ _ =>
    obtain ⟨rfl, rfl⟩ := ho.2 rfl
    exact .v
end Go.Proofs.YtomkgfdigldhcaaGreatDoor
namespace Go.Proofs.YtomkgfdigldhcaaGreatDoor
open Go.KX
set_option maxRecDepth 100000 in
theorem texts_ok {a b : List Bytes} : Fc Tryz.prog gT 31 [rB a, rB b] (bS (decide (a = b))) := by
 refine fb tOK (fn := Tryz.f31) 26 [.tmp 4] Tryz.func31 Tryz.results31 (fun g0 B0 Q ρ0 R => ?_)
 refine elen 0 rfl (fun hl => ?_)
 rw [List.length_map] at hl
 refine en tOK 0 1 [] ?_
 refine sn tOK 0 5 [] ?_
 refine si 0 rfl rfl (fun h10 => ?_) (fun h10 => ?_)
 ·rw [List.length_map, List.length_map] at h10
  have e : decide (a = b) = false := decide_eq_false (fun h => h10 (by rw [h]))
  refine en tOK 0 1 [] ?_
  refine sr 0 R ?_
  rw [e]; rfl
 ·rw [List.length_map, List.length_map] at h10
  have hab : a.length = b.length := by omega
  refine en tOK 0 1 [] ?_
  refine sl 0 ?_
  refine E_loop (σ := Nat) (fun j => j ≤ a.length ∧ a.take j = b.take j) (fun j => a.length - j)
    (fun j => [(0, rB a), (1, rB b), (5, nI j)])
    (fun j => []) 0 ?_ ?_
  ·exact ⟨Nat.zero_le _, by simp⟩
  ·rintro J j ⟨hj0, hj1⟩ hJ
   refine en tOK 0 4 [] ?_
   refine si 0 rfl rfl (fun h14 => ?_) (fun h14 => ?_)
   ·rw [List.length_map] at h14
    have hj : j < a.length := by omega
    have hjb : j < b.length := by omega
    refine edr 0 0 [0, 0, 3, 7, 0, 0, 48, 112, 255] [0, 1, 2, 3, 4, 5, 6, 7, 8] ?_
    refine xd tOK 9 [[.str a[j]], [.str b[j]]] ?_ (hφ := by (repeat' refine And.intro ?_ ?_) <;> first | omega | simp [hj] | simp [hjb])
    refine xe ?_
    refine si 0 rfl rfl (fun h25 => ?_) (fun h25 => ?_)
    ·have e : decide (a = b) = false := decide_eq_false (fun h => by subst h; exact h25 rfl)
     refine en tOK 0 1 [] ?_
     refine sr 0 R ?_
     rw [e]; rfl
    ·have h25 : a[j] = b[j] := Decidable.not_not.1 h25
     refine en tOK 0 3 [] ?_
     refine sl 0 ?_
     exact hJ (j + 1) ⟨by omega, eq_next hj (by omega) hj1 h25⟩ (by omega)
   ·rw [List.length_map] at h14
    have e : decide (a = b) = true := decide_eq_true (by rw [List.take_of_length_le (by omega), List.take_of_length_le (by omega)] at hj1; exact hj1)
    refine en tOK 0 1 [] ?_
    refine sr 0 R ?_
    rw [e]; rfl
end Go.Proofs.YtomkgfdigldhcaaGreatDoor
namespace Go.Proofs.YtomkgfdigldhcaaGreatDoor
open Go.KX
set_option maxRecDepth 100000 in
theorem lsame0_ok  : Fc Tryz.prog gT 61 [.s 0 [], .s 0 []] (bS true) := by
 refine fb tOK (fn := Tryz.f61) 26 [.tmp 4] Tryz.func61 Tryz.results61 (fun g0 B0 Q ρ0 R => ?_)
 refine en tOK 0 1 [] ?_
 refine sn tOK 0 5 [] ?_
 refine sn tOK 1 1 [] ?_
 refine sl 0 ?_
 refine E_loop (σ := Unit) (fun _ => True) (fun _ => 0)
   (fun _ => [(0, .s 0 []), (5, nI 0)])
   (fun _ => []) () ?_ ?_
 ·trivial
 ·rintro J _ _ hJ
  refine en tOK 0 4 [] ?_
  refine sn tOK 1 1 [] ?_
  refine sr 0 R ?_
  rfl
set_option maxRecDepth 100000 in
theorem ssame_ok {v : Val} : Fc Tryz.prog gT 18 [rS1 [v], rS1 [v]] (bS true) := by
 refine fb tOK (fn := Tryz.f18) 42 [.tmp 4] Tryz.func18 Tryz.results18 (fun g0 B0 Q ρ0 R => ?_)
 refine en tOK 0 1 [] ?_
 refine sn tOK 0 5 [] ?_
 refine sn tOK 1 1 [] ?_
 refine sl 0 ?_
 refine E_loop (σ := Nat) (fun j => j ≤ 1) (fun j => 1 - j)
   (fun j => [(0, rS1 [v]), (1, rS1 [v]), (5, nI j)])
   (fun j => []) 0 ?_ ?_
 ·exact Nat.zero_le _
 ·rintro J j hj0 hJ
  refine en tOK 0 4 [] ?_
  refine si 0 rfl rfl (fun h14 => ?_) (fun h14 => ?_)
  ·have hj : j = 0 := by simp at h14; omega
   subst hj
   refine edr 0 0 [0, 0, 3, 7, 15, 0, 0, 96, 224, 480, 1023, 2047, 4095, 4095, 16383, 32767, 65535, 4095, 4095, 397311, 921599, 1970175, 4194303, 8388607, 16777215] [0, 1, 2, 3, 4, 5, 6, 7, 8, 9, 10, 11, 12, 13, 14, 15, 16, 17, 18, 19, 20, 21, 22, 23, 24] ?_
   refine xd tOK 10 [serL v, serL v] ?_
   refine dsq tOK 1 [] true (b := decide (v = v)) Tryz.underlying26 (by kernel_rfl) (fun w => val_eq _ _) ?_
   refine xd tOK 10 [serL v, serL v] ?_
   refine dg tOK 2 [] (fun hg => lsame0_ok) ?_ (hφ := by first | trivial | omega | (simp +contextual [conj]; done)) (hψ := by simp [conj, wq, cd1])
   refine xe ?_
   refine sib 0 rfl rfl (fun h41 => ?_) (fun h41 => ?_)
   ·simp [neB] at h41
   ·refine en tOK 0 3 [] ?_
    refine sl 0 ?_
    exact hJ 1 (by omega) (by omega)
  ·skip
   refine en tOK 0 1 [] ?_
   refine sr 0 R ?_
   rfl
theorem parseA_ok : Fc Tryz.prog gT 20 [.str sA] (.t [exS xA, nI 0, nI 0]) := by
  have h := mparse_ok (s := sA)
  rw [live_a] at h
  exact h
theorem parseB_ok : Fc Tryz.prog gT 20 [.str sB] (.t [exS (parseX parseV sB).1, nI 110, nI 4]) := by
  have h := mparse_ok (s := sB)
  rw [live_b] at h
  exact h
theorem parseC_ok : Fc Tryz.prog gT 20 [.str sC] (.t [exS xC, nI 0, nI 0]) := by
  have h := mparse_ok (s := sC)
  rw [live_c] at h
  exact h
theorem evC_ok : Fc Tryz.prog gT 16 [exS xC, rF [([65], numV (-1000))]] (.t [rS1 [numV 1000], nI 0]) := evo_ok (a := exR [65]) (v := numV (-1000)) (evr_ok (by decide) (by intro p hp; simp only [List.mem_singleton] at hp; subst hp; decide) (by decide)) (by decide) (by decide) live_v
set_option maxRecDepth 100000 in
theorem live11_ok  : Fc Tryz.prog gT 14 [] (bS true) := by
 refine fb tOK (fn := Tryz.f14) 76 [.tmp 0] Tryz.func14 Tryz.results14 (fun g0 B0 Q ρ0 R => ?_)
 refine en tOK 0 1 [] ?_
 refine sn tOK 0 0 [] ?_
 refine fc tOK 8 [] (parseA_ok) ?_
 refine sn tOK 0 0 [] ?_
 refine fc tOK 8 [] (parseB_ok) ?_
 refine sn tOK 0 0 [] ?_
 refine fc tOK 8 [] (parseC_ok) ?_
 refine sdr 0 0 [0, 0, 2, 6, 14, 31, 63, 127, 127, 255, 1023] [0, 1, 2, 3, 4, 5, 6, 7, 8, 9, 10] ?_
 refine xd tOK 1 [] ?_
 refine dc tOK 0 [] (rnum_ok (n := -1000)) ?_
 refine dc tOK 2 [] (rscalar_ok (v := numV (-1000))) ?_
 refine dc tOK 5 [] (evC_ok) ?_
 refine xe ?_
 refine sn tOK 0 1 [] ?_
 refine fc tOK 1 [] (num11_ok) ?_
 refine fc tOK 2 [] (num11_ok) ?_
 refine fc tOK 9 [] (num11_ok) ?_
 refine fg tOK 4 [] (fun hg => mprint_ok live_w (by rw [live_p]; decide)) ?_
 refine fg tOK 8 [] (fun hg => num11_ok) ?_
 refine fg tOK 0 [] (fun hg => rnum_ok (n := 1000)) ?_
 refine fg tOK 0 [] (fun hg => rscalar_ok (v := numV 1000)) ?_
 refine fg tOK 3 [] (fun hg => ssame_ok (v := numV 1000)) ?_
 refine fg tOK 1 [] (fun hg => mrefs_ok (x := xA) (by decide)) ?_
 refine fg tOK 2 [] (fun hg => texts_ok (a := refsX xA) (b := [[65], [66]])) ?_
 refine sr 0 R ?_
 simp only [live_p, live_r]
 rfl
set_option maxRecDepth 100000 in
theorem mathBack_ok {s : Bytes} : Fc Tryz.prog gT 4 [.str s] (bS true) := by
 refine fb tOK (fn := Tryz.f4) 92 [.tmp 2] Tryz.func4 Tryz.results4 (fun g0 B0 Q ρ0 R => ?_)
 have hpa := parse_at (s := s)
 have hsz := parse_sz (pv := parseV) (s := s)
 refine en tOK 0 1 [] ?_
 refine sn tOK 0 1 [] ?_
 refine fc tOK 8 [] (mparse_ok (s := s)) ?_
 refine sn tOK 0 1 [] ?_
 refine fc tOK 1 [] (num11_ok) ?_
 refine si 0 rfl rfl (fun h21 => ?_) (fun h21 => ?_)
 ·refine en tOK 0 9 [] ?_
  refine fg tOK 2 [] (fun hg => live11_ok) ?_
  refine sr 0 R ?_
  show bS _ = bS true
  simp [hpa.1, hpa.2]
 ·have h0 : (parseX parseV s).2.1 = 0 := Decidable.not_not.1 h21
  have hw := parse_wf h0
  have hlen : (printX (parseX parseV s).1).length ≤ 1000000 := by have := print_size hw; omega
  have hbk := parse_brk (s := s) h0
  generalize hA : (parseX parseV s).1 = A at hw hlen hsz hbk
  refine en tOK 0 1 [] ?_
  refine fc tOK 1 [] (mprint_ok (x := A) hw hlen) ?_
  refine sn tOK 0 3 [] ?_
  refine si 0 rfl rfl (fun h37 => ?_) (fun h37 => ?_)
  ·refine en tOK 0 0 [] ?_
   refine fc tOK 1 [] (live11_ok) ?_
   refine sr 0 R ?_
   rfl
  ·have hb := parse_back hw (by omega)
   refine en tOK 0 1 [] ?_
   refine fc tOK 8 [] (mparse_ok (s := printX A)) ?_
   refine sn tOK 0 1 [] ?_
   refine fc tOK 1 [] (num11_ok) ?_
   refine si 0 rfl rfl (fun h47 => ?_) (fun h47 => ?_)
   ·refine en tOK 0 0 [] ?_
    refine fc tOK 1 [] (live11_ok) ?_
    refine sr 0 R ?_
    rfl
   ·have e1 : parseX parseV (printX A) = (A, 0, 0) := hb.resolve_left h47
    rw [e1]
    refine en tOK 0 1 [] ?_
    refine fc tOK 4 [] (num11_ok) ?_
    refine fg tOK 4 [] (fun hg => same_ok (x := A) (y := A) (by omega)) ?_
    refine fg tOK 3 [] (fun hg => mprint_ok (x := A) hw hlen) ?_
    refine sib 0 rfl rfl (fun h63 => ?_) (fun h63 => ?_)
    ·simp [same_self] at h63
    ·refine en tOK 0 3 [] ?_
     refine si 0 rfl rfl (fun h66 => ?_) (fun h66 => ?_)
     ·refine en tOK 0 0 [] ?_
      refine fc tOK 1 [] (live11_ok) ?_
      refine sr 0 R ?_
      rfl
     ·have hb2 := hbk (by omega)
      refine en tOK 0 3 [] ?_
      refine fc tOK 8 [] (mparse_ok (s := brk s)) ?_
      refine sn tOK 0 1 [] ?_
      refine fc tOK 3 [] (num11_ok) ?_
      refine fg tOK 4 [] (fun hg => num11_ok) ?_
      refine fg tOK 3 [] (fun hg => same_ok (x := A) (y := (parseX parseV (brk s)).1) (by omega)) ?_
      refine fg tOK 2 [] (fun hg => live11_ok) ?_
      refine sr 0 R ?_
      show bS _ = bS true
      rcases hb2 with h | h <;> simp [h, same_self]
end Go.Proofs.YtomkgfdigldhcaaGreatDoor
namespace Go.KX
open Go.RowKit
/-- What was there is as it was. -/
structure OldSame (W W' : World) : Prop where
  os : W'.os = W.os
  output : W'.output = W.output
  size : W.heap.size ≤ W'.heap.size
  same : ∀ b, b < W.heap.size → W'.heap[b]? = W.heap[b]?
/-- All that is there is never written again. -/
def gAll (W : World) : GW := ⟨W, fun b => b < W.heap.size, fun _ h => h⟩
theorem OldSame.kept {W W' : World} (h : OldSame W W') (may : MemPlace → Prop) : W.keptBut W' may := by
  refine ⟨h.os, h.output, fun i hi => ?_⟩
  rw [h.same i hi]
  cases hq : W.heap[i]? with
  | none => rfl
  | some o => cases o <;> first | exact ⟨rfl, rfl, rfl, fun _ _ => rfl⟩ | exact .inr ⟨rfl, rfl⟩ | rfl
section
variable {H : Type} {enc : TypeId × Value → H} {P : Program} {W W' : World}
theorem mapM_keep {α β : Type} {f f' : α → Option β} : ∀ (l : List α) (ys : List β), l.mapM f = some ys → (∀ i ∈ l, ∀ y ∈ ys, f i = some y → f' i = some y) → l.mapM f' = some ys
  | [], ys, h, _ => by simpa using h
  | a :: l, ys, h, hk => by
    simp only [List.mapM_cons] at h ⊢
    cases hfa : f a with
    | none => rw [hfa] at h; cases h
    | some y =>
      rw [hfa] at h
      cases hl : l.mapM f with
      | none => rw [hl] at h; cases h
      | some zs =>
        rw [hl] at h
        cases h
        have h1 := hk a (.head _) y (.head _) hfa
        have h2 := mapM_keep l zs hl (fun i hi z hz hz2 => hk i (.tail _ hi) z (.tail _ hz) hz2)
        rw [h1, h2]; rfl
theorem mapM_len {α β : Type} {f : α → Option β} : ∀ (l : List α) (ys : List β), l.mapM f = some ys → ys.length = l.length
  | [], ys, h => by simp at h; subst h; rfl
  | a :: l, ys, h => by
    simp only [List.mapM_cons] at h
    cases hfa : f a with
    | none => rw [hfa] at h; cases h
    | some y =>
      rw [hfa] at h
      cases hl : l.mapM f with
      | none => rw [hl] at h; cases h
      | some zs =>
        rw [hl] at h
        cases h
        simp [mapM_len l zs hl]
theorem mapM_at {α β : Type} {f : α → Option β} : ∀ (l : List α) (ys : List β), l.mapM f = some ys → ∀ (i : Nat) a, l[i]? = some a → ∃ y, ys[i]? = some y ∧ f a = some y
  | [], ys, h, i, a, ha => by simp at ha
  | b :: l, ys, h, i, a, ha => by
    simp only [List.mapM_cons] at h
    cases hfa : f b with
    | none => rw [hfa] at h; cases h
    | some y =>
      rw [hfa] at h
      cases hl : l.mapM f with
      | none => rw [hl] at h; cases h
      | some zs =>
        rw [hl] at h
        cases h
        cases i with
        | zero => simp at ha; subst ha; exact ⟨y, rfl, hfa⟩
        | succ i => simp at ha; obtain ⟨y', h1, h2⟩ := mapM_at l zs hl i a ha; exact ⟨y', by simpa using h1, h2⟩
theorem cells_at {w : World} {base : Nat} {a : Addr} {n : Nat} {cs : List Value} (h : w.cells? base a n = some cs) : cs.length = n ∧ ∀ (j : Nat) v, cs[j]? = some v → w.cell? (a.add j) = some v := by
  unfold World.cells? at h
  split at h
  · refine ⟨by have := mapM_len _ _ h; simpa using this, fun j v hj => ?_⟩
    have hlt : j < n := by
      have := mapM_len _ _ h
      have h2 := (List.getElem?_eq_some_iff.1 hj).1
      simp at this; omega
    obtain ⟨y, h1, h2⟩ := mapM_at _ _ h j j (by simp [hlt])
    rw [hj] at h1
    cases h1
    exact h2
  · cases h
theorem cells_keep {base n : Nat} {a : Addr} {cs : List Value} (hW : OldSame W W') (h : W.cells? base a n = some cs) : W'.cells? base a n = some cs := by
  unfold World.cells? at h ⊢
  split
  · rename_i hb
    rw [if_pos hb] at h
    refine mapM_keep _ _ h (fun i _ y _ hy => ?_)
    unfold World.cell? at hy ⊢
    have hlt : (a.add i).block < W.heap.size := by
      rcases Nat.lt_or_ge (a.add i).block W.heap.size with h | h
      · exact h
      · rw [Array.getElem?_eq_none h] at hy; cases hy
    rw [hW.same _ hlt]; exact hy
  · rename_i hb; rw [if_neg hb] at h; cases h
/-- Types that lead to no interface, map, function, pointer. -/
def plainT (P : Program) : Nat → TypeId → Bool
  | 0, _ => false
  | f + 1, t => match P.underlying t with
    | some .bool => true
    | some (.int _) => true
    | some .string => true
    | some (.slice e) => decide (0 < P.cellsOf e) && plainT P f e
    | some (.struct fs) => fs.toList.all fun fd => plainT P f fd.type
    | _ => false
theorem row_mem {a : Addr} {n j : Nat} (h : j < n) : MemPlace.cell a.block (a.off + j) ∈ MemPlace.row a n := List.mem_map.2 ⟨j, by simp [h], rfl⟩
theorem trod_keep (hW : OldSame W W') {base : Nat} {held : Bool} {sp : Nat → Bool} : ∀ (k fuel : Nat) (t : TypeId) (cs : List Value) (x : DataW H × List MemPlace), plainT P k t = true → (∀ p ∈ x.2, sp p.block = true) →
    DataW.trod enc P W base (fun _ => true) held fuel t cs = some x → DataW.trod enc P W' base sp held fuel t cs = some x
  | 0, _, _, _, _, hp, _, _ => by cases hp
  | _ + 1, 0, _, _, _, _, _, h => by cases h
  | k + 1, fuel + 1, t, cs, x, hp, hs, h => by
    rw [plainT] at hp
    unfold DataW.trod at h ⊢
    split at hp
    · rename_i u; rw [u] at h ⊢; revert h; split <;> intro h <;> first | exact h | (rename_i hq; cases hq; done) | (rename_i hq _; cases hq; done) | (cases h; done)
    · rename_i u; rw [u] at h ⊢; revert h; split <;> intro h <;> first | exact h | (rename_i hq; cases hq; done) | (rename_i hq _; cases hq; done) | (cases h; done)
    · rename_i u; rw [u] at h ⊢; revert h; split <;> intro h <;> first | exact h | (rename_i hq; cases hq; done) | (rename_i hq _; cases hq; done) | (cases h; done)
    · rename_i e u
      simp only [Bool.and_eq_true, decide_eq_true_eq] at hp
      obtain ⟨hz, hpe⟩ := hp
      rw [u] at h ⊢
      revert h
      split <;> intro h <;> first | exact h | (rename_i hq; cases hq; done) | (rename_i hq _; cases hq; done) | (cases h; done) | skip
      rename_i e2 a len cap heq
      injection heq with heq
      injection heq with heq
      subst heq
      dsimp only at h ⊢
      split at h
      · rename_i hc
        rw [if_pos hc]
        simp only [if_true, Option.bind_eq_some_iff, Option.map_eq_some_iff] at h ⊢
        obtain ⟨elems, h1, rest, h2, h3⟩ := h
        subst h3
        have hel : ∀ (i : Nat) y, y ∈ elems ++ rest → ((W.cells? base (a.add (i * P.cellsOf e)) (P.cellsOf e)).bind (DataW.trod enc P W base (fun _ => true) held fuel e)) = some y → ((W'.cells? base (a.add (i * P.cellsOf e)) (P.cellsOf e)).bind (DataW.trod enc P W' base sp held fuel e)) = some y := by
          intro i y hy hyx
          simp only [Option.bind_eq_some_iff] at hyx ⊢
          obtain ⟨c, hc1, hc2⟩ := hyx
          refine ⟨c, cells_keep hW hc1, trod_keep hW k fuel e c y hpe (fun p hp => hs p ?_) hc2⟩
          exact List.mem_append_right _ (List.mem_flatMap.2 ⟨y, hy, hp⟩)
        refine ⟨elems, mapM_keep _ _ h1 (fun i _ y hy => hel i y (List.mem_append_left _ hy)), rest, ?_, rfl⟩
        have hl1 := mapM_len _ _ h1
        have hl2 := mapM_len _ _ h2
        simp only [List.length_range] at hl1 hl2
        by_cases hsb : sp a.block = true
        · rw [if_pos hsb]
          exact mapM_keep _ _ h2 (fun i _ y hy => hel (len + i) y (List.mem_append_right _ hy))
        · have h0 : (elems.length + rest.length) * P.cellsOf e = 0 := by
            rcases Nat.eq_zero_or_pos ((elems.length + rest.length) * P.cellsOf e) with h | h
            · exact h
            · exact absurd (hs _ (List.mem_append_left _ (row_mem h))) hsb
          have h00 : elems.length + rest.length = 0 := by
            rcases Nat.mul_eq_zero.1 h0 with h | h
            · exact h
            · omega
          have : rest = [] := List.eq_nil_of_length_eq_zero (by omega)
          subst this
          rw [if_neg hsb]
      · cases h
    · rename_i fs u
      simp only [List.all_eq_true] at hp
      rw [u] at h ⊢
      dsimp only at h ⊢
      split at h
      · rename_i hc
        rw [if_pos hc]
        simp only [Option.map_eq_some_iff] at h ⊢
        obtain ⟨xs, h1, h2⟩ := h
        subst h2
        refine ⟨xs, mapM_keep _ _ h1 (fun fd hfd y hy hyx => trod_keep hW k fuel _ _ y (hp fd hfd) (fun p hp => hs p (List.mem_flatMap.2 ⟨y, hy, hp⟩)) hyx), rfl⟩
      · cases h
    · cases hp
theorem trodAll_keep (hW : OldSame W W') {base : Nat} {held : Bool} {sp : Nat → Bool} (k : Nat) : ∀ (ts : List TypeId) (vs : List Value) (ds : List (DataW H)) (ps : List MemPlace), (ts.all fun t => plainT P k t) = true → (∀ p ∈ ps, sp p.block = true) →
    DataW.TrodAll enc P W base (fun _ => true) held ts vs ds ps → DataW.TrodAll enc P W' base sp held ts vs ds ps
  | [], [], [], ps, _, _, h => h
  | t :: ts, v :: vs, d :: ds, ps, hp, hs, h => by
    obtain ⟨p, q, ⟨fuel, h1⟩, h2, h3⟩ := h
    subst h3
    simp only [List.all_cons, Bool.and_eq_true] at hp
    exact ⟨p, q, ⟨fuel, trod_keep hW k fuel t _ _ hp.1 (fun p' hp' => hs p' (List.mem_append_left _ hp')) h1⟩, trodAll_keep hW k ts vs ds q hp.2 (fun p' hp' => hs p' (List.mem_append_right _ hp')) h2, rfl⟩
/-- The row of a law whose arguments are plain data, out of its walk. -/
theorem law_post {f : Func} {s : ChangeSpec} {apart fresh : Bool} {args : Array Value} {ds gs : List (DataW H)} {before : List MemPlace} {ds' : List (DataW H)} (k : Nat) (hv : s.vars = [])
    (hW : DataW.Whole enc P f.params.toList s.vars apart W args.toList ds gs before) (hs : OldSame W W') (hpl : (f.params.toList.all fun t => plainT P k t) = true)
    (hr : ∃ t, f.resultTypes = #[t] ∧ P.underlying t = some .bool) (hds : ds = ds') (hfn : s.fn H (ds' ++ []) = { results := [.lit (.bool true)], args := ds' }) :
    s.post enc P f apart fresh false false W args (.bool true) W' := by
  have hW' := hW
  obtain ⟨p, q, hA, hV, rfl, hfz, hnd⟩ := hW
  subst hds
  rw [hv] at hV
  have hg : gs = [] ∧ q = [] := by
    cases gs with
    | nil => exact ⟨rfl, hV⟩
    | cons _ _ => exact hV.elim
  obtain ⟨rfl, rfl⟩ := hg
  obtain ⟨tb, hr1, hr2⟩ := hr
  refine ⟨ds, [], p ++ [], [], p, [], hW', ?_, ?_, ?_, hs.kept _, fun h => (by cases h)⟩
  · rw [hfn, hr1]
    exact ⟨[], [], ⟨1, by unfold DataW.trod; rw [hr2]; rfl⟩, rfl, rfl⟩
  · rw [hfn]
    refine trodAll_keep hs k _ _ _ _ hpl (fun pl hpl => ?_) hA
    have := hW'.lt pl (List.mem_append_left _ hpl)
    simpa using this
  · rw [hfn, hv]; rfl
end
end Go.KX
namespace Go.KX
end Go.KX
namespace Go.KX
open Go.RowKit
section
variable {H : Type} {enc : TypeId × Value → H} {P : Program} {W : World}
/-- No part of it takes more room than there is. -/
def Light (P : Program) (t : TypeId) (d : DataW H) : Prop := (d.weights P t).all (· ≤ reachBytes) = true
/-- How cells of a type read: as some α that is as Q says. -/
def Rd (enc : TypeId × Value → H) (P : Program) (W : World) (t : TypeId) {α : Type} (e : α → List Value) (Q : α → Prop) : Prop :=
  ∀ (fuel : Nat) (cs : List Value) (x : DataW H × List MemPlace), DataW.trod enc P W 0 (fun _ => true) true fuel t cs = some x → Light P t x.1 → ∃ y, cs = e y ∧ Q y
theorem rd_str {t : TypeId} (u : P.underlying t = some .string) : Rd enc P W t (fun s : Bytes => [str s]) (fun s => s.length ≤ 140737488351232) := by
  intro fuel cs x h hl
  cases fuel with
  | zero => cases h
  | succ fuel =>
    unfold DataW.trod at h
    rw [u] at h
    revert h
    split <;> intro h <;> first | (rename_i hq; cases hq; done) | (rename_i hq _; cases hq; done) | (cases h; done) | skip
    rename_i s _
    split at h
    · cases h
      obtain ⟨b, hb⟩ := exists_str s
      refine ⟨b, by rw [hb], ?_⟩
      have hs : s = ⟨b.toArray⟩ := by unfold str at hb; injection hb
      simp only [Light, DataW.weights, List.all_cons, List.all_nil, Bool.and_true, decide_eq_true_eq] at hl
      rw [hs] at hl
      simp only [reachBytes] at hl
      simpa using hl
    · cases h
/-- One argument, read. -/
theorem rd_arg {t : TypeId} {α : Type} {e : α → List Value} {Q : α → Prop} (hr : Rd enc P W t e Q) {v : Value} {d : DataW H} {ps : List MemPlace} (h : DataW.Trod enc P W 0 (fun _ => true) true t v d ps) (hl : Light P t d) : ∃ y, v.cells.toList = e y ∧ Q y := by
  obtain ⟨fuel, h⟩ := h
  exact hr fuel _ _ h hl
end
end Go.KX
namespace Go.Proofs.YtomkgfdigldhcaaGreatDoor
open Go.KX Go.RowKit
abbrev laidL : List (String × DataW Unit) := [("math/bits.deBruijn32tab", Rows.laid_math_bits_deBruijn32tab), ("math/bits.deBruijn64tab", Rows.laid_math_bits_deBruijn64tab), ("internal/strconv.uint64pow10", Rows.laid_internal_strconv_uint64pow10), ("unicode/utf8.acceptRanges", Rows.laid_unicode_utf8_acceptRanges), ("strconv.ErrRange", Rows.laid_strconv_ErrRange), ("strconv.ErrSyntax", Rows.laid_strconv_ErrSyntax), ("klaxon/math.levels", Rows.laid_klaxon_math_levels), ("klaxon/math.signs", Rows.laid_klaxon_math_signs), ("unicode/utf8.first", Rows.laid_unicode_utf8_first)]
theorem gg0 : Tryz.prog.globalNamed "klaxon/math.levels" = some 0 := by kernel_rfl
theorem gg1 : Tryz.prog.globalNamed "klaxon/math.signs" = some 1 := by kernel_rfl
theorem gg3 : Tryz.prog.globalNamed "internal/strconv.uint64pow10" = some 3 := by kernel_rfl
theorem gg10 : Tryz.prog.globalNamed "strconv.ErrSyntax" = some 10 := by kernel_rfl
theorem gt0 : (Tryz.prog.globals[0]?).map (·.type) = some 212 := by kernel_rfl
theorem gt1 : (Tryz.prog.globals[1]?).map (·.type) = some 262 := by kernel_rfl
theorem gt3 : (Tryz.prog.globals[3]?).map (·.type) = some 304 := by kernel_rfl
theorem gt10 : (Tryz.prog.globals[10]?).map (·.type) = some 318 := by kernel_rfl
theorem c9 : Tryz.prog.cellsOf 9 = 1 := by kernel_rfl
theorem c48 : Tryz.prog.cellsOf 48 = 1 := by kernel_rfl
section
variable {W : World} {enc : TypeId × Value → Unit} {sp : Nat → Bool} {held : Bool}
theorem trod_str9 {fuel : Nat} {cs : List Value} {x : Bytes} {p : List MemPlace} (h : DataW.trod enc Tryz.prog W 0 sp held fuel 9 cs = some (.lit (.string x), p)) : cs = [str x] := by
  obtain ⟨s, rfl, e, _⟩ := DataW.trod_string Tryz.underlying9 h
  simp only [Prod.mk.injEq, DataW.lit.injEq, Lit.string.injEq] at e
  have : s = ⟨x.toArray⟩ := by rw [e.1]
  rw [this]; rfl
set_option maxRecDepth 100000 in
theorem trod_if318 {fuel : Nat} {cs : List Value} {n : String} {d : DataW Unit} {p : List MemPlace} (h : DataW.trod enc Tryz.prog W 0 sp held fuel 318 cs = some (.iface n d, p)) : ∃ u v, cs = [.iface u v] := by
  cases fuel with
  | zero => cases h
  | succ fuel =>
    unfold DataW.trod at h
    rw [Tryz.underlying318] at h
    revert h
    split <;> intro h <;> first | (rename_i hq; cases hq; done) | (rename_i hq _; cases hq; done) | (cases h; done) | exact ⟨_, _, rfl⟩
theorem trod_sl48 {fuel : Nat} {cs : List Value} {ls : List Bytes} {rest : List (DataW Unit)} {p : List MemPlace} (h : DataW.trod enc Tryz.prog W 0 sp held fuel 48 cs = some (.slice (ls.map fun s => .lit (.string s)) rest, p)) (hne : ls ≠ []) :
    ∃ b o c, cs = [.slice (some ⟨b, o, none⟩) ls.length c] ∧ ls.length ≤ c ∧ ∀ (k : Nat) x, ls[k]? = some x → W.cell? ⟨b, o + k, none⟩ = some (str x) := by
  rcases DataW.trod_slice Tryz.underlying48 h with ⟨_, hx⟩ | ⟨a, len, cap, elems, rs, n, rfl, rfl, hx, _, hlc, _, hel, hcell, _⟩
  · simp at hx
  · simp only [Prod.mk.injEq, DataW.slice.injEq] at hx
    have hlen : ls.length = len := by
      have := congrArg List.length hx.1.1
      simp at this; omega
    rw [c9] at hcell
    have hk : ∀ (k : Nat) x, ls[k]? = some x → W.cell? (a.add k) = some (str x) := by
      intro k x hk
      have hkl : k < ls.length := by
        rcases Nat.lt_or_ge k ls.length with h | h
        · exact h
        · rw [List.getElem?_eq_none h] at hk; cases hk
      have h1 := hcell k (by omega)
      have h2 : (elems.map (·.1))[k]? = some (.lit (.string x)) := by rw [← hx.1.1]; simp [hk]
      rw [List.getElem?_map] at h2
      cases he : elems[k]? with
      | none => rw [he] at h2; cases h2
      | some y =>
        rw [he] at h1 h2
        obtain ⟨y1, y2⟩ := y
        simp only [Option.map_some, Option.some.injEq] at h2
        subst h2
        simp only [Option.bind_eq_some_iff] at h1
        obtain ⟨cl, hc1, hc2⟩ := h1
        have := trod_str9 hc2
        subst this
        have := (cells_at hc1).2 0 _ rfl
        rw [Nat.mul_one] at this
        have e : (a.add k).add 0 = a.add k := by
          obtain ⟨b, o, s⟩ := a
          cases s <;> simp [Addr.add]
        rw [e] at this
        exact this
    obtain ⟨b, o, s⟩ := a
    have h0 : s = none := by
      obtain ⟨x, hx0⟩ : ∃ x, ls[0]? = some x := ⟨_, List.getElem?_eq_getElem (List.length_pos_iff.2 hne)⟩
      have := World.cell?_spot (hk 0 x hx0)
      cases s with
      | none => rfl
      | some _ => simp [Addr.add] at this
    subst h0
    exact ⟨b, o, cap, by rw [hlen], by omega, fun k x hk' => by have := hk k x hk'; rwa [addr_add] at this⟩
end
set_option maxRecDepth 100000 in
theorem glF_of {W : World} (h : laidMetH Tryz.prog laidL W) (hs : W.ShapedOpen Tryz.prog) : GlF W := by
  rw [MakeChecks.laidMetH_plain _ _ _ (by kernel_rfl)] at h
  refine ⟨?_, ?_, ?_, fun j x hj => ?_, fun j ls hj => ?_⟩
  · obtain ⟨g, t, cs, fuel, p, hg, ht, hv, hd⟩ := Lib.laidMet.reads h (n := "internal/strconv.uint64pow10") (.tail _ (.tail _ (.head _)))
    obtain rfl := Option.some.inj (gg3.symm.trans hg)
    obtain rfl := Option.some.inj (gt3.symm.trans ht)
    unfold Lib.TabIs
    rw [hv]
    have hd' : DataW.trod (fun _ => ()) Tryz.prog W 0 (fun _ => true) false fuel 304 cs.toList = some (Lib.tabData .u64 Lib.pow10Tab, p) := hd
    rw [← Lib.cells_of_tab Tryz.underlying304 Tryz.underlying234 (by kernel_rfl) (by kernel_rfl) hd']
  · exact cell_of_shapedOpen_int (t := 3) (zero := #[.int .i64 0]) hs (of_decide_eq_true (by kernel_rfl)) (by kernel_rfl) rfl (by kernel_rfl) (by kernel_rfl) Tryz.underlying3
  · obtain ⟨g, t, cs, fuel, p, hg, ht, hv, hd⟩ := Lib.laidMet.reads h (n := "strconv.ErrSyntax") (.tail _ (.tail _ (.tail _ (.tail _ (.tail _ (.head _))))))
    obtain rfl := Option.some.inj (gg10.symm.trans hg)
    obtain rfl := Option.some.inj (gt10.symm.trans ht)
    have hc := World.var?_cell gg10 hv 0
    obtain ⟨u, v, e⟩ := trod_if318 hd
    rw [hc]
    refine ⟨.iface u v, ?_, .inr ⟨u, v, rfl⟩⟩
    have : cs.toList[0]? = some (.iface u v) := by rw [e]; rfl
    simpa using this
  · obtain ⟨g, t, cs, fuel, p, hg, ht, hv, hd⟩ := Lib.laidMet.reads h (n := "klaxon/math.signs") (.tail _ (.tail _ (.tail _ (.tail _ (.tail _ (.tail _ (.tail _ (.head _))))))))
    obtain rfl := Option.some.inj (gg1.symm.trans hg)
    obtain rfl := Option.some.inj (gt1.symm.trans ht)
    have hc := World.var?_cell gg1 hv j
    rw [hc]
    obtain ⟨xs, m, rfl, hx, hl, hn, hall⟩ := DataW.trod_array Tryz.underlying262 hd
    have e : xs.map (·.1) = signsT.map fun s => (DataW.lit (.string s) : DataW Unit) := by
      have := congrArg Prod.fst hx
      simp only [Rows.laid_klaxon_math_signs, DataW.agg.injEq] at this
      exact this.symm
    have hlt : j < signsT.length := (List.getElem?_eq_some_iff.1 hj).1
    have h15 : signsT.length = 15 := rfl
    have h1 := hall j (by omega)
    rw [c9, Nat.mul_one] at h1
    have h2 : (xs.map (·.1))[j]? = some (DataW.lit (.string x)) := by rw [e, List.getElem?_map, hj]; rfl
    rw [List.getElem?_map] at h2
    cases hy : xs[j]? with
    | none => rw [hy] at h2; cases h2
    | some y =>
      rw [hy] at h1 h2
      obtain ⟨y1, y2⟩ := y
      simp only [Option.map_some, Option.some.injEq] at h2
      subst h2
      have h3 := trod_str9 h1
      have h4 := congrArg (·[0]?) h3
      simpa [List.getElem?_take, List.getElem?_drop] using h4
  · obtain ⟨g, t, cs, fuel, p, hg, ht, hv, hd⟩ := Lib.laidMet.reads h (n := "klaxon/math.levels") (.tail _ (.tail _ (.tail _ (.tail _ (.tail _ (.tail _ (.head _)))))))
    obtain rfl := Option.some.inj (gg0.symm.trans hg)
    obtain rfl := Option.some.inj (gt0.symm.trans ht)
    have hc := World.var?_cell gg0 hv j
    obtain ⟨xs, m, rfl, hx, hl, hn, hall⟩ := DataW.trod_array Tryz.underlying212 hd
    have e : xs.map (·.1) = levelsT.map fun l => (DataW.slice (l.map fun s => .lit (.string s)) [] : DataW Unit) := by
      have := congrArg Prod.fst hx
      simp only [Rows.laid_klaxon_math_levels, DataW.agg.injEq] at this
      exact this.symm
    have hlt : j < levelsT.length := (List.getElem?_eq_some_iff.1 hj).1
    have h5 : levelsT.length = 5 := rfl
    have h1 := hall j (by omega)
    rw [c48, Nat.mul_one] at h1
    have h2 : (xs.map (·.1))[j]? = some (DataW.slice (ls.map fun s => .lit (.string s)) []) := by rw [e, List.getElem?_map, hj]; rfl
    rw [List.getElem?_map] at h2
    cases hy : xs[j]? with
    | none => rw [hy] at h2; cases h2
    | some y =>
      rw [hy] at h1 h2
      obtain ⟨y1, y2⟩ := y
      simp only [Option.map_some, Option.some.injEq] at h2
      subst h2
      have hne : ls ≠ [] := by
        have hm := List.mem_of_getElem? hj
        intro he
        subst he
        exact absurd hm (by decide)
      obtain ⟨b, o, c, h3, h6, h7⟩ := trod_sl48 h1 hne
      refine ⟨b, o, c, ?_, h6, h7⟩
      rw [hc]
      have h4 := congrArg (·[0]?) h3
      simpa [List.getElem?_take, List.getElem?_drop] using h4
end Go.Proofs.YtomkgfdigldhcaaGreatDoor
namespace Go.Proofs.YtomkgfdigldhcaaGreatDoor
open Go.ChangeShapes Go.WideShapes Go.ChangeAt Go.RowKit Go.KX
theorem ownR : ownKnob Tryz.prog.godebug = none := by kernel_rfl
/-- The wrap: what is listed, and the world's shape. -/
theorem returnsL {H : Type} {enc : TypeId × Value → H} {a : Assume} {C : Checked} {os : Os} {f : FuncId} {fn : Func} {s : ChangeSpec} {conds : List PathCond} {apart fresh handsOn again : Bool} {laid : List (String × DataW Unit)}
    (own : ownKnob C.prog.godebug = none) (started : os.Started) (noInit : C.prog.inits.idxOf? f = none) (hfn : C.prog.funcs[f]? = some fn)
    (witness : ∃ (w : World) (tape : Tape) (i : Input), w.os = os ∧ (w.forCall tape i).Shaped C.prog ∧ i.vars = [] ∧ Input.okWide C.prog (w.forCall tape i) .any w.heap.size f i ∧
      ((s.pre enc C.prog fn conds apart (w.forCall tape i).memory i.args ∧ laidMetH C.prog laid (w.forCall tape i).memory) ∧ sizedMet enc C.prog fn (OpenSpec.ofChange s) apart (w.forCall tape i).memory i.args) ∧ a.holds C.prog (lone (Frame.enter C.prog f i.args .normal) [] (w.forCall tape i)))
    (contract : ∀ (W : World) (base : Nat) (args : Array Value) (ds gs : List (DataW H)) (before : List MemPlace),
      (∀ (j : Nat) t v, fn.params[j]? = some t → args[j]? = some v → Value.okWide C.prog W .any base t v) →
      DataW.Whole enc C.prog fn.params.toList s.vars apart W args.toList ds gs before →
      (DataW.weightsEach C.prog (fn.params.toList ++ s.plain.varTypes C.prog) (ds ++ gs)).all (· ≤ reachBytes) = true → laidMetH C.prog laid W → W.ShapedOpen C.prog →
      Calls C.prog f args W fun e W' => ∃ v, e = .returned v ∧ s.post enc C.prog fn apart fresh handsOn again W args v W') :
    ReturnsInHanded a C os f .any (fun w args => (s.pre enc C.prog fn conds apart w args ∧ laidMetH C.prog laid w) ∧ sizedMet enc C.prog fn (OpenSpec.ofChange s) apart w args) (s.post enc C.prog fn apart fresh handsOn again) := by
  refine returnsInHanded_of_calls own started noInit witness ?_
  intro w tape i _ hsh _ hok hpre hholds
  obtain ⟨_, _, _, fn', hfn', _, _, _, _, hval⟩ := hok
  have e : fn' = fn := Option.some.inj (hfn'.symm.trans hfn)
  subst e
  obtain ⟨⟨⟨ds, gs, before, hw, hc⟩, hx⟩, hz⟩ := hpre
  have hw' := DataW.Whole.of_heap (w' := w.forCall tape i) (by rfl) hw
  refine (contract (w.forCall tape i) w.heap.size i.args ds gs before hval hw' (hz.weights hw) (laidMetH.of_heap (by rfl) hx) hsh).mono fun e W' ⟨v, he, hp⟩ => ?_
  subst he
  exact ChangeSpec.post_blind hp
/-- A law's contract, at whatever lies there. -/
theorem calls_lawF {f : FuncId} {args : List SV} {vs : List Value} {W : World} (h : Fc Tryz.prog gT f args (bS true)) (hg : GlF W) (ha : DenL (gAll W) (fun _ => ⟨0, none, 0⟩) args vs) :
    Calls Tryz.prog f vs.toArray W fun e W' => e = .returned (.bool true) ∧ OldSame W W' := by
  refine (h.2 _ (gAll W) vs (fun f hf => ?_) ha).mono ?_
  · rcases List.mem_singleton.1 hf with rfl
    exact ⟨W, hg, Below.refl _ _, fun b hb => hb⟩
  rintro e w' ⟨v, g', rfl, rfl, hE, dv⟩
  obtain rfl := den_v dv
  exact ⟨rfl, hE.os, hE.output, hE.size, fun b hb => hE.same b hb⟩
end Go.Proofs.YtomkgfdigldhcaaGreatDoor
namespace Go.KX
open Go.RowKit
end Go.KX
namespace Go.Proofs.YtomkgfdigldhcaaGreatDoor
open Go.ChangeShapes Go.WideShapes Go.ChangeAt Go.RowKit Go.KX
structure NdQ (n : Nd) : Prop where
  ref : n.ref.length ≤ 140737488351232
  source : n.source.length ≤ 140737488351232
  input : n.input.length ≤ 140737488351232
  how : n.how.length ≤ 140737488351232
  text : n.text.length ≤ 140737488351232
  kind : (Lit.int .i64 n.kind).wf = true
  low : (Lit.int .i64 n.low.k).wf = true ∧ (Lit.int .i64 n.low.n).wf = true
  high : (Lit.int .i64 n.high.k).wf = true ∧ (Lit.int .i64 n.high.n).wf = true
theorem NdQ.w {n : Nd} (h : NdQ n) : wN n ≤ 703687441776640 := by
  have := h.ref; have := h.source; have := h.input; have := h.how; have := h.text
  unfold wN
  omega
end Go.Proofs.YtomkgfdigldhcaaGreatDoor
namespace Go.KX
theorem joined_of {P : Program} {f : FuncId} {fn : Func} {s : ChangeSpec} {c : OpenClaim} (g1 : laidOutB P = true) (g2 : mapsRowed P = true) (g3 : (P.stops == []) = true) (g4 : (P.stopKnobs == []) = true) (g5 : P.stopsHeard = true) (g6 : P.mayEnter = true) (g7 : (c.plainKeys == P.plainKeys) = true) (g8 : (c.lifted == P.liftsFinal) = true) (g9 : (P.make == some c.make) = true)
    (a1 : c.wf (OpenSpec.ofChange s) = true) (a2 : fn.params.all (P.readableRec ·) = true) (a3 : namedTie P c.named s.vars = true) (a4 : (c.stops == []) = true) (a5 : (c.knobs == []) = true)
    (b1 : (c.inPlace == P.inPlace f) = true) (b2 : (c.unfollowed == P.unfollowed f) = true) (b3 : (c.recurses == P.recurses f) = true) (b4 : (c.named == P.varsNamed f) = true)
    (c1 : (c.maps == (fn.params.toList ++ s.plain.varTypes P).any (P.mapsRec ·)) = true) (c2 : (c.ifaces == (fn.params.toList ++ s.plain.varTypes P).any (P.ifacesRec ·)) = true) (c3 : (c.mapsOut == P.mapsAmong fn.resultTypes.toList) = true) (c4 : (c.loops == (fn.params.toList ++ s.plain.varTypes P).any (P.loopsFrom ·)) = true) (c5 : (c.wideKeys == (fn.params.toList ++ s.plain.varTypes P ++ fn.resultTypes.toList).any (P.wideKeysFrom ·)) = true)
    (d1 : s.vars.all (P.varReadable ·) = true) (d2 : fn.resultTypes.all (fun t => P.readableRec t && decide (t < P.types.size)) = true) (d3 : (c.ifacesOut == fn.resultTypes.toList.any (P.ifacesRec ·)) = true) (d4 : (c.loopsOut == fn.resultTypes.toList.any (P.loopsFrom ·)) = true) (d5 : c.shortTexts.isNone = true)
    (d6 : (c.kinds == (if c.domain.isEmpty then [] else fn.params.toList.map fun t => match P.underlying t with | some (.int k) => some k | _ => none)) = true) (d7 : (c.pinned == c.pinnedBy) = true) (d8 : (c.veiled == (fn.params.toList ++ s.plain.varTypes P ++ fn.resultTypes.toList).any (P.veiledRec ·)) = true) (d9 : c.veiledFits P fn.params.toList (fn.params.toList ++ s.plain.varTypes P ++ fn.resultTypes.toList) = true) : joinedFacts P f fn s c = true := by
  unfold joinedFacts
  repeat' first | assumption | refine Bool.and_eq_true_iff.2 ⟨?_, ?_⟩
end Go.KX
