/- WM WN WO WP WB WQ WR WS WT WV WU WW WC WF WX WY. -/
import Derived.Test.YtomkgfdigldhcaaGreatDoorLEI
namespace Go.Proofs.YtomkgfdigldhcaaGreatDoor
open Go.KX
set_option maxRecDepth 100000 in
theorem vparse_ok {s : Bytes} (hs : s.length ≤ 1000000) : Fc Tryz.prog gT 320 [.str s] (.t [vS (parseV s).1, nI (parseV s).2]) := by
 refine fb tOK (fn := Tryz.f320) 84 [.cell 2 26, .tmp 3] Tryz.func320 Tryz.results320 (fun g0 B0 Q ρ0 R => ?_)
 refine en tOK 0 2 [] ?_
 refine sn tOK 0 0 [] ?_
 refine fc tOK 0 [] (vnull_ok) ?_
 refine fc tOK 0 [] (vnan_ok) ?_
 refine fc tOK 0 [] (vplus_ok) ?_
 refine fc tOK 3 [] (vminus_ok) ?_
 refine sl 0 ?_
 refine E_loop (σ := Nat) (fun j => j ≤ 4 ∧ ∀ v ∈ c4.take j, decide (s = printV v) = false) (fun j => 4 - j)
   (fun j => [(0, .str s), (2, .l 2 0), (18, rV c4), (19, nI 4), (20, nI j)])
   (fun j => [(2, .c 26 [nI 0, nI 0])]) 0 ?_ ?_
 ·exact ⟨Nat.zero_le _, by simp⟩
 ·rintro J j ⟨hj0, hj1⟩ hJ
  refine en tOK 0 1 [] ?_
  refine si 0 rfl rfl (fun h21 => ?_) (fun h21 => ?_)
  ·have hjl : j < 4 := by omega
   have hj : j < c4.length := hjl
   refine en tOK 0 4 [[nI c4[j].k, nI c4[j].n]] ?_ (hφ := by exact ⟨by omega, row_at _ hj⟩)
   refine sn tOK 0 2 [] ?_
   refine fc tOK 1 [] (vprint_ok) ?_
   refine si 0 rfl rfl (fun h27 => ?_) (fun h27 => ?_)
   ·have e := parse_c4 hj h27
    refine en tOK 0 3 [] ?_
    refine sr 0 R ?_
    first | (rw [e]; rfl) | (rw [← Int.zero_sub] at e; rw [e]; rfl)
   ·have hx : decide (s = printV c4[j]) = false := by simpa using h27
    refine en tOK 0 2 [] ?_
    exact hJ (j + 1) ⟨by omega, take_next hj hj1 hx⟩ (by omega)
  ·have hn4 := not4_of (fun v hv => hj1 v (by rw [List.take_of_length_le (show c4.length ≤ j by show 4 ≤ j; omega)]; exact hv))
   have hbl := Lib.trimPrefix_le s [45]
   refine en tOK 0 1 [] ?_
   refine fc tOK 5 [] (cutp_ok) ?_
   obtain ⟨w, f, b, hcut⟩ : ∃ w f b, Lib.cut (Lib.trimPrefix s [45]) [46] = (w, f, b) := ⟨_, _, _, rfl⟩
   have hC : Fc Tryz.prog gT 333 [.str (Lib.trimPrefix s [45]), .str [46]] (.t [.str w, .str f, bS b]) := by
     have h := cut_ok (s := Lib.trimPrefix s [45]) (p := [46]) (by omega)
     rw [hcut] at h
     exact h
   refine sn tOK 0 1 [] ?_
   refine fc tOK 7 [] (hC) ?_
   refine sn tOK 0 8 [] ?_
   refine sib 0 rfl rfl (fun h48 => ?_) (fun h48 => ?_)
   ·have hl : f.length ≤ 3 ∧ w.length ≤ 13 := by simp at h48; omega
    have hrl : (Lib.repeatL [48] (3 - f.length)).length = 3 - f.length := by rw [Lib.repeatL_length]; simp
    have h16 : (w ++ f ++ Lib.repeatL [48] (3 - f.length)).length ≤ 16 := by rw [List.length_append, List.length_append, hrl]; omega
    have hne : w ++ f ++ Lib.repeatL [48] (3 - f.length) ≠ [] := by
      intro h
      have h0 := congrArg List.length h
      rw [List.length_append, List.length_append, hrl] at h0
      have h1 : ([] : Bytes).length = 0 := rfl
      omega
    rcases hP : Lib.parseUintM M62 0 (w ++ f ++ Lib.repeatL [48] (3 - f.length)) with n | _ | _
    rotate_left 2
    ·exact absurd hP (uintM_16 h16).1
    ·refine en tOK 0 6 [] ?_
     refine sas 55 rfl (v' := nI ((3 - f.length : Nat) : Int)) ?_ ?_
     ·rw [show (3 : Int) - f.length = ((3 - f.length : Nat) : Int) by omega]
     refine fc tOK 1 [] (rep_ok (s := [48]) (c := 3 - f.length) (by show 1 * (3 - f.length) ≤ _; omega) (by omega) (by decide)) ?_ (hφ := by exact (show (w ++ f).length + (Lib.repeatL [48] (3 - f.length)).length ≤ 9223372036854775807 by rw [List.length_append, hrl]; omega))
     refine fc tOK 5 [] (uintG_ok hne h16 hP) ?_
     have hnb := (uintM_16 h16).2 n hP
     refine sn tOK 0 2 [] ?_
     refine fc tOK 2 [] (vnum_ok) ?_
     refine sn tOK 0 1 [] ?_
     refine sib 0 rfl rfl (fun h64 => ?_) (fun h64 => ?_)
     ·have ez : (0 - (n : Int)) = -(n : Int) := by omega
      have e0 := prog_ok (x := -(n : Int)) hn4 hcut hl hP (by rw [if_pos h64])
      refine en tOK 0 3 [] ?_
      refine fc tOK 1 [] (vnum_ok) ?_
      refine sn tOK 0 1 [] ?_
      refine kn2 tOK 7 [] (.bool true) (fun w => by kernel_rfl) ?_
      refine fg tOK 3 [] (fun hg => vprint_ok) ?_
      refine sib 0 rfl rfl (fun h81 => ?_) (fun h81 => ?_)
      ·simp at h81
       have e := e0
       rw [if_pos ⟨h81.1, h81.2⟩] at e
       refine en tOK 0 3 [] ?_
       refine sr 0 R ?_
       first | (rw [e]; rfl) | (rw [← Int.zero_sub] at e; rw [e]; rfl)
      ·simp at h81
       have e := e0
       rw [if_neg (fun h => h81 h.1 h.2)] at e
       refine en tOK 0 3 [] ?_
       refine sr 0 R ?_
       first | (rw [e]; rfl) | (rw [← Int.zero_sub] at e; rw [e]; rfl)
     ·have e0 := prog_ok (x := (n : Int)) hn4 hcut hl hP (by rw [if_neg (by simpa using h64)])
      refine en tOK 0 1 [] ?_
      refine kn2 tOK 7 [] (.bool true) (fun w => by kernel_rfl) ?_
      refine fg tOK 3 [] (fun hg => vprint_ok) ?_
      refine sib 0 rfl rfl (fun h81 => ?_) (fun h81 => ?_)
      ·simp at h81
       have e := e0
       rw [if_pos ⟨h81.1, h81.2⟩] at e
       refine en tOK 0 3 [] ?_
       refine sr 0 R ?_
       first | (rw [e]; rfl) | (rw [← Int.zero_sub] at e; rw [e]; rfl)
      ·simp at h81
       have e := e0
       rw [if_neg (fun h => h81 h.1 h.2)] at e
       refine en tOK 0 3 [] ?_
       refine sr 0 R ?_
       first | (rw [e]; rfl) | (rw [← Int.zero_sub] at e; rw [e]; rfl)
    ·refine en tOK 0 6 [] ?_
     refine sas 55 rfl (v' := nI ((3 - f.length : Nat) : Int)) ?_ ?_
     ·rw [show (3 : Int) - f.length = ((3 - f.length : Nat) : Int) by omega]
     refine fc tOK 1 [] (rep_ok (s := [48]) (c := 3 - f.length) (by show 1 * (3 - f.length) ≤ _; omega) (by omega) (by decide)) ?_ (hφ := by exact (show (w ++ f).length + (Lib.repeatL [48] (3 - f.length)).length ≤ 9223372036854775807 by rw [List.length_append, hrl]; omega))
     refine fc tOK 5 [] (uintG_bad hne h16 hP) ?_
     have e := prog_bad hn4 hcut hl hP
     refine sn tOK 0 2 [] ?_
     refine fc tOK 2 [] (vnum_ok) ?_
     refine sn tOK 0 1 [] ?_
     refine sib 0 rfl rfl (fun h64 => ?_) (fun h64 => ?_)
     ·refine en tOK 0 3 [] ?_
      refine fc tOK 1 [] (vnum_ok) ?_
      refine sn tOK 0 1 [] ?_
      refine nnil tOK 7 [] false (by kernel_rfl) ?_
      refine fg tOK 3 [] (fun hg => vprint_ok) ?_
      refine sib 0 rfl rfl (fun h81 => ?_) (fun h81 => ?_)
      ·simp at h81
      ·refine en tOK 0 3 [] ?_
       refine sr 0 R ?_
       first | (rw [e]; rfl) | (rw [← Int.zero_sub] at e; rw [e]; rfl)
     ·refine en tOK 0 1 [] ?_
      refine nnil tOK 7 [] false (by kernel_rfl) ?_
      refine fg tOK 3 [] (fun hg => vprint_ok) ?_
      refine sib 0 rfl rfl (fun h81 => ?_) (fun h81 => ?_)
      ·simp at h81
      ·refine en tOK 0 3 [] ?_
       refine sr 0 R ?_
       first | (rw [e]; rfl) | (rw [← Int.zero_sub] at e; rw [e]; rfl)
   ·have e := prog_long hn4 hcut (fun h => by simp at h48; omega)
    refine en tOK 0 3 [] ?_
    refine sr 0 R ?_
    first | (rw [e]; rfl) | (rw [← Int.zero_sub] at e; rw [e]; rfl)
end Go.Proofs.YtomkgfdigldhcaaGreatDoor
namespace Go.Proofs.YtomkgfdigldhcaaGreatDoor
open Go.KX
set_option maxRecDepth 100000 in
theorem number_ok {s r : Bytes} {p : Ps} (hi : p.i + r.length ≤ s.length) (hs : s.length ≤ 1024) : Fp Tryz.prog gT 298 [.l 1000 0, .str r] (psC s p) (exS (numberX parseV r p).1) (psC s (numberX parseV r p).2) := by
 refine fpb tOK (fn := Tryz.f298) 58 [.cell 4 29] Tryz.func298 Tryz.results298 (fun g0 B0 Q ρ0 R => ?_)
 have hb := runB_le gDig r
 have hnl := numLen_le r
 refine en tOK 0 1 [] ?_
 refine sn tOK 0 1 [] ?_
 refine fc tOK 1 [] (run_ok (g := gDig) (s := r) (by omega)) ?_
 refine sn tOK 0 11 [] ?_ (hφ := by exact ⟨id, id, fun h => ⟨by omega, by have := of_decide_eq_true h; omega⟩, id, id, by omega, by omega⟩)
 refine sib 0 rfl rfl (fun h21 => ?_) (fun h21 => ?_)
 ·simp only [Bool.and_eq_true, decide_eq_true_eq] at h21
  obtain ⟨q1, q2⟩ := h21
  have q3 : r.getD (runB gDig r) 0 = 46 := UInt8.toNat_inj.1 (Int.ofNat.inj q2)
  have hb2 := runB_le gDig (r.drop (runB gDig r + 1))
  have hb3 : (r.drop (runB gDig r + 1)).length = r.length - (runB gDig r + 1) := List.length_drop
  refine en tOK 0 4 [] ?_
  refine sas 25 rfl (v' := .str (r.drop (runB gDig r + 1))) ?_ ?_
  ·rw [show ((runB gDig r : Int) + 1).toNat = runB gDig r + 1 by omega]
  refine fc tOK 1 [] (run_ok (g := gDig) (s := r.drop (runB gDig r + 1)) (by omega)) ?_
  refine sn tOK 0 2 [] ?_
  refine si 0 rfl rfl (fun h28 => ?_) (fun h28 => ?_)
  ·have e : numLen r = runB gDig r + 1 + runB gDig (r.drop (runB gDig r + 1)) := by unfold numLen; rw [if_pos ⟨by omega, q3, by omega⟩]
   refine en tOK 0 5 [] ?_
   refine sas 5 rfl (v' := nI (numLen r)) ?_ ?_
   ·exact nI_eq (by omega)
   refine sn tOK 0 3 [] ?_
   refine fc tOK 6 [] (vparse_ok (s := r.take (numLen r)) (by simp; omega)) ?_
   refine sn tOK 0 2 [] ?_
   refine si 0 rfl rfl (fun h41 => ?_) (fun h41 => ?_)
   ·have hfi := fails_i p 110 p.i
    have e2 : numberX parseV r p = (exN (parseV (r.take (numLen r))).1, { p.fails 110 p.i with i := p.i + numLen r }) := by unfold numberX; rw [if_neg h41]
    refine en tOK 0 5 [] ?_
    refine fp tOK 1000 0 [] (fails_ok) ?_
    refine sn tOK 0 9 [] ?_
    refine sn tOK 0 3 [] ?_
    refine srp 0 R ?_
    exact ⟨by rw [e2] <;> rfl, by rw [e2] <;> first | rfl | (rw [hfi] <;> rfl)⟩
   ·have e2 : numberX parseV r p = (exN (parseV (r.take (numLen r))).1, { p with i := p.i + numLen r }) := by unfold numberX; rw [if_pos (Decidable.of_not_not h41)]
    refine en tOK 0 9 [] ?_
    refine sn tOK 0 3 [] ?_
    refine srp 0 R ?_
    exact ⟨by rw [e2] <;> rfl, by rw [e2] <;> first | rfl | (rw [hfi] <;> rfl)⟩
  ·have e : numLen r = runB gDig r := by unfold numLen; rw [if_neg (fun h => by omega)]
   refine eas 5 rfl (v' := nI (numLen r)) ?_ ?_
   ·exact nI_eq (by omega)
   refine en tOK 0 3 [] ?_
   refine fc tOK 6 [] (vparse_ok (s := r.take (numLen r)) (by simp; omega)) ?_
   refine sn tOK 0 2 [] ?_
   refine si 0 rfl rfl (fun h41 => ?_) (fun h41 => ?_)
   ·have hfi := fails_i p 110 p.i
    have e2 : numberX parseV r p = (exN (parseV (r.take (numLen r))).1, { p.fails 110 p.i with i := p.i + numLen r }) := by unfold numberX; rw [if_neg h41]
    refine en tOK 0 5 [] ?_
    refine fp tOK 1000 0 [] (fails_ok) ?_
    refine sn tOK 0 9 [] ?_
    refine sn tOK 0 3 [] ?_
    refine srp 0 R ?_
    exact ⟨by rw [e2] <;> rfl, by rw [e2] <;> first | rfl | (rw [hfi] <;> rfl)⟩
   ·have e2 : numberX parseV r p = (exN (parseV (r.take (numLen r))).1, { p with i := p.i + numLen r }) := by unfold numberX; rw [if_pos (Decidable.of_not_not h41)]
    refine en tOK 0 9 [] ?_
    refine sn tOK 0 3 [] ?_
    refine srp 0 R ?_
    exact ⟨by rw [e2] <;> rfl, by rw [e2] <;> first | rfl | (rw [hfi] <;> rfl)⟩
 ·have e : numLen r = runB gDig r := by
    unfold numLen
    rw [if_neg]
    intro h
    rcases Bool.and_eq_false_iff.1 h21 with q | q
    · have q := of_decide_eq_false q
      omega
    · exact of_decide_eq_false q (by show ((r.getD (runB gDig r) 0).toNat : Int) = 46; rw [h.2.1]; rfl)
  refine eas 5 rfl (v' := nI (numLen r)) ?_ ?_
  ·exact nI_eq (by omega)
  refine en tOK 0 3 [] ?_
  refine fc tOK 6 [] (vparse_ok (s := r.take (numLen r)) (by simp; omega)) ?_
  refine sn tOK 0 2 [] ?_
  refine si 0 rfl rfl (fun h41 => ?_) (fun h41 => ?_)
  ·have hfi := fails_i p 110 p.i
   have e2 : numberX parseV r p = (exN (parseV (r.take (numLen r))).1, { p.fails 110 p.i with i := p.i + numLen r }) := by unfold numberX; rw [if_neg h41]
   refine en tOK 0 5 [] ?_
   refine fp tOK 1000 0 [] (fails_ok) ?_
   refine sn tOK 0 9 [] ?_
   refine sn tOK 0 3 [] ?_
   refine srp 0 R ?_
   exact ⟨by rw [e2] <;> rfl, by rw [e2] <;> first | rfl | (rw [hfi] <;> rfl)⟩
  ·have e2 : numberX parseV r p = (exN (parseV (r.take (numLen r))).1, { p with i := p.i + numLen r }) := by unfold numberX; rw [if_pos (Decidable.of_not_not h41)]
   refine en tOK 0 9 [] ?_
   refine sn tOK 0 3 [] ?_
   refine srp 0 R ?_
   exact ⟨by rw [e2] <;> rfl, by rw [e2] <;> first | rfl | (rw [hfi] <;> rfl)⟩
set_option maxRecDepth 100000 in
theorem word_ok {s r : Bytes} {p : Ps} {ex : Ps → Ex × Ps} {dp : Nat} (hdp : dp ≤ 33) (fx : Fit s ex) (hex : ∀ p : Ps, p.i ≤ s.length → Fp Tryz.prog gT 62 [.l 1000 0, nI ((dp : Int) + 1)] (psC s p) (exS (ex p).1) (psC s (ex p).2)) (hi : p.i + r.length ≤ s.length) (hs : s.length ≤ 1024) : Fp Tryz.prog gT 299 [.l 1000 0, .str r, nI dp] (psC s p) (exS (wordX s ex r p).1) (psC s (wordX s ex r p).2) := by
 refine fpb tOK (fn := Tryz.f299) 57 [.cell 6 29] Tryz.func299 Tryz.results299 (fun g0 B0 Q ρ0 R => ?_)
 have hb := runB_le gLD r
 obtain ⟨w, hw⟩ : ∃ w, w = r.take (runB gLD r) := ⟨_, rfl⟩
 have hwl : w.length ≤ r.length := by rw [hw]; simp; omega
 obtain ⟨p1, hp1⟩ : ∃ p1 : Ps, p1 = { p with i := p.i + w.length } := ⟨_, rfl⟩
 have hp1i : p1.i = p.i + w.length := by rw [hp1]
 refine en tOK 0 1 [] ?_
 refine sn tOK 0 5 [] ?_
 refine sn tOK 0 2 [] ?_
 refine fc tOK 2 [] (run_ok (g := gLD) (s := r) (by omega)) ?_
 refine sas 1 rfl (v' := .str w) ?_ ?_
 ·rw [hw]; rfl
 refine sn tOK 0 10 [] ?_
 refine smb 1000 (mb' := psC s p1) ?_ ?_
 ·rw [hp1]; rfl
 refine sn tOK 0 1 [] ?_
 refine sn tOK 0 2 [] ?_
 refine si 0 rfl rfl (fun h27 => ?_) (fun h27 => ?_)
 ·have e2 : wordX s ex r p = (exN nullV, p1) := by unfold wordX; simp only; rw [← hw, if_pos h27, hp1]
  refine en tOK 0 0 [] ?_
  refine fc tOK 2 [] (vnull_ok) ?_
  refine srp 0 R ?_
  exact ⟨by rw [e2] <;> rfl, by rw [e2] <;> rfl⟩
 ·refine en tOK 0 2 [] ?_
  refine si 0 rfl rfl (fun h31 => ?_) (fun h31 => ?_)
  ·have e2 : wordX s ex r p = (exN nanV, p1) := by unfold wordX; simp only; rw [← hw, if_neg h27, if_pos h31, hp1]
   refine en tOK 0 0 [] ?_
   refine fc tOK 2 [] (vnan_ok) ?_
   refine srp 0 R ?_
   exact ⟨by rw [e2] <;> rfl, by rw [e2] <;> rfl⟩
  ·refine en tOK 0 2 [] ?_
   refine si 0 rfl rfl (fun h35 => ?_) (fun h35 => ?_)
   ·have e2 : wordX s ex r p = (exN plusV, p1) := by unfold wordX; simp only; rw [← hw, if_neg h27, if_neg h31, if_pos h35, hp1]
    refine en tOK 0 0 [] ?_
    refine fc tOK 2 [] (vplus_ok) ?_
    refine srp 0 R ?_
    exact ⟨by rw [e2] <;> rfl, by rw [e2] <;> rfl⟩
   ·obtain ⟨p2, hp2⟩ : ∃ p2, p2 = (if functionB w then p1 else p1.fails 110 p.i) := ⟨_, rfl⟩
    have e2 : wordX s ex r p = (exC w [(parX s ex (mustP s oPL p2)).1], (parX s ex (mustP s oPL p2)).2) := by unfold wordX; simp only; rw [← hw, if_neg h27, if_neg h31, if_neg h35, hp2, hp1]
    have hp2i : p2.i = p1.i := by rw [hp2]; split <;> simp [fails_i]
    have hm1 := must_fit (s := s) (x := oPL) (p := p2) (by omega)
    have hx1 := fx _ hm1.2
    refine en tOK 0 1 [] ?_
    refine fc tOK 1 [] (function_ok) ?_
    refine sib 0 rfl rfl (fun h41 => ?_) (fun h41 => ?_)
    ·refine en tOK 0 2 [] ?_
     refine fp tOK 1000 0 [] (fails_ok) ?_
     refine smb 1000 (mb' := psC s p2) ?_ ?_
     ·rw [hp2]; first | rw [if_pos (by simpa using h41)] | rw [if_neg (by simpa using h41)]
     refine sn tOK 0 1 [] ?_
     refine fp tOK 1000 0 [] (must_ok (x := oPL) (p := p2) (by omega) hs) ?_
     refine sn tOK 0 3 [] ?_
     refine fp tOK 1000 2 [] (hex (mustP s oPL p2) hm1.2) ?_
     refine sn tOK 0 1 [] ?_
     refine fp tOK 1000 0 [] (must_ok (x := oPR) (p := (ex (mustP s oPL p2)).2) hx1.2 hs) ?_
     refine sn tOK 0 3 [] ?_
     refine fc tOK 1 [] (call1_ok) ?_
     refine srp 0 R ?_
     exact ⟨by rw [e2] <;> rfl, by rw [e2] <;> rfl⟩
    ·refine emb 1000 (mb' := psC s p2) ?_ ?_
     ·rw [hp2]; first | rw [if_pos (by simpa using h41)] | rw [if_neg (by simpa using h41)]
     refine en tOK 0 1 [] ?_
     refine fp tOK 1000 0 [] (must_ok (x := oPL) (p := p2) (by omega) hs) ?_
     refine sn tOK 0 3 [] ?_
     refine fp tOK 1000 2 [] (hex (mustP s oPL p2) hm1.2) ?_
     refine sn tOK 0 1 [] ?_
     refine fp tOK 1000 0 [] (must_ok (x := oPR) (p := (ex (mustP s oPL p2)).2) hx1.2 hs) ?_
     refine sn tOK 0 3 [] ?_
     refine fc tOK 1 [] (call1_ok) ?_
     refine srp 0 R ?_
     exact ⟨by rw [e2] <;> rfl, by rw [e2] <;> rfl⟩
set_option maxRecDepth 100000 in
theorem prim0_ok {s : Bytes} {ex : Ps → Ex × Ps} {p : Ps} {dp : Nat} (hi : p.i ≤ s.length) (hs : s.length ≤ 1024) (hd : p.dead = true) : Fp Tryz.prog gT 256 [.l 1000 0, nI dp] (psC s p) (exS (primX parseV s ex p).1) (psC s (primX parseV s ex p).2) := by
 refine fpb tOK (fn := Tryz.f256) 95 [.cell 4 29] Tryz.func256 Tryz.results256 (fun g0 B0 Q ρ0 R => ?_)
 have e2 := prim_dead (pv := parseV) (s := s) (ex := ex) hd
 have hd2 : (p.restP s).dead = true := (restP_dead s p).trans hd
 refine en tOK 0 1 [] ?_
 refine sn tOK 0 1 [] ?_
 refine fp tOK 1000 1 [] (rest_ok hi hs) ?_
 refine sn tOK 0 5 [] ?_
 refine sib 0 rfl rfl (fun h15 => ?_) (fun h15 => ?_)
 ·refine en tOK 0 2 [] ?_
  refine srp 0 R ?_
  exact ⟨by rw [e2] <;> rfl, by rw [e2] <;> rfl⟩
 ·rw [hd2] at h15; cases h15
set_option maxRecDepth 100000 in
theorem prim_ok {s : Bytes} {p : Ps} {ex : Ps → Ex × Ps} {dp : Nat} (hdp : dp ≤ 33) (fx : Fit s ex) (hex : ∀ p : Ps, p.i ≤ s.length → Fp Tryz.prog gT 62 [.l 1000 0, nI ((dp : Int) + 1)] (psC s p) (exS (ex p).1) (psC s (ex p).2)) (hi : p.i ≤ s.length) (hs : s.length ≤ 1024) : Fp Tryz.prog gT 256 [.l 1000 0, nI dp] (psC s p) (exS (primX parseV s ex p).1) (psC s (primX parseV s ex p).2) := by
 refine fpb tOK (fn := Tryz.f256) 95 [.cell 4 29] Tryz.func256 Tryz.results256 (fun g0 B0 Q ρ0 R => ?_)
 have hlen := restT_len (s := s) hi
 have hdd := restP_dead s p
 refine en tOK 0 1 [] ?_
 refine sn tOK 0 1 [] ?_
 refine fp tOK 1000 1 [] (rest_ok hi hs) ?_
 refine sn tOK 0 5 [] ?_
 refine sib 0 rfl rfl (fun h15 => ?_) (fun h15 => ?_)
 ·have e2 := prim_dead (pv := parseV) (s := s) (ex := ex) (p := p) (hdd ▸ h15)
  refine en tOK 0 2 [] ?_
  refine srp 0 R ?_
  exact ⟨by rw [e2] <;> rfl, by rw [e2] <;> first | rfl | (rw [hp2i] <;> rfl)⟩
 ·have hd : p.dead = false := hdd ▸ h15
  refine en tOK 0 3 [] ?_
  refine si 0 rfl rfl (fun h20 => ?_) (fun h20 => ?_)
  ·have e2 := prim_nil (pv := parseV) (s := s) (ex := ex) hd h20
   refine en tOK 0 5 [] ?_
   refine fp tOK 1000 0 [] (fails_ok) ?_
   refine sn tOK 0 2 [] ?_
   refine srp 0 R ?_
   exact ⟨by rw [e2] <;> rfl, by rw [e2] <;> first | rfl | (rw [hp2i] <;> rfl)⟩
  ·obtain ⟨c, r, hcr⟩ : ∃ c r, p.restT s = c :: r := by
     cases hx : p.restT s with
     | nil => exact absurd hx h20
     | cons c r => exact ⟨c, r, rfl⟩
   have e0 := prim_cons (pv := parseV) (s := s) (ex := ex) hd hcr
   have hlr : (p.restP s).i + (c :: r).length ≤ s.length := by rw [hcr] at hlen; omega
   have hlr1 : (c :: r).length = r.length + 1 := rfl
   refine eas 5 rfl (v' := .str (c :: r)) ?_ ?_
   ·rw [hcr]
   refine en tOK 0 4 [] ?_
   refine si 0 rfl rfl (fun h29 => ?_) (fun h29 => ?_)
   ·have hc : c = 40 := u8_eq (k := 40) h29
    have e2 : primX parseV s ex p = parX s ex { p.restP s with i := (p.restP s).i + 1 } := by rw [e0, if_pos hc]
    have hx1 := fx { p.restP s with i := (p.restP s).i + 1 } (by show (p.restP s).i + 1 ≤ _; omega)
    refine en tOK 0 8 [] ?_
    refine smb 1000 (mb' := psC s { p.restP s with i := (p.restP s).i + 1 }) ?_ ?_
    ·rfl
    refine sn tOK 0 3 [] ?_
    refine fp tOK 1000 1 [] (hex { p.restP s with i := (p.restP s).i + 1 } (by show (p.restP s).i + 1 ≤ _; omega)) ?_
    refine sn tOK 0 1 [] ?_
    refine fp tOK 1000 0 [] (must_ok (x := oPR) (p := (ex { p.restP s with i := (p.restP s).i + 1 }).2) hx1.2 hs) ?_
    refine sn tOK 0 2 [] ?_
    refine srp 0 R ?_
    exact ⟨by rw [e2] <;> rfl, by rw [e2] <;> first | rfl | (rw [hp2i] <;> rfl)⟩
   ·have hc : c ≠ 40 := fun h => h29 (by rw [h]; rfl)
    refine en tOK 0 4 [] ?_
    refine si 0 rfl rfl (fun h46 => ?_) (fun h46 => ?_)
    ·have hc2 : c = 36 := u8_eq (k := 36) h46
     have hb := runB_le gLD r
     obtain ⟨w, hw⟩ : ∃ w, w = r.take (runB gLD r) := ⟨_, rfl⟩
     have hwl : w.length ≤ r.length := by rw [hw]; simp; omega
     obtain ⟨p2, hp2⟩ : ∃ p2, p2 = (if refB w then p.restP s else (p.restP s).fails 110 (p.restP s).i) := ⟨_, rfl⟩
     have hp2i : p2.i = (p.restP s).i := by rw [hp2]; split <;> simp [fails_i]
     have e2 : primX parseV s ex p = (exR w, { p2 with i := (p.restP s).i + (1 + w.length) }) := by rw [e0, if_neg hc, if_pos hc2, hp2, hw]; rfl
     refine en tOK 0 3 [] ?_
     refine fc tOK 3 [] (run_ok (g := gLD) (s := r) (by omega)) ?_
     refine sas 6 rfl (v' := .str w) ?_ ?_
     ·rw [hw]; show SV.str (r.take ((1 + (runB gLD r : Int)).toNat - 1)) = _; rw [show (1 + (runB gLD r : Int)).toNat - 1 = runB gLD r by omega]
     refine sn tOK 0 1 [] ?_
     refine fc tOK 1 [] (ref_ok (w := w) (by omega)) ?_
     refine sib 0 rfl rfl (fun h58 => ?_) (fun h58 => ?_)
     ·refine en tOK 0 5 [] ?_
      refine fp tOK 1000 0 [] (fails_ok) ?_
      refine smb 1000 (mb' := psC s p2) ?_ ?_
      ·rw [hp2]; first | rw [if_pos (by simpa using h58)] | rw [if_neg (by simpa using h58)]
      refine sn tOK 0 11 [] ?_ (hφ := by exact ⟨⟨by omega, by omega⟩, ⟨by omega, by omega⟩⟩)
      refine sn tOK 0 3 [] ?_
      refine sn tOK 0 2 [] ?_
      refine srp 0 R ?_
      exact ⟨by rw [e2] <;> rfl, by rw [e2] <;> first | rfl | (rw [hp2i] <;> rfl)⟩
     ·refine emb 1000 (mb' := psC s p2) ?_ ?_
      ·rw [hp2]; first | rw [if_pos (by simpa using h58)] | rw [if_neg (by simpa using h58)]
      refine en tOK 0 11 [] ?_ (hφ := by exact ⟨⟨by omega, by omega⟩, ⟨by omega, by omega⟩⟩)
      refine sn tOK 0 3 [] ?_
      refine sn tOK 0 2 [] ?_
      refine srp 0 R ?_
      exact ⟨by rw [e2] <;> rfl, by rw [e2] <;> first | rfl | (rw [hp2i] <;> rfl)⟩
    ·have hc2 : c ≠ 36 := fun h => h46 (by rw [h]; rfl)
     refine en tOK 0 2 [] ?_
     refine fc tOK 2 [] (ib_ok (g := gDig) (c := c) rfl) ?_
     refine si 0 rfl rfl (fun h77 => ?_) (fun h77 => ?_)
     ·have hg : c ∈ gDig := Classical.byContradiction fun h => absurd ((ib_mem _ _).2 h) (by omega)
      have e2 : primX parseV s ex p = numberX parseV (c :: r) (p.restP s) := by rw [e0, if_neg hc, if_neg hc2, if_pos hg]
      refine en tOK 0 2 [] ?_
      refine fp tOK 1000 1 [] (number_ok (r := c :: r) hlr hs) ?_
      refine sn tOK 0 2 [] ?_
      refine srp 0 R ?_
      exact ⟨by rw [e2] <;> rfl, by rw [e2] <;> first | rfl | (rw [hp2i] <;> rfl)⟩
     ·have hg : c ∉ gDig := (ib_mem _ _).1 (by omega)
      refine en tOK 0 2 [] ?_
      refine fc tOK 2 [] (ib_ok (g := gLet) (c := c) rfl) ?_
      refine si 0 rfl rfl (fun h85 => ?_) (fun h85 => ?_)
      ·have hg2 : c ∈ gLet := Classical.byContradiction fun h => absurd ((ib_mem _ _).2 h) (by omega)
       have e2 : primX parseV s ex p = wordX s ex (c :: r) (p.restP s) := by rw [e0, if_neg hc, if_neg hc2, if_neg hg, if_pos hg2]
       refine en tOK 0 3 [] ?_
       refine fp tOK 1000 1 [] (word_ok (r := c :: r) hdp fx hex hlr hs) ?_
       refine sn tOK 0 2 [] ?_
       refine srp 0 R ?_
       exact ⟨by rw [e2] <;> rfl, by rw [e2] <;> first | rfl | (rw [hp2i] <;> rfl)⟩
      ·have hg2 : c ∉ gLet := (ib_mem _ _).1 (by omega)
       have e2 : primX parseV s ex p = (ex0, (p.restP s).fails 110 (p.restP s).i) := by rw [e0, if_neg hc, if_neg hc2, if_neg hg, if_neg hg2]
       refine en tOK 0 5 [] ?_
       refine fp tOK 1000 0 [] (fails_ok) ?_
       refine sn tOK 0 2 [] ?_
       refine srp 0 R ?_
       exact ⟨by rw [e2] <;> rfl, by rw [e2] <;> first | rfl | (rw [hp2i] <;> rfl)⟩
end Go.Proofs.YtomkgfdigldhcaaGreatDoor
namespace Go.Proofs.YtomkgfdigldhcaaGreatDoor
open Go.KX
set_option maxRecDepth 100000 in
theorem binary0_ok {s : Bytes} {u : Ps → Ex × Ps} {p : Ps} {q : Int} {dp : Nat} (hq : q = 5) (hu : Fp Tryz.prog gT 167 [.l 1000 0, nI dp] (psC s p) (exS (u p).1) (psC s (u p).2)) : Fp Tryz.prog gT 115 [.l 1000 0, nI q, nI dp] (psC s p) (exS (u p).1) (psC s (u p).2) := by
 refine fpb tOK (fn := Tryz.f115) 43 [.cell 6 29] Tryz.func115 Tryz.results115 (fun g0 B0 Q ρ0 R => ?_)
 refine en tOK 0 1 [] ?_
 refine sn tOK 0 2 [] ?_
 refine si 0 rfl rfl (fun h11 => ?_) (fun h11 => ?_)
 ·refine en tOK 0 2 [] ?_
  refine fp tOK 1000 1 [] (hu) ?_
  refine srp 0 R ?_
  exact ⟨rfl, rfl⟩
 ·exact absurd hq h11
set_option maxRecDepth 100000 in
theorem binaryS_ok {s : Bytes} {sub : Ps → Ex × Ps} {p : Ps} {q : Int} {dp n : Nat} (hq : q = 4 - (n : Int)) (hn : n ≤ 4) (fs : Fit s sub) (hsub : ∀ p : Ps, p.i ≤ s.length → Fp Tryz.prog gT 115 [.l 1000 0, nI (q + 1), nI dp] (psC s p) (exS (sub p).1) (psC s (sub p).2)) (hi : p.i ≤ s.length) (hs : s.length ≤ 1024) : Fp Tryz.prog gT 115 [.l 1000 0, nI q, nI dp] (psC s p) (exS (loopG (tkX s) sub (levelsT.getD (4 - n) []) (n == 2) (s.length + 1) (sub p).1 (sub p).2).1) (psC s (loopG (tkX s) sub (levelsT.getD (4 - n) []) (n == 2) (s.length + 1) (sub p).1 (sub p).2).2) := by
 refine fpb tOK (fn := Tryz.f115) 43 [.cell 6 29] Tryz.func115 Tryz.results115 (fun g0 B0 Q ρ0 R => ?_)
 refine en tOK 0 1 [] ?_
 refine sn tOK 0 2 [] ?_
 refine si 0 rfl rfl (fun h11 => ?_) (fun h11 => ?_)
 ·exact absurd h11 (by omega)
 ·refine en tOK 0 4 [] ?_
  refine fp tOK 1000 2 [] (hsub p hi) ?_
  refine sl 0 ?_
  obtain ⟨ops, hops⟩ : ∃ ops, ops = levelsT.getD (4 - n) [] := ⟨_, rfl⟩
  obtain ⟨rest, hrest⟩ := levels_row hn hq
  rw [← hops] at hrest
  refine E_loop (σ := Nat × Ex × Ps) (fun t => t.2.2.i ≤ s.length ∧ s.length < t.1 + t.2.2.i ∧ loopG (tkX s) sub ops (n == 2) t.1 t.2.1 t.2.2 = loopG (tkX s) sub ops (n == 2) (s.length + 1) (sub p).1 (sub p).2) (fun t => t.1)
    (fun t => [(0, .l 1000 0), (1, nI q), (2, nI dp), (6, .l 6 0), (7, .l 7 0)])
    (fun t => [(7, .c 29 (exL t.2.1)), (6, .c 29 [nI 0, .str [], nI 0, nI 0, .s 0 []]), (1000, psC s t.2.2)]) (s.length + 1, (sub p).1, (sub p).2) ?_ ?_
  ·exact ⟨(fs p hi).2, by simp only; omega, rfl⟩
  ·rintro J t ⟨ht1, ht2, ht3⟩ hJ
   obtain ⟨k, hk⟩ : ∃ k, t.1 = k + 1 := ⟨t.1 - 1, by omega⟩
   have htf := take_fit (l := ops) ht1
   have hsf := fs _ htf.2
   rw [hk] at ht3
   refine en tOK 0 2 [] ?_
   refine gix tOK 1 [] (n := 5) (z := q) (rB ops :: rest) levels_den (by omega) hrest ?_
   refine fp tOK 1000 5 [] (take_ok (l := ops) ht1 hs) ?_
   refine sn tOK 0 2 [] ?_
   refine sib 0 rfl rfl (fun h29 => ?_) (fun h29 => ?_)
   ·have e1 : takeT s ops t.2.2 = none := by simpa using h29
    have e2 : loopG (tkX s) sub (levelsT.getD (4 - n) []) (n == 2) (s.length + 1) (sub p).1 (sub p).2 = (t.2.1, takeP s ops t.2.2) := by rw [← hops, ← ht3, loop_none e1]
    refine en tOK 0 2 [] ?_
    refine srp 0 R ?_
    exact ⟨by rw [e2] <;> rfl, by rw [e2] <;> rfl⟩
   ·obtain ⟨o, e1⟩ : ∃ o, takeT s ops t.2.2 = some o := Option.isSome_iff_exists.1 (by simpa using h29)
    refine eas 8 rfl (v' := .str o) ?_ ?_
    ·rw [e1]; rfl
    refine edr 0 576 [0, 0, 0, 0, 8, 0, 60, 126, 255, 511] [0, 2, 3, 4, 5, 6, 1, 7, 8, 9] ?_
    refine xd tOK 5 [] ?_
    refine dpc tOK 1000 0 [] (hsub (takeP s ops t.2.2) htf.2) ?_
    refine dl tOK 1 [] ?_
    refine dc tOK 1 [] (call2_ok) ?_
    refine xe ?_
    refine sn tOK 0 2 [] ?_
    refine si 0 rfl rfl (fun h41 => ?_) (fun h41 => ?_)
    ·have hb : (n == 2) = true := by simp; omega
     have e2 : loopG (tkX s) sub (levelsT.getD (4 - n) []) (n == 2) (s.length + 1) (sub p).1 (sub p).2 = (exC o [t.2.1, (sub (takeP s ops t.2.2)).1], (sub (takeP s ops t.2.2)).2) := by rw [← hops, ← ht3, hb, loop_alone e1]
     refine en tOK 0 2 [] ?_
     refine srp 0 R ?_
     exact ⟨by rw [e2] <;> rfl, by rw [e2] <;> rfl⟩
    ·have hb : (n == 2) = false := by simp; omega
     refine el 0 ?_
     exact hJ (k, exC o [t.2.1, (sub (takeP s ops t.2.2)).1], (sub (takeP s ops t.2.2)).2) ⟨hsf.2, by simp only; have := take_more e1; omega, by rw [← ht3, hb, loop_more e1]⟩ (by simp only; omega)
theorem binary_ok {s : Bytes} {u : Ps → Ex × Ps} {dp : Nat} (hs : s.length ≤ 1024) (fu : Fit s u) (hu : (∀ p : Ps, p.i ≤ s.length → Fp Tryz.prog gT 167 [.l 1000 0, nI dp] (psC s p) (exS (u p).1) (psC s (u p).2))) : ∀ (n : Nat), n ≤ 5 → ∀ (q : Int), q = 5 - (n : Int) → ∀ p : Ps, p.i ≤ s.length → Fp Tryz.prog gT 115 [.l 1000 0, nI q, nI dp] (psC s p) (exS (levX s u n p).1) (psC s (levX s u n p).2)
  | 0, _, q, hq, p, hi => binary0_ok (by omega) (hu p hi)
  | n + 1, hn, q, hq, p, hi => binaryS_ok (n := n) (by omega) (by omega) (lev_fit fu n) (fun p hi => binary_ok hs fu hu n (by omega) (q + 1) (by omega) p hi) hi hs
set_option maxRecDepth 100000 in
theorem expr_ok {s : Bytes} {u : Ps → Ex × Ps} {p : Ps} {dp : Nat} (fu : Fit s u) (hu : (∀ p : Ps, p.i ≤ s.length → Fp Tryz.prog gT 167 [.l 1000 0, nI dp] (psC s p) (exS (u p).1) (psC s (u p).2))) (hi : p.i ≤ s.length) (hs : s.length ≤ 1024) : Fp Tryz.prog gT 62 [.l 1000 0, nI dp] (psC s p) (exS (exprX s u dp p).1) (psC s (exprX s u dp p).2) := by
 refine fpb tOK (fn := Tryz.f62) 11 [.cell 4 29] Tryz.func62 Tryz.results62 (fun g0 B0 Q ρ0 R => ?_)
 refine en tOK 0 1 [] ?_
 refine sn tOK 0 2 [] ?_
 refine fp tOK 1000 0 [] (enter_ok (by omega) (by omega)) ?_
 refine sn tOK 0 2 [] ?_
 refine fp tOK 1000 1 [] (binary_ok hs fu hu 5 (by omega) 0 rfl (enterP s dp p) (enter_fit hi).2) ?_
 refine srp 0 R ?_
 exact ⟨rfl, rfl⟩
set_option maxRecDepth 100000 in
theorem unary0_ok {s : Bytes} {p : Ps} (hi : p.i ≤ s.length) (hs : s.length ≤ 1024) : Fp Tryz.prog gT 167 [.l 1000 0, nI ((33 : Nat) : Int)] (psC s p) (exS (unX parseV s 0 p).1) (psC s (unX parseV s 0 p).2) := by
 refine fpb tOK (fn := Tryz.f167) 27 [.cell 4 29] Tryz.func167 Tryz.results167 (fun g0 B0 Q ρ0 R => ?_)
 have hd := enter33 (s := s) (p := p)
 have he := enter_fit (d := 33) hi
 have e1 : takeT s [oSub, oNot] (enterP s 33 p) = none := takeT_dead hd
 have hf := take_fit (l := [oSub, oNot]) he.2
 refine en tOK 0 1 [] ?_
 refine sn tOK 0 2 [] ?_
 refine fp tOK 1000 0 [] (enter_ok (by omega) (by omega)) ?_
 refine sn tOK 0 2 [] ?_
 refine fp tOK 1000 5 [] (take_ok (l := [oSub, oNot]) he.2 hs) ?_
 refine sn tOK 0 1 [] ?_
 refine sib 0 rfl rfl (fun h16 => ?_) (fun h16 => ?_)
 ·rw [e1] at h16; cases h16
 ·refine en tOK 0 2 [] ?_
  refine fp tOK 1000 1 [] (prim0_ok (ex := fun q => (ex0, q)) (dp := 33) hf.2 hs ((gone_take _ _ hd).1)) ?_
  refine srp 0 R ?_
  exact ⟨rfl, rfl⟩
set_option maxRecDepth 100000 in
theorem unaryS_ok {s : Bytes} {p : Ps} {d dp : Nat} (hdp : dp + d = 32) (hun : ∀ p : Ps, p.i ≤ s.length → Fp Tryz.prog gT 167 [.l 1000 0, nI ((dp : Int) + 1)] (psC s p) (exS (unX parseV s d p).1) (psC s (unX parseV s d p).2)) (hi : p.i ≤ s.length) (hs : s.length ≤ 1024) : Fp Tryz.prog gT 167 [.l 1000 0, nI dp] (psC s p) (exS (unX parseV s (d + 1) p).1) (psC s (unX parseV s (d + 1) p).2) := by
 refine fpb tOK (fn := Tryz.f167) 27 [.cell 4 29] Tryz.func167 Tryz.results167 (fun g0 B0 Q ρ0 R => ?_)
 have h32 : 32 - d = dp := by omega
 have h33 : 33 - d = dp + 1 := by omega
 have he := enter_fit (d := dp) hi
 have hf := take_fit (l := [oSub, oNot]) he.2
 have hfx := un_fit (pv := parseV) (s := s) d
 refine en tOK 0 1 [] ?_
 refine sn tOK 0 2 [] ?_
 refine fp tOK 1000 0 [] (enter_ok (by omega) (by omega)) ?_
 refine sn tOK 0 2 [] ?_
 refine fp tOK 1000 5 [] (take_ok (l := [oSub, oNot]) he.2 hs) ?_
 refine sn tOK 0 1 [] ?_
 refine sib 0 rfl rfl (fun h16 => ?_) (fun h16 => ?_)
 ·obtain ⟨o, e1⟩ : ∃ o, takeT s [oSub, oNot] (enterP s dp p) = some o := Option.isSome_iff_exists.1 h16
  have e2 := un_some (pv := parseV) (s := s) (p := p) (d := d) (o := o) (by rw [h32]; exact e1)
  rw [h32] at e2
  refine eas 5 rfl (v' := .str o) ?_ ?_
  ·rw [e1]; rfl
  refine en tOK 0 4 [] ?_
  refine fp tOK 1000 1 [] (hun (takeP s [oSub, oNot] (enterP s dp p)) hf.2) ?_
  refine fc tOK 1 [] (call1_ok) ?_
  refine srp 0 R ?_
  exact ⟨by rw [e2] <;> rfl, by rw [e2] <;> rfl⟩
 ·have e1 : takeT s [oSub, oNot] (enterP s dp p) = none := by simpa using h16
  have e2 := un_none (pv := parseV) (s := s) (p := p) (d := d) (by rw [h32]; exact e1)
  rw [h32, h33] at e2
  refine en tOK 0 2 [] ?_
  refine fp tOK 1000 1 [] (prim_ok (ex := exprX s (unX parseV s d) (dp + 1)) (dp := dp) (by omega) (expr_fit hfx (dp + 1)) (fun p hi => expr_ok (dp := dp + 1) hfx hun hi hs) hf.2 hs) ?_
  refine srp 0 R ?_
  exact ⟨by rw [e2] <;> rfl, by rw [e2] <;> rfl⟩
theorem unary_ok {s : Bytes} (hs : s.length ≤ 1024) : ∀ (d dp : Nat), dp + d = 33 → ∀ p : Ps, p.i ≤ s.length → Fp Tryz.prog gT 167 [.l 1000 0, nI dp] (psC s p) (exS (unX parseV s d p).1) (psC s (unX parseV s d p).2)
  | 0, dp, h, p, hi => by
    have : dp = 33 := by omega
    subst this
    exact unary0_ok hi hs
  | d + 1, dp, h, p, hi => unaryS_ok (by omega) (fun p hi => unary_ok hs d (dp + 1) (by omega) p hi) hi hs
set_option maxRecDepth 100000 in
theorem mparse_ok {s : Bytes} : Fc Tryz.prog gT 20 [.str s] (.t [exS (parseX parseV s).1, nI (parseX parseV s).2.1, nI (parseX parseV s).2.2]) := by
 refine fb tOK (fn := Tryz.f20) 39 [.cell 2 29, .tmp 3, .tmp 4] Tryz.func20 Tryz.results20 (fun g0 B0 Q ρ0 R => ?_)
 refine en tOK 0 3 [] ?_
 refine sn tOK 0 3 [] ?_
 refine si 0 rfl rfl (fun h9 => ?_) (fun h9 => ?_)
 ·have e : parseX parseV s = (ex0, 1, 0) := by unfold parseX; rw [if_pos (by omega)]
  refine en tOK 0 4 [] ?_
  refine sr 0 R ?_
  rw [e]; rfl
 ·have hs : s.length ≤ 1024 := by omega
  obtain ⟨A, hA⟩ : ∃ A, A = exprX s (unX parseV s 33) 0 ⟨0, 0, 0, false⟩ := ⟨_, rfl⟩
  have hfA : A.2.i ≤ s.length := by rw [hA]; exact (expr_fit (un_fit 33) 0 _ (Nat.zero_le _)).2
  have e0 : parseX parseV s = (if (if A.2.restT s = [] then A.2.restP s else (A.2.restP s).fails 110 (A.2.restP s).i).dead then (ex0, (if A.2.restT s = [] then A.2.restP s else (A.2.restP s).fails 110 (A.2.restP s).i).err, (if A.2.restT s = [] then A.2.restP s else (A.2.restP s).fails 110 (A.2.restP s).i).at_) else (A.1, 0, 0)) := by unfold parseX; rw [if_neg (by omega), ← hA]
  have hE : Fp Tryz.prog gT 62 [.l 1000 0, nI ((0 : Nat) : Int)] (psC s ⟨0, 0, 0, false⟩) (exS A.1) (psC s A.2) := by rw [hA]; exact expr_ok (un_fit 33) (unary_ok hs 33 0 rfl) (Nat.zero_le _) hs
  refine en tOK 0 4 [] ?_
  refine smb 13 (mb' := psC s ⟨0, 0, 0, false⟩) ?_ ?_
  ·rfl
  refine sn tOK 0 1 [] ?_
  refine fp tOK 13 2 [] (hE) ?_
  refine sn tOK 0 1 [] ?_
  refine fp tOK 13 1 [] (rest_ok hfA hs) ?_
  refine si 0 rfl rfl (fun h18 => ?_) (fun h18 => ?_)
  ·obtain ⟨q2, hq2⟩ : ∃ q2, q2 = (A.2.restP s).fails 110 (A.2.restP s).i := ⟨_, rfl⟩
   have e3 : (if A.2.restT s = [] then A.2.restP s else (A.2.restP s).fails 110 (A.2.restP s).i) = q2 := by rw [hq2, if_neg h18]
   rw [e3] at e0
   refine en tOK 0 5 [] ?_
   refine fp tOK 13 0 [] (fails_ok) ?_
   refine smb 13 (mb' := psC s q2) ?_ ?_
   ·rw [hq2]
   refine sn tOK 0 4 [] ?_
   refine sib 0 rfl rfl (fun h28 => ?_) (fun h28 => ?_)
   ·have e : parseX parseV s = (ex0, q2.err, q2.at_) := by rw [e0, if_pos h28]
    refine edr 0 512 [0, 0, 2, 6, 14, 0, 32, 96, 224, 1, 543, 2047] [0, 1, 2, 3, 5, 6, 7, 9, 4, 8, 10, 11] ?_
    refine xd tOK 8 [] ?_
    refine dl tOK 0 [] ?_
    refine dl tOK 2 [] ?_
    refine xe ?_
    refine sr 0 R ?_
    rw [e]; rfl
   ·have e : parseX parseV s = (A.1, 0, 0) := by rw [e0, if_neg (by simp [h28])]
    refine en tOK 0 4 [] ?_
    refine sr 0 R ?_
    rw [e]; rfl
  ·obtain ⟨q2, hq2⟩ : ∃ q2, q2 = A.2.restP s := ⟨_, rfl⟩
   have e3 : (if A.2.restT s = [] then A.2.restP s else (A.2.restP s).fails 110 (A.2.restP s).i) = q2 := by rw [hq2, if_pos (Decidable.of_not_not h18)]
   rw [e3] at e0
   refine emb 13 (mb' := psC s q2) ?_ ?_
   ·rw [hq2]
   refine en tOK 0 4 [] ?_
   refine sib 0 rfl rfl (fun h28 => ?_) (fun h28 => ?_)
   ·have e : parseX parseV s = (ex0, q2.err, q2.at_) := by rw [e0, if_pos h28]
    refine edr 0 512 [0, 0, 2, 6, 14, 0, 32, 96, 224, 1, 543, 2047] [0, 1, 2, 3, 5, 6, 7, 9, 4, 8, 10, 11] ?_
    refine xd tOK 8 [] ?_
    refine dl tOK 0 [] ?_
    refine dl tOK 2 [] ?_
    refine xe ?_
    refine sr 0 R ?_
    rw [e]; rfl
   ·have e : parseX parseV s = (A.1, 0, 0) := by rw [e0, if_neg (by simp [h28])]
    refine en tOK 0 4 [] ?_
    refine sr 0 R ?_
    rw [e]; rfl
end Go.Proofs.YtomkgfdigldhcaaGreatDoor
namespace Go.Proofs.YtomkgfdigldhcaaGreatDoor
open Go.KX
set_option maxRecDepth 100000 in
theorem mrefs1_ok {x : Ex} (ih : ∀ y : Ex, exSize y < exSize x → Fc Tryz.prog gT 24 [exS y] (rB (refsX y))) (hz : exSize x ≤ 100000) : Fc Tryz.prog gT 24 [exS x] (rB (refsX x)) := by
 refine fb tOK (fn := Tryz.f24) 27 [.tmp 2] Tryz.func24 Tryz.results24 (fun g0 B0 Q ρ0 R => ?_)
 have e0 := refsX_eq x
 have hsz := exSize_eq x
 have hkl := kids_len x.kids
 refine en tOK 0 2 [] ?_
 refine sn tOK 0 3 [] ?_
 refine si 0 rfl rfl (fun h7 => ?_) (fun h7 => ?_)
 ·have e : refsX x = [x.name] := by rw [e0, if_pos h7]
  refine en tOK 0 4 [] ?_
  refine sr 0 R ?_
  rw [e]; rfl
 ·have e : refsX x = cmpB (sortL (refsL x.kids)) := by rw [e0, if_neg h7]
  refine en tOK 0 4 [] ?_
  refine sl 0 ?_
  refine eas 13 rfl (v' := nI x.kids.length) ?_ ?_
  ·rw [rowsE_len]
  refine eonl 2 902 9 1 ?_
  refine E_loop (σ := Nat) (fun j => j ≤ x.kids.length) (fun j => x.kids.length - j)
    (fun j => [(1, .l 1 0), (2, .o 902 (rowsB (refsL (x.kids.take j))).length), (12, .s (kz x.kids 5) (rowsE x.kids)), (13, nI x.kids.length), (14, nI j)])
    (fun j => [(902, .r 9 1 (rowsB (refsL (x.kids.take j)))), (1, .c 29 (exL x))]) 0 ?_ ?_
  ·exact Nat.zero_le _
  ·rintro J j hj0 hJ
   refine en tOK 0 1 [] ?_
   refine si 0 rfl rfl (fun h15 => ?_) (fun h15 => ?_)
   ·have hj : j < x.kids.length := by omega
    have hks := exSize_kid hj
    have hl1 := refs_lens (x.kids.take j)
    have hl2 := exSizes_take (l := x.kids) j
    have hl3 := refs_len x.kids[j]
    refine en tOK 0 4 [exL x.kids[j]] ?_ (hφ := by exact ⟨by omega, by simpa using rowsE_get hj⟩)
    refine sn tOK 0 2 [] ?_
    refine fc tOK 0 [] (ih x.kids[j] (by omega)) ?_
    refine sap tOK 1 [] rfl (fun _ => rfl) ?_ ?_
    ·show ((rowsB (refsL (x.kids.take j))).length + (rowsB (refsX x.kids[j])).length) * 16 ≤ _
     simp only [List.length_map]
     omega
    refine sn tOK 0 2 [] ?_
    refine sas 2 rfl (v' := .o 902 (rowsB (refsL (x.kids.take (j + 1)))).length) ?_ ?_
    ·rw [refsL_next hj]; simp
    refine smb 902 (mb' := .r 9 1 (rowsB (refsL (x.kids.take (j + 1))))) ?_ ?_
    ·rw [refsL_next hj]; simp
    exact hJ (j + 1) (by omega) (by omega)
   ·have ej : x.kids.take j = x.kids := List.take_of_length_le (by omega)
    rw [ej]
    have hl1 := refs_lens x.kids
    refine eas 2 rfl (v' := .o 902 (refsL x.kids).length) ?_ ?_
    ·simp
    refine en tOK 0 1 [] ?_
    refine fp tOK 902 0 [] (sortB_ok (l := refsL x.kids) (by omega)) ?_
    refine sas 2 rfl (v' := .o 902 (sortL (refsL x.kids)).length) ?_ ?_
    ·rw [sortL_len]
    refine sn tOK 0 1 [] ?_
    refine fp tOK 902 1 [] (compactB_ok (l := sortL (refsL x.kids)) (by rw [sortL_len]; omega)) ?_
    refine sezo 2 ?_ ?_ (hr := rowsB_len)
    ·simp
    refine sr 0 R ?_
    rw [e]; rfl
theorem mrefs_ok {x : Ex} (hz : exSize x ≤ 100000) : Fc Tryz.prog gT 24 [exS x] (rB (refsX x)) := by
  have key : ∀ (n : Nat) (x : Ex), exSize x ≤ n → n ≤ 100000 → Fc Tryz.prog gT 24 [exS x] (rB (refsX x)) := by
    intro n
    induction n with
    | zero => intro x h _; have := exSize_eq x; omega
    | succ n ih => intro x h hn; exact mrefs1_ok (fun y hy => ih y (by omega) (by omega)) (by omega)
  exact key _ x (Nat.le_refl _) hz
end Go.Proofs.YtomkgfdigldhcaaGreatDoor
namespace Go.Proofs.YtomkgfdigldhcaaGreatDoor
open Go.KX
set_option maxRecDepth 100000 in
theorem idxV_ok {l : List Val} {fn : FuncId} {p : Val → Bool} (hs : ∀ v ∈ l, Fc Tryz.prog gT fn [vS v] (bS (p v))) : Fc Tryz.prog gT 221 [rV l, .f fn [] []] (nI (idxF p l)) := by
 refine fb tOK (fn := Tryz.f221) 19 [.tmp 4] Tryz.func221 Tryz.results221 (fun g0 B0 Q ρ0 R => ?_)
 refine en tOK 0 1 [] ?_
 refine sn tOK 0 3 [] ?_
 refine sl 0 ?_
 refine E_loop (σ := Nat) (fun j => j ≤ l.length ∧ ∀ x ∈ l.take j, p x = false) (fun j => l.length - j)
   (fun j => [(0, rV l), (1, .f fn [] []), (4, nI 0), (7, nI l.length), (8, nI j)])
   (fun j => []) 0 ?_ ?_
 ·exact ⟨Nat.zero_le _, by simp⟩
 ·rintro J j ⟨hj0, hj1⟩ hJ
  refine elen 0 rfl (fun hl => ?_)
  simp only [List.length_map] at hl
  refine en tOK 0 1 [] ?_
  refine si 0 rfl rfl (fun h9 => ?_) (fun h9 => ?_)
  ·have hj : j < l.length := by omega
   refine en tOK 0 2 [] ?_
   refine sn tOK 0 5 [[nI l[j].k, nI l[j].n]] ?_ (hφ := by exact ⟨by omega, row_at _ hj⟩)
   refine fc tOK 0 [] (hs l[j] (List.getElem_mem hj)) ?_
   refine sib 0 rfl rfl (fun h16 => ?_) (fun h16 => ?_)
   ·have e := idxF_some hj hj1 h16
    refine en tOK 0 2 [] ?_
    refine sr 0 R ?_
    rw [e]; rfl
   ·have hx := h16
    refine en tOK 0 2 [] ?_
    exact hJ (j + 1) ⟨by omega, take_next hj hj1 hx⟩ (by omega)
  ·have e := idxF_none (p := p) (fun x hx => hj1 x (by rw [List.take_of_length_le (by omega)]; exact hx))
   refine en tOK 0 1 [] ?_
   refine sr 0 R ?_
   rw [e]; rfl
set_option maxRecDepth 100000 in
theorem contV_ok {l : List Val} {fn : FuncId} {p : Val → Bool} (hs : ∀ v ∈ l, Fc Tryz.prog gT fn [vS v] (bS (p v))) : Fc Tryz.prog gT 146 [rV l, .f fn [] []] (bS (l.any p)) := by
 refine fb tOK (fn := Tryz.f146) 9 [.tmp 4] Tryz.func146 Tryz.results146 (fun g0 B0 Q ρ0 R => ?_)
 refine en tOK 0 1 [] ?_
 refine sn tOK 0 2 [] ?_
 refine fc tOK 2 [] (idxV_ok (p := p) hs) ?_
 refine sr 0 R ?_
 rw [← idxF_any]; rfl
set_option maxRecDepth 100000 in
theorem vcheck1_ok {v : Val} : Fc Tryz.prog gT 147 [vS v] (bS (!isV v)) := by
 refine fb tOK (fn := Tryz.f147) 6 [.tmp 2] Tryz.func147 Tryz.results147 (fun g0 B0 Q ρ0 R => ?_)
 refine en tOK 0 2 [] ?_
 refine sn tOK 0 1 [] ?_
 refine fc tOK 2 [] (vis_ok) ?_
 refine sr 0 R ?_
 rfl
set_option maxRecDepth 100000 in
theorem vcheck_ok {l : List Val} : Fc Tryz.prog gT 101 [rV l] (nI (if l.all isV then 0 else 80)) := by
 refine fb tOK (fn := Tryz.f101) 5 [.tmp 2] Tryz.func101 Tryz.results101 (fun g0 B0 Q ρ0 R => ?_)
 refine en tOK 0 1 [] ?_
 refine sn tOK 0 1 [] ?_
 refine fc tOK 0 [] (contV_ok (p := fun v => !isV v) (fun v _ => vcheck1_ok)) ?_
 refine sib 0 rfl rfl (fun h4 => ?_) (fun h4 => ?_)
 ·have e : ¬ l.all isV = true := by simpa using h4
  refine en tOK 0 1 [] ?_
  refine sr 0 R ?_
  first | (rw [if_pos e]; rfl) | (rw [if_neg e]; rfl)
 ·have e : l.all isV = true := by simpa using h4
  refine en tOK 0 1 [] ?_
  refine sr 0 R ?_
  first | (rw [if_pos e]; rfl) | (rw [if_neg e]; rfl)
end Go.Proofs.YtomkgfdigldhcaaGreatDoor
namespace Go.Proofs.YtomkgfdigldhcaaGreatDoor
open Go.KX
set_option maxRecDepth 100000 in
theorem val_eqD {w : World} (d : Nat) (a b : Val) : (Op.eqFields (d + 1) #[.int .i64 a.k, .int .i64 a.n] #[.int .i64 b.k, .int .i64 b.n] (match Tryz.prog.underlying 26 with | some (.struct fl) => fl | _ => #[]).toList).run Tryz.prog w = .ok (decide (a = b)) w := by
  rw [Tryz.underlying26]
  dsimp only
  rw [eqF_int (by decide) Tryz.underlying3 rfl rfl, eqF_int (by decide) Tryz.underlying2 rfl rfl]
  obtain ⟨k, n⟩ := a
  obtain ⟨k2, n2⟩ := b
  by_cases h1 : k = k2 <;> by_cases h2 : n = n2 <;> simp [h1, h2, Op.eqFields]
set_option maxRecDepth 100000 in
theorem node_eq {w : World} (a b : Nd) : (Op.eqFields 9999 #[str a.ref, .int .i64 a.kind, str a.source, str a.input, str a.how, .bool a.strict, .int .i64 a.low.k, .int .i64 a.low.n, .int .i64 a.high.k, .int .i64 a.high.n, str a.text] #[str b.ref, .int .i64 b.kind, str b.source, str b.input, str b.how, .bool b.strict, .int .i64 b.low.k, .int .i64 b.low.n, .int .i64 b.high.k, .int .i64 b.high.n, str b.text] (match Tryz.prog.underlying 65 with | some (.struct fl) => fl | _ => #[]).toList).run Tryz.prog w = .ok (decide (a = b)) w := by
  have v1 := val_eqD (w := w) 9997 a.low b.low
  have v2 := val_eqD (w := w) 9997 a.high b.high
  rw [Tryz.underlying26] at v1 v2
  rw [Tryz.underlying65]
  dsimp only at v1 v2 ⊢
  rw [eqF_str (by decide) Tryz.underlying9 rfl rfl, eqF_int (by decide) Tryz.underlying3 rfl rfl, eqF_str (by decide) Tryz.underlying9 rfl rfl, eqF_str (by decide) Tryz.underlying9 rfl rfl, eqF_str (by decide) Tryz.underlying9 rfl rfl, eqF_bool (by decide) Tryz.underlying4 rfl rfl,
    eqF_st (sz := 2) (by decide) Tryz.underlying26 (by kernel_rfl) tk26.ti v1, eqF_st (sz := 2) (by decide) Tryz.underlying26 (by kernel_rfl) tk26.ti v2, eqF_str (by decide) Tryz.underlying9 rfl rfl]
  obtain ⟨a1, a2, a3, a4, a5, a6, a7, a8, a9⟩ := a
  obtain ⟨b1, b2, b3, b4, b5, b6, b7, b8, b9⟩ := b
  simp only [Nd.mk.injEq, decide_eq_true_eq]
  repeat (split <;> (try simp_all [Op.eqFields]))
set_option maxRecDepth 100000 in
theorem inputs_ok {n : Nd} : Fc Tryz.prog gT 32 [ndS n] (rB (inputsN n)) := by
 refine fb tOK (fn := Tryz.f32) 27 [.tmp 2] Tryz.func32 Tryz.results32 (fun g0 B0 Q ρ0 R => ?_)
 refine en tOK 0 2 [] ?_
 refine sn tOK 0 2 [] ?_
 refine sn tOK 0 2 [] ?_
 refine si 0 rfl rfl (fun h8 => ?_) (fun h8 => ?_)
 ·refine ei 0 rfl rfl (fun h8 => ?_) (fun h8 => ?_)
  ·refine en tOK 0 4 [] ?_
   first
    | (refine sr 0 R ?_; rw [show inputsN n = [n.input] by unfold inputsN; simp_all]; rfl)
    | (refine sr 0 R ?_; rw [show inputsN n = refsX (parseX parseV n.text).1 by unfold inputsN; simp_all]; rfl)
    | (refine sdn 2 (v' := .s 1 []) rfl (fun g ρ x h => den_s0 (by decide) h) ?_; refine sr 0 R ?_; rw [show inputsN n = [] by unfold inputsN; simp_all]; rfl)
  ·exact absurd ‹n.kind = 2› h8
 ·refine en tOK 0 2 [] ?_
  refine si 0 rfl rfl (fun h8 => ?_) (fun h8 => ?_)
  ·refine en tOK 0 4 [] ?_
   first
    | (refine sr 0 R ?_; rw [show inputsN n = [n.input] by unfold inputsN; simp_all]; rfl)
    | (refine sr 0 R ?_; rw [show inputsN n = refsX (parseX parseV n.text).1 by unfold inputsN; simp_all]; rfl)
    | (refine sdn 2 (v' := .s 1 []) rfl (fun g ρ x h => den_s0 (by decide) h) ?_; refine sr 0 R ?_; rw [show inputsN n = [] by unfold inputsN; simp_all]; rfl)
  ·refine en tOK 0 2 [] ?_
   refine si 0 rfl rfl (fun h14 => ?_) (fun h14 => ?_)
   ·refine en tOK 0 2 [] ?_
    refine fc tOK 8 [] (mparse_ok) ?_
    refine sn tOK 0 2 [] ?_
    refine si 0 rfl rfl (fun h24 => ?_) (fun h24 => ?_)
    ·refine en tOK 0 1 [] ?_
     refine fc tOK 1 [] (mrefs_ok (x := (parseX parseV n.text).1) (Nat.le_trans parse_sz (by decide))) ?_
     first
      | (refine sr 0 R ?_; rw [show inputsN n = [n.input] by unfold inputsN; simp_all]; rfl)
      | (refine sr 0 R ?_; rw [show inputsN n = refsX (parseX parseV n.text).1 by unfold inputsN; simp_all]; rfl)
      | (refine sdn 2 (v' := .s 1 []) rfl (fun g ρ x h => den_s0 (by decide) h) ?_; refine sr 0 R ?_; rw [show inputsN n = [] by unfold inputsN; simp_all]; rfl)
    ·refine en tOK 0 1 [] ?_
     first
      | (refine sr 0 R ?_; rw [show inputsN n = [n.input] by unfold inputsN; simp_all]; rfl)
      | (refine sr 0 R ?_; rw [show inputsN n = refsX (parseX parseV n.text).1 by unfold inputsN; simp_all]; rfl)
      | (refine sdn 2 (v' := .s 1 []) rfl (fun g ρ x h => den_s0 (by decide) h) ?_; refine sr 0 R ?_; rw [show inputsN n = [] by unfold inputsN; simp_all]; rfl)
   ·refine en tOK 0 1 [] ?_
    first
     | (refine sr 0 R ?_; rw [show inputsN n = [n.input] by unfold inputsN; simp_all]; rfl)
     | (refine sr 0 R ?_; rw [show inputsN n = refsX (parseX parseV n.text).1 by unfold inputsN; simp_all]; rfl)
     | (refine sdn 2 (v' := .s 1 []) rfl (fun g ρ x h => den_s0 (by decide) h) ?_; refine sr 0 R ?_; rw [show inputsN n = [] by unfold inputsN; simp_all]; rfl)
set_option maxRecDepth 100000 in
theorem bound_ok {v : Val} : Fc Tryz.prog gT 128 [vS v] (bS (boundV v)) := by
 refine fb tOK (fn := Tryz.f128) 17 [.tmp 2] Tryz.func128 Tryz.results128 (fun g0 B0 Q ρ0 R => ?_)
 refine en tOK 0 2 [] ?_
 refine sn tOK 0 2 [] ?_
 refine fc tOK 12 [] (vcheck_ok (l := [v])) ?_
 refine sr 0 R ?_
 have e : (decide ((if [v].all isV = true then (0 : Int) else 80) = 0) && decide (¬ v.k = 2) && decide (¬ v.k = 3)) = boundV v := by unfold boundV; cases h : isV v <;> simp [h]
 exact congrArg (fun b => SV.v (.bool b)) e
set_option maxRecDepth 100000 in
theorem plain_ok {n : Nd} : Fc Tryz.prog gT 126 [ndS n] (ndS (plainN n)) := by
 refine fb tOK (fn := Tryz.f126) 55 [.cell 2 65] Tryz.func126 Tryz.results126 (fun g0 B0 Q ρ0 R => ?_)
 refine en tOK 0 2 [] ?_
 refine sn tOK 0 7 [] ?_
 refine sn tOK 0 2 [] ?_
 refine sn tOK 0 2 [] ?_
 refine si 0 rfl rfl (fun h11 => ?_) (fun h11 => ?_)
 ·refine en tOK 0 4 [] ?_
  refine sn tOK 0 2 [] ?_
  refine sr 0 R ?_
  first
   | (rw [show plainN n = ⟨n.ref, n.kind, n.source, [], [], false, zeroV, zeroV, []⟩ by unfold plainN; simp_all]; rfl)
   | (rw [show plainN n = ⟨n.ref, n.kind, [], n.input, n.how, n.strict, zeroV, zeroV, []⟩ by unfold plainN; simp_all]; rfl)
   | (rw [show plainN n = ⟨n.ref, n.kind, [], [], [], false, zeroV, zeroV, n.text⟩ by unfold plainN; simp_all]; rfl)
   | (rw [show plainN n = ⟨n.ref, n.kind, [], n.input, n.how, false, n.low, n.high, []⟩ by unfold plainN; simp_all]; rfl)
   | (rw [show plainN n = ⟨n.ref, n.kind, [], n.input, n.how, false, n.low, zeroV, []⟩ by unfold plainN; simp_all]; rfl)
   | (rw [show plainN n = ⟨n.ref, n.kind, [], [], [], false, zeroV, zeroV, []⟩ by unfold plainN; simp_all]; rfl)
 ·refine en tOK 0 2 [] ?_
  refine si 0 rfl rfl (fun h16 => ?_) (fun h16 => ?_)
  ·refine edr 0 2688 [0, 1, 0, 4, 0, 16, 3, 67, 207, 463, 1023, 2047] [0, 1, 2, 4, 6, 8, 10, 7, 3, 9, 5, 11] ?_
   refine xd tOK 8 [] ?_
   refine dl tOK 1 [] ?_
   refine dl tOK 1 [] ?_
   refine xe ?_
   refine sn tOK 0 2 [] ?_
   refine sr 0 R ?_
   first
    | (rw [show plainN n = ⟨n.ref, n.kind, n.source, [], [], false, zeroV, zeroV, []⟩ by unfold plainN; simp_all]; rfl)
    | (rw [show plainN n = ⟨n.ref, n.kind, [], n.input, n.how, n.strict, zeroV, zeroV, []⟩ by unfold plainN; simp_all]; rfl)
    | (rw [show plainN n = ⟨n.ref, n.kind, [], [], [], false, zeroV, zeroV, n.text⟩ by unfold plainN; simp_all]; rfl)
    | (rw [show plainN n = ⟨n.ref, n.kind, [], n.input, n.how, false, n.low, n.high, []⟩ by unfold plainN; simp_all]; rfl)
    | (rw [show plainN n = ⟨n.ref, n.kind, [], n.input, n.how, false, n.low, zeroV, []⟩ by unfold plainN; simp_all]; rfl)
    | (rw [show plainN n = ⟨n.ref, n.kind, [], [], [], false, zeroV, zeroV, []⟩ by unfold plainN; simp_all]; rfl)
  ·refine en tOK 0 2 [] ?_
   refine si 0 rfl rfl (fun h27 => ?_) (fun h27 => ?_)
   ·refine en tOK 0 4 [] ?_
    refine sn tOK 0 2 [] ?_
    refine sr 0 R ?_
    first
     | (rw [show plainN n = ⟨n.ref, n.kind, n.source, [], [], false, zeroV, zeroV, []⟩ by unfold plainN; simp_all]; rfl)
     | (rw [show plainN n = ⟨n.ref, n.kind, [], n.input, n.how, n.strict, zeroV, zeroV, []⟩ by unfold plainN; simp_all]; rfl)
     | (rw [show plainN n = ⟨n.ref, n.kind, [], [], [], false, zeroV, zeroV, n.text⟩ by unfold plainN; simp_all]; rfl)
     | (rw [show plainN n = ⟨n.ref, n.kind, [], n.input, n.how, false, n.low, n.high, []⟩ by unfold plainN; simp_all]; rfl)
     | (rw [show plainN n = ⟨n.ref, n.kind, [], n.input, n.how, false, n.low, zeroV, []⟩ by unfold plainN; simp_all]; rfl)
     | (rw [show plainN n = ⟨n.ref, n.kind, [], [], [], false, zeroV, zeroV, []⟩ by unfold plainN; simp_all]; rfl)
   ·refine en tOK 0 2 [] ?_
    refine si 0 rfl rfl (fun h32 => ?_) (fun h32 => ?_)
    ·refine edr 0 2688 [0, 1, 0, 4, 0, 16, 3, 67, 207, 463, 1023, 2047] [0, 1, 2, 4, 6, 8, 10, 7, 3, 9, 5, 11] ?_
     refine xd tOK 8 [] ?_
     refine dl tOK 1 [] ?_
     refine dl tOK 1 [] ?_
     refine xe ?_
     refine sn tOK 0 8 [] ?_
     refine sib 0 rfl rfl (fun h50 => ?_) (fun h50 => ?_)
     ·refine en tOK 0 4 [] ?_
      refine sn tOK 0 2 [] ?_
      refine sr 0 R ?_
      first
       | (rw [show plainN n = ⟨n.ref, n.kind, n.source, [], [], false, zeroV, zeroV, []⟩ by unfold plainN; simp_all]; rfl)
       | (rw [show plainN n = ⟨n.ref, n.kind, [], n.input, n.how, n.strict, zeroV, zeroV, []⟩ by unfold plainN; simp_all]; rfl)
       | (rw [show plainN n = ⟨n.ref, n.kind, [], [], [], false, zeroV, zeroV, n.text⟩ by unfold plainN; simp_all]; rfl)
       | (rw [show plainN n = ⟨n.ref, n.kind, [], n.input, n.how, false, n.low, n.high, []⟩ by unfold plainN; simp_all]; rfl)
       | (rw [show plainN n = ⟨n.ref, n.kind, [], n.input, n.how, false, n.low, zeroV, []⟩ by unfold plainN; simp_all]; rfl)
       | (rw [show plainN n = ⟨n.ref, n.kind, [], [], [], false, zeroV, zeroV, []⟩ by unfold plainN; simp_all]; rfl)
     ·refine en tOK 0 2 [] ?_
      refine sr 0 R ?_
      first
       | (rw [show plainN n = ⟨n.ref, n.kind, n.source, [], [], false, zeroV, zeroV, []⟩ by unfold plainN; simp_all]; rfl)
       | (rw [show plainN n = ⟨n.ref, n.kind, [], n.input, n.how, n.strict, zeroV, zeroV, []⟩ by unfold plainN; simp_all]; rfl)
       | (rw [show plainN n = ⟨n.ref, n.kind, [], [], [], false, zeroV, zeroV, n.text⟩ by unfold plainN; simp_all]; rfl)
       | (rw [show plainN n = ⟨n.ref, n.kind, [], n.input, n.how, false, n.low, n.high, []⟩ by unfold plainN; simp_all]; rfl)
       | (rw [show plainN n = ⟨n.ref, n.kind, [], n.input, n.how, false, n.low, zeroV, []⟩ by unfold plainN; simp_all]; rfl)
       | (rw [show plainN n = ⟨n.ref, n.kind, [], [], [], false, zeroV, zeroV, []⟩ by unfold plainN; simp_all]; rfl)
    ·refine en tOK 0 2 [] ?_
     refine sr 0 R ?_
     first
      | (rw [show plainN n = ⟨n.ref, n.kind, n.source, [], [], false, zeroV, zeroV, []⟩ by unfold plainN; simp_all]; rfl)
      | (rw [show plainN n = ⟨n.ref, n.kind, [], n.input, n.how, n.strict, zeroV, zeroV, []⟩ by unfold plainN; simp_all]; rfl)
      | (rw [show plainN n = ⟨n.ref, n.kind, [], [], [], false, zeroV, zeroV, n.text⟩ by unfold plainN; simp_all]; rfl)
      | (rw [show plainN n = ⟨n.ref, n.kind, [], n.input, n.how, false, n.low, n.high, []⟩ by unfold plainN; simp_all]; rfl)
      | (rw [show plainN n = ⟨n.ref, n.kind, [], n.input, n.how, false, n.low, zeroV, []⟩ by unfold plainN; simp_all]; rfl)
      | (rw [show plainN n = ⟨n.ref, n.kind, [], [], [], false, zeroV, zeroV, []⟩ by unfold plainN; simp_all]; rfl)
end Go.Proofs.YtomkgfdigldhcaaGreatDoor
namespace Go.Proofs.YtomkgfdigldhcaaGreatDoor
open Go.KX
theorem den_nil : ∀ g ρ x, Den g ρ (.s 0 []) x → Den g ρ (.v (.slice none 0 0)) x := fun g ρ x h => by
  cases h with
  | s xs _ _ _ _ ho _ _ =>
    obtain ⟨rfl, rfl⟩ := ho.2 rfl
    exact .v
set_option maxRecDepth 100000 in
theorem idxP0_ok {fn : FuncId} : Fc Tryz.prog gT 274 [.s 0 [], .f fn [] []] (nI (-1)) := by
 refine fb tOK (fn := Tryz.f274) 19 [.tmp 4] Tryz.func274 Tryz.results274 (fun g0 B0 Q ρ0 R => ?_)
 refine en tOK 0 1 [] ?_
 refine sn tOK 0 3 [] ?_
 refine sl 0 ?_
 refine E_loop (σ := Unit) (fun _u => True) (fun _u => 0)
   (fun _u => [(0, .s 0 []), (1, .f fn [] []), (7, nI 0), (8, nI 0)])
   (fun _u => []) () ?_ ?_
 ·exact trivial
 ·rintro J _u _ hJ
  refine en tOK 0 1 [] ?_
  refine sn tOK 1 1 [] ?_
  refine sr 0 R ?_
  rfl
set_option maxRecDepth 100000 in
theorem contP0_ok {fn : FuncId} : Fc Tryz.prog gT 196 [.s 0 [], .f fn [] []] (bS false) := by
 refine fb tOK (fn := Tryz.f196) 9 [.tmp 4] Tryz.func196 Tryz.results196 (fun g0 B0 Q ρ0 R => ?_)
 refine en tOK 0 1 [] ?_
 refine sn tOK 0 2 [] ?_
 refine fc tOK 2 [] (idxP0_ok) ?_
 refine sr 0 R ?_
 rfl
set_option maxRecDepth 100000 in
theorem delP0_ok {fn : FuncId} : Fc Tryz.prog gT 198 [.s 0 [], .f fn [] []] (.s 0 []) := by
 refine fb tOK (fn := Tryz.f198) 42 [.tmp 4] Tryz.func198 Tryz.results198 (fun g0 B0 Q ρ0 R => ?_)
 refine en tOK 0 1 [] ?_
 refine sn tOK 0 2 [] ?_
 refine fc tOK 1 [] (idxP0_ok) ?_
 refine sn tOK 0 2 [] ?_
 refine sn tOK 1 2 [] ?_
 refine sr 0 R ?_
 rfl
set_option maxRecDepth 100000 in
theorem cloneP0_ok  : Fc Tryz.prog gT 199 [.s 0 []] (.s 0 []) := by
 refine fb tOK (fn := Tryz.f199) 8 [.tmp 2] Tryz.func199 Tryz.results199 (fun g0 B0 Q ρ0 R => ?_)
 refine en tOK 0 1 [] ?_
 refine sn tOK 0 1 [] ?_
 refine sdn 3 rfl (v' := .v (.slice none 0 0)) den_nil ?_
 refine knc tOK 0 [] (.bool true) (fun w => by kernel_rfl) ?_
 refine sn tOK 1 1 [] ?_
 refine sr 0 R ?_
 rfl
set_option maxRecDepth 100000 in
theorem many0_ok  : Fc Tryz.prog gT 202 [.s 0 []] (vS (numV 0)) := by
 refine fb tOK (fn := Tryz.f202) 7 [.cell 2 26] Tryz.func202 Tryz.results202 (fun g0 B0 Q ρ0 R => ?_)
 refine en tOK 0 1 [] ?_
 refine sn tOK 0 3 [] ?_
 refine fc tOK 1 [] (vnum_ok) ?_
 refine sr 0 R ?_
 rfl
set_option maxRecDepth 100000 in
theorem red0_ok {how : Bytes} {strict : Bool} : Fc Tryz.prog gT 127 [.str how, bS strict, .s 0 []] (.t [vS (red0 how).1, nI (red0 how).2]) := by
 refine fb tOK (fn := Tryz.f127) 70 [.cell 6 26, .tmp 7] Tryz.func127 Tryz.results127 (fun g0 B0 Q ρ0 R => ?_)
 refine en tOK 0 2 [] ?_
 refine sn tOK 0 2 [] ?_
 refine fc tOK 2 [] (contB_ok (l := hows)) ?_
 refine sib 0 rfl rfl (fun h8 => ?_) (fun h8 => ?_)
 ·have e : red0 how = (zeroV, 100) := by unfold red0; rw [if_neg (by simpa using h8)]
  refine en tOK 0 3 [] ?_
  refine sr 0 R ?_
  rw [e]; rfl
 ·have hm : how ∈ hows := by simpa using h8
  refine en tOK 0 4 [] ?_
  refine sn tOK 1 1 [] ?_
  refine fc tOK 1 [] (contP0_ok) ?_
  refine sn tOK 1 2 [] ?_
  refine sib 0 rfl rfl (fun h24 => ?_) (fun h24 => ?_)
  ·refine en tOK 0 1 [] ?_
   refine fc tOK 0 [] (cloneP0_ok) ?_
   refine fc tOK 1 [] (delP0_ok) ?_
   refine sn tOK 0 3 [] ?_
   refine si 0 rfl rfl (fun h28 => ?_) (fun h28 => ?_)
   ·have e : red0 how = (numV 0, 0) := by unfold red0; rw [if_pos hm, if_pos h28]
    refine en tOK 0 1 [] ?_
    refine fc tOK 2 [] (many0_ok) ?_
    refine sr 0 R ?_
    rw [e]; rfl
   ·have e : red0 how = (nullV, 0) := by unfold red0; rw [if_pos hm, if_neg h28]
    refine en tOK 0 4 [] ?_
    refine sn tOK 1 0 [] ?_
    refine fc tOK 2 [] (vnull_ok) ?_
    refine sr 0 R ?_
    rw [e]; rfl
  ·refine en tOK 0 3 [] ?_
   refine si 0 rfl rfl (fun h28 => ?_) (fun h28 => ?_)
   ·have e : red0 how = (numV 0, 0) := by unfold red0; rw [if_pos hm, if_pos h28]
    refine en tOK 0 1 [] ?_
    refine fc tOK 2 [] (many0_ok) ?_
    refine sr 0 R ?_
    rw [e]; rfl
   ·have e : red0 how = (nullV, 0) := by unfold red0; rw [if_pos hm, if_neg h28]
    refine en tOK 0 4 [] ?_
    refine sn tOK 1 0 [] ?_
    refine fc tOK 2 [] (vnull_ok) ?_
    refine sr 0 R ?_
    rw [e]; rfl
set_option maxRecDepth 100000 in
theorem is_ok {n : Nd} (hr : n.ref.length ≤ 1000000) : Fc Tryz.prog gT 77 [ndS n] (bS (isN n)) := by
 refine fb tOK (fn := Tryz.f77) 75 [.tmp 2] Tryz.func77 Tryz.results77 (fun g0 B0 Q ρ0 R => ?_)
 refine en tOK 0 2 [] ?_
 refine sdr 0 0 [0, 1, 3, 7, 15, 31, 31, 95, 255, 511] [0, 1, 2, 3, 4, 5, 6, 7, 8, 9] ?_
 refine xd tOK 2 [] ?_
 refine dc tOK 4 [] (ref_ok hr) ?_
 refine dg tOK 0 [] (fun hg => plain_ok) ?_
 refine dsq tOK 1 [] true (b := decide (n = plainN n)) Tryz.underlying65 (by kernel_rfl) (fun w => node_eq _ _) ?_
 refine xe ?_
 refine sib 0 rfl rfl (fun h17 => ?_) (fun h17 => ?_)
 ·have e : isN n = false := by unfold isN; rw [if_pos h17]
  refine en tOK 0 1 [] ?_
  refine sr 0 R ?_
  first
   | (rw [e]; rfl)
   | (rw [e0, isK1 h20]; rfl)
   | (rw [e0, isK2 h31]; rfl)
   | (rw [e0, isK3 h43]; rfl)
   | (rw [e0, isK4a h54 (.inl hh)]; rfl)
   | (rw [e0, isK4a h54 (.inr hh)]; rfl)
   | (rw [e0, isK4b h54 hng hnl (.inl hh2)]; rfl)
   | (rw [e0, isK4b h54 hng hnl (.inr hh2)]; rfl)
   | (rw [e0, isK4c h54 hng hnl hni hno]; rfl)
   | (rw [e0, isK0 h20 h31 h43 h54]; rfl)
 ·have e0 : isN n = isK n := by unfold isN; rw [if_neg (by simp only [Bool.not_eq_true]; exact h17)]
  refine en tOK 0 2 [] ?_
  refine sn tOK 0 2 [] ?_
  refine si 0 rfl rfl (fun h20 => ?_) (fun h20 => ?_)
  ·refine en tOK 0 10 [] ?_
   refine sr 0 R ?_
   first
    | (rw [e]; rfl)
    | (rw [e0, isK1 h20]; rfl)
    | (rw [e0, isK2 h31]; rfl)
    | (rw [e0, isK3 h43]; rfl)
    | (rw [e0, isK4a h54 (.inl hh)]; rfl)
    | (rw [e0, isK4a h54 (.inr hh)]; rfl)
    | (rw [e0, isK4b h54 hng hnl (.inl hh2)]; rfl)
    | (rw [e0, isK4b h54 hng hnl (.inr hh2)]; rfl)
    | (rw [e0, isK4c h54 hng hnl hni hno]; rfl)
    | (rw [e0, isK0 h20 h31 h43 h54]; rfl)
  ·refine en tOK 0 2 [] ?_
   refine si 0 rfl rfl (fun h31 => ?_) (fun h31 => ?_)
   ·refine en tOK 0 4 [] ?_
    refine fc tOK 6 [] (red0_ok) ?_
    refine sn tOK 0 3 [] ?_
    refine sr 0 R ?_
    first
     | (rw [e]; rfl)
     | (rw [e0, isK1 h20]; rfl)
     | (rw [e0, isK2 h31]; rfl)
     | (rw [e0, isK3 h43]; rfl)
     | (rw [e0, isK4a h54 (.inl hh)]; rfl)
     | (rw [e0, isK4a h54 (.inr hh)]; rfl)
     | (rw [e0, isK4b h54 hng hnl (.inl hh2)]; rfl)
     | (rw [e0, isK4b h54 hng hnl (.inr hh2)]; rfl)
     | (rw [e0, isK4c h54 hng hnl hni hno]; rfl)
     | (rw [e0, isK0 h20 h31 h43 h54]; rfl)
   ·refine en tOK 0 2 [] ?_
    refine si 0 rfl rfl (fun h43 => ?_) (fun h43 => ?_)
    ·refine en tOK 0 2 [] ?_
     refine fc tOK 8 [] (mparse_ok) ?_
     refine sn tOK 0 3 [] ?_
     refine sr 0 R ?_
     first
      | (rw [e]; rfl)
      | (rw [e0, isK1 h20]; rfl)
      | (rw [e0, isK2 h31]; rfl)
      | (rw [e0, isK3 h43]; rfl)
      | (rw [e0, isK4a h54 (.inl hh)]; rfl)
      | (rw [e0, isK4a h54 (.inr hh)]; rfl)
      | (rw [e0, isK4b h54 hng hnl (.inl hh2)]; rfl)
      | (rw [e0, isK4b h54 hng hnl (.inr hh2)]; rfl)
      | (rw [e0, isK4c h54 hng hnl hni hno]; rfl)
      | (rw [e0, isK0 h20 h31 h43 h54]; rfl)
    ·refine en tOK 0 2 [] ?_
     refine si 0 rfl rfl (fun h54 => ?_) (fun h54 => ?_)
     ·refine en tOK 0 2 [] ?_
      refine sn tOK 0 2 [] ?_
      refine si 0 rfl rfl (fun h58 => ?_) (fun h58 => ?_)
      ·have hh := h58
       refine ei 0 rfl rfl (fun h58 => ?_) (fun h58 => ?_)
       ·have hh := h58
        refine en tOK 0 2 [] ?_
        refine fc tOK 1 [] (bound_ok) ?_
        refine sr 0 R ?_
        first
         | (rw [e]; rfl)
         | (rw [e0, isK1 h20]; rfl)
         | (rw [e0, isK2 h31]; rfl)
         | (rw [e0, isK3 h43]; rfl)
         | (rw [e0, isK4a h54 (.inl hh)]; rfl)
         | (rw [e0, isK4a h54 (.inr hh)]; rfl)
         | (rw [e0, isK4b h54 hng hnl (.inl hh2)]; rfl)
         | (rw [e0, isK4b h54 hng hnl (.inr hh2)]; rfl)
         | (rw [e0, isK4c h54 hng hnl hni hno]; rfl)
         | (rw [e0, isK0 h20 h31 h43 h54]; rfl)
       ·exact absurd hh h58
      ·have hng := h58
       refine en tOK 0 2 [] ?_
       refine si 0 rfl rfl (fun h58 => ?_) (fun h58 => ?_)
       ·have hh := h58
        refine en tOK 0 2 [] ?_
        refine fc tOK 1 [] (bound_ok) ?_
        refine sr 0 R ?_
        first
         | (rw [e]; rfl)
         | (rw [e0, isK1 h20]; rfl)
         | (rw [e0, isK2 h31]; rfl)
         | (rw [e0, isK3 h43]; rfl)
         | (rw [e0, isK4a h54 (.inl hh)]; rfl)
         | (rw [e0, isK4a h54 (.inr hh)]; rfl)
         | (rw [e0, isK4b h54 hng hnl (.inl hh2)]; rfl)
         | (rw [e0, isK4b h54 hng hnl (.inr hh2)]; rfl)
         | (rw [e0, isK4c h54 hng hnl hni hno]; rfl)
         | (rw [e0, isK0 h20 h31 h43 h54]; rfl)
       ·have hnl := h58
        refine en tOK 0 2 [] ?_
        refine si 0 rfl rfl (fun h64 => ?_) (fun h64 => ?_)
        ·have hh2 := h64
         refine ei 0 rfl rfl (fun h64 => ?_) (fun h64 => ?_)
         ·have hh2 := h64
          refine en tOK 0 2 [] ?_
          refine fc tOK 3 [] (bound_ok) ?_
          refine fg tOK 2 [] (fun hg => bound_ok) ?_
          refine sr 0 R ?_
          first
           | (rw [e]; rfl)
           | (rw [e0, isK1 h20]; rfl)
           | (rw [e0, isK2 h31]; rfl)
           | (rw [e0, isK3 h43]; rfl)
           | (rw [e0, isK4a h54 (.inl hh)]; rfl)
           | (rw [e0, isK4a h54 (.inr hh)]; rfl)
           | (rw [e0, isK4b h54 hng hnl (.inl hh2)]; rfl)
           | (rw [e0, isK4b h54 hng hnl (.inr hh2)]; rfl)
           | (rw [e0, isK4c h54 hng hnl hni hno]; rfl)
           | (rw [e0, isK0 h20 h31 h43 h54]; rfl)
         ·exact absurd hh2 h64
        ·have hni := h64
         refine en tOK 0 2 [] ?_
         refine si 0 rfl rfl (fun h64 => ?_) (fun h64 => ?_)
         ·have hh2 := h64
          refine en tOK 0 2 [] ?_
          refine fc tOK 3 [] (bound_ok) ?_
          refine fg tOK 2 [] (fun hg => bound_ok) ?_
          refine sr 0 R ?_
          first
           | (rw [e]; rfl)
           | (rw [e0, isK1 h20]; rfl)
           | (rw [e0, isK2 h31]; rfl)
           | (rw [e0, isK3 h43]; rfl)
           | (rw [e0, isK4a h54 (.inl hh)]; rfl)
           | (rw [e0, isK4a h54 (.inr hh)]; rfl)
           | (rw [e0, isK4b h54 hng hnl (.inl hh2)]; rfl)
           | (rw [e0, isK4b h54 hng hnl (.inr hh2)]; rfl)
           | (rw [e0, isK4c h54 hng hnl hni hno]; rfl)
           | (rw [e0, isK0 h20 h31 h43 h54]; rfl)
         ·have hno := h64
          refine en tOK 0 1 [] ?_
          refine sr 0 R ?_
          first
           | (rw [e]; rfl)
           | (rw [e0, isK1 h20]; rfl)
           | (rw [e0, isK2 h31]; rfl)
           | (rw [e0, isK3 h43]; rfl)
           | (rw [e0, isK4a h54 (.inl hh)]; rfl)
           | (rw [e0, isK4a h54 (.inr hh)]; rfl)
           | (rw [e0, isK4b h54 hng hnl (.inl hh2)]; rfl)
           | (rw [e0, isK4b h54 hng hnl (.inr hh2)]; rfl)
           | (rw [e0, isK4c h54 hng hnl hni hno]; rfl)
           | (rw [e0, isK0 h20 h31 h43 h54]; rfl)
     ·refine en tOK 0 1 [] ?_
      refine sr 0 R ?_
      first
       | (rw [e]; rfl)
       | (rw [e0, isK1 h20]; rfl)
       | (rw [e0, isK2 h31]; rfl)
       | (rw [e0, isK3 h43]; rfl)
       | (rw [e0, isK4a h54 (.inl hh)]; rfl)
       | (rw [e0, isK4a h54 (.inr hh)]; rfl)
       | (rw [e0, isK4b h54 hng hnl (.inl hh2)]; rfl)
       | (rw [e0, isK4b h54 hng hnl (.inr hh2)]; rfl)
       | (rw [e0, isK4c h54 hng hnl hni hno]; rfl)
       | (rw [e0, isK0 h20 h31 h43 h54]; rfl)
end Go.Proofs.YtomkgfdigldhcaaGreatDoor
namespace Go.Proofs.YtomkgfdigldhcaaGreatDoor
open Go.KX
set_option maxRecDepth 100000 in
theorem byRefN_ok {l : List Nd} : FnN Tryz.prog gT 71 [rN l] (.t [.mp 7, bS (okN l)]) 7 (.m (msE (byR l))) := by
 refine fnb tOK (fn := Tryz.f71) 25 [.tmp 2, .tmp 3] Tryz.func71 Tryz.results71 (fun g0 B0 Q ρ0 R => ?_)
 refine elen 0 rfl (fun hl => ?_)
 rw [List.length_map] at hl
 refine en tOK 0 2 [] ?_
 refine sn tOK 0 0 [] ?_
 refine smk ?_
 refine go tOK 1 [] ?_
 refine sn tOK 0 3 [] ?_
 refine sl 0 ?_
 refine eas 9 rfl (v' := nI l.length) (by simp) ?_
 refine E_loop (σ := Nat) (fun j => j ≤ l.length) (fun j => l.length - j)
   (fun j => [(0, rN l), (4, .mp 7), (8, rN l), (9, nI l.length), (10, nI j)])
   (fun j => [(7, .m (msE (byR (l.take j))))]) 0 ?_ ?_
 ·exact Nat.zero_le _
 ·rintro J j hj0 hJ
  refine en tOK 0 1 [] ?_
  refine si 0 rfl rfl (fun h11 => ?_) (fun h11 => ?_)
  ·have hj : j < l.length := by omega
   refine en tOK 0 4 [ndL l[j]] ?_ (hφ := by exact ⟨by omega, by simpa using rN_get hj⟩)
   refine sn tOK 0 4 [] ?_
   refine sins tOK ?_
   refine sn tOK 0 2 [] ?_
   refine emb 7 (mb' := .m (msE (byR (l.take (j + 1))))) ?_ ?_
   ·exact congrArg MB.m (byR_next hj)
   exact hJ (j + 1) (by omega) (by omega)
  ·have ej : l.take j = l := List.take_of_length_le (by omega)
   rw [ej]
   refine en tOK 0 2 [] ?_
   refine smln tOK 5 ?_
   refine srn 0 R ?_
   exact ⟨congrArg (fun b => SV.t [SV.mp 7, bS b]) okN_len, rfl⟩
set_option maxRecDepth 100000 in
theorem byRef_ok {l : List Nd} : Fc Tryz.prog gT 71 [rN l] (.t [.fm (msE (byR l)), bS (okN l)]) := by
 refine fb tOK (fn := Tryz.f71) 25 [.tmp 2, .tmp 3] Tryz.func71 Tryz.results71 (fun g0 B0 Q ρ0 R => ?_)
 refine elen 0 rfl (fun hl => ?_)
 rw [List.length_map] at hl
 refine en tOK 0 2 [] ?_
 refine sn tOK 0 0 [] ?_
 refine smk ?_
 refine go tOK 1 [] ?_
 refine sn tOK 0 3 [] ?_
 refine sl 0 ?_
 refine eas 9 rfl (v' := nI l.length) (by simp) ?_
 refine E_loop (σ := Nat) (fun j => j ≤ l.length) (fun j => l.length - j)
   (fun j => [(0, rN l), (4, .mp 7), (8, rN l), (9, nI l.length), (10, nI j)])
   (fun j => [(7, .m (msE (byR (l.take j))))]) 0 ?_ ?_
 ·exact Nat.zero_le _
 ·rintro J j hj0 hJ
  refine en tOK 0 1 [] ?_
  refine si 0 rfl rfl (fun h11 => ?_) (fun h11 => ?_)
  ·have hj : j < l.length := by omega
   refine en tOK 0 4 [ndL l[j]] ?_ (hφ := by exact ⟨by omega, by simpa using rN_get hj⟩)
   refine sn tOK 0 4 [] ?_
   refine sins tOK ?_
   refine sn tOK 0 2 [] ?_
   refine emb 7 (mb' := .m (msE (byR (l.take (j + 1))))) ?_ ?_
   ·exact congrArg MB.m (byR_next hj)
   exact hJ (j + 1) (by omega) (by omega)
  ·have ej : l.take j = l := List.take_of_length_le (by omega)
   rw [ej]
   refine en tOK 0 2 [] ?_
   refine smln tOK 5 ?_
   refine sz 7 ?_
   refine sr 0 R ?_
   exact congrArg (fun b => SV.t [SV.fm (msE (byR l)), bS b]) okN_len
end Go.Proofs.YtomkgfdigldhcaaGreatDoor
namespace Go.Proofs.YtomkgfdigldhcaaGreatDoor
open Go.KX
set_option maxRecDepth 100000 in
theorem order_ok {l : List Nd} (hl : l.length ≤ 1000000) : Fc Tryz.prog gT 29 [rN l] (.t [rB (orderN l).1, nI (orderN l).2]) := by
 refine fb tOK (fn := Tryz.f29) 61 [.tmp 2, .tmp 3] Tryz.func29 Tryz.results29 (fun g0 B0 Q ρ0 R => ?_)
 refine en tOK 0 2 [] ?_
 refine sn tOK 0 1 [] ?_
 refine fnw tOK 5 [] (byRefN_ok (l := l)) ?_
 refine sn tOK 0 2 [] ?_
 refine sib 0 rfl rfl (fun h19 => ?_) (fun h19 => ?_)
 ·have ok0 : okN l = false := by simpa using h19
  have e : orderN l = ([], 8) := by unfold orderN; rw [if_pos ok0]
  refine en tOK 0 2 [] ?_
  refine sdn 2 (v' := .s 1 []) rfl (fun g ρ x h => den_s0 (by decide) h) ?_
  refine sr 0 R ?_
  rw [e]; rfl
 ·have ok1 : okN l = true := by simpa using h19
  have e0 : orderN l = orderL l.length [] l := by unfold orderN; rw [if_neg (by rw [ok1]; decide)]
  have hnd := (byR_ok ok1).2
  refine en tOK 0 0 [] ?_
  refine smk ?_
  refine go tOK 1 [] ?_
  refine sl 0 ?_
  refine eonl 2 902 9 1 ?_
  refine emb 7 (mb' := .m (l.map ordE)) ?_ ?_
  ·rw [byR_E ok1]
  refine E_loop (σ := List Bytes × List Nd) (fun st => (st.2.map (·.ref)).Nodup ∧ orderL st.2.length st.1 st.2 = orderL l.length [] l ∧ st.1.length + st.2.length = l.length) (fun st => st.2.length)
    (fun st => [(0, rN l), (2, .o 902 (rowsB st.1).length), (4, .mp 7), (6, .mp 20)])
    (fun st => [(902, .r 9 1 (rowsB st.1)), (20, .m (toldE st.1)), (7, .m (st.2.map ordE))]) ([], l) ?_ ?_
  ·exact ⟨hnd, rfl, by simp⟩
  ·rintro J ⟨out, left⟩ ⟨hn, hord, hlen⟩ hO
   dsimp only at hn hord hlen ⊢
   refine en tOK 0 1 [] ?_
   refine smln tOK 1 ?_
   refine si 0 rfl rfl (fun h23 => ?_) (fun h23 => ?_)
   ·rw [List.length_map] at h23
    refine esc 0 rfl R.ng ?_
    refine en tOK 0 1 [] ?_
    refine sn tOK 0 1 [] ?_
    refine slb 0 ?_
    refine en tOK 0 1 [] ?_
    refine smrg tOK ?_
    refine sl 0 ?_
    refine E_loop (σ := List Nat) (fun js => js.Nodup ∧ ∀ i ∈ js, i < left.length) (fun js => left.length - js.length)
      (fun js => [(0, rN l), (2, .o 902 (rowsB out).length), (4, .mp 7), (6, .mp 20), (7, .str (bestL out (pickL left js)).1), (8, bS (bestL out (pickL left js)).2), (25, .l 25 0)])
      (fun js => [(902, .r 9 1 (rowsB out)), (20, .m (toldE out)), (25, .it 7 (left.map ordE) js)]) [] ?_ ?_
    ·exact ⟨List.nodup_nil, fun _ h => by cases h⟩
    ·rintro J js ⟨hjn, hjl⟩ hR
     refine en tOK 0 0 [] ?_
     refine smnx tOK (i := 7) (j := 25) (es := left.map ordE) (js := js) rfl (fun hp => ?_) (fun n q sv M2 hnj hes hM => ?_)
     ·refine go tOK 1 [] ?_
      have hbest : bestL out (pickL left js) = bestL out left := (best_perm ((by simpa using hp : js.Perm (List.range left.length)).filterMap (left[·]?))).trans (congrArg (bestL out) (pickL_all left))
      refine smie 25 ?_
      refine sn tOK 1 2 [] ?_
      refine sib 0 rfl rfl (fun h51 => ?_) (fun h51 => ?_)
      ·have hbn : (bestL out left).2 = false := by rw [← hbest]; simpa using h51
       have e : orderN l = ([], 121) := by rw [e0, ← hord, show left.length = (left.length - 1) + 1 by omega, orderL, if_pos hbn]
       refine en tOK 0 2 [] ?_
       refine sdn 2 (v' := .s 1 []) rfl (fun g ρ x h => den_s0 (by decide) h) ?_
       refine sr 0 R ?_
       rw [e]; rfl
      ·have hbt : (bestL out left).2 = true := by rw [← hbest]; simpa using h51
       obtain ⟨hfl, hdel⟩ := best_left hn hbt
       have hstep : orderL (left.filter fun n => decide (n.ref ≠ (bestL out left).1)).length (out ++ [(bestL out left).1]) (left.filter fun n => decide (n.ref ≠ (bestL out left).1)) = orderL left.length out left := by
        rw [← hfl, orderL, if_neg (by rw [hbt]; decide)]
       rw [hbest]
       refine en tOK 0 2 [] ?_
       refine sins tOK ?_
       refine sn tOK 0 2 [] ?_
       refine smdl tOK ?_
       refine sn tOK 0 3 [] ?_
       refine sap tOK 1 [] rfl (fun _ => rfl) ?_ ?_
       ·show ((rowsB out).length + 1) * 16 ≤ _
        simp only [List.length_map]
        omega
       refine smb 7 (mb' := .m ((left.filter fun n => decide (n.ref ≠ (bestL out left).1)).map ordE)) ?_ ?_
       ·exact congrArg MB.m hdel
       refine smb 20 (mb' := .m (toldE (out ++ [(bestL out left).1]))) ?_ ?_
       ·exact congrArg MB.m (told_next _ _)
       refine sas 2 rfl (v' := .o 902 (rowsB (out ++ [(bestL out left).1])).length) ?_ ?_
       ·simp
       refine smb 902 (mb' := .r 9 1 (rowsB (out ++ [(bestL out left).1]))) ?_ ?_
       ·simp [cellsV]
       exact hO (out ++ [(bestL out left).1], left.filter fun n => decide (n.ref ≠ (bestL out left).1)) ⟨filter_nodup hn, by rw [← hord]; exact hstep, by dsimp only; rw [List.length_append, List.length_singleton]; omega⟩ (by dsimp only; omega)
     ·obtain ⟨x, hx, rfl, rfl⟩ := ordE_get hes
      have hes0 := hes
      cases hM
      have hjs : (js ++ [n]).Nodup ∧ ∀ i ∈ js ++ [n], i < left.length := snoc_ok hjn hjl hnj (List.getElem?_eq_some_iff.1 hx).1
      have hmu := snoc_mu hjn hjl hjs
      have hpk : bestL out (pickL left (js ++ [n])) = stepB out (bestL out (pickL left js)) x := by rw [pickL_snoc hx, best_snoc]
      refine go tOK 1 [] ?_
      refine sn tOK 1 0 [] ?_
      refine smen tOK 5 (n := n) (js := js) rfl hes0 ?_
      refine sn tOK 0 6 [] ?_
      refine sib 0 rfl rfl (fun h36 => ?_) (fun h36 => ?_)
      ·have hb : bestL out (pickL left (js ++ [n])) = bestL out (pickL left js) := by rw [hpk]; unfold stepB; rw [if_pos (by simpa using h36)]
       refine el 0 ?_
       refine eas 7 rfl (v' := .str (bestL out (pickL left (js ++ [n]))).1) (by rw [hb]) ?_
       refine eas 8 rfl (v' := bS (bestL out (pickL left (js ++ [n]))).2) (by rw [hb]) ?_
       exact hR (js ++ [n]) hjs hmu
      ·have hng := h36
       refine en tOK 0 1 [] ?_
       refine fc tOK 2 [] (inputs_ok (n := x)) ?_
       refine sl 0 ?_
       have hil := inputs_len x
       refine eas 39 rfl (v' := nI (inputsN x).length) (by simp) ?_
       refine E_loop (σ := Nat) (fun k => k ≤ (inputsN x).length ∧ ∀ i ∈ (inputsN x).take k, i ∈ out) (fun k => (inputsN x).length - k)
         (fun k => [(0, rN l), (2, .o 902 (rowsB out).length), (4, .mp 7), (6, .mp 20), (7, .str (bestL out (pickL left js)).1), (8, bS (bestL out (pickL left js)).2), (9, .str x.ref), (25, .l 25 0), (38, rB (inputsN x)), (39, nI (inputsN x).length), (40, nI k)])
         (fun k => [(902, .r 9 1 (rowsB out)), (20, .m (toldE out)), (25, .it 7 (left.map ordE) (js ++ [n]))]) 0 ?_ ?_
       ·exact ⟨Nat.zero_le _, by simp⟩
       ·rintro J k ⟨hk0, hk1⟩ hI
        refine en tOK 0 1 [] ?_
        refine si 0 rfl rfl (fun h41 => ?_) (fun h41 => ?_)
        ·have hk : k < (inputsN x).length := by omega
         refine en tOK 0 3 [[.str (inputsN x)[k]]] ?_ (hφ := by exact ⟨by omega, by simp [hk]⟩)
         by_cases hin : (inputsN x)[k] ∈ out
         ·refine sn tOK 0 2 [] ?_
          refine smlk tOK 1 false (some (bS true)) (told_in hin) ?_
          refine sn tOK 1 2 [] ?_
          exact hI (k + 1) ⟨by omega, by rw [List.take_succ_eq_append_getElem hk]; intro i hi; rcases List.mem_append.1 hi with hi | hi; exact hk1 i hi; simp only [List.mem_singleton] at hi; exact hi ▸ hin⟩ (by omega)
         ·refine sn tOK 0 2 [] ?_
          have hnr : readyN out x = false := by
           cases hq : readyN out x with
           | false => rfl
           | true => exact absurd (of_decide_eq_true ((List.all_eq_true.1 hq) _ (List.getElem_mem hk))) hin
          have hb : bestL out (pickL left (js ++ [n])) = bestL out (pickL left js) := by rw [hpk]; unfold stepB; rw [if_neg (by simpa using hng), if_neg (by rw [hnr]; decide)]
          refine smlk tOK 1 false none (told_out hin) ?_
          refine sl 1 ?_
          refine eas 7 rfl (v' := .str (bestL out (pickL left (js ++ [n]))).1) (by rw [hb]) ?_
          refine eas 8 rfl (v' := bS (bestL out (pickL left (js ++ [n]))).2) (by rw [hb]) ?_
          exact hR (js ++ [n]) hjs hmu
        ·have hrd : readyN out x = true := by
          unfold readyN
          rw [List.all_eq_true]
          intro i hi
          exact decide_eq_true (hk1 i (by rw [List.take_of_length_le (by omega)]; exact hi))
         have hb : bestL out (pickL left (js ++ [n])) = (x.ref, true) := by rw [hpk]; unfold stepB; rw [if_neg (by simpa using hng), if_pos hrd]
         refine en tOK 0 3 [] ?_
         refine sl 0 ?_
         refine eas 7 rfl (v' := .str (bestL out (pickL left (js ++ [n]))).1) (by rw [hb]) ?_
         refine eas 8 rfl (v' := bS (bestL out (pickL left (js ++ [n]))).2) (by rw [hb]) ?_
         exact hR (js ++ [n]) hjs hmu
   ·rw [List.length_map] at h23
    have hl0 : left = [] := List.eq_nil_of_length_eq_zero (by omega)
    subst hl0
    have e : orderN l = (out, 0) := by rw [e0, ← hord]; rfl
    refine en tOK 0 3 [] ?_
    refine sezo 2 ?_ ?_ (hr := rowsB_len)
    ·rfl
    refine sr 0 R ?_
    rw [e]; rfl
end Go.Proofs.YtomkgfdigldhcaaGreatDoor
namespace Go.Proofs.YtomkgfdigldhcaaGreatDoor
open Go.KX
set_option maxRecDepth 100000 in
theorem idxN_ok {l : List Nd} {fn : FuncId} {p : Nd → Bool} (hs : ∀ v ∈ l, Fc Tryz.prog gT fn [ndS v] (bS (p v))) : Fc Tryz.prog gT 124 [rN l, .f fn [] []] (nI (idxF p l)) := by
 refine fb tOK (fn := Tryz.f124) 19 [.tmp 4] Tryz.func124 Tryz.results124 (fun g0 B0 Q ρ0 R => ?_)
 refine en tOK 0 1 [] ?_
 refine sn tOK 0 3 [] ?_
 refine sl 0 ?_
 refine E_loop (σ := Nat) (fun j => j ≤ l.length ∧ ∀ x ∈ l.take j, p x = false) (fun j => l.length - j)
   (fun j => [(0, rN l), (1, .f fn [] []), (4, nI 0), (7, nI l.length), (8, nI j)])
   (fun j => []) 0 ?_ ?_
 ·exact ⟨Nat.zero_le _, by simp⟩
 ·rintro J j ⟨hj0, hj1⟩ hJ
  refine elen 0 rfl (fun hl => ?_)
  simp only [List.length_map] at hl
  refine en tOK 0 1 [] ?_
  refine si 0 rfl rfl (fun h9 => ?_) (fun h9 => ?_)
  ·have hj : j < l.length := by omega
   refine en tOK 0 2 [] ?_
   refine sn tOK 0 5 [ndL l[j]] ?_ (hφ := by exact ⟨by omega, by simpa using rN_get hj⟩)
   refine fc tOK 0 [] (hs l[j] (List.getElem_mem hj)) ?_
   refine sib 0 rfl rfl (fun h16 => ?_) (fun h16 => ?_)
   ·have e := idxF_some hj hj1 h16
    refine en tOK 0 2 [] ?_
    refine sr 0 R ?_
    rw [e]; rfl
   ·have hx := h16
    refine en tOK 0 2 [] ?_
    exact hJ (j + 1) ⟨by omega, take_next hj hj1 hx⟩ (by omega)
  ·have e := idxF_none (p := p) (fun x hx => hj1 x (by rw [List.take_of_length_le (by omega)]; exact hx))
   refine en tOK 0 1 [] ?_
   refine sr 0 R ?_
   rw [e]; rfl
set_option maxRecDepth 100000 in
theorem contN_ok {l : List Nd} {fn : FuncId} {p : Nd → Bool} (hs : ∀ v ∈ l, Fc Tryz.prog gT fn [ndS v] (bS (p v))) : Fc Tryz.prog gT 75 [rN l, .f fn [] []] (bS (l.any p)) := by
 refine fb tOK (fn := Tryz.f75) 9 [.tmp 4] Tryz.func75 Tryz.results75 (fun g0 B0 Q ρ0 R => ?_)
 refine en tOK 0 1 [] ?_
 refine sn tOK 0 2 [] ?_
 refine fc tOK 2 [] (idxN_ok (p := p) hs) ?_
 refine sr 0 R ?_
 rw [← idxF_any]; rfl
set_option maxRecDepth 100000 in
theorem dcheck1_ok {n : Nd} (hr : n.ref.length ≤ 1000000) : Fc Tryz.prog gT 76 [ndS n] (bS (!isN n)) := by
 refine fb tOK (fn := Tryz.f76) 6 [.tmp 2] Tryz.func76 Tryz.results76 (fun g0 B0 Q ρ0 R => ?_)
 refine en tOK 0 2 [] ?_
 refine sn tOK 0 1 [] ?_
 refine fc tOK 2 [] (is_ok (n := n) hr) ?_
 refine sr 0 R ?_
 rfl
set_option maxRecDepth 100000 in
theorem check_ok {cond : Bytes} {l : List Nd} (hr : ∀ n ∈ l, n.ref.length ≤ 1000000) : Fc Tryz.prog gT 35 [.str cond, rN l] (nI (checkN cond l)) := by
 refine fb tOK (fn := Tryz.f35) 64 [.tmp 4] Tryz.func35 Tryz.results35 (fun g0 B0 Q ρ0 R => ?_)
 refine elen 1 rfl (fun hl => ?_)
 rw [List.length_map] at hl
 refine en tOK 0 1 [] ?_
 refine sn tOK 0 4 [] ?_
 refine sas 16 rfl (v' := bS (decide (16 < l.length))) (by simp; omega) ?_
 refine sib 0 rfl rfl (fun h16 => ?_) (fun h16 => ?_)
 ·have e : checkN cond l = 6 := by unfold checkN; rw [if_pos (of_decide_eq_true h16)]
  refine en tOK 0 1 [] ?_
  refine sr 0 R ?_
  rw [e]; rfl
 ·have hn16 : ¬ 16 < l.length := of_decide_eq_false h16
  have e0 : checkN cond l = if (l.any fun n => !isN n) = true then 120 else if okN l = false then 8 else if ((refsN cond l).any fun q => (findN l q).isNone) = true then 7 else (orderN l).2 := by unfold checkN; rw [if_neg hn16]
  refine en tOK 0 1 [] ?_
  refine fc tOK 1 [] (contN_ok (p := fun n => !isN n) (fun v hv => dcheck1_ok (hr v hv))) ?_
  refine sib 0 rfl rfl (fun h20 => ?_) (fun h20 => ?_)
  ·have e : checkN cond l = 120 := by rw [e0, if_pos h20]
   refine en tOK 0 1 [] ?_
   refine sr 0 R ?_
   rw [e]; rfl
  ·have e1 : checkN cond l = if okN l = false then 8 else if ((refsN cond l).any fun q => (findN l q).isNone) = true then 7 else (orderN l).2 := by rw [e0, if_neg (by rw [h20]; decide)]
   refine en tOK 0 1 [] ?_
   refine fc tOK 5 [] (byRef_ok (l := l)) ?_
   refine sn tOK 0 2 [] ?_
   refine sib 0 rfl rfl (fun h29 => ?_) (fun h29 => ?_)
   ·have ok0 : okN l = false := by simpa using h29
    have e : checkN cond l = 8 := by rw [e1, if_pos ok0]
    refine en tOK 0 1 [] ?_
    refine sr 0 R ?_
    rw [e]; rfl
   ·have ok1 : okN l = true := by simpa using h29
    have e2 : checkN cond l = if ((refsN cond l).any fun q => (findN l q).isNone) = true then 7 else (orderN l).2 := by rw [e1, if_neg (by rw [ok1]; decide)]
    refine en tOK 0 1 [] ?_
    refine sbl1 tOK 902 ?_
    refine go tOK 1 [] ?_
    refine sn tOK 0 3 [] ?_
    refine sl 0 ?_
    refine eas 33 rfl (v' := nI l.length) (by simp) ?_
    refine eas 7 rfl (v' := .o 902 (rowsB (cond :: (l.take 0).flatMap inputsN)).length) (by simp) ?_
    refine emb 902 (mb' := .r 9 1 (rowsB (cond :: (l.take 0).flatMap inputsN))) ?_ ?_
    ·simp
    refine E_loop (σ := Nat) (fun j => j ≤ l.length) (fun j => l.length - j)
      (fun j => [(1, rN l), (5, .fm (msE (byR l))), (7, .o 902 (rowsB (cond :: (l.take j).flatMap inputsN)).length), (32, rN l), (33, nI l.length), (34, nI j)])
      (fun j => [(902, .r 9 1 (rowsB (cond :: (l.take j).flatMap inputsN)))]) 0 ?_ ?_
    ·exact Nat.zero_le _
    ·rintro J j hj0 hJ
     refine en tOK 0 1 [] ?_
     refine si 0 rfl rfl (fun h35 => ?_) (fun h35 => ?_)
     ·have hj : j < l.length := by omega
      have hf1 := flat_le (l.take j)
      have hf2 := inputs_len l[j]
      rw [List.length_take] at hf1
      refine en tOK 0 4 [ndL l[j]] ?_ (hφ := by exact ⟨by omega, by simpa using rN_get hj⟩)
      refine sn tOK 0 2 [] ?_
      refine fc tOK 0 [] (inputs_ok (n := l[j])) ?_
      refine sap tOK 1 [] rfl (fun _ => rfl) ?_ ?_
      ·show ((rowsB (cond :: (l.take j).flatMap inputsN)).length + (rowsB (inputsN l[j])).length) * 16 ≤ _
       simp only [List.length_map, List.length_cons]
       omega
      refine sn tOK 0 2 [] ?_
      have ht : cond :: (l.take (j + 1)).flatMap inputsN = (cond :: (l.take j).flatMap inputsN) ++ inputsN l[j] := by rw [List.take_succ_eq_append_getElem hj, List.flatMap_append]; simp
      refine sl 0 ?_
      refine eas 7 rfl (v' := .o 902 (rowsB (cond :: (l.take (j + 1)).flatMap inputsN)).length) (by rw [ht]; simp) ?_
      refine emb 902 (mb' := .r 9 1 (rowsB (cond :: (l.take (j + 1)).flatMap inputsN))) ?_ ?_
      ·rw [ht]; simp
      exact hJ (j + 1) (by omega) (by omega)
     ·have ej : l.take j = l := List.take_of_length_le (by omega)
      rw [ej]
      have hf1 := flat_le l
      have hrl : (refsN cond l).length ≤ 100000 := by simp only [refsN, List.length_cons]; omega
      refine eezo 7 (rows := rowsB (refsN cond l)) ?_ ?_ (hr := rowsB_len)
      ·rfl
      refine en tOK 0 3 [] ?_
      refine sl 0 ?_
      refine eas 44 rfl (v' := nI (refsN cond l).length) (by simp) ?_
      refine E_loop (σ := Nat) (fun k => k ≤ (refsN cond l).length ∧ ∀ q ∈ (refsN cond l).take k, (findN l q).isNone = false) (fun k => (refsN cond l).length - k)
        (fun k => [(1, rN l), (5, .fm (msE (byR l))), (43, rB (refsN cond l)), (44, nI (refsN cond l).length), (45, nI k)])
        (fun k => []) 0 ?_ ?_
      ·exact ⟨Nat.zero_le _, by simp⟩
      ·rintro J k ⟨hk0, hk1⟩ hJ
       refine en tOK 0 1 [] ?_
       refine si 0 rfl rfl (fun h46 => ?_) (fun h46 => ?_)
       ·have hk : k < (refsN cond l).length := by omega
        refine en tOK 0 3 [[.str (refsN cond l)[k]]] ?_ (hφ := by exact ⟨by omega, by simp [hk]⟩)
        have hg : mget (msE (byR l)) (refsN cond l)[k] = (findN l (refsN cond l)[k]).map ndS := by rw [msE, mget_map, byR_get ok1]
        rcases hfq : findN l (refsN cond l)[k] with _ | n
        ·refine sn tOK 0 2 [] ?_
         refine slk tOK 6 none (by rw [hg, hfq]; rfl) ?_
         refine sn tOK 0 2 [] ?_
         refine sn tOK 1 1 [] ?_
         refine sr 0 R ?_
         have e : checkN cond l = 7 := by
          rw [e2, if_pos (List.any_eq_true.2 ⟨_, List.getElem_mem hk, by rw [hfq]; rfl⟩)]
         rw [e]; rfl
        ·refine sn tOK 0 2 [] ?_
         refine slk tOK 6 (some (ndS n)) (by rw [hg, hfq]; rfl) ?_
         refine sn tOK 0 2 [] ?_
         refine sn tOK 1 2 [] ?_
         refine sl 0 ?_
         exact hJ (k + 1) ⟨by omega, by rw [List.take_succ_eq_append_getElem hk]; intro q hq; rcases List.mem_append.1 hq with hq | hq; exact hk1 q hq; simp only [List.mem_singleton] at hq; subst hq; rw [hfq]; rfl⟩ (by omega)
       ·have e : checkN cond l = (orderN l).2 := by
         rw [e2, if_neg (fun h => ?_)]
         obtain ⟨q, hq, h3⟩ := List.any_eq_true.1 h
         rw [hk1 q (by rw [List.take_of_length_le (by omega)]; exact hq)] at h3
         cases h3
        refine en tOK 0 1 [] ?_
        refine fc tOK 5 [] (order_ok (l := l) (by omega)) ?_
        refine sn tOK 0 2 [] ?_
        refine sr 0 R ?_
        rw [e]; rfl
end Go.Proofs.YtomkgfdigldhcaaGreatDoor
namespace Go.Proofs.YtomkgfdigldhcaaGreatDoor
open Go.KX
set_option maxRecDepth 100000 in
theorem backN1_ok {l : List Nd} (hl : l.length ≤ 1000000) : Itr Tryz.prog gT 132 [.p [rN l]] (bkA l) := by
 refine itrb tOK (fn := Tryz.f132) 19 Tryz.func132 Tryz.results132 (fun lp R hR g0 B0 Q ρ0 ms0 RR => ?_)
 rw [bkA_len] at RR
 refine en tOK 0 4 [] ?_
 refine sl 0 ?_
 refine eas 3 rfl (v' := nI ((l.length : Int) - 1 - (0 : Nat))) (by simp) ?_
 refine E_loopO (σ := Nat × List Res) (fun st => st.1 ≤ l.length) (fun st => l.length - st.1)
   (fun st => [(0, .v (.func (.yield lp) #[] #[])), (1, .p [rN l]), (3, nI ((l.length : Int) - 1 - st.1))])
   (fun st => R.f st.1 st.2 :: gT) (fun st => st.2) (0, ms0) ?_ ?_
 ·exact Nat.zero_le _
 ·rintro J ⟨j, ms⟩ hj0 hJ
  dsimp only at hj0 ⊢
  refine en tOK 0 2 [] ?_
  refine si 0 rfl rfl (fun h8 => ?_) (fun h8 => ?_)
  ·have hj : j < l.length := by omega
   refine en tOK 0 6 [ndL (l[l.length - 1 - j]'(by omega))] ?_ (hφ := by exact ⟨by omega, by simpa using rN_get (l := l) (j := l.length - 1 - j) (by omega)⟩)
   refine yw hR (bkA_get hj) (fun ms2 => ?_) (fun ms2 => ?_)
   ·refine go tOK 1 [] ?_
    refine sn tOK 1 3 [] ?_
    refine sl 0 ?_
    exact hJ (j + 1, ms2) (by dsimp only; omega) (by dsimp only; omega)
   ·refine go tOK 1 [] ?_
    refine sl 1 ?_
    exact RR.retx
  ·have ej : j = l.length := by omega
   subst ej
   refine el 0 ?_
   exact RR.fall
end Go.Proofs.YtomkgfdigldhcaaGreatDoor
namespace Go.Proofs.YtomkgfdigldhcaaGreatDoor
open Go.KX
set_option maxRecDepth 100000 in
theorem backN_ok {l : List Nd} : Fc Tryz.prog gT 80 [rN l] (.f 132 [] [.p [rN l]]) := by
 refine fb tOK (fn := Tryz.f80) 4 [.tmp 2] Tryz.func80 Tryz.results80 (fun g0 B0 Q ρ0 R => ?_)
 refine en tOK 0 2 [] ?_
 refine sz 1 ?_
 refine sn tOK 0 2 [] ?_
 refine sr 0 R ?_
 rfl
set_option maxRecDepth 100000 in
theorem needs_ok {ref : Bytes} {l : List Nd} (hl : l.length ≤ 1000000) : Fc Tryz.prog gT 37 [.str ref, rN l] (rB (needsN l ref)) := by
 refine fbm tOK (fn := Tryz.f37) 55 [.tmp 4] Tryz.func37 Tryz.results37 (fun g0 B0 Q ρ0 R RM => ?_)
 refine en tOK 0 1 [] ?_
 refine sn tOK 0 0 [] ?_
 refine smk ?_
 refine go tOK 2 [] ?_
 refine sn tOK 0 1 [] ?_
 refine fc tOK 0 [] (backN_ok (l := l)) ?_
 refine sl 0 ?_
 refine E_range (ι := Empty) (fun j => [(5, .c 124 [.mp 11]), (11, .m (msE (bkR l j)))]) (fun _ => []) (backN1_ok hl) (fun j av hj lp g1 B1 ρ1 Q1 Q2 own1 own2 J hJ hE hX => ?_) (fun D => ?_) (fun D i => ?_) (fun a ha => by
    obtain ⟨j, hj, rfl⟩ := List.mem_map.1 ha
    rfl) (fun a ha => by
    obtain ⟨j, hj, rfl⟩ := List.mem_map.1 ha
    rfl)
 ·have hjl : j < l.length := by
   have := (List.getElem?_eq_some_iff.1 hj).1
   rwa [bkA_len] at this
  rw [bkA_get hjl] at hj
  cases hj
  refine en tOK 0 2 [] ?_
  refine sl 0 ?_
  refine hJ ?_
  refine en tOK 0 4 [] ?_
  refine sins tOK ?_
  refine sl 0 ?_
  refine emb 1011 (mb' := .m (msE (bkR l (j + 1)))) ?_ ?_
  ·exact congrArg MB.m (bkR_next hjl)
  exact hE rfl
 ·rw [bkA_len]
  show E _ _ _ [(5, .c 124 [.mp 11]), (11, .m (msE (bkR l l.length)))] _ _
  refine ezm 11 ?_
  refine ez 5 ?_
  refine en tOK 0 1 [] ?_
  refine sbl1 tOK 902 ?_
  refine go tOK 1 [] ?_
  refine sl 0 ?_
  refine eaq 902 ?_
  refine eonl 4 903 9 1 ?_
  refine E_loop (σ := List Bytes × List Bytes) (fun st => NI l st.2 ∧ needA l st.1 st.2 = needA l [ref] [] ∧ muN l st.1 st.2 ≤ muN l [ref] []) (fun st => muN l st.1 st.2)
    (fun st => [(4, .o 903 (rowsB st.2).length), (5, .p [.fm (msE (bkR l l.length))]), (8, .o 902 (rowsB st.1).length)])
    (fun st => [(903, .r 9 1 (rowsB st.2)), (902, .q 9 1 (rowsB st.1))]) ([ref], []) ?_ ?_
  ·exact ⟨NI.nil l, rfl, Nat.le_refl _⟩
  ·rintro J ⟨todo, out⟩ ⟨hI, hnd, hml⟩ hO
   dsimp only at hI hnd hml ⊢
   refine en tOK 0 3 [] ?_
   refine si 0 rfl rfl (fun h24 => ?_) (fun h24 => ?_)
   ·rw [List.length_map] at h24
    cases todo with
    | nil => simp at h24
    | cons q todo => ?_
    have hil := hI.le
    rcases hfq : findN l q with _ | n
    ·refine edr 0 768 [0, 0, 2, 6, 15, 31, 63, 63, 0, 383, 1023] [8, 0, 1, 2, 3, 4, 5, 6, 7, 9, 10] ?_
     refine dal tOK 2 [] ?_
     refine dqi tOK 0 [] ?_ ?_
     ·rfl
     refine dql tOK 0 [] ?_
     have hst := (needA_none (t := todo) (out := out) hfq).symm
     refine dlk tOK 5 [] none (by rw [bkR_get, hfq]; rfl) ?_
     refine xe ?_
     refine sn tOK 0 6 [] ?_
     refine flg tOK 903 1 [] (b := false) (rv := .bool false) (fun hg => by cases hg) rowsB_len ?_
     refine sn tOK 1 1 [] ?_
     refine sqsl tOK 1 [] ?_ ?_
     ·first | rfl | (simp; done) | (simp; omega)
     refine sl 0 ?_
     first
      | exact hO (todo, out) ⟨hI, hst.trans hnd, mu_a hml⟩ mu_b
      | (refine eas 8 rfl (v' := .o 902 (rowsB (todo ++ inputsN n)).length) (by simp) ?_
         refine emb 902 (mb' := .q 9 1 (rowsB (todo ++ inputsN n))) ?_ ?_
         · simp
         refine eas 4 rfl (v' := .o 903 (rowsB (out ++ [n.ref])).length) (by simp) ?_
         refine emb 903 (mb' := .r 9 1 (rowsB (out ++ [n.ref]))) ?_ ?_
         · simp [cellsV]
         exact hO (todo ++ inputsN n, out ++ [n.ref]) ⟨hI2, hst2.trans hnd, Nat.le_of_lt (Nat.lt_of_lt_of_le hmm hml)⟩ hmm)
    ·refine edr 0 768 [0, 0, 2, 6, 15, 31, 63, 63, 0, 383, 1023] [8, 0, 1, 2, 3, 4, 5, 6, 7, 9, 10] ?_
     refine dal tOK 2 [] ?_
     refine dqi tOK 0 [] ?_ ?_
     ·rfl
     refine dql tOK 0 [] ?_
     refine dlk tOK 5 [] (some (ndS n)) (by rw [bkR_get, hfq]; rfl) ?_
     refine xe ?_
     refine sn tOK 0 6 [] ?_
     refine flg tOK 903 1 [] (b := true) (rv := .bool (decide (n.ref ∈ out))) (fun hg => contB_ok (l := out) (v := n.ref)) rowsB_len ?_
     refine sib 0 rfl rfl (fun h42 => ?_) (fun h42 => ?_)
     ·have hin : n.ref ∈ out := by simpa using h42
      have hst := (needA_old (t := todo) hfq hin).symm
      refine en tOK 0 1 [] ?_
      refine sqsl tOK 1 [] ?_ ?_
      ·first | rfl | (simp; done) | (simp; omega)
      refine sl 0 ?_
      first
       | exact hO (todo, out) ⟨hI, hst.trans hnd, mu_a hml⟩ mu_b
       | (refine eas 8 rfl (v' := .o 902 (rowsB (todo ++ inputsN n)).length) (by simp) ?_
          refine emb 902 (mb' := .q 9 1 (rowsB (todo ++ inputsN n))) ?_ ?_
          · simp
          refine eas 4 rfl (v' := .o 903 (rowsB (out ++ [n.ref])).length) (by simp) ?_
          refine emb 903 (mb' := .r 9 1 (rowsB (out ++ [n.ref]))) ?_ ?_
          · simp [cellsV]
          exact hO (todo ++ inputsN n, out ++ [n.ref]) ⟨hI2, hst2.trans hnd, Nat.le_of_lt (Nat.lt_of_lt_of_le hmm hml)⟩ hmm)
     ·have hout : n.ref ∉ out := by simpa using h42
      have hst2 := (needA_new (t := todo) hI hfq hout).symm
      have hI2 := hI.step hfq hout
      have hmm := hI.mu (t := todo) hfq hout
      have hin := inputs_len n
      refine en tOK 0 4 [] ?_
      refine sap tOK 1 [] rfl (fun _ => rfl) ?_ ?_
      ·show ((rowsB out).length + 1) * 16 ≤ _
       simp only [List.length_map]
       omega
      refine sn tOK 0 2 [] ?_
      refine fc tOK 0 [] (inputs_ok (n := n)) ?_
      refine sqap tOK 1 [] rfl (fun _ => rfl) ?_ ?_
      ·show ((rowsB (q :: todo)).length + (rowsB (inputsN n)).length) * 16 ≤ _
       simp only [List.length_map, List.length_cons]
       have htl := todo_le hml hl
       omega
      refine sn tOK 0 1 [] ?_
      refine sqsl tOK 1 [] ?_ ?_
      ·first | rfl | (simp; done) | (simp; omega)
      refine sl 0 ?_
      first
       | exact hO (todo, out) ⟨hI, hst.trans hnd, mu_a hml⟩ mu_b
       | (refine eas 8 rfl (v' := .o 902 (rowsB (todo ++ inputsN n)).length) (by simp) ?_
          refine emb 902 (mb' := .q 9 1 (rowsB (todo ++ inputsN n))) ?_ ?_
          · simp
          refine eas 4 rfl (v' := .o 903 (rowsB (out ++ [n.ref])).length) (by simp) ?_
          refine emb 903 (mb' := .r 9 1 (rowsB (out ++ [n.ref]))) ?_ ?_
          · simp [cellsV]
          exact hO (todo ++ inputsN n, out ++ [n.ref]) ⟨hI2, hst2.trans hnd, Nat.le_of_lt (Nat.lt_of_lt_of_le hmm hml)⟩ hmm)
   ·rw [List.length_map] at h24
    have ht0 : todo = [] := List.eq_nil_of_length_eq_zero (by omega)
    subst ht0
    rw [needA_nil] at hnd
    have hil := hI.le
    have e : needsN l ref = sortL out := by unfold needsN; rw [← hnd]
    refine eas 4 rfl (v' := .o 903 out.length) ?_ ?_
    ·simp
    refine en tOK 0 1 [] ?_
    refine fp tOK 903 0 [] (sortB_ok (l := out) (by omega)) ?_
    refine sn tOK 0 2 [] ?_
    refine sezo 4 (rows := rowsB (sortL out)) ?_ ?_ (hr := rowsB_len)
    ·simp
    refine srm 0 (RM D) ?_
    rw [e]; rfl
 ·exact i.elim
end Go.Proofs.YtomkgfdigldhcaaGreatDoor
namespace Go.Proofs.YtomkgfdigldhcaaGreatDoor
open Go.KX
set_option maxRecDepth 100000 in
theorem val_eq {w : World} (a b : Val) : (Op.eqFields 9999 #[.int .i64 a.k, .int .i64 a.n] #[.int .i64 b.k, .int .i64 b.n] (match Tryz.prog.underlying 26 with | some (.struct fl) => fl | _ => #[]).toList).run Tryz.prog w = .ok (decide (a = b)) w := by
  rw [Tryz.underlying26]
  dsimp only
  rw [eqF_int (by decide) Tryz.underlying3 rfl rfl, eqF_int (by decide) Tryz.underlying2 rfl rfl]
  obtain ⟨k, n⟩ := a
  obtain ⟨k2, n2⟩ := b
  by_cases h1 : k = k2 <;> by_cases h2 : n = n2 <;> simp [h1, h2, Op.eqFields]
end Go.Proofs.YtomkgfdigldhcaaGreatDoor
namespace Go.Proofs.YtomkgfdigldhcaaGreatDoor
open Go.KX
set_option maxRecDepth 100000 in
theorem rnull_ok  : Fc Tryz.prog gT 84 [] (vS nullV) := by
 refine fb tOK (fn := Tryz.f84) 2 [.cell 0 26] Tryz.func84 Tryz.results84 (fun g0 B0 Q ρ0 R => ?_)
 refine en tOK 0 1 [] ?_
 refine sn tOK 0 2 [] ?_
 refine sr 0 R ?_
 rfl
set_option maxRecDepth 100000 in
theorem rnan_ok  : Fc Tryz.prog gT 192 [] (vS nanV) := by
 refine fb tOK (fn := Tryz.f192) 2 [.cell 0 26] Tryz.func192 Tryz.results192 (fun g0 B0 Q ρ0 R => ?_)
 refine en tOK 0 1 [] ?_
 refine sn tOK 0 2 [] ?_
 refine sr 0 R ?_
 rfl
set_option maxRecDepth 100000 in
theorem rplus_ok  : Fc Tryz.prog gT 90 [] (vS plusV) := by
 refine fb tOK (fn := Tryz.f90) 2 [.cell 0 26] Tryz.func90 Tryz.results90 (fun g0 B0 Q ρ0 R => ?_)
 refine en tOK 0 1 [] ?_
 refine sn tOK 0 2 [] ?_
 refine sr 0 R ?_
 rfl
set_option maxRecDepth 100000 in
theorem rminus_ok  : Fc Tryz.prog gT 91 [] (vS minusV) := by
 refine fb tOK (fn := Tryz.f91) 2 [.cell 0 26] Tryz.func91 Tryz.results91 (fun g0 B0 Q ρ0 R => ?_)
 refine en tOK 0 1 [] ?_
 refine sn tOK 0 2 [] ?_
 refine sr 0 R ?_
 rfl
set_option maxRecDepth 100000 in
theorem rnum_ok {n : Int} : Fc Tryz.prog gT 46 [nI n] (vS (numV n)) := by
 refine fb tOK (fn := Tryz.f46) 11 [.cell 2 26] Tryz.func46 Tryz.results46 (fun g0 B0 Q ρ0 R => ?_)
 refine en tOK 0 1 [] ?_
 refine sn tOK 0 2 [] ?_
 refine si 0 rfl rfl (fun h4 => ?_) (fun h4 => ?_)
 ·have e : numV n = plusV := by unfold numV; rw [if_pos h4]
  refine en tOK 0 0 [] ?_
  refine fc tOK 1 [] (rplus_ok) ?_
  refine sr 0 R ?_
  rw [e]; rfl
 ·refine en tOK 0 2 [] ?_
  refine si 0 rfl rfl (fun h7 => ?_) (fun h7 => ?_)
  ·have e : numV n = minusV := by unfold numV; rw [if_neg h4, if_pos h7]
   refine en tOK 0 0 [] ?_
   refine fc tOK 1 [] (rminus_ok) ?_
   refine sr 0 R ?_
   rw [e]; rfl
  ·have e : numV n = ⟨1, n⟩ := by unfold numV; rw [if_neg h4, if_neg h7]
   refine en tOK 0 3 [] ?_
   refine sr 0 R ?_
   rw [e]; rfl
set_option maxRecDepth 100000 in
theorem rfin_ok {v : Val} : Fc Tryz.prog gT 188 [vS v] (SV.v (.bool (decide (v.k = 1)))) := by
 refine fb tOK (fn := Tryz.f188) 6 [.tmp 2] Tryz.func188 Tryz.results188 (fun g0 B0 Q ρ0 R => ?_)
 refine en tOK 0 2 [] ?_
 refine sn tOK 0 4 [] ?_
 refine sr 0 R ?_
 rfl
set_option maxRecDepth 100000 in
theorem ris_ok {v : Val} : Fc Tryz.prog gT 48 [vS v] (SV.v (.bool (isV v))) := by
 refine fb tOK (fn := Tryz.f48) 27 [.tmp 2] Tryz.func48 Tryz.results48 (fun g0 B0 Q ρ0 R => ?_)
 refine en tOK 0 2 [] ?_
 refine sn tOK 0 3 [] ?_
 refine si 0 rfl rfl (fun h5 => ?_) (fun h5 => ?_)
 ·have e : isV v = (decide (-1000000000000000 ≤ v.n) && decide (v.n ≤ 1000000000000000)) := by unfold isV; rw [if_pos h5, Bool.decide_and]
  refine en tOK 0 9 [] ?_
  refine sr 0 R ?_
  rw [e]; rfl
 ·have e : isV v = (decide (2 ≤ v.k) && decide (v.k ≤ 5) && decide (v.n = 0)) := by unfold isV; rw [if_neg h5]; simp [Bool.and_assoc]
  refine en tOK 0 14 [] ?_
  refine sr 0 R ?_
  rw [e]; rfl
end Go.Proofs.YtomkgfdigldhcaaGreatDoor
namespace Go.Proofs.YtomkgfdigldhcaaGreatDoor
open Go.KX
set_option maxRecDepth 100000 in
theorem num12_ok {n : Int} : Fc Tryz.prog gT 34 [nI n] (nI n) := by
 refine fb tOK (fn := Tryz.f34) 4 [.tmp 2] Tryz.func34 Tryz.results34 (fun g0 B0 Q ρ0 R => ?_)
 refine en tOK 0 1 [] ?_
 refine sn tOK 0 2 [] ?_
 refine sr 0 R ?_
 rfl
set_option maxRecDepth 100000 in
theorem texts_ok {a b : List Bytes} : Fc Tryz.prog gT 31 [rB a, rB b] (bS (decide (a = b))) := by
 refine fb tOK (fn := Tryz.f31) 26 [.tmp 4] Tryz.func31 Tryz.results31 (fun g0 B0 Q ρ0 R => ?_)
 refine elen 0 rfl (fun hl => ?_)
 rw [List.length_map] at hl
 refine en tOK 0 1 [] ?_
 refine sn tOK 0 5 [] ?_
 refine si 0 rfl rfl (fun h10 => ?_) (fun h10 => ?_)
 ·rw [List.length_map, List.length_map] at h10
  have e : decide (a = b) = false := decide_eq_false (fun h => h10 (by rw [h]))
  refine en tOK 0 1 [] ?_
  refine sr 0 R ?_
  rw [e]; rfl
 ·rw [List.length_map, List.length_map] at h10
  have hab : a.length = b.length := by omega
  refine en tOK 0 1 [] ?_
  refine sl 0 ?_
  refine E_loop (σ := Nat) (fun j => j ≤ a.length ∧ a.take j = b.take j) (fun j => a.length - j)
    (fun j => [(0, rB a), (1, rB b), (5, nI j)])
    (fun j => []) 0 ?_ ?_
  ·exact ⟨Nat.zero_le _, by simp⟩
  ·rintro J j ⟨hj0, hj1⟩ hJ
   refine en tOK 0 4 [] ?_
   refine si 0 rfl rfl (fun h14 => ?_) (fun h14 => ?_)
   ·rw [List.length_map] at h14
    have hj : j < a.length := by omega
    have hjb : j < b.length := by omega
    refine edr 0 0 [0, 0, 3, 7, 0, 0, 48, 112, 255] [0, 1, 2, 3, 4, 5, 6, 7, 8] ?_
    refine xd tOK 9 [[.str a[j]], [.str b[j]]] ?_ (hφ := by (repeat' refine And.intro ?_ ?_) <;> first | omega | simp [hj] | simp [hjb])
    refine xe ?_
    refine si 0 rfl rfl (fun h25 => ?_) (fun h25 => ?_)
    ·have e : decide (a = b) = false := decide_eq_false (fun h => by subst h; exact h25 rfl)
     refine en tOK 0 1 [] ?_
     refine sr 0 R ?_
     rw [e]; rfl
    ·have h25 : a[j] = b[j] := Decidable.not_not.1 h25
     refine en tOK 0 3 [] ?_
     refine sl 0 ?_
     exact hJ (j + 1) ⟨by omega, eq_next hj (by omega) hj1 h25⟩ (by omega)
   ·rw [List.length_map] at h14
    have e : decide (a = b) = true := decide_eq_true (by rw [List.take_of_length_le (by omega), List.take_of_length_le (by omega)] at hj1; exact hj1)
    refine en tOK 0 1 [] ?_
    refine sr 0 R ?_
    rw [e]; rfl
set_option maxRecDepth 100000 in
theorem small_ok {l : List Nd} (hb : ∀ n ∈ l, wN n ≤ 703687441776640) : Fc Tryz.prog gT 27 [rN l] (bS (smallN l)) := by
 refine fb tOK (fn := Tryz.f27) 58 [.tmp 2] Tryz.func27 Tryz.results27 (fun g0 B0 Q ρ0 R => ?_)
 refine elen 0 rfl (fun hl => ?_)
 rw [List.length_map] at hl
 refine en tOK 0 1 [] ?_
 refine sn tOK 0 1 [] ?_
 refine sn tOK 0 1 [] ?_
 refine sl 0 ?_
 refine E_loop (σ := Nat) (fun j => j ≤ l.length ∧ j ≤ 25) (fun j => l.length - j)
   (fun j => [(0, rN l), (3, nI (sumN (l.take j))), (4, nI j)])
   (fun j => []) 0 ?_ ?_
 ·exact ⟨Nat.zero_le _, Nat.zero_le _⟩
 ·rintro J j ⟨hj0, hj1⟩ hJ
  refine en tOK 0 8 [] ?_
  refine sib 0 rfl rfl (fun h12 => ?_) (fun h12 => ?_)
  ·simp only [Bool.and_eq_true, decide_eq_true_eq, List.length_map] at h12
   have hj : j < l.length := by omega
   have hw := hb l[j] (List.getElem_mem hj)
   have hs := sumN_le (l := l.take j) (fun n hn => hb n (List.mem_of_mem_take hn))
   rw [List.length_take] at hs
   have hs2 : sumN (l.take j) ≤ 17592186044416000 := by
    have : min j l.length * 703687441776640 ≤ 25 * 703687441776640 := Nat.mul_le_mul_right _ (by omega)
    omega
   unfold wN at hw
   refine edr 0 0 [0, 0, 0, 6, 14, 30, 62, 127, 0, 0, 768, 1792, 3840, 7936, 16383, 0, 0, 98304, 229376, 491520, 1015808, 2097151, 0, 0, 12582912, 29360128, 62914560, 130023424, 268435455, 0, 0, 1610612736, 3758096384, 8053063680, 16642998272, 34359738367, 68719476735] [0, 1, 2, 3, 4, 5, 6, 7, 8, 9, 10, 11, 12, 13, 14, 15, 16, 17, 18, 19, 20, 21, 22, 23, 24, 25, 26, 27, 28, 29, 30, 31, 32, 33, 34, 35, 36] ?_
   refine xd tOK 37 [ndL l[j], ndL l[j], ndL l[j], ndL l[j], ndL l[j]] ?_ (hφ := by (repeat' refine And.intro ?_ ?_) <;> first | omega | simpa using rN_get hj)
   refine xe ?_
   refine sn tOK 0 3 [] ?_
   refine sl 0 ?_
   refine eas 3 rfl (v' := nI (sumN (l.take (j + 1)))) (by rw [sumN_next hj]; simp only [wN]; congr 2; omega) ?_
   exact hJ (j + 1) ⟨by omega, by omega⟩ (by omega)
  ·have e : (decide ((l.length : Int) ≤ 24) && decide ((sumN (l.take j) : Int) ≤ 8000)) = smallN l := by
    simp only [Bool.and_eq_false_iff, decide_eq_false_iff_not, List.length_map] at h12
    unfold smallN
    by_cases h24 : l.length ≤ 24
    · rw [List.take_of_length_le (by omega), List.take_of_length_le (by omega)]
      congr 1 <;> exact decide_eq_decide.2 (by omega)
    · rw [decide_eq_false (by omega : ¬ (l.length : Int) ≤ 24), decide_eq_false h24]; rfl
   refine en tOK 0 8 [] ?_
   refine sr 0 R ?_
   exact congrArg (fun b => SV.v (.bool b)) (by rw [List.length_map]; exact e)
end Go.Proofs.YtomkgfdigldhcaaGreatDoor
namespace Go.Proofs.YtomkgfdigldhcaaGreatDoor
open Go.KX
set_option maxRecDepth 100000 in
theorem live12_ok  : Fc Tryz.prog gT 28 [] (bS true) := by
 refine fb tOK (fn := Tryz.f28) 63 [.tmp 0] Tryz.func28 Tryz.results28 (fun g0 B0 Q ρ0 R => ?_)
 refine en tOK 0 1 [] ?_
 refine sn tOK 0 3 [] ?_
 refine sn tOK 0 3 [] ?_
 refine sn tOK 0 0 [] ?_
 refine fc tOK 3 [] (rnum_ok) ?_
 refine sn tOK 0 4 [] ?_
 refine fc tOK 5 [] (order_ok (l := [nC, nB, nA]) (by decide)) ?_
 refine sn tOK 0 3 [] ?_
 refine sn tOK 0 3 [] ?_
 refine sn tOK 0 1 [] ?_
 refine fc tOK 4 [] (num12_ok) ?_
 refine fg tOK 6 [] (fun hg => texts_ok (a := (orderN [nC, nB, nA]).1) (b := [[65], [66], [67]])) ?_
 refine fg tOK 0 [] (fun hg => check_ok (cond := [67]) (l := [nA, nB, nC]) (by decide)) ?_
 refine fg tOK 6 [] (fun hg => num12_ok) ?_
 refine fg tOK 0 [] (fun hg => check_ok (cond := [65]) (l := [nX, nY]) (by decide)) ?_
 refine fg tOK 5 [] (fun hg => num12_ok) ?_
 refine fg tOK 0 [] (fun hg => check_ok (cond := [65]) (l := [nZ]) (by decide)) ?_
 refine fg tOK 7 [] (fun hg => num12_ok) ?_
 refine fg tOK 1 [] (fun hg => needs_ok (ref := [66]) (l := [nA, nB, nC]) (by decide)) ?_
 refine fg tOK 2 [] (fun hg => texts_ok (a := needsN [nA, nB, nC] [66]) (b := [[65], [66]])) ?_
 refine sr 0 R ?_
 simp only [live1, live2, live3, live4, live5]
 rfl
end Go.Proofs.YtomkgfdigldhcaaGreatDoor
