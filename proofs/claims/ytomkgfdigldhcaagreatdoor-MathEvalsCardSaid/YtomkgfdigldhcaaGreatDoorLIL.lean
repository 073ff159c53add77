/- WB WC WF WI WD WE UN HM. -/
import Derived.Test.YtomkgfdigldhcaaGreatDoorLIK
set_option maxRecDepth 100000
namespace Go.Proofs.YtomkgfdigldhcaaGreatDoor
open Go.KX
theorem VT {l : List Int} {v : Int} : Fc Tryz.prog gT 318 [rI l, nI v] (nI (jS (fun x => decide (v = x)) l)) := by
 refine fb aA (fn := Tryz.f318) 19 [.tmp 4] Tryz.func318 Tryz.results318 (fun g0 B0 Q ρ0 R => ?_)
 refine en aA 0 1 [] ?_
 refine sn aA 0 3 [] ?_
 refine sl 0 ?_
 refine aD (σ := Nat) (fun j => j ≤ l.length ∧ ∀ x ∈ l.take j, decide (v = x) = false) (fun j => l.length - j)
  (fun j => [(0, rI l), (1, nI v), (4, nI 0), (7, nI l.length), (8, nI j)])
  (fun j => []) 0 ?_ ?_
 ·exact ⟨Nat.zero_le _, by simp⟩
 ·rintro J j ⟨hj0, hj1⟩ hJ
  refine lM 0 rfl (fun hl => ?_)
  simp only [List.length_map] at hl
  refine en aA 0 1 [] ?_
  refine si 0 rfl rfl (fun h9 => ?_) (fun h9 => ?_)
  ·have hj : j < l.length := by omega
   refine en aA 0 2 [] ?_
   refine sn aA 0 6 [[nI l[j]]] ?_ (hφ := by exact ⟨by omega, aO _ hj⟩)
   refine si 0 rfl rfl (fun h16 => ?_) (fun h16 => ?_)
   ·have e := iK (p := fun x => decide (v = x)) hj hj1 (by simpa using h16)
    refine en aA 0 2 [] ?_
    refine sr 0 R ?_
    rw [e]; rfl
   ·have hx : decide (v = l[j]) = false := by simpa using h16
    refine en aA 0 2 [] ?_
    exact hJ (j + 1) ⟨by omega, bH hj hj1 hx⟩ (by omega)
  ·have e := iJ (p := fun x => decide (v = x)) (fun x hx => hj1 x (by rw [List.take_of_length_le (by omega)]; exact hx))
   refine en aA 0 1 [] ?_
   refine sr 0 R ?_
   rw [e]; rfl
theorem RB {l : List Int} {v : Int} : Fc Tryz.prog gT 291 [rI l, nI v] (bS (l.any fun x => decide (v = x))) := by
 refine fb aA (fn := Tryz.f291) 9 [.tmp 4] Tryz.func291 Tryz.results291 (fun g0 B0 Q ρ0 R => ?_)
 refine en aA 0 1 [] ?_
 refine sn aA 0 2 [] ?_
 refine fc aA 2 [] (VT) ?_
 refine sr 0 R ?_
 rw [← kA]; rfl
theorem VU {l : List Val} {fn : FuncId} {p : Val → Bool} (hs : ∀ v ∈ l, Fc Tryz.prog gT fn [vS v] (bS (p v))) : Fc Tryz.prog gT 221 [rV l, .f fn [] []] (nI (jS p l)) := by
 refine fb aA (fn := Tryz.f221) 19 [.tmp 4] Tryz.func221 Tryz.results221 (fun g0 B0 Q ρ0 R => ?_)
 refine en aA 0 1 [] ?_
 refine sn aA 0 3 [] ?_
 refine sl 0 ?_
 refine aD (σ := Nat) (fun j => j ≤ l.length ∧ ∀ x ∈ l.take j, p x = false) (fun j => l.length - j)
  (fun j => [(0, rV l), (1, .f fn [] []), (4, nI 0), (7, nI l.length), (8, nI j)])
  (fun j => []) 0 ?_ ?_
 ·exact ⟨Nat.zero_le _, by simp⟩
 ·rintro J j ⟨hj0, hj1⟩ hJ
  refine lM 0 rfl (fun hl => ?_)
  simp only [List.length_map] at hl
  refine en aA 0 1 [] ?_
  refine si 0 rfl rfl (fun h9 => ?_) (fun h9 => ?_)
  ·have hj : j < l.length := by omega
   refine en aA 0 2 [] ?_
   refine sn aA 0 5 [[nI l[j].k, nI l[j].n]] ?_ (hφ := by exact ⟨by omega, aO _ hj⟩)
   refine fc aA 0 [] (hs l[j] (List.getElem_mem hj)) ?_
   refine bM 0 rfl rfl (fun h16 => ?_) (fun h16 => ?_)
   ·have e := iK hj hj1 h16
    refine en aA 0 2 [] ?_
    refine sr 0 R ?_
    rw [e]; rfl
   ·have hx := h16
    refine en aA 0 2 [] ?_
    exact hJ (j + 1) ⟨by omega, bH hj hj1 hx⟩ (by omega)
  ·have e := iJ (p := p) (fun x hx => hj1 x (by rw [List.take_of_length_le (by omega)]; exact hx))
   refine en aA 0 1 [] ?_
   refine sr 0 R ?_
   rw [e]; rfl
theorem RD {l : List Val} {fn : FuncId} {p : Val → Bool} (hs : ∀ v ∈ l, Fc Tryz.prog gT fn [vS v] (bS (p v))) : Fc Tryz.prog gT 146 [rV l, .f fn [] []] (bS (l.any p)) := by
 refine fb aA (fn := Tryz.f146) 9 [.tmp 4] Tryz.func146 Tryz.results146 (fun g0 B0 Q ρ0 R => ?_)
 refine en aA 0 1 [] ?_
 refine sn aA 0 2 [] ?_
 refine fc aA 2 [] (VU (p := p) hs) ?_
 refine sr 0 R ?_
 rw [← kA]; rfl
theorem ID {v : Val} : Fc Tryz.prog gT 147 [vS v] (bS (!cE v)) := by
 refine fb aA (fn := Tryz.f147) 6 [.tmp 2] Tryz.func147 Tryz.results147 (fun g0 B0 Q ρ0 R => ?_)
 refine en aA 0 2 [] ?_
 refine sn aA 0 1 [] ?_
 refine fc aA 2 [] (RA) ?_
 refine sr 0 R ?_
 rfl
theorem AG {l : List Val} : Fc Tryz.prog gT 101 [rV l] (nI (if l.all cE then 0 else 80)) := by
 refine fb aA (fn := Tryz.f101) 5 [.tmp 2] Tryz.func101 Tryz.results101 (fun g0 B0 Q ρ0 R => ?_)
 refine en aA 0 1 [] ?_
 refine sn aA 0 1 [] ?_
 refine fc aA 0 [] (RD (p := fun v => !cE v) (fun v _ => ID)) ?_
 refine bM 0 rfl rfl (fun h4 => ?_) (fun h4 => ?_)
 ·have e : ¬ l.all cE = true := by simpa using h4
  refine en aA 0 1 [] ?_
  refine sr 0 R ?_
  first | (rw [if_pos e]; rfl) | (rw [if_neg e]; rfl)
 ·have e : l.all cE = true := by simpa using h4
  refine en aA 0 1 [] ?_
  refine sr 0 R ?_
  first | (rw [if_pos e]; rfl) | (rw [if_neg e]; rfl)
theorem o6 {l : List Int} {v : Val} : Fc Tryz.prog gT 290 [vS v, .p [rI l]] (vS (aL (l.any fun x => decide (v.k = x)))) := by
 refine fb aA (fn := Tryz.f290) 9 [.cell 3 26] Tryz.func290 Tryz.results290 (fun g0 B0 Q ρ0 R => ?_)
 refine en aA 0 2 [] ?_
 refine sn aA 0 3 [] ?_
 refine fc aA 0 [] (RB) ?_
 refine fc aA 1 [] (j1) ?_
 refine sr 0 R ?_
 rfl
theorem rM {l : List Int} : Fc Tryz.prog gT 235 [rI l] (.f 290 [] [.p [rI l]]) := by
 refine fb aA (fn := Tryz.f235) 4 [.tmp 2] Tryz.func235 Tryz.results235 (fun g0 B0 Q ρ0 R => ?_)
 refine en aA 0 2 [] ?_
 refine sz 1 ?_
 refine sn aA 0 2 [] ?_
 refine sr 0 R ?_
 rfl
theorem xR {v : Val} {fn : FuncId} {φ : Int → Int} (hv : cE v = true) (hs : ∀ n, -1000000000000001 ≤ n → n ≤ 1000000000000001 → Fc Tryz.prog gT fn [nI n] (nI (φ n))) : Fc Tryz.prog gT 289 [vS v, .p [.f fn [] []]] (vS (j9 φ v)) := by
 refine fb aA (fn := Tryz.f289) 18 [.cell 3 26] Tryz.func289 Tryz.results289 (fun g0 B0 Q ρ0 R => ?_)
 refine en aA 0 2 [] ?_
 refine sn aA 0 8 [] ?_
 refine bM 0 rfl rfl (fun h11 => ?_) (fun h11 => ?_)
 ·have e : j9 φ v = v := by unfold j9; rw [if_pos (by simpa using h11)]
  refine en aA 0 2 [] ?_
  refine sr 0 R ?_
  rw [e]; rfl
 ·have e : j9 φ v = aK (φ (cJ v)) := by unfold j9; rw [if_neg (by simpa using h11)]
  refine jH 0 32 [0, 0, 2, 7, 15, 31] [0, 1, 2, 3, 4, 5] ?_
  refine xd aA 2 [] ?_
  refine dc aA 0 [] (l6) ?_
  refine dc aA 0 [] (hs (cJ v) (uP hv).1 (uP hv).2) ?_
  refine dc aA 1 [] (rJ) ?_
  refine xe ?_
  refine sr 0 R ?_
  rw [e]; rfl
theorem AH {fn : FuncId} : Fc Tryz.prog gT 228 [.f fn [] []] (.f 289 [] [.p [.f fn [] []]]) := by
 refine fb aA (fn := Tryz.f228) 4 [.tmp 2] Tryz.func228 Tryz.results228 (fun g0 B0 Q ρ0 R => ?_)
 refine en aA 0 2 [] ?_
 refine sz 1 ?_
 refine sn aA 0 2 [] ?_
 refine sr 0 R ?_
 rfl
theorem jU {a b : Val} {fn : FuncId} {φ : Val → Val → Val} (hs : Fc Tryz.prog gT fn [vS a, vS b] (vS (φ a b))) : Fc Tryz.prog gT 292 [vS a, vS b, .p [.f fn [] []]] (vS (cL φ a b)) := by
 refine fb aA (fn := Tryz.f292) 19 [.cell 5 26] Tryz.func292 Tryz.results292 (fun g0 B0 Q ρ0 R => ?_)
 refine en aA 0 3 [] ?_
 refine sn aA 0 8 [] ?_
 refine bM 0 rfl rfl (fun h13 => ?_) (fun h13 => ?_)
 ·have e : cL φ a b = fG := by unfold cL; rw [if_pos (by simpa using h13)]
  refine en aA 0 0 [] ?_
  refine fc aA 1 [] (o5) ?_
  refine sr 0 R ?_
  rw [e]; rfl
 ·have e : cL φ a b = φ a b := by unfold cL; rw [if_neg (by simpa using h13)]
  refine en aA 0 3 [] ?_
  refine fc aA 1 [] (hs) ?_
  refine sr 0 R ?_
  rw [e]; rfl
theorem k7 {fn : FuncId} : Fc Tryz.prog gT 236 [.f fn [] []] (.f 292 [] [.p [.f fn [] []]]) := by
 refine fb aA (fn := Tryz.f236) 4 [.tmp 2] Tryz.func236 Tryz.results236 (fun g0 B0 Q ρ0 R => ?_)
 refine en aA 0 2 [] ?_
 refine sz 1 ?_
 refine sn aA 0 2 [] ?_
 refine sr 0 R ?_
 rfl
theorem iN {a b : Val} {fn : FuncId} {no : Bool} {φ : Int → Int → Bool} (hs : ∀ x y, Fc Tryz.prog gT fn [nI x, nI y] (bS (φ x y))) : Fc Tryz.prog gT 296 [vS a, vS b, .p [bS no], .p [.f fn [] []]] (vS (cZ no φ a b)) := by
 refine fb aA (fn := Tryz.f296) 24 [.cell 6 26] Tryz.func296 Tryz.results296 (fun g0 B0 Q ρ0 R => ?_)
 refine en aA 0 3 [] ?_
 refine sn aA 0 8 [] ?_
 refine bM 0 rfl rfl (fun h14 => ?_) (fun h14 => ?_)
 ·have e : cZ no φ a b = aL no := by unfold cZ; rw [if_pos (by simpa using h14)]
  refine en aA 0 1 [] ?_
  refine fc aA 1 [] (j1) ?_
  refine sr 0 R ?_
  rw [e]; rfl
 ·have e : cZ no φ a b = aL (φ (cJ a) (cJ b)) := by unfold cZ; rw [if_neg (by simpa using h14)]
  refine jH 0 128 [0, 0, 2, 0, 14, 31, 63, 127] [0, 1, 2, 3, 4, 5, 6, 7] ?_
  refine xd aA 2 [] ?_
  refine dc aA 1 [] (l6) ?_
  refine dc aA 0 [] (l6) ?_
  refine dc aA 0 [] (hs (cJ a) (cJ b)) ?_
  refine dc aA 1 [] (j1) ?_
  refine xe ?_
  refine sr 0 R ?_
  rw [e]; rfl
theorem j2 {fn : FuncId} {no : Bool} : Fc Tryz.prog gT 243 [bS no, .f fn [] []] (.f 296 [] [.p [bS no], .p [.f fn [] []]]) := by
 refine fb aA (fn := Tryz.f243) 6 [.tmp 4] Tryz.func243 Tryz.results243 (fun g0 B0 Q ρ0 R => ?_)
 refine en aA 0 3 [] ?_
 refine sz 2 ?_
 refine sz 3 ?_
 refine sn aA 0 2 [] ?_
 refine sr 0 R ?_
 rfl
theorem RE {n : Int} (h1 : -1000000000000001 ≤ n) (h2 : n ≤ 1000000000000001) : Fc Tryz.prog gT 229 [nI n] (nI (-n)) := by
 refine fb aA (fn := Tryz.f229) 5 [.tmp 2] Tryz.func229 Tryz.results229 (fun g0 B0 Q ρ0 R => ?_)
 refine en aA 0 1 [] ?_
 refine sn aA 0 3 [] ?_
 refine sr 0 R ?_
 rw [← Int.zero_sub]; rfl
theorem RF {n : Int} (h1 : -1000000000000001 ≤ n) (h2 : n ≤ 1000000000000001) : Fc Tryz.prog gT 230 [nI n] (nI (max n (-n))) := by
 refine fb aA (fn := Tryz.f230) 7 [.tmp 2] Tryz.func230 Tryz.results230 (fun g0 B0 Q ρ0 R => ?_)
 refine en aA 0 1 [] ?_
 refine sn aA 0 5 [] ?_
 refine sr 0 R ?_
 rw [← Int.zero_sub]; rfl
theorem RG {v : Val} : Fc Tryz.prog gT 233 [vS v] (vS (HC v)) := by
 refine fb aA (fn := Tryz.f233) 11 [.cell 2 26] Tryz.func233 Tryz.results233 (fun g0 B0 Q ρ0 R => ?_)
 refine en aA 0 2 [] ?_
 refine sn aA 0 3 [] ?_
 refine si 0 rfl rfl (fun h5 => ?_) (fun h5 => ?_)
 ·have e : HC v = v := by unfold HC; rw [if_pos h5]
  refine en aA 0 2 [] ?_
  refine sr 0 R ?_
  rw [e]; rfl
 ·have e : HC v = aL (!kS v) := by unfold HC; rw [if_neg h5]
  refine en aA 0 1 [] ?_
  refine fc aA 1 [] (nZ) ?_
  refine fc aA 1 [] (j1) ?_
  refine sr 0 R ?_
  rw [e]; rfl
theorem RH {v : Val} (hv : cE v = true) : Fc Tryz.prog gT 231 [vS v] (vS (nK v)) := by
 refine fb aA (fn := Tryz.f231) 15 [.cell 2 26] Tryz.func231 Tryz.results231 (fun g0 B0 Q ρ0 R => ?_)
 refine en aA 0 2 [] ?_
 refine sn aA 0 1 [] ?_
 refine fc aA 0 [] (fC) ?_
 refine bM 0 rfl rfl (fun h4 => ?_) (fun h4 => ?_)
 ·have hk : v.k = 1 := by simpa [fL] using h4
  have hn := kU hv
  have e : nK v = aK (v.n - (v.n.tmod 1000 + 1000).tmod 1000) := by unfold nK; rw [if_pos hk]
  have t1 := tmod_lt v.n
  have t2 := tmod_lt (v.n.tmod 1000 + 1000)
  refine en aA 0 8 [] ?_
  refine fc aA 1 [] (eK) ?_
  refine sr 0 R ?_
  rw [e]; rfl
 ·have e : nK v = v := by unfold nK; rw [if_neg (by simpa [fL] using h4)]
  refine en aA 0 2 [] ?_
  refine sr 0 R ?_
  rw [e]; rfl
theorem RI {a b : Int} : Fc Tryz.prog gT 244 [nI a, nI b] (bS (decide (a = b))) := by
 refine fb aA (fn := Tryz.f244) 8 [.tmp 4] Tryz.func244 Tryz.results244 (fun g0 B0 Q ρ0 R => ?_)
 refine en aA 0 1 [] ?_
 refine sn aA 0 4 [] ?_
 refine sr 0 R ?_
 rfl
theorem RJ {a b : Int} : Fc Tryz.prog gT 245 [nI a, nI b] (bS (decide (a ≠ b))) := by
 refine fb aA (fn := Tryz.f245) 8 [.tmp 4] Tryz.func245 Tryz.results245 (fun g0 B0 Q ρ0 R => ?_)
 refine en aA 0 1 [] ?_
 refine sn aA 0 4 [] ?_
 refine sr 0 R ?_
 rfl
theorem RL {a b : Int} : Fc Tryz.prog gT 246 [nI a, nI b] (bS (decide (a < b))) := by
 refine fb aA (fn := Tryz.f246) 8 [.tmp 4] Tryz.func246 Tryz.results246 (fun g0 B0 Q ρ0 R => ?_)
 refine en aA 0 1 [] ?_
 refine sn aA 0 4 [] ?_
 refine sr 0 R ?_
 rfl
theorem RN {a b : Int} : Fc Tryz.prog gT 247 [nI a, nI b] (bS (decide (a ≤ b))) := by
 refine fb aA (fn := Tryz.f247) 8 [.tmp 4] Tryz.func247 Tryz.results247 (fun g0 B0 Q ρ0 R => ?_)
 refine en aA 0 1 [] ?_
 refine sn aA 0 4 [] ?_
 refine sr 0 R ?_
 rfl
theorem RO {a b : Int} : Fc Tryz.prog gT 248 [nI a, nI b] (bS (decide (b < a))) := by
 refine fb aA (fn := Tryz.f248) 8 [.tmp 4] Tryz.func248 Tryz.results248 (fun g0 B0 Q ρ0 R => ?_)
 refine en aA 0 1 [] ?_
 refine sn aA 0 4 [] ?_
 refine sr 0 R ?_
 rfl
theorem RQ {a b : Int} : Fc Tryz.prog gT 249 [nI a, nI b] (bS (decide (b ≤ a))) := by
 refine fb aA (fn := Tryz.f249) 8 [.tmp 4] Tryz.func249 Tryz.results249 (fun g0 B0 Q ρ0 R => ?_)
 refine en aA 0 1 [] ?_
 refine sn aA 0 4 [] ?_
 refine sr 0 R ?_
 rfl
theorem RS {a b : Val} : Fc Tryz.prog gT 250 [vS a, vS b] (vS (aL (kS a && kS b))) := by
 refine fb aA (fn := Tryz.f250) 12 [.cell 4 26] Tryz.func250 Tryz.results250 (fun g0 B0 Q ρ0 R => ?_)
 refine en aA 0 3 [] ?_
 refine sn aA 0 1 [] ?_
 refine fc aA 2 [] (nZ) ?_
 refine fg aA 1 [] (fun hg => nZ) ?_
 refine fc aA 1 [] (j1) ?_
 refine sr 0 R ?_
 rfl
theorem RU {a b : Val} : Fc Tryz.prog gT 251 [vS a, vS b] (vS (aL (kS a || kS b))) := by
 refine fb aA (fn := Tryz.f251) 12 [.cell 4 26] Tryz.func251 Tryz.results251 (fun g0 B0 Q ρ0 R => ?_)
 refine en aA 0 3 [] ?_
 refine sn aA 0 1 [] ?_
 refine fc aA 2 [] (nZ) ?_
 refine fg aA 1 [] (fun hg => nZ) ?_
 refine fc aA 1 [] (j1) ?_
 refine sr 0 R ?_
 rfl
end Go.Proofs.YtomkgfdigldhcaaGreatDoor
namespace Go.Proofs.YtomkgfdigldhcaaGreatDoor
open Go.KX
theorem xT {w : World} (a b : Val) : (Op.eqFields 9999 #[.int .i64 a.k, .int .i64 a.n] #[.int .i64 b.k, .int .i64 b.n] (match Tryz.prog.underlying 26 with | some (.struct fl) => fl | _ => #[]).toList).run Tryz.prog w = .ok (decide (a = b)) w := by
 rw [Tryz.underlying26]
 dsimp only
 rw [IZ (by decide) Tryz.underlying3 rfl rfl, IZ (by decide) Tryz.underlying2 rfl rfl]
 obtain ⟨k, n⟩ := a
 obtain ⟨k2, n2⟩ := b
 by_cases h1 : k = k2 <;> by_cases h2 : n = n2 <;> simp [h1, h2, Op.eqFields]
theorem KW {a b : Val} (ha : cE a = true) (hb : cE b = true) : Fc Tryz.prog gT 237 [vS a, vS b] (vS (pC a b)) := by
 refine fb aA (fn := Tryz.f237) 38 [.cell 4 26] Tryz.func237 Tryz.results237 (fun g0 B0 Q ρ0 R => ?_)
 have a1 := kU ha
 have b1 := kU hb
 refine en aA 0 3 [] ?_
 refine sn aA 0 1 [] ?_
 refine fc aA 2 [] (fC) ?_
 refine fg aA 2 [] (fun hg => fC) ?_
 refine bM 0 rfl rfl (fun h5 => ?_) (fun h5 => ?_)
 ·have e : pC a b = aK (a.n + b.n) := by unfold pC; rw [if_pos (by simpa [fL] using h5)]
  refine en aA 0 5 [] ?_
  refine fc aA 1 [] (eK) ?_
  refine sr 0 R ?_
  rw [e]; rfl
 ·refine en aA 0 1 [] ?_
  refine fc aA 3 [] (fC) ?_
  refine fg aA 5 [] (fun hg => fC) ?_
  refine sq aA 2 [] true (b := decide (a = b)) Tryz.underlying26 (by kernel_rfl) (fun w => xT _ _) ?_
  refine bM 0 rfl rfl (fun h18 => ?_) (fun h18 => ?_)
  ·have e : pC a b = fG := by unfold pC; rw [if_neg (by simpa [fL] using h5), if_pos (by simpa [fL, and_assoc] using h18)]
   refine en aA 0 0 [] ?_
   refine fc aA 1 [] (o5) ?_
   refine sr 0 R ?_
   rw [e]; rfl
  ·refine en aA 0 1 [] ?_
   refine fc aA 1 [] (fC) ?_
   refine bM 0 rfl rfl (fun h33 => ?_) (fun h33 => ?_)
   ·have e : pC a b = b := by unfold pC; rw [if_neg (by simpa [fL] using h5), if_neg (by simpa [fL, and_assoc] using h18), if_pos (by simpa [fL] using h33)]
    refine en aA 0 2 [] ?_
    refine sr 0 R ?_
    rw [e]; rfl
   ·have e : pC a b = a := by unfold pC; rw [if_neg (by simpa [fL] using h5), if_neg (by simpa [fL, and_assoc] using h18), if_neg (by simpa [fL] using h33)]
    refine en aA 0 2 [] ?_
    refine sr 0 R ?_
    rw [e]; rfl
theorem VV {a b : Val} (ha : cE a = true) (hb : cE b = true) : Fc Tryz.prog gT 242 [vS a, vS b] (vS (divV a b)) := by
 refine fb aA (fn := Tryz.f242) 52 [.cell 4 26] Tryz.func242 Tryz.results242 (fun g0 B0 Q ρ0 R => ?_)
 have a1 := kU ha
 have b1 := kU hb
 have a2 := uP ha
 refine en aA 0 3 [] ?_
 refine sn aA 0 1 [] ?_
 refine fc aA 3 [] (fC) ?_
 refine fg aA 3 [] (fun hg => fC) ?_
 refine bM 0 rfl rfl (fun h5 => ?_) (fun h5 => ?_)
 ·have e : divV a b = fG := by unfold divV; rw [if_pos (by simpa [fL] using h5)]
  refine en aA 0 0 [] ?_
  refine fc aA 1 [] (o5) ?_
  refine sr 0 R ?_
  first | (rw [e]; rfl) | (simp only [hq]; rw [e]; rfl)
 ·refine en aA 0 1 [] ?_
  refine fc aA 2 [] (fC) ?_
  refine bM 0 rfl rfl (fun h15 => ?_) (fun h15 => ?_)
  ·have e : divV a b = aK 0 := by unfold divV; rw [if_neg (by simpa [fL] using h5), if_pos (by simpa [fL] using h15)]
   refine en aA 0 0 [] ?_
   refine fc aA 1 [] (eK) ?_
   refine sr 0 R ?_
   first | (rw [e]; rfl) | (simp only [hq]; rw [e]; rfl)
  ·refine en aA 0 1 [] ?_
   refine fc aA 7 [] (fC) ?_
   refine bM 0 rfl rfl (fun h20 => ?_) (fun h20 => ?_)
   ·have e : divV a b = aK (-cJ a) := by unfold divV; rw [if_neg (by simpa [fL] using h5), if_neg (by simpa [fL] using h15), if_pos (by simpa [fL] using h20)]
    rw [← Int.zero_sub] at e
    refine en aA 0 1 [] ?_
    refine fc aA 1 [] (l6) ?_
    refine fc aA 1 [] (rJ) ?_
    refine sr 0 R ?_
    first | (rw [e]; rfl) | (simp only [hq]; rw [e]; rfl)
   ·refine en aA 0 1 [] ?_
    refine fc aA 2 [] (fC) ?_
    refine bM 0 rfl rfl (fun h33 => ?_) (fun h33 => ?_)
    ·have e : divV a b = a := by unfold divV; rw [if_neg (by simpa [fL] using h5), if_neg (by simpa [fL] using h15), if_neg (by simpa [fL] using h20), if_pos (by simpa [fL] using h33)]
     refine en aA 0 2 [] ?_
     refine sr 0 R ?_
     first | (rw [e]; rfl) | (simp only [hq]; rw [e]; rfl)
    ·refine en aA 0 4 [] ?_
     refine si 0 rfl rfl (fun h38 => ?_) (fun h38 => ?_)
     ·have e : divV a b = mV a.n := by unfold divV; rw [if_neg (by simpa [fL] using h5), if_neg (by simpa [fL] using h15), if_neg (by simpa [fL] using h20), if_neg (by simpa [fL] using h33), if_pos h38]
      refine en aA 0 2 [] ?_
      refine fc aA 1 [] (u5) ?_
      refine sr 0 R ?_
      first | (rw [e]; rfl) | (simp only [hq]; rw [e]; rfl)
     ·have e : divV a b = aK ((a.n * 1000).tdiv b.n) := by unfold divV; rw [if_neg (by simpa [fL] using h5), if_neg (by simpa [fL] using h15), if_neg (by simpa [fL] using h20), if_neg (by simpa [fL] using h33), if_neg h38]
      have hq := vX (a := a.n * 1000) (b := b.n) (by omega) (by omega)
      refine en aA 0 6 [] ?_
      refine fc aA 1 [] (eK) ?_
      refine sr 0 R ?_
      first | (rw [e]; rfl) | (simp only [hq]; rw [e]; rfl)
theorem RV {a b : Val} (ha : cE a = true) (hb : cE b = true) : Fc Tryz.prog gT 238 [vS a, vS b] (vS (pC a (A6 b))) := by
 refine fb aA (fn := Tryz.f238) 11 [.cell 4 26] Tryz.func238 Tryz.results238 (fun g0 B0 Q ρ0 R => ?_)
 have b2 := uP hb
 refine en aA 0 3 [] ?_
 refine DZ 0 64 [0, 0, 2, 6, 14, 31, 63] [0, 1, 2, 3, 4, 5, 6] ?_
 refine xd aA 2 [] ?_
 refine dc aA 1 [] (l6) ?_
 refine dc aA 0 [] (rJ) ?_
 refine dc aA 1 [] (KW ha (uN _)) ?_
 refine xe ?_
 refine sr 0 R ?_
 unfold A6; rw [← Int.zero_sub]; rfl
theorem xU  : Fc Tryz.prog gT 84 [] (vS eI) := by
 refine fb aA (fn := Tryz.f84) 2 [.cell 0 26] Tryz.func84 Tryz.results84 (fun g0 B0 Q ρ0 R => ?_)
 refine en aA 0 1 [] ?_
 refine sn aA 0 2 [] ?_
 refine sr 0 R ?_
 rfl
theorem o7  : Fc Tryz.prog gT 192 [] (vS fG) := by
 refine fb aA (fn := Tryz.f192) 2 [.cell 0 26] Tryz.func192 Tryz.results192 (fun g0 B0 Q ρ0 R => ?_)
 refine en aA 0 1 [] ?_
 refine sn aA 0 2 [] ?_
 refine sr 0 R ?_
 rfl
theorem n0  : Fc Tryz.prog gT 90 [] (vS fE) := by
 refine fb aA (fn := Tryz.f90) 2 [.cell 0 26] Tryz.func90 Tryz.results90 (fun g0 B0 Q ρ0 R => ?_)
 refine en aA 0 1 [] ?_
 refine sn aA 0 2 [] ?_
 refine sr 0 R ?_
 rfl
theorem o8  : Fc Tryz.prog gT 91 [] (vS eF) := by
 refine fb aA (fn := Tryz.f91) 2 [.cell 0 26] Tryz.func91 Tryz.results91 (fun g0 B0 Q ρ0 R => ?_)
 refine en aA 0 1 [] ?_
 refine sn aA 0 2 [] ?_
 refine sr 0 R ?_
 rfl
theorem b6 {n : Int} : Fc Tryz.prog gT 46 [nI n] (vS (aK n)) := by
 refine fb aA (fn := Tryz.f46) 11 [.cell 2 26] Tryz.func46 Tryz.results46 (fun g0 B0 Q ρ0 R => ?_)
 refine en aA 0 1 [] ?_
 refine sn aA 0 2 [] ?_
 refine si 0 rfl rfl (fun h4 => ?_) (fun h4 => ?_)
 ·have e : aK n = fE := by unfold aK; rw [if_pos h4]
  refine en aA 0 0 [] ?_
  refine fc aA 1 [] (n0) ?_
  refine sr 0 R ?_
  rw [e]; rfl
 ·refine en aA 0 2 [] ?_
  refine si 0 rfl rfl (fun h7 => ?_) (fun h7 => ?_)
  ·have e : aK n = eF := by unfold aK; rw [if_neg h4, if_pos h7]
   refine en aA 0 0 [] ?_
   refine fc aA 1 [] (o8) ?_
   refine sr 0 R ?_
   rw [e]; rfl
  ·have e : aK n = ⟨1, n⟩ := by unfold aK; rw [if_neg h4, if_neg h7]
   refine en aA 0 3 [] ?_
   refine sr 0 R ?_
   rw [e]; rfl
theorem cB {b : Bool} : Fc Tryz.prog gT 187 [.v (.bool b)] (vS (aL b)) := by
 refine fb aA (fn := Tryz.f187) 6 [.cell 2 26] Tryz.func187 Tryz.results187 (fun g0 B0 Q ρ0 R => ?_)
 refine en aA 0 1 [] ?_
 refine sn aA 0 1 [] ?_
 refine bM 0 rfl rfl (fun h3 => ?_) (fun h3 => ?_)
 ·refine en aA 0 0 [] ?_
  refine fc aA 1 [] (b6) ?_
  refine sr 0 R ?_
  rw [h3]; rfl
 ·refine en aA 0 0 [] ?_
  refine fc aA 1 [] (b6) ?_
  refine sr 0 R ?_
  rw [h3]; rfl
theorem b7 {v : Val} : Fc Tryz.prog gT 188 [vS v] (SV.v (.bool (decide (v.k = 1)))) := by
 refine fb aA (fn := Tryz.f188) 6 [.tmp 2] Tryz.func188 Tryz.results188 (fun g0 B0 Q ρ0 R => ?_)
 refine en aA 0 2 [] ?_
 refine sn aA 0 4 [] ?_
 refine sr 0 R ?_
 rfl
theorem kJ {v : Val} : Fc Tryz.prog gT 189 [vS v] (nI (cC v)) := by
 refine fb aA (fn := Tryz.f189) 21 [.tmp 2] Tryz.func189 Tryz.results189 (fun g0 B0 Q ρ0 R => ?_)
 refine en aA 0 2 [] ?_
 refine sn aA 0 9 [] ?_
 refine bM 0 rfl rfl (fun h3 => ?_) (fun h3 => ?_)
 ·have e : cC v = 1 := by unfold cC; rw [if_pos (by simpa using h3)]
  refine en aA 0 1 [] ?_
  refine sr 0 R ?_
  rw [e]; rfl
 ·refine en aA 0 9 [] ?_
  refine bM 0 rfl rfl (fun h12 => ?_) (fun h12 => ?_)
  ·have e : cC v = -1 := by unfold cC; rw [if_neg (by simpa using h3), if_pos (by simpa using h12)]
   refine en aA 0 1 [] ?_
   refine sr 0 R ?_
   rw [e]; rfl
  ·have e : cC v = 0 := by unfold cC; rw [if_neg (by simpa using h3), if_neg (by simpa using h12)]
   refine en aA 0 1 [] ?_
   refine sr 0 R ?_
   rw [e]; rfl
theorem qA {s : Int} : Fc Tryz.prog gT 272 [nI s] (vS (dR s)) := by
 refine fb aA (fn := Tryz.f272) 12 [.cell 2 26] Tryz.func272 Tryz.results272 (fun g0 B0 Q ρ0 R => ?_)
 refine en aA 0 1 [] ?_
 refine sn aA 0 3 [] ?_
 refine si 0 rfl rfl (fun h3 => ?_) (fun h3 => ?_)
 ·have e : dR s = fE := by unfold dR; rw [if_pos h3]
  refine en aA 0 0 [] ?_
  refine fc aA 1 [] (n0) ?_
  refine sr 0 R ?_
  rw [e]; rfl
 ·refine en aA 0 3 [] ?_
  refine si 0 rfl rfl (fun h7 => ?_) (fun h7 => ?_)
  ·have e : dR s = eF := by unfold dR; rw [if_neg h3, if_pos h7]
   refine en aA 0 0 [] ?_
   refine fc aA 1 [] (o8) ?_
   refine sr 0 R ?_
   rw [e]; rfl
  ·have e : dR s = fG := by unfold dR; rw [if_neg h3, if_neg h7]
   refine en aA 0 0 [] ?_
   refine fc aA 1 [] (o7) ?_
   refine sr 0 R ?_
   rw [e]; rfl
theorem iO {v : Val} (hv : -1000000000000001 ≤ v.n ∧ v.n ≤ 1000000000000001) : Fc Tryz.prog gT 190 [vS v] (vS (bO v)) := by
 refine fb aA (fn := Tryz.f190) 16 [.cell 2 26] Tryz.func190 Tryz.results190 (fun g0 B0 Q ρ0 R => ?_)
 refine en aA 0 2 [] ?_
 refine sn aA 0 2 [] ?_
 refine sn aA 0 2 [] ?_
 refine si 0 rfl rfl (fun h5 => ?_) (fun h5 => ?_)
 ·have e : bO v = eF := by unfold bO; rw [if_pos h5]
  refine en aA 0 0 [] ?_
  refine fc aA 1 [] (o8) ?_
  refine sr 0 R ?_
  rw [e]; rfl
 ·refine en aA 0 2 [] ?_
  refine si 0 rfl rfl (fun h8 => ?_) (fun h8 => ?_)
  ·have e : bO v = fE := by unfold bO; rw [if_neg h5, if_pos h8]
   refine en aA 0 0 [] ?_
   refine fc aA 1 [] (n0) ?_
   refine sr 0 R ?_
   rw [e]; rfl
  ·have e : bO v = ⟨v.k, 0 - v.n⟩ := by unfold bO; rw [if_neg h5, if_neg h8, Int.zero_sub]
   refine en aA 0 5 [] ?_
   refine sn aA 0 2 [] ?_
   refine sr 0 R ?_
   rw [e]; rfl
theorem FU {n : Int} (h0 : -1000000000000001 ≤ n ∧ n ≤ 1000000000000001) : Fc Tryz.prog gT 273 [nI n] (nI (dB n)) := by
 refine fb aA (fn := Tryz.f273) 8 [.tmp 2] Tryz.func273 Tryz.results273 (fun g0 B0 Q ρ0 R => ?_)
 refine en aA 0 1 [] ?_
 refine sn aA 0 2 [] ?_
 refine si 0 rfl rfl (fun h4 => ?_) (fun h4 => ?_)
 ·have e : dB n = 0 - n := by unfold dB; rw [if_pos h4, Int.zero_sub]
  refine en aA 0 3 [] ?_
  refine sr 0 R ?_
  rw [e]; rfl
 ·have e : dB n = n := by unfold dB; rw [if_neg h4]
  refine en aA 0 2 [] ?_
  refine sr 0 R ?_
  rw [e]; rfl
theorem B8 {v : Val} : Fc Tryz.prog gT 48 [vS v] (SV.v (.bool (cE v))) := by
 refine fb aA (fn := Tryz.f48) 27 [.tmp 2] Tryz.func48 Tryz.results48 (fun g0 B0 Q ρ0 R => ?_)
 refine en aA 0 2 [] ?_
 refine sn aA 0 3 [] ?_
 refine si 0 rfl rfl (fun h5 => ?_) (fun h5 => ?_)
 ·have e : cE v = (decide (-1000000000000000 ≤ v.n) && decide (v.n ≤ 1000000000000000)) := by unfold cE; rw [if_pos h5, Bool.decide_and]
  refine en aA 0 9 [] ?_
  refine sr 0 R ?_
  rw [e]; rfl
 ·have e : cE v = (decide (2 ≤ v.k) && decide (v.k ≤ 5) && decide (v.n = 0)) := by unfold cE; rw [if_neg h5]; simp [Bool.and_assoc]
  refine en aA 0 14 [] ?_
  refine sr 0 R ?_
  rw [e]; rfl
theorem jF {v : Val} : Fc Tryz.prog gT 49 [vS v] (SV.v (.bool (dV v))) := by
 refine fb aA (fn := Tryz.f49) 26 [.tmp 2] Tryz.func49 Tryz.results49 (fun g0 B0 Q ρ0 R => ?_)
 refine en aA 0 2 [] ?_
 refine sn aA 0 24 [] ?_
 refine sr 0 R ?_
 simp [bB, dV, Bool.or_assoc]
theorem rN {a b : Val} : Fc Tryz.prog gT 191 [vS a, vS b] (SV.v (.bool (fN a b))) := by
 refine fb aA (fn := Tryz.f191) 31 [.tmp 4] Tryz.func191 Tryz.results191 (fun g0 B0 Q ρ0 R => ?_)
 refine en aA 0 3 [] ?_
 refine sn aA 0 1 [] ?_
 refine fc aA 2 [] (b7) ?_
 refine fg aA 2 [] (fun hg => b7) ?_
 refine bM 0 rfl rfl (fun h5 => ?_) (fun h5 => ?_)
 ·have e : fN a b = decide (a.n < b.n) := by unfold fN; rw [if_pos (by simpa using h5)]
  refine en aA 0 6 [] ?_
  refine sr 0 R ?_
  rw [e]; rfl
 ·refine en aA 0 6 [] ?_
  refine si 0 rfl rfl (fun h17 => ?_) (fun h17 => ?_)
  ·have e : fN a b = false := by unfold fN; rw [if_neg (by simpa using h5), if_pos h17]
   refine en aA 0 1 [] ?_
   refine sr 0 R ?_
   rw [e]; rfl
  ·have e : fN a b = (decide (a.k = 5) || decide (b.k = 4)) := by unfold fN; rw [if_neg (by simpa using h5), if_neg h17]; simp
   refine en aA 0 9 [] ?_
   refine sr 0 R ?_
   rw [e]; rfl
theorem KY {a b : Val} (ha : -1000000000000001 ≤ a.n ∧ a.n ≤ 1000000000000001) (hb : -1000000000000001 ≤ b.n ∧ b.n ≤ 1000000000000001) : Fc Tryz.prog gT 193 [vS a, vS b] (vS (nL a b)) := by
 refine fb aA (fn := Tryz.f193) 32 [.cell 4 26] Tryz.func193 Tryz.results193 (fun g0 B0 Q ρ0 R => ?_)
 refine en aA 0 3 [] ?_
 refine sn aA 0 1 [] ?_
 refine fc aA 2 [] (b7) ?_
 refine fg aA 2 [] (fun hg => b7) ?_
 refine bM 0 rfl rfl (fun h5 => ?_) (fun h5 => ?_)
 ·have e : nL a b = aK (a.n + b.n) := by unfold nL; rw [if_pos (by simpa using h5)]
  refine en aA 0 5 [] ?_
  refine fc aA 1 [] (b6) ?_
  refine sr 0 R ?_
  rw [e]; rfl
 ·refine en aA 0 1 [] ?_
  refine fc aA 1 [] (b7) ?_
  refine bM 0 rfl rfl (fun h18 => ?_) (fun h18 => ?_)
  ·have e : nL a b = b := by unfold nL; rw [if_neg (by simpa using h5), if_pos (by simpa using h18)]
   refine en aA 0 2 [] ?_
   refine sr 0 R ?_
   rw [e]; rfl
  ·refine en aA 0 1 [] ?_
   refine fc aA 3 [] (b7) ?_
   refine sq aA 2 [] false (b := decide (a = b)) Tryz.underlying26 (by kernel_rfl) (fun w => xT _ _) ?_
   refine bM 0 rfl rfl (fun h22 => ?_) (fun h22 => ?_)
   ·have e : nL a b = a := by unfold nL; rw [if_neg (by simpa using h5), if_neg (by simpa using h18), if_pos (by simpa using h22)]
    refine en aA 0 2 [] ?_
    refine sr 0 R ?_
    rw [e]; rfl
   ·have e : nL a b = fG := by unfold nL; rw [if_neg (by simpa using h5), if_neg (by simpa using h18), if_neg (by simpa using h22)]
    refine en aA 0 0 [] ?_
    refine fc aA 1 [] (o7) ?_
    refine sr 0 R ?_
    rw [e]; rfl
theorem RX {a b : Val} (ha : -1000000000000000 ≤ a.n ∧ a.n ≤ 1000000000000000) (_hb : -1000000000000000 ≤ b.n ∧ b.n ≤ 1000000000000000) : Fc Tryz.prog gT 195 [vS a, vS b] (vS (overR a b)) := by
 refine fb aA (fn := Tryz.f195) 53 [.cell 4 26] Tryz.func195 Tryz.results195 (fun g0 B0 Q ρ0 R => ?_)
 refine en aA 0 3 [] ?_
 refine sn aA 0 1 [] ?_
 refine fc aA 2 [] (b7) ?_
 refine fg aA 7 [] (fun hg => b7) ?_
 refine bM 0 rfl rfl (fun h5 => ?_) (fun h5 => ?_)
 ·have e : overR a b = dR (cC a) := by unfold overR; rw [if_pos (by simpa [and_assoc] using h5)]
  refine en aA 0 1 [] ?_
  refine fc aA 0 [] (kJ) ?_
  refine fc aA 1 [] (qA) ?_
  refine sr 0 R ?_
  rw [e]; rfl
 ·refine en aA 0 1 [] ?_
  refine fc aA 2 [] (b7) ?_
  refine fg aA 2 [] (fun hg => b7) ?_
  refine bM 0 rfl rfl (fun h20 => ?_) (fun h20 => ?_)
  ·have hz : b.n ≠ 0 := fun h => by simp at h5 h20; exact h5 h20.1 h20.2 h
   have hq := vX (a := a.n * 1000) (b := b.n) (by omega) (by omega)
   have e : overR a b = aK ((a.n * 1000).tdiv b.n) := by unfold overR; rw [if_neg (by simpa [and_assoc] using h5), if_pos (by simpa using h20)]
   refine en aA 0 6 [] ?_
   refine fc aA 1 [] (b6) ?_
   refine sr 0 R ?_
   simp only [hq]; rw [e]; rfl
  ·refine en aA 0 1 [] ?_
   refine fc aA 1 [] (b7) ?_
   refine bM 0 rfl rfl (fun h34 => ?_) (fun h34 => ?_)
   ·have e : overR a b = aK 0 := by unfold overR; rw [if_neg (by simpa [and_assoc] using h5), if_neg (by simpa using h20), if_pos (by simpa using h34)]
    refine en aA 0 0 [] ?_
    refine fc aA 1 [] (b6) ?_
    refine sr 0 R ?_
    rw [e]; rfl
   ·refine en aA 0 1 [] ?_
    refine fc aA 6 [] (b7) ?_
    refine bM 0 rfl rfl (fun h38 => ?_) (fun h38 => ?_)
    ·have e : overR a b = bO a := by unfold overR; rw [if_neg (by simpa [and_assoc] using h5), if_neg (by simpa using h20), if_neg (by simpa using h34), if_pos (by simpa using h38)]
     refine en aA 0 1 [] ?_
     refine fc aA 1 [] (iO (v := a) (by omega)) ?_
     refine sr 0 R ?_
     rw [e]; rfl
    ·refine en aA 0 1 [] ?_
     refine fc aA 1 [] (b7) ?_
     refine bM 0 rfl rfl (fun h48 => ?_) (fun h48 => ?_)
     ·have e : overR a b = a := by unfold overR; rw [if_neg (by simpa [and_assoc] using h5), if_neg (by simpa using h20), if_neg (by simpa using h34), if_neg (by simpa using h38), if_pos (by simpa using h48)]
      refine en aA 0 2 [] ?_
      refine sr 0 R ?_
      rw [e]; rfl
     ·have e : overR a b = fG := by unfold overR; rw [if_neg (by simpa [and_assoc] using h5), if_neg (by simpa using h20), if_neg (by simpa using h34), if_neg (by simpa using h38), if_neg (by simpa using h48)]
      refine en aA 0 0 [] ?_
      refine fc aA 1 [] (o7) ?_
      refine sr 0 R ?_
      rw [e]; rfl
theorem M8 {l : List Val} : Fc Tryz.prog gT 23 [rV l] (nI (if l.all cE then 0 else 80)) := by
 refine fb aA (fn := Tryz.f23) 16 [.tmp 2] Tryz.func23 Tryz.results23 (fun g0 B0 Q ρ0 R => ?_)
 refine en aA 0 1 [] ?_
 refine sn aA 0 1 [] ?_
 refine sl 0 ?_
 refine aD (σ := Nat) (fun j => j ≤ l.length ∧ ∀ x ∈ l.take j, cE x = true) (fun j => l.length - j)
  (fun j => [(0, rV l), (2, nI 0), (3, nI j)])
  (fun j => []) 0 ?_ ?_
 ·exact ⟨Nat.zero_le _, by simp⟩
 ·rintro J j ⟨hj0, hj1⟩ hJ
  refine lM 0 rfl (fun hl => ?_)
  simp only [List.length_map] at hl
  refine en aA 0 4 [] ?_
  refine si 0 rfl rfl (fun h7 => ?_) (fun h7 => ?_)
  ·have hj : j < l.length := by simpa using h7
   refine en aA 0 4 [[nI l[j].k, nI l[j].n]] ?_ (hφ := by exact ⟨by omega, aO _ hj⟩)
   refine fc aA 1 [] (B8) ?_
   refine bM 0 rfl rfl (fun h15 => ?_) (fun h15 => ?_)
   ·have e : ¬ l.all cE = true := fun h => by have := List.all_eq_true.1 h l[j] (List.getElem_mem hj); simp [this] at h15
    refine en aA 0 1 [] ?_
    refine sr 0 R ?_
    first | (rw [if_pos e]; rfl) | (rw [if_neg e]; rfl)
   ·have hx : cE l[j] = true := by simpa using h15
    refine en aA 0 3 [] ?_
    exact hJ (j + 1) ⟨by omega, bH hj hj1 hx⟩ (by omega)
  ·have e : l.all cE = true := List.all_eq_true.2 fun x hx => hj1 x (by rw [List.take_of_length_le (by have := h7; simp at this; omega)]; exact hx)
   refine en aA 0 1 [] ?_
   refine sr 0 R ?_
   first | (rw [if_pos e]; rfl) | (rw [if_neg e]; rfl)
theorem M9 {a b : Val} (ha : -1000000000000000 ≤ a.n ∧ a.n ≤ 1000000000000000) (hb : -1000000000000000 ≤ b.n ∧ b.n ≤ 1000000000000000) : Fc Tryz.prog gT 194 [vS a, vS b] (vS (jM a b)) := by
 refine fb aA (fn := Tryz.f194) 56 [.cell 4 26] Tryz.func194 Tryz.results194 (fun g0 B0 Q ρ0 R => ?_)
 have hs := PC a b
 have sa := EE ha
 have sb := EE hb
 refine en aA 0 3 [] ?_
 refine DZ 0 0 [0, 1, 0, 7, 15, 31] [0, 1, 2, 3, 4, 5] ?_
 refine xd aA 1 [] ?_
 refine dc aA 1 [] (kJ) ?_
 refine dc aA 2 [] (kJ) ?_
 refine xe ?_
 refine sn aA 0 1 [] ?_
 refine fc aA 3 [] (b7) ?_
 refine fg aA 2 [] (fun hg => b7) ?_
 refine bM 0 rfl rfl (fun h22 => ?_) (fun h22 => ?_)
 ·have e : jM a b = dR (cC a * cC b) := by unfold jM; rw [if_pos (by simpa using h22)]
  refine en aA 0 1 [] ?_
  refine fc aA 1 [] (qA) ?_
  refine sr 0 R ?_
  first | (rw [e]; rfl) | (simp only [hq2]; rw [e]; rfl)
 ·have hx := PG sa sb
  have hq1 : IntKind.wrap .i64 ((1000000000000000 : Int).tdiv ((dB a.n).tdiv 1000)) = (1000000000000000 : Int).tdiv ((dB a.n).tdiv 1000) := vX (by omega) (by omega)
  refine jH 0 0 [0, 1, 3, 0, 8, 31, 63, 127] [0, 1, 2, 3, 4, 5, 6, 7] ?_
  refine xd aA 2 [] ?_
  refine dc aA 2 [] (FU (n := a.n) (by omega)) ?_
  refine dc aA 2 [] (FU (n := b.n) (by omega)) ?_
  refine xe ?_
  refine sn aA 0 6 [] ?_
  refine jR 8 rfl (v' := nI ((dB a.n).tdiv 1000)) ?_ ?_
  ·rw [hx.1]
  refine sn aA 0 8 [] ?_
  refine bM 0 rfl rfl (fun h42 => ?_) (fun h42 => ?_)
  ·have e : jM a b = dR (cC a * cC b) := by unfold jM; rw [if_neg (by simpa using h22), if_pos (by have := h42; rw [hq1] at this; simpa using this)]
   refine en aA 0 1 [] ?_
   refine fc aA 1 [] (qA) ?_
   refine sr 0 R ?_
   first | (rw [e]; rfl) | (simp only [hq2]; rw [e]; rfl)
  ·have h42' : ¬ (0 < (dB a.n).tdiv 1000 ∧ (1000000000000000 : Int).tdiv ((dB a.n).tdiv 1000) < dB b.n) := by have := h42; rw [hq1] at this; simpa using this
   have hy := EF sa sb h42'
   have hq2 := vX (a := (dB a.n).tmod 1000 * dB b.n) (b := 1000) (by omega) (by omega)
   have hz := HD hs hy.2.2
   have e : jM a b = aK (cC a * cC b * ((dB a.n).tdiv 1000 * dB b.n + ((dB a.n).tmod 1000 * dB b.n).tdiv 1000)) := by unfold jM; rw [if_neg (by simpa using h22), if_neg h42']
   refine en aA 0 10 [] ?_ (hφ := by simp only [hq2, aE, vC]; omega)
   refine fc aA 1 [] (b6) ?_
   refine sr 0 R ?_
   first | (rw [e]; rfl) | (simp only [hq2]; rw [e]; rfl)
theorem RY {p : Int} {x : Nat} {r : SV} (hp : p = x) (h : Fc Tryz.prog gT 92 [nI x] r) : Fc Tryz.prog gT 92 [nI p] r := by
 subst hp
 exact h
theorem mO (n : Nat) (hn : n < 10000000000000000) : Fc Tryz.prog gT 92 [nI n] (.str (Lib.decDigits n)) := by
 induction n using Nat.strongRecOn
 rename_i n ih
 refine fb aA (fn := Tryz.f92) 19 [.tmp 2] Tryz.func92 Tryz.results92 (fun g0 B0 Q ρ0 R => ?_)
 refine en aA 0 1 [] ?_
 refine sn aA 0 2 [] ?_
 refine si 0 rfl rfl (fun h4 => ?_) (fun h4 => ?_)
 ·have e := A9 (n := n) (by omega)
  refine en aA 0 5 [] ?_
  refine sr 0 R ?_
  first | (simp only [em]; rw [show (((n % 10 : Nat) : Int) + 1).toNat - ((n % 10 : Nat) : Int).toNat = 1 by omega, e]; rfl) | (rw [show ((n : Int) + 1).toNat - (n : Int).toNat = 1 by omega, e]; rfl)
 ·have e := EG (n := n) (by omega)
  have hlen := qN (n := n / 10) (by omega)
  have ed : ((n : Int)).tdiv 10 = ((n / 10 : Nat) : Int) := by rw [show (10 : Int) = ((10 : Nat) : Int) from rfl, ← Int.ofNat_tdiv]
  have em : ((n : Int)).tmod 10 = ((n % 10 : Nat) : Int) := by rw [show (10 : Int) = ((10 : Nat) : Int) from rfl, ← Int.ofNat_tmod]
  refine jH 0 0 [0, 1, 3, 0, 8, 0, 32, 96, 248, 511, 1023] [0, 1, 2, 3, 4, 5, 6, 7, 8, 9, 10] ?_
  refine xd aA 2 [] ?_
  refine dc aA 8 [] (RY (p := IntKind.wrap .i64 ((n : Int).tdiv 10)) (by rw [ed]; exact wrap_i64 (by omega) (by omega)) (ih (n / 10) (by omega) (by omega))) ?_
  refine xe ?_
  refine sr 0 R ?_
  first | (simp only [em]; rw [show (((n % 10 : Nat) : Int) + 1).toNat - ((n % 10 : Nat) : Int).toNat = 1 by omega, e]; rfl) | (rw [show ((n : Int) + 1).toNat - (n : Int).toNat = 1 by omega, e]; rfl)
theorem IE {v : Val} (h0 : 0 ≤ v.n) : Fc Tryz.prog gT 47 [vS v] (.str (aG v)) := by
 refine fb aA (fn := Tryz.f47) 57 [.tmp 2] Tryz.func47 Tryz.results47 (fun g0 B0 Q ρ0 R => ?_)
 refine en aA 0 2 [] ?_
 refine sn aA 0 1 [] ?_
 refine fc aA 1 [] (B8) ?_
 refine bM 0 rfl rfl (fun h8 => ?_) (fun h8 => ?_)
 ·have e : aG v = [] := by unfold aG; rw [if_pos (by simpa using h8)]
  refine en aA 0 1 [] ?_
  refine sr 0 R ?_
  rw [e]; rfl
 ·have hv : cE v = true := by simpa using h8
  have hnn := kU hv
  refine en aA 0 2 [] ?_
  refine sn aA 0 2 [] ?_
  refine si 0 rfl rfl (fun h11 => ?_) (fun h11 => ?_)
  ·have e : aG v = [110, 117, 108, 108] := by unfold aG; rw [if_neg (by simp [hv]), if_pos h11]
   refine en aA 0 1 [] ?_
   refine sr 0 R ?_
   rw [e]; rfl
  ·refine en aA 0 2 [] ?_
   refine si 0 rfl rfl (fun h13 => ?_) (fun h13 => ?_)
   ·have e : aG v = [78, 97, 78] := by unfold aG; rw [if_neg (by simp [hv]), if_neg h11, if_pos h13]
    refine en aA 0 1 [] ?_
    refine sr 0 R ?_
    rw [e]; rfl
   ·refine en aA 0 2 [] ?_
    refine si 0 rfl rfl (fun h15 => ?_) (fun h15 => ?_)
    ·have e : aG v = [43, 73, 110, 102] := by unfold aG; rw [if_neg (by simp [hv]), if_neg h11, if_neg h13, if_pos h15]
     refine en aA 0 1 [] ?_
     refine sr 0 R ?_
     rw [e]; rfl
    ·refine en aA 0 2 [] ?_
     refine si 0 rfl rfl (fun h17 => ?_) (fun h17 => ?_)
     ·have e : aG v = [45, 73, 110, 102] := by unfold aG; rw [if_neg (by simp [hv]), if_neg h11, if_neg h13, if_neg h15, if_pos h17]
      refine en aA 0 1 [] ?_
      refine sr 0 R ?_
      rw [e]; rfl
     ·have hm : aG v = if v.n < 0 then 45 :: dP v.n.natAbs else dP v.n.natAbs := by unfold aG; rw [if_neg (by simp [hv]), if_neg h11, if_neg h13, if_neg h15, if_neg h17]
      refine en aA 0 3 [] ?_
      refine si 0 rfl rfl (fun h21 => ?_) (fun h21 => ?_)
      ·exact absurd h21 (by omega)
      ·obtain ⟨N, hN⟩ : ∃ N : Nat, v.n = N := ⟨v.n.toNat, by omega⟩
       have e0 : aG v = dP N := by rw [hm, if_neg h21, hN]; rfl
       have ed : ((N : Int)).tdiv 1000 = ((N / 1000 : Nat) : Int) := by rw [show (1000 : Int) = ((1000 : Nat) : Int) from rfl, ← Int.ofNat_tdiv]
       have em : ((N : Int)).tmod 1000 = ((N % 1000 : Nat) : Int) := by rw [show (1000 : Int) = ((1000 : Nat) : Int) from rfl, ← Int.ofNat_tmod]
       have hlen1 := qN (n := N / 1000) (by omega)
       refine en aA 0 3 [] ?_
       refine fc aA 1 [] (RY (p := IntKind.wrap .i64 (v.n.tdiv 1000)) (x := N / 1000) (by rw [hN, ed]; exact wrap_i64 (by omega) (by omega)) (mO _ (by omega))) ?_
       refine sn aA 0 4 [] ?_
       refine jR 4 rfl (v' := nI ((N % 1000 : Nat) : Int)) ?_ ?_
       ·rw [hN, em]
       refine sn aA 0 2 [] ?_
       refine si 0 rfl rfl (fun h36 => ?_) (fun h36 => ?_)
       ·have e : aG v = Lib.decDigits (N / 1000) := by rw [e0]; unfold dP pJ; rw [if_pos (by omega), List.append_nil]
        refine en aA 0 2 [] ?_
        refine sr 0 R ?_
        rw [e]; rfl
       ·have hr : N % 1000 ≠ 0 := by omega
        have hl4 : (Lib.decDigits (1000 + N % 1000)).length = 4 := by have := congrArg List.length (HE (r := N % 1000) (by omega)); simp at this; omega
        refine en aA 0 2 [] ?_
        refine fc aA 2 [] (RY (p := 1000 + ((N % 1000 : Nat) : Int)) (x := 1000 + N % 1000) (by omega) (mO _ (by omega))) ?_
        refine sl 0 ?_
        refine aD (σ := Bytes) (fun t => Lib.trimRightB t 48 = Lib.trimRightB ((Lib.decDigits (1000 + N % 1000)).drop 1) 48 ∧ Lib.trimRightB t 48 ≠ [] ∧ t.length ≤ 3) (fun t => t.length)
         (fun t => [(1, .l 1 0), (3, .str (Lib.decDigits (N / 1000))), (5, .str t)])
         (fun t => [(1, .c 26 [nI v.k, nI v.n])]) ((Lib.decDigits (1000 + N % 1000)).drop 1) ?_ ?_
        ·exact ⟨rfl, BA hr (by omega), by simp; omega⟩
        ·rintro J t ⟨ht1, ht2, ht3⟩ hJ
         have hp := EH ht2
         have ei : ((t.length : Int) - 1).toNat = t.length - 1 := by omega
         refine en aA 0 6 [] ?_
         refine si 0 rfl rfl (fun h47 => ?_) (fun h47 => ?_)
         ·have hd := yZ hp (UInt8.toNat_inj.1 (by have := h47; rw [ei] at this; exact Int.ofNat.inj this))
          refine en aA 0 6 [] ?_
          refine jG 5 rfl (v' := .str (t.take (t.length - 1))) ?_ ?_
          ·rw [ei]
          exact hJ (t.take (t.length - 1)) ⟨by rw [← hd]; exact ht1, by rw [← hd]; exact ht2, by simp; omega⟩ (by simp; omega)
         ·have hs := y3 hp (fun hh => h47 (by rw [ei, hh]; rfl))
          have e : aG v = Lib.decDigits (N / 1000) ++ [46] ++ t := by rw [e0]; unfold dP pJ; rw [if_neg hr, ← ht1, hs]; simp
          refine en aA 0 5 [] ?_
          refine sr 0 R ?_
          rw [e]; rfl
theorem l7 {v : Val} : Fc Tryz.prog gT 47 [vS v] (.str (aG v)) := by
 refine fb aA (fn := Tryz.f47) 57 [.tmp 2] Tryz.func47 Tryz.results47 (fun g0 B0 Q ρ0 R => ?_)
 refine en aA 0 2 [] ?_
 refine sn aA 0 1 [] ?_
 refine fc aA 1 [] (B8) ?_
 refine bM 0 rfl rfl (fun h8 => ?_) (fun h8 => ?_)
 ·have e : aG v = [] := by unfold aG; rw [if_pos (by simpa using h8)]
  refine en aA 0 1 [] ?_
  refine sr 0 R ?_
  rw [e]; rfl
 ·have hv : cE v = true := by simpa using h8
  have hnn := kU hv
  refine en aA 0 2 [] ?_
  refine sn aA 0 2 [] ?_
  refine si 0 rfl rfl (fun h11 => ?_) (fun h11 => ?_)
  ·have e : aG v = [110, 117, 108, 108] := by unfold aG; rw [if_neg (by simp [hv]), if_pos h11]
   refine en aA 0 1 [] ?_
   refine sr 0 R ?_
   rw [e]; rfl
  ·refine en aA 0 2 [] ?_
   refine si 0 rfl rfl (fun h13 => ?_) (fun h13 => ?_)
   ·have e : aG v = [78, 97, 78] := by unfold aG; rw [if_neg (by simp [hv]), if_neg h11, if_pos h13]
    refine en aA 0 1 [] ?_
    refine sr 0 R ?_
    rw [e]; rfl
   ·refine en aA 0 2 [] ?_
    refine si 0 rfl rfl (fun h15 => ?_) (fun h15 => ?_)
    ·have e : aG v = [43, 73, 110, 102] := by unfold aG; rw [if_neg (by simp [hv]), if_neg h11, if_neg h13, if_pos h15]
     refine en aA 0 1 [] ?_
     refine sr 0 R ?_
     rw [e]; rfl
    ·refine en aA 0 2 [] ?_
     refine si 0 rfl rfl (fun h17 => ?_) (fun h17 => ?_)
     ·have e : aG v = [45, 73, 110, 102] := by unfold aG; rw [if_neg (by simp [hv]), if_neg h11, if_neg h13, if_neg h15, if_pos h17]
      refine en aA 0 1 [] ?_
      refine sr 0 R ?_
      rw [e]; rfl
     ·have hm : aG v = if v.n < 0 then 45 :: dP v.n.natAbs else dP v.n.natAbs := by unfold aG; rw [if_neg (by simp [hv]), if_neg h11, if_neg h13, if_neg h15, if_neg h17]
      refine en aA 0 3 [] ?_
      refine si 0 rfl rfl (fun h21 => ?_) (fun h21 => ?_)
      ·have h1 : v.k = 1 := by rcases dL hv with ⟨h, _⟩ | rfl | rfl | rfl | rfl <;> first | exact h | exact absurd h21 (by decide)
       have hq : aK (0 - v.n) = ⟨1, 0 - v.n⟩ := A7 (by omega) (by omega)
       have hlp := LW (aK (0 - v.n))
       have e : aG v = [45] ++ aG (aK (0 - v.n)) := by rw [hm, if_pos h21, hq, y4 (by omega) (by omega)]; congr 2; omega
       refine en aA 0 3 [] ?_
       refine fc aA 0 [] (b6) ?_
       refine fc aA 2 [] (IE (v := aK (0 - v.n)) (by rw [hq]; show 0 ≤ 0 - v.n; omega)) ?_ (hφ := by exact Nat.le_trans (Nat.add_le_add_left hlp 1) (by decide))
       refine sr 0 R ?_
       rw [e]; rfl
      ·obtain ⟨N, hN⟩ : ∃ N : Nat, v.n = N := ⟨v.n.toNat, by omega⟩
       have e0 : aG v = dP N := by rw [hm, if_neg h21, hN]; rfl
       have ed : ((N : Int)).tdiv 1000 = ((N / 1000 : Nat) : Int) := by rw [show (1000 : Int) = ((1000 : Nat) : Int) from rfl, ← Int.ofNat_tdiv]
       have em : ((N : Int)).tmod 1000 = ((N % 1000 : Nat) : Int) := by rw [show (1000 : Int) = ((1000 : Nat) : Int) from rfl, ← Int.ofNat_tmod]
       have hlen1 := qN (n := N / 1000) (by omega)
       refine en aA 0 3 [] ?_
       refine fc aA 1 [] (RY (p := IntKind.wrap .i64 (v.n.tdiv 1000)) (x := N / 1000) (by rw [hN, ed]; exact wrap_i64 (by omega) (by omega)) (mO _ (by omega))) ?_
       refine sn aA 0 4 [] ?_
       refine jR 4 rfl (v' := nI ((N % 1000 : Nat) : Int)) ?_ ?_
       ·rw [hN, em]
       refine sn aA 0 2 [] ?_
       refine si 0 rfl rfl (fun h36 => ?_) (fun h36 => ?_)
       ·have e : aG v = Lib.decDigits (N / 1000) := by rw [e0]; unfold dP pJ; rw [if_pos (by omega), List.append_nil]
        refine en aA 0 2 [] ?_
        refine sr 0 R ?_
        rw [e]; rfl
       ·have hr : N % 1000 ≠ 0 := by omega
        have hl4 : (Lib.decDigits (1000 + N % 1000)).length = 4 := by have := congrArg List.length (HE (r := N % 1000) (by omega)); simp at this; omega
        refine en aA 0 2 [] ?_
        refine fc aA 2 [] (RY (p := 1000 + ((N % 1000 : Nat) : Int)) (x := 1000 + N % 1000) (by omega) (mO _ (by omega))) ?_
        refine sl 0 ?_
        refine aD (σ := Bytes) (fun t => Lib.trimRightB t 48 = Lib.trimRightB ((Lib.decDigits (1000 + N % 1000)).drop 1) 48 ∧ Lib.trimRightB t 48 ≠ [] ∧ t.length ≤ 3) (fun t => t.length)
         (fun t => [(1, .l 1 0), (3, .str (Lib.decDigits (N / 1000))), (5, .str t)])
         (fun t => [(1, .c 26 [nI v.k, nI v.n])]) ((Lib.decDigits (1000 + N % 1000)).drop 1) ?_ ?_
        ·exact ⟨rfl, BA hr (by omega), by simp; omega⟩
        ·rintro J t ⟨ht1, ht2, ht3⟩ hJ
         have hp := EH ht2
         have ei : ((t.length : Int) - 1).toNat = t.length - 1 := by omega
         refine en aA 0 6 [] ?_
         refine si 0 rfl rfl (fun h47 => ?_) (fun h47 => ?_)
         ·have hd := yZ hp (UInt8.toNat_inj.1 (by have := h47; rw [ei] at this; exact Int.ofNat.inj this))
          refine en aA 0 6 [] ?_
          refine jG 5 rfl (v' := .str (t.take (t.length - 1))) ?_ ?_
          ·rw [ei]
          exact hJ (t.take (t.length - 1)) ⟨by rw [← hd]; exact ht1, by rw [← hd]; exact ht2, by simp; omega⟩ (by simp; omega)
         ·have hs := y3 hp (fun hh => h47 (by rw [ei, hh]; rfl))
          have e : aG v = Lib.decDigits (N / 1000) ++ [46] ++ t := by rw [e0]; unfold dP pJ; rw [if_neg hr, ← ht1, hs]; simp
          refine en aA 0 5 [] ?_
          refine sr 0 R ?_
          rw [e]; rfl
theorem IF {hi lo : Nat} (hh : hi < 1000) (hl : lo < 18446744073709551616) : Fc Tryz.prog gT 295 [nU hi, nU lo, nU 1000] (.t [nU (((hi * 18446744073709551616 + lo) / 1000 : Nat) : Int), nU (u4 hi lo)]) := by
 refine fb aA (fn := Tryz.f295) 135 [.tmp 6, .tmp 7] Tryz.func295 Tryz.results295 (fun g0 B0 Q ρ0 R => ?_)
 obtain ⟨u, hu⟩ : ∃ u, u = hi * 18014398509481984 + lo / 1024 := ⟨_, rfl⟩
 obtain ⟨v, hv⟩ : ∃ v, v = lo % 1024 * 4194304 := ⟨_, rfl⟩
 obtain ⟨q1, hq1⟩ : ∃ q, q = u / 4194304000 := ⟨_, rfl⟩
 obtain ⟨r1, hr1⟩ : ∃ r, r = u % 4194304000 := ⟨_, rfl⟩
 obtain ⟨w, hw⟩ : ∃ w, w = r1 * 4294967296 + v := ⟨_, rfl⟩
 obtain ⟨q0, hq0⟩ : ∃ q, q = w / 4194304000 := ⟨_, rfl⟩
 obtain ⟨r0, hr0⟩ : ∃ r, r = w % 4194304000 := ⟨_, rfl⟩
 obtain ⟨b1, b0, bw, hQ⟩ := VQ hl hh hu hv (show u = 4194304000 * q1 + r1 by omega) (by omega) hw (show w = 4194304000 * q0 + r0 by omega) (by omega)
 have bu : u < 18014398509481984000 := by omega
 have hu0 : u = 4194304000 * q1 + r1 := by omega
 have hr1b : r1 < 4194304000 := by omega
 refine en aA 0 2 [] ?_
 refine sn aA 0 2 [] ?_
 refine si 0 rfl rfl (fun h20 => ?_) (fun h20 => ?_)
 ·exact absurd h20 (by decide)
 ·refine en aA 0 3 [] ?_
  refine si 0 rfl rfl (fun h24 => ?_) (fun h24 => ?_)
  ·exact absurd h24 (by omega)
  ·refine en aA 0 2 [] ?_
   refine si 0 rfl rfl (fun h27 => ?_) (fun h27 => ?_)
   ·have h0 : hi = 0 := by omega
    refine jH 0 0 [0, 0, 3, 0, 0, 24, 7, 127] [0, 1, 2, 3, 4, 5, 6, 7] ?_
    refine xd aA 8 [] ?_
    refine xe ?_
    refine sr 0 R ?_
    rw [h0, u4, if_pos rfl]
    exact congrArg (fun x => SV.t [nU x, nU ((lo : Int).tmod 1000)]) (VS hl)
   ·have h0 : hi ≠ 0 := by omega
    refine en aA 0 1 [] ?_
    refine fc aA 2 [] (MG) ?_
    refine jR 8 rfl (v' := nU 54) ?_ ?_
    ·exact rfl
    refine sn aA 0 4 [] ?_
    refine jR 2 rfl (v' := nU 18014398509481984000) ?_ ?_
    ·exact rfl
    refine sn aA 0 3 [] ?_
    refine jR 9 rfl (v' := nU 4194304000) ?_ ?_
    ·exact rfl
    refine sn aA 0 3 [] ?_
    refine jR 10 rfl (v' := nU 0) ?_ ?_
    ·exact rfl
    refine sn aA 0 9 [] ?_ (hφ := by exact ⟨⟨by decide, by decide⟩, ⟨by decide, by decide⟩⟩)
    refine jR 11 rfl (v' := nU u) ?_ ?_
    ·rw [hu]; exact congrArg nU (aDV hh hl)
    refine sn aA 0 4 [] ?_
    refine jR 12 rfl (v' := nU ((lo % 1024 * 18014398509481984 : Nat) : Int)) ?_ ?_
    ·exact congrArg nU (YP lo)
    refine sn aA 0 3 [] ?_
    refine jR 13 rfl (v' := nU v) ?_ ?_
    ·rw [hv]; exact congrArg nU (YQ lo)
    refine sn aA 0 3 [] ?_
    refine jR 14 rfl (v' := nU 0) ?_ ?_
    ·exact congrArg nU (VR lo)
    refine sn aA 0 4 [] ?_
    refine jR 15 rfl (v' := nU q1) ?_ ?_
    ·rw [hq1]; exact congrArg nU (Q8 (by omega))
    refine sn aA 0 6 [] ?_
    refine sl 0 ?_
    refine jG 16 rfl (v' := nU r1) ?_ ?_
    ·rw [hr1, hq1]; exact congrArg nU (Q9 (by omega))
    refine aD (σ := Unit) (fun _ => True) (fun _ => 0)
     (fun _ => [(0, nU hi), (1, nU lo), (2, nU 18014398509481984000), (6, nU 0), (7, nU 0), (8, nU 54), (9, nU 4194304000), (10, nU 0), (11, nU u), (12, nU ((lo % 1024 * 18014398509481984 : Nat) : Int)), (13, nU v), (14, nU 0), (15, nU q1), (16, nU r1)])
     (fun _ => []) () ?_ ?_
    ·trivial
    ·rintro J _ _ hJ
     refine en aA 0 12 [] ?_
     refine bM 0 rfl rfl (fun h78 => ?_) (fun h78 => ?_)
     ·exfalso
      simp only [Bool.or_eq_true, decide_eq_true_eq, IntKind.wrap_u64] at h78
      omega
     ·refine en aA 0 9 [] ?_
      refine jR 17 rfl (v' := nU w) ?_ ?_
      ·exact congrArg nU (aBZ hu0 hr1b hw bw)
      refine sn aA 0 4 [] ?_
      refine jR 18 rfl (v' := nU q0) ?_ ?_
      ·rw [hq0]; exact congrArg nU (Q8 (by omega))
      refine sn aA 0 6 [] ?_
      refine sl 0 ?_
      refine jG 16 rfl (v' := nU r0) ?_ ?_
      ·rw [hr0, hq0]; exact congrArg nU (Q9 (by omega))
      refine aD (σ := Unit) (fun _ => True) (fun _ => 0)
       (fun _ => [(0, nU hi), (1, nU lo), (2, nU 18014398509481984000), (6, nU 0), (7, nU 0), (8, nU 54), (9, nU 4194304000), (10, nU 0), (11, nU u), (12, nU ((lo % 1024 * 18014398509481984 : Nat) : Int)), (13, nU v), (14, nU 0), (15, nU q1), (17, nU w), (16, nU r0), (18, nU q0)])
       (fun _ => []) () ?_ ?_
      ·trivial
      ·rintro J _ _ hJ
       refine en aA 0 12 [] ?_
       refine bM 0 rfl rfl (fun h113 => ?_) (fun h113 => ?_)
       ·exfalso
        simp only [Bool.or_eq_true, decide_eq_true_eq, IntKind.wrap_u64] at h113
        omega
       ·refine en aA 0 16 [] ?_
        refine sr 0 R ?_
        exact aDX (aDW b1 b0 hQ) (aDY h0 hu hv hr1 hw hq0 hr0)
theorem VW {a b : Val} (ha : cE a = true) (hb : cE b = true) : Fc Tryz.prog gT 241 [vS a, vS b] (vS (uA a b)) := by
 refine fb aA (fn := Tryz.f241) 60 [.cell 4 26] Tryz.func241 Tryz.results241 (fun g0 B0 Q ρ0 R => ?_)
 have a1 := kU ha
 have b1 := kU hb
 have hs := UF a b
 obtain ⟨A, hA⟩ : ∃ A : Nat, gX a.n = A := ⟨(gX a.n).toNat, by unfold gX; omega⟩
 obtain ⟨B, hB⟩ : ∃ B : Nat, gX b.n = B := ⟨(gX b.n).toNat, by unfold gX; omega⟩
 have hA2 : A ≤ 1000000000000000 := by unfold gX at hA; omega
 have hB2 : B ≤ 1000000000000000 := by unfold gX at hB; omega
 have hAB : A * B ≤ 1000000000000000 * 1000000000000000 := Nat.mul_le_mul hA2 hB2
 refine en aA 0 3 [] ?_
 refine DZ 0 0 [0, 1, 0, 7, 15, 31] [0, 1, 2, 3, 4, 5] ?_
 refine xd aA 1 [] ?_
 refine dc aA 1 [] (rK) ?_
 refine dc aA 2 [] (rK) ?_
 refine xe ?_
 refine sn aA 0 1 [] ?_
 refine fc aA 3 [] (fC) ?_
 refine fg aA 2 [] (fun hg => fC) ?_
 refine bM 0 rfl rfl (fun h22 => ?_) (fun h22 => ?_)
 ·have e : uA a b = mV (cK a * cK b) := by unfold uA; rw [if_pos (by simpa [fL] using h22)]
  refine en aA 0 1 [] ?_
  refine fc aA 1 [] (u5) ?_
  refine sr 0 R ?_
  rw [e]; rfl
 ·have hk : a.k = 1 ∧ b.k = 1 := by simpa [fL] using h22
  have e0 := LV hk.1 hk.2 hA hB
  obtain ⟨N, hN⟩ : ∃ N, N = A * B / 1000 := ⟨_, rfl⟩
  rw [← hN] at e0
  have va := JB hk.1 hA
  have vb := JB hk.2 hB
  refine jH 0 0 [0, 1, 0, 4, 15, 31, 0, 64, 0, 268, 972, 1996, 4095, 8191, 16383, 16383, 32767, 131071] [0, 1, 2, 3, 4, 5, 6, 7, 8, 9, 10, 11, 12, 13, 14, 15, 16, 17] ?_
  refine xd aA 3 [] ?_
  refine dc aA 5 [] (rK) ?_
  refine dc aA 2 [] (rK) ?_
  refine dc aA 5 [] (ME (p := IntKind.wrap .u64 (a.n * cK a)) (q := IntKind.wrap .u64 (b.n * cK b)) (x := A) (y := B) (by rw [va]; exact wrapN (by omega)) (by rw [vb]; exact wrapN (by omega)) (by omega) (by omega)) ?_
  refine xe ?_
  refine sn aA 0 2 [] ?_
  refine si 0 rfl rfl (fun h42 => ?_) (fun h42 => ?_)
  ·have e : uA a b = mV (cK a * cK b) := by rw [e0, if_pos (by omega)]
   refine en aA 0 1 [] ?_
   refine fc aA 1 [] (u5) ?_
   refine sr 0 R ?_
   rw [e]; rfl
  ·refine en aA 0 2 [] ?_
   refine fc aA 5 [] (IF (hi := A * B / 18446744073709551616) (lo := A * B % 18446744073709551616) (by omega) (by omega)) ?_
   refine jR 8 rfl (v' := nU (N : Int)) ?_ ?_
   ·rw [hN, Nat.div_add_mod']
   refine sn aA 0 2 [] ?_
   refine si 0 rfl rfl (fun h52 => ?_) (fun h52 => ?_)
   ·have e : uA a b = mV (cK a * cK b) := by rw [e0, if_pos (by omega)]
    refine en aA 0 1 [] ?_
    refine fc aA 1 [] (u5) ?_
    refine sr 0 R ?_
    rw [e]; rfl
   ·have e : uA a b = aK (cK a * cK b * (N : Int)) := by rw [e0, if_neg (by omega)]
    have hp := LU hs (n := N) (by omega)
    refine en aA 0 4 [] ?_ (hφ := by clear hN; exact ⟨⟨by omega, by omega⟩, ⟨by omega, by omega⟩⟩)
    refine fc aA 1 [] (eK) ?_
    refine sr 0 R ?_
    rw [e]; rfl
abbrev pl (fn : FuncId) : SV := .f 289 [] [.p [.f fn [] []]]
abbrev kn (l : List Int) : SV := .f 290 [] [.p [rI l]]
abbrev nm (fn : FuncId) : SV := .f 292 [] [.p [.f fn [] []]]
abbrev od (no : Bool) (fn : FuncId) : SV := .f 296 [] [.p [bS no], .p [.f fn [] []]]
def rO : List (Bytes × SV) := [(a8, pl 229), (mW, pl 230), (fH, .f 231 [] []), (bZ, .f 233 [] []), (vV, kn [2]), (G8, kn [3]), (G9, kn [4, 5]), (HA, kn [1])]
def rP : List (Bytes × SV) := [(iH, nm 237), (a8, nm 238), (iI, nm 241), (jL, nm 242), (yI, od false 244), (yJ, od true 245), (yE, od false 246), (yK, od false 247), (yF, od false 248), (yL, od false 249), (gY, .f 250 [] []), (mU, .f 251 [] [])]
theorem FV  : Fc Tryz.prog gT 157 [] (.fm rO) := by
 refine fb aA (fn := Tryz.f157) 13 [.tmp 0] Tryz.func157 Tryz.results157 (fun g0 B0 Q ρ0 R => ?_)
 refine en aA 0 1 [] ?_
 refine sn aA 0 0 [] ?_
 refine smk ?_
 refine fc aA 0 [] (AH) ?_
 refine lL aA ?_
 refine fc aA 0 [] (AH) ?_
 refine lL aA ?_
 refine lL aA ?_
 refine lL aA ?_
 refine go aA 1 [] ?_
 refine fc aA 0 [] (rM (l := [2])) ?_
 refine lL aA ?_
 refine go aA 1 [] ?_
 refine fc aA 0 [] (rM (l := [3])) ?_
 refine lL aA ?_
 refine go aA 1 [] ?_
 refine fc aA 0 [] (rM (l := [4, 5])) ?_
 refine lL aA ?_
 refine go aA 1 [] ?_
 refine fc aA 0 [] (rM (l := [1])) ?_
 refine lL aA ?_
 refine go aA 2 [] ?_
 refine sz 1 ?_
 refine sr 0 R ?_
 rfl
theorem FW  : Fc Tryz.prog gT 158 [] (.fm rP) := by
 refine fb aA (fn := Tryz.f158) 13 [.tmp 0] Tryz.func158 Tryz.results158 (fun g0 B0 Q ρ0 R => ?_)
 refine en aA 0 1 [] ?_
 refine sn aA 0 0 [] ?_
 refine smk ?_
 refine fc aA 0 [] (k7) ?_
 refine lL aA ?_
 refine fc aA 0 [] (k7) ?_
 refine lL aA ?_
 refine fc aA 0 [] (k7) ?_
 refine lL aA ?_
 refine fc aA 0 [] (k7) ?_
 refine lL aA ?_
 refine fc aA 0 [] (j2) ?_
 refine lL aA ?_
 refine fc aA 0 [] (j2) ?_
 refine lL aA ?_
 refine fc aA 0 [] (j2) ?_
 refine lL aA ?_
 refine fc aA 0 [] (j2) ?_
 refine lL aA ?_
 refine fc aA 0 [] (j2) ?_
 refine lL aA ?_
 refine fc aA 0 [] (j2) ?_
 refine lL aA ?_
 refine lL aA ?_
 refine lL aA ?_
 refine go aA 2 [] ?_
 refine sz 1 ?_
 refine sr 0 R ?_
 rfl
theorem NA {op : Bytes} (h : (bL rO op).isSome = true) : ∃ φ fn ca, bL sJ op = some φ ∧ bL rO op = some (.f fn [] ca) ∧ ∀ v, cE v = true → Fc Tryz.prog gT fn ([vS v] ++ ca) (vS (φ v)) := by
 unfold rO sJ at *
 simp only [bL] at *
 split at h; · rename_i e; simp only [e, if_true]; exact ⟨_, _, _, rfl, rfl, fun v hv => xR hv (fun n h1 h2 => RE h1 h2)⟩
 rename_i e1
 split at h; · rename_i e; simp only [e, if_true]; exact ⟨_, _, _, rfl, rfl, fun v hv => xR hv (fun n h1 h2 => RF h1 h2)⟩
 rename_i e2
 split at h; · rename_i e; simp only [e, if_true]; exact ⟨_, _, _, rfl, rfl, fun v hv => RH hv⟩
 rename_i e3
 split at h; · rename_i e; simp only [e, if_true]; exact ⟨_, _, _, rfl, rfl, fun v hv => RG⟩
 rename_i e4
 split at h; · rename_i e; simp only [e, if_true]; exact ⟨_, _, _, rfl, rfl, fun v hv => by simpa using o6 (l := [2]) (v := v)⟩
 rename_i e5
 split at h; · rename_i e; simp only [e, if_true]; exact ⟨_, _, _, rfl, rfl, fun v hv => by simpa using o6 (l := [3]) (v := v)⟩
 rename_i e6
 split at h; · rename_i e; simp only [e, if_true]; exact ⟨_, _, _, rfl, rfl, fun v hv => by simpa using o6 (l := [4, 5]) (v := v)⟩
 rename_i e7
 split at h; · rename_i e; simp only [e, if_true]; exact ⟨_, _, _, rfl, rfl, fun v hv => by simpa using o6 (l := [1]) (v := v)⟩
 cases h
theorem aDZ {l : List Val} (h : l.length = 2) : ∃ a b, l = [a, b] := by
 match l, h with
 | [a, b], _ => exact ⟨a, b, rfl⟩
set_option maxHeartbeats 2000000 in
theorem NB {op : Bytes} (h : (bL rP op).isSome = true) : ∃ φ fn ca, bL fM op = some φ ∧ bL rP op = some (.f fn [] ca) ∧ ∀ a b, cE a = true → cE b = true → Fc Tryz.prog gT fn ([vS a, vS b] ++ ca) (vS (φ a b)) := by
 unfold rP fM at *
 simp only [bL] at *
 split at h; · rename_i e; simp only [e, if_true]; exact ⟨_, _, _, rfl, rfl, fun a b ha hb => jU (φ := pC) (KW ha hb)⟩
 rename_i e0
 split at h; · rename_i e; simp only [e, if_true]; exact ⟨_, _, _, rfl, rfl, fun a b ha hb => jU (φ := fun a b => pC a (A6 b)) (RV ha hb)⟩
 rename_i e1
 split at h; · rename_i e; simp only [e, if_true]; exact ⟨_, _, _, rfl, rfl, fun a b ha hb => jU (φ := uA) (VW ha hb)⟩
 rename_i e2
 split at h; · rename_i e; simp only [e, if_true]; exact ⟨_, _, _, rfl, rfl, fun a b ha hb => jU (φ := divV) (VV ha hb)⟩
 rename_i e3
 split at h; · rename_i e; simp only [e, if_true]; exact ⟨_, _, _, rfl, rfl, fun a b ha hb => iN (φ := fun x y => decide (x = y)) (fun x y => RI)⟩
 rename_i e4
 split at h; · rename_i e; simp only [e, if_true]; exact ⟨_, _, _, rfl, rfl, fun a b ha hb => iN (φ := fun x y => decide (x ≠ y)) (fun x y => RJ)⟩
 rename_i e5
 split at h; · rename_i e; simp only [e, if_true]; exact ⟨_, _, _, rfl, rfl, fun a b ha hb => iN (φ := fun x y => decide (x < y)) (fun x y => RL)⟩
 rename_i e6
 split at h; · rename_i e; simp only [e, if_true]; exact ⟨_, _, _, rfl, rfl, fun a b ha hb => iN (φ := fun x y => decide (x ≤ y)) (fun x y => RN)⟩
 rename_i e7
 split at h; · rename_i e; simp only [e, if_true]; exact ⟨_, _, _, rfl, rfl, fun a b ha hb => iN (φ := fun x y => decide (y < x)) (fun x y => RO)⟩
 rename_i e8
 split at h; · rename_i e; simp only [e, if_true]; exact ⟨_, _, _, rfl, rfl, fun a b ha hb => iN (φ := fun x y => decide (y ≤ x)) (fun x y => RQ)⟩
 rename_i e9
 split at h; · rename_i e; simp only [e, if_true]; exact ⟨_, _, _, rfl, rfl, fun a b ha hb => RS⟩
 rename_i e10
 split at h; · rename_i e; simp only [e, if_true]; exact ⟨_, _, _, rfl, rfl, fun a b ha hb => RU⟩
 rename_i e11
 cases h
theorem NC {op : Bytes} (h : (bL rO op).isSome = false) : bL sJ op = none := by
 unfold rO sJ at *
 simp only [bL] at *
 by_cases h1 : op = a8; · simp [h1] at h
 by_cases h2 : op = mW; · simp [h2] at h
 by_cases h3 : op = fH; · simp [h3] at h
 by_cases h4 : op = bZ; · simp [h4] at h
 by_cases h5 : op = vV; · simp [h5] at h
 by_cases h6 : op = G8; · simp [h6] at h
 by_cases h7 : op = G9; · simp [h7] at h
 by_cases h8 : op = HA; · simp [h8] at h
 simp only [h1, h2, h3, h4, h5, h6, h7, h8, if_false]
theorem ND {op : Bytes} (h : (bL rP op).isSome = false) : bL fM op = none := by
 unfold rP fM at *
 simp only [bL] at *
 by_cases hAdd : op = iH; · simp [hAdd] at h
 by_cases hSub : op = a8; · simp [hSub] at h
 by_cases hMul : op = iI; · simp [hMul] at h
 by_cases hDiv : op = jL; · simp [hDiv] at h
 by_cases hEq : op = yI; · simp [hEq] at h
 by_cases hNe : op = yJ; · simp [hNe] at h
 by_cases hLt : op = yE; · simp [hLt] at h
 by_cases hLe : op = yK; · simp [hLe] at h
 by_cases hGt : op = yF; · simp [hGt] at h
 by_cases hGe : op = yL; · simp [hGe] at h
 by_cases hAnd : op = gY; · simp [hAnd] at h
 by_cases hOr : op = mU; · simp [hOr] at h
 simp only [hAdd, hSub, hMul, hDiv, hEq, hNe, hLt, hLe, hGt, hGe, hAnd, hOr, if_false]
theorem RZ (op : Bytes) : (bL sJ op = none ∧ bL rO op = none) ∨ ∃ φ fn ca, bL sJ op = some φ ∧ bL rO op = some (.f fn [] ca) ∧ ∀ v, cE v = true → Fc Tryz.prog gT fn ([vS v] ++ ca) (vS (φ v)) := by
 cases h : (bL rO op).isSome with
 | false => exact .inl ⟨NC h, by simpa using h⟩
 | true => exact .inr (NA h)
theorem R7 (op : Bytes) : (bL fM op = none ∧ bL rP op = none) ∨ ∃ φ fn ca, bL fM op = some φ ∧ bL rP op = some (.f fn [] ca) ∧ ∀ a b, cE a = true → cE b = true → Fc Tryz.prog gT fn ([vS a, vS b] ++ ca) (vS (φ a b)) := by
 cases h : (bL rP op).isSome with
 | false => exact .inl ⟨ND h, by simpa using h⟩
 | true => exact .inr (NB h)
theorem B9 {op : Bytes} {l : List Val} : Fc Tryz.prog gT 107 [.str op, rV l] (.t [vS (mA op l).1, nI (mA op l).2]) := by
 refine fb aA (fn := Tryz.f107) 67 [.cell 4 26, .tmp 5] Tryz.func107 Tryz.results107 (fun g0 B0 Q ρ0 R => ?_)
 refine en aA 0 2 [] ?_
 refine sn aA 0 1 [] ?_
 refine fc aA 1 [] (AG) ?_
 refine sn aA 0 2 [] ?_
 refine si 0 rfl rfl (fun h14 => ?_) (fun h14 => ?_)
 ·have hl : ¬ l.all cE = true := fun h => by rw [if_pos h] at h14; exact h14 rfl
  have e : mA op l = (zeroV, 80) := by unfold mA; rw [if_neg hl]
  refine jG 6 rfl (v' := nI 80) ?_ ?_
  ·rw [if_neg hl]
  refine en aA 0 4 [] ?_
  refine sr 0 R ?_
  rw [e]; rfl
 ·have hl : l.all cE = true := Decidable.byContradiction fun h => by rw [if_neg h] at h14; exact h14 (by decide)
  refine en aA 0 2 [] ?_
  refine sn aA 0 2 [] ?_
  refine si 0 rfl rfl (fun h19 => ?_) (fun h19 => ?_)
  ·obtain ⟨a, rfl⟩ : ∃ a, l = [a] := List.length_eq_one_iff.1 (by have := h19; simp at this; omega)
   have ha : cE a = true := by simpa using hl
   rcases RZ op with ⟨h1, h2⟩ | ⟨φ, fn, ca, h1, h2, h3⟩
   ·refine en aA 0 0 [] ?_
    have e : mA op [a] = (zeroV, 2) := by unfold mA LQ; rw [if_pos hl]; simp only [h1, Option.map_none]
    refine fc aA 1 [] (FV) ?_
    refine slk aA 5 none h2 ?_
    refine sn aA 0 1 [] ?_
    refine sn aA 1 3 [] ?_
    refine sr 0 R ?_
    rw [e]; rfl
   ·refine en aA 0 0 [] ?_
    have e : mA op [a] = (φ a, 0) := by unfold mA LQ; rw [if_pos hl]; simp only [h1, Option.map_some]
    refine fc aA 1 [] (FV) ?_
    refine slk aA 5 (some (.f fn [] ca)) h2 ?_
    refine sn aA 0 1 [] ?_
    refine sn aA 1 4 [[nI a.k, nI a.n]] ?_ (hφ := by exact ⟨by decide, rfl⟩)
    refine fc aA 2 [] (h3 a ha) ?_
    refine sr 0 R ?_
    rw [e]; rfl
  ·refine en aA 0 2 [] ?_
   refine si 0 rfl rfl (fun h33 => ?_) (fun h33 => ?_)
   ·obtain ⟨a, b, rfl⟩ : ∃ a b, l = [a, b] := aDZ (by have := h33; simp at this; omega)
    have hab : cE a = true ∧ cE b = true := by simpa using hl
    rcases R7 op with ⟨h1, h2⟩ | ⟨φ, fn, ca, h1, h2, h3⟩
    ·refine en aA 0 0 [] ?_
     have e : mA op [a, b] = (zeroV, 2) := by unfold mA HB; rw [if_pos hl]; simp only [h1, Option.map_none]
     refine fc aA 1 [] (FW) ?_
     refine slk aA 5 none h2 ?_
     refine sn aA 0 3 [] ?_
     refine sn aA 1 3 [] ?_
     refine sr 0 R ?_
     rw [e]; rfl
    ·refine en aA 0 0 [] ?_
     have e0 : mA op [a, b] = if a.k = 2 ∨ b.k = 2 then (eI, 0) else (φ a b, 0) := by unfold mA HB; rw [if_pos hl]; simp only [h1, Option.map_some]
     refine fc aA 1 [] (FW) ?_
     refine slk aA 5 (some (.f fn [] ca)) h2 ?_
     refine sn aA 0 3 [] ?_
     refine sn aA 1 13 [[nI a.k, nI a.n], [nI b.k, nI b.n]] ?_ (hφ := by refine ⟨?_, ?_, ?_, ?_, ?_, ?_, ?_⟩ <;> first | exact ⟨by decide, rfl⟩ | exact fun _ => ⟨by decide, rfl⟩ | exact id | (intro h; simpa using h))
     refine bM 0 rfl rfl (fun h52 => ?_) (fun h52 => ?_)
     ·have e : mA op [a, b] = (eI, 0) := by rw [e0, if_pos (by simpa using h52)]
      refine en aA 0 0 [] ?_
      refine fc aA 2 [] (xQ) ?_
      refine sr 0 R ?_
      rw [e]; rfl
     ·have e : mA op [a, b] = (φ a b, 0) := by rw [e0, if_neg (by simpa using h52)]
      refine jH 0 256 [0, 0, 2, 6, 0, 16, 48, 127, 255, 511] [0, 1, 2, 3, 4, 5, 6, 7, 8, 9] ?_
      refine xd aA 7 [[nI a.k, nI a.n], [nI b.k, nI b.n]] ?_ (hφ := by exact ⟨⟨by decide, rfl⟩, ⟨by decide, rfl⟩⟩)
      refine dc aA 2 [] (h3 a b hab.1 hab.2) ?_
      refine xe ?_
      refine sr 0 R ?_
      rw [e]; rfl
   ·have e : mA op l = (zeroV, 2) := by unfold mA; rw [if_pos hl]; match l, h19, h33 with | [], _, _ => rfl | [_], h, _ => exact absurd rfl h | [_, _], _, h => exact absurd rfl h | _ :: _ :: _ :: _, _, _ => rfl
    refine en aA 0 3 [] ?_
    refine sr 0 R ?_
    rw [e]; rfl
theorem R9  : Fc Tryz.prog gT 225 [nU 1, nU 1] (.t [nU 0, nU 1]) := by
 refine fb aA (fn := Tryz.f225) 30 [.tmp 4, .tmp 5] Tryz.func225 Tryz.results225 (fun g0 B0 Q ρ0 R => ?_)
 refine en aA 0 2 [] ?_
 refine sn aA 1 2 [] ?_
 refine fc aA 5 [] ((wH (x := 1) (y := 1) (by decide) (by decide) : Fc Tryz.prog gT 288 [nU 1, nU 1] (.t [nU 0, nU 1]))) ?_
 refine sn aA 0 4 [] ?_
 refine sr 0 R ?_
 rfl
theorem IG {v : Val} : Fc Tryz.prog gT 155 [rV [v], nI 1] (rV [v]) := by
 refine fb aA (fn := Tryz.f155) 48 [.tmp 4] Tryz.func155 Tryz.results155 (fun g0 B0 Q ρ0 R => ?_)
 refine en aA 0 1 [] ?_
 refine sn aA 0 2 [] ?_
 refine sn aA 1 5 [] ?_
 refine fc aA 5 [] (R9) ?_
 refine sn aA 0 6 [] ?_
 refine sn aA 1 2 [] ?_
 refine aAA aA 902 1 (sz := 2) (by decide) [⟨[.int .i64 0, .int .i64 0], rfl, by decide⟩] rfl rfl rfl (by kernel_rfl) (by decide) (by decide) (TT.get_ok aA (rfl : tb.get 26 = some _)).ti Tryz.underlying46 ?_
 refine go aA 1 [] ?_
 refine sn aA 0 2 [] ?_
 refine aA9 aA (rows := [[nI 0, nI 0]]) (rows2 := (List.map (fun v : Val => [nI v.k, nI v.n]) [v])) rfl (by simp) (by simp) ?_
 refine go aA 1 [] ?_
 refine sl 0 ?_
 refine aD (σ := Unit) (fun _ => True) (fun _ => 0)
  (fun _ => [(7, .o 902 1), (8, nI 1)])
  (fun _ => [(902, .r 26 2 (List.map (fun v : Val => [nI v.k, nI v.n]) [v]))]) () ?_ ?_
 ·trivial
 ·rintro J _ _ hJ
  refine en aA 0 4 [] ?_
  refine sn aA 1 2 [] ?_
  refine BH 4 (rows := (List.map (fun v : Val => [nI v.k, nI v.n]) [v])) ?_ ?_ (hr := by simp)
  ·simp
  refine sr 0 R ?_
  rfl
theorem NE {op : Bytes} : Fc Tryz.prog gT 106 [.str op, nI 1] (bS (decide ((mA op [aK 0]).2 = 0))) := by
 refine fb aA (fn := Tryz.f106) 18 [.tmp 4] Tryz.func106 Tryz.results106 (fun g0 B0 Q ρ0 R => ?_)
 refine en aA 0 1 [] ?_
 refine sn aA 0 1 [] ?_
 refine fc aA 2 [] (eK (n := 0)) ?_
 refine fc aA 0 [] (IG (v := aK 0)) ?_
 refine fc aA 6 [] (B9 (op := op) (l := [aK 0])) ?_
 refine sn aA 0 3 [] ?_
 refine sr 0 R ?_
 rfl
theorem oC {n : Int} : Fc Tryz.prog gT 19 [nI n] (nI n) := by
 refine fb aA (fn := Tryz.f19) 4 [.tmp 2] Tryz.func19 Tryz.results19 (fun g0 B0 Q ρ0 R => ?_)
 refine en aA 0 1 [] ?_
 refine sn aA 0 2 [] ?_
 refine sr 0 R ?_
 rfl
theorem IH {v : Val} : Fc Tryz.prog gT 53 [vS v] (.s 3 [[.s 0 [], nI v.k, nI v.n]]) := by
 refine fb aA (fn := Tryz.f53) 6 [.tmp 2] Tryz.func53 Tryz.results53 (fun g0 B0 Q ρ0 R => ?_)
 refine en aA 0 2 [] ?_
 refine sn aA 0 4 [] ?_
 refine sr 0 R ?_
 rfl
theorem xW {v : Val} : Fc Tryz.prog gT 25 [vS v] (.s 3 [[.s 0 [], nI v.k, nI v.n]]) := by
 refine fb aA (fn := Tryz.f25) 6 [.tmp 2] Tryz.func25 Tryz.results25 (fun g0 B0 Q ρ0 R => ?_)
 refine en aA 0 2 [] ?_
 refine sn aA 0 4 [] ?_
 refine sr 0 R ?_
 rfl
set_option maxHeartbeats 1000000 in
theorem oD {l : List Se} (hlim : l.length * 40 ≤ jZ) : Fc Tryz.prog gT 58 [cI l] (.t [cI (aV l).1, nI (aV l).2]) := by
 refine fb aA (fn := Tryz.f58) 98 [.tmp 2, .tmp 3] Tryz.func58 Tryz.results58 (fun g0 B0 Q ρ0 R => ?_)
 unfold jZ at hlim
 refine lM 0 rfl (fun hl => ?_)
 simp only [List.length_map] at hl
 have hls := hl
 refine en aA 0 2 [] ?_
 refine sn aA 0 1 [] ?_
 refine sl 0 ?_
 refine aD (σ := Nat) (fun j => j ≤ l.length ∧ ∀ s ∈ l.take j, (!eG s.l) = false) (fun j => l.length - j)
  (fun j => [(0, cI l), (4, nI j)])
  (fun j => []) 0 ?_ ?_
 ·exact ⟨Nat.zero_le _, by simp⟩
 ·rintro J j ⟨hj0, hj1⟩ hJ
  refine en aA 0 4 [] ?_
  refine si 0 rfl rfl (fun h12 => ?_) (fun h12 => ?_)
  ·rw [List.length_map] at h12
   have hj : j < l.length := by omega
   refine en aA 0 5 [aP l[j]] ?_ (hφ := by exact ⟨by omega, aO _ hj⟩)
   refine fc aA 1 [] (VO (l := l[j].l)) ?_
   refine bM 0 rfl rfl (fun h21 => ?_) (fun h21 => ?_)
   ·have e : aV l = ([], 90) := by
     unfold aV
     rw [if_pos (List.any_eq_true.2 ⟨l[j], List.getElem_mem hj, h21⟩)]
    refine en aA 0 2 [] ?_
    refine uB 2 rfl (v' := cI []) (fun _ _ _ h => cS (by decide) h) ?_
    refine sr 0 R ?_
    rw [e]; rfl
   ·refine en aA 0 3 [] ?_
    refine sl 0 ?_
    exact hJ (j + 1) ⟨by omega, bH (P := fun s : Se => (!eG s.l) = false) hj hj1 h21⟩ (by omega)
  ·rw [List.length_map] at h12
   have e0 : ¬ l.any (fun s => !eG s.l) = true := by
    rw [Bool.not_eq_true, List.any_eq_false]
    intro s hs
    simpa using hj1 s (by rw [List.take_of_length_le (by omega)]; exact hs)
   refine en aA 0 1 [] ?_
   refine sl 0 ?_
   refine aD (σ := Nat) (fun j => j ≤ l.length ∧ ∀ s ∈ l.take j, (!cE s.v) = false) (fun j => l.length - j)
    (fun j => [(0, cI l), (5, nI j)])
    (fun j => []) 0 ?_ ?_
   ·exact ⟨Nat.zero_le _, by simp⟩
   ·rintro J j ⟨hj0, hj1⟩ hJ2
    refine en aA 0 4 [] ?_
    refine si 0 rfl rfl (fun h25 => ?_) (fun h25 => ?_)
    ·rw [List.length_map] at h25
     have hj : j < l.length := by omega
     refine en aA 0 5 [aP l[j]] ?_ (hφ := by exact ⟨by omega, aO _ hj⟩)
     refine fc aA 1 [] (B8 (v := l[j].v)) ?_
     refine bM 0 rfl rfl (fun h34 => ?_) (fun h34 => ?_)
     ·have e : aV l = ([], 80) := by
       unfold aV
       rw [if_neg e0, if_pos (List.any_eq_true.2 ⟨l[j], List.getElem_mem hj, h34⟩)]
      refine en aA 0 2 [] ?_
      refine uB 2 rfl (v' := cI []) (fun _ _ _ h => cS (by decide) h) ?_
      refine sr 0 R ?_
      rw [e]; rfl
     ·refine en aA 0 3 [] ?_
      refine sl 0 ?_
      exact hJ2 (j + 1) ⟨by omega, bH (P := fun s : Se => (!cE s.v) = false) hj hj1 h34⟩ (by omega)
    ·rw [List.length_map] at h25
     have e1 : ¬ l.any (fun s => !cE s.v) = true := by
      rw [Bool.not_eq_true, List.any_eq_false]
      intro s hs
      simpa using hj1 s (by rw [List.take_of_length_le (by omega)]; exact hs)
     obtain ⟨T, hT⟩ : ∃ q, q = dD FK l := ⟨_, rfl⟩
     have hTs := lY xF l
     rw [← hT] at hTs
     refine en aA 0 1 [] ?_
     refine sn aA 0 1 [] ?_
     refine sl 0 ?_
     refine edn 6 rfl (v' := cI []) (fun _ _ _ h => cS (by decide) h) ?_
     refine aD (σ := Nat × List Se) (fun s => tA f6 l s.2 s.1) (fun s => l.length - s.1)
      (fun s => [(0, cI l), (6, cI s.2), (7, nI s.1)])
      (fun s => []) (0, []) ?_ ?_
     ·exact tA.nil _ _
     ·rintro J ⟨i, out⟩ hI hO
      dsimp only at hI ⊢
      have hol := hI.len
      have hole := hI.le
      refine en aA 0 4 [] ?_
      refine si 0 rfl rfl (fun h38 => ?_) (fun h38 => ?_)
      ·rw [List.length_map] at h38
       have hi : i < l.length := by omega
       refine en aA 0 1 [] ?_
       refine sl 0 ?_
       refine aD (σ := Nat) (fun k => k ≤ out.length ∧ ∀ y ∈ out.take k, f6 y l[i] < 0) (fun k => out.length - k)
        (fun k => [(0, cI l), (6, cI out), (7, nI i), (8, nI k)])
        (fun k => []) 0 ?_ ?_
       ·exact ⟨Nat.zero_le _, by simp⟩
       ·rintro J k ⟨hk0, hk1⟩ hK
        refine jH 0 0 [0, 0, 2, 7, 15, 31, 31, 127, 255, 511, 31, 31, 3103, 7199, 15391, 32767, 65535, 131071] [0, 1, 2, 3, 4, 5, 6, 7, 8, 9, 10, 11, 12, 13, 14, 15, 16, 17] ?_
        refine xd aA 15 [aP (out.getD k zSe), aP l[i]] ?_ (hφ := by (repeat' refine And.intro ?_ ?_) <;> first | trivial | exact id | omega | exact aO _ hi | (intro hg; exact ⟨by omega, aO _ hi⟩) | (intro hg; simp only [decide_eq_true_eq, List.length_map] at hg; exact ⟨by omega, l5 _ (by omega) (by omega)⟩))
        refine dg aA 2 [] (fun hg => tX (l := (out.getD k zSe).l) (m := l[i].l)) ?_ (hφ := by (repeat' refine And.intro ?_ ?_) <;> first | trivial | exact id | omega | exact aO _ hi | (intro hg; exact ⟨by omega, aO _ hi⟩) | (intro hg; simp only [decide_eq_true_eq, List.length_map] at hg; exact ⟨by omega, l5 _ (by omega) (by omega)⟩)) (hψ := by simp [aE, wq, pB])
        refine xe ?_
        refine bM 0 rfl rfl (fun h58 => ?_) (fun h58 => ?_)
        ·simp only [Bool.and_eq_true, decide_eq_true_eq, List.length_map] at h58
         obtain ⟨q1, hlt⟩ := h58
         have hkl : k < out.length := by omega
         rw [getD_at hkl] at hlt
         refine en aA 0 3 [] ?_
         refine sl 0 ?_
         exact hK (k + 1) ⟨by omega, bH (P := fun y : Se => f6 y l[i] < 0) hkl hk1 hlt⟩ (by omega)
        ·have hge : ∀ hkl : k < out.length, ¬ f6 out[k] l[i] < 0 := fun hkl hc => by
          simp only [Bool.and_eq_false_iff, decide_eq_false_iff_not, List.length_map] at h58
          rcases h58 with h | h
          ·omega
          ·rw [getD_at hkl] at h
           exact h hc
         refine jH 0 0 [0, 0, 2, 7, 15, 31, 31, 127, 255, 511, 31, 31, 3103, 7199, 15391, 32767, 65535, 131071] [0, 1, 2, 3, 4, 5, 6, 7, 8, 9, 10, 11, 12, 13, 14, 15, 16, 17] ?_
         refine xd aA 15 [aP (out.getD k zSe), aP l[i]] ?_ (hφ := by (repeat' refine And.intro ?_ ?_) <;> first | trivial | exact id | omega | exact aO _ hi | (intro hg; exact ⟨by omega, aO _ hi⟩) | (intro hg; simp only [decide_eq_true_eq, List.length_map] at hg; exact ⟨by omega, l5 _ (by omega) (by omega)⟩))
         refine dg aA 2 [] (fun hg => tX (l := (out.getD k zSe).l) (m := l[i].l)) ?_ (hφ := by (repeat' refine And.intro ?_ ?_) <;> first | trivial | exact id | omega | exact aO _ hi | (intro hg; exact ⟨by omega, aO _ hi⟩) | (intro hg; simp only [decide_eq_true_eq, List.length_map] at hg; exact ⟨by omega, l5 _ (by omega) (by omega)⟩)) (hψ := by simp [aE, wq, pB])
         refine xe ?_
         refine bM 0 rfl rfl (fun h78 => ?_) (fun h78 => ?_)
         ·simp only [Bool.and_eq_true, decide_eq_true_eq, List.length_map] at h78
          obtain ⟨q1, heq⟩ := h78
          have hkl : k < out.length := by omega
          rw [getD_at hkl] at heq
          have e : aV l = ([], 8) := by
           unfold aV
           rw [if_neg e0, if_neg e1, ← hT, if_pos (hI.dup kG nY hi (List.getElem_mem hkl) heq hTs.up hTs.perm)]
          refine en aA 0 2 [] ?_
          refine uB 2 rfl (v' := cI []) (fun _ _ _ h => cS (by decide) h) ?_
          refine sr 0 R ?_
          rw [e]; rfl
         ·have hgt : ∀ hkl : k < out.length, 0 < f6 out[k] l[i] := fun hkl => by
           have h1 := hge hkl
           have h2 : ¬ f6 out[k] l[i] = 0 := fun hc => by
            simp only [Bool.and_eq_false_iff, decide_eq_false_iff_not, List.length_map] at h78
            rcases h78 with h | h
            ·omega
            ·rw [getD_at hkl] at h
             exact h hc
           omega
          have hjl : k ≤ (out.map aP).length := by rw [List.length_map]; exact hk0
          refine jH 0 17425 [0, 0, 0, 6, 15, 0, 0, 96, 224, 480, 1023, 0, 0, 6144, 16383, 32767] [0, 1, 2, 3, 4, 5, 6, 7, 8, 9, 10, 11, 12, 13, 14, 15] ?_
          refine aA8 aA 2 [] ?_
          refine dct aA k 0 [] rfl hjl ?_
          refine dap aA (rows := []) 5 [aP l[i]] rfl (fun _ => rfl) ?_ ?_ (hφ := by exact ⟨by omega, aO _ hi⟩)
          ·show ((0 : Nat) + _) * 40 ≤ _
           simp only [List.length_take, List.length_map]
           omega
          refine dap aA 2 [] rfl (fun _ => rfl) ?_ ?_
          ·show (_ + 1) * 40 ≤ _
           simp only [List.length_append, List.length_nil, List.length_take, List.length_map]
           omega
          refine dtl aA k 0 [] rfl hjl ?_
          refine dap aA 1 [] rfl (fun _ => rfl) ?_ ?_
          ·show (_ + _) * 40 ≤ _
           simp only [List.length_append, List.length_nil, List.length_cons, List.length_take, List.length_drop, List.length_map]
           omega
          refine xe ?_
          refine uC 93 (mb' := .r 98 3 ((out.take k ++ l[i] :: out.drop k).map aP)) ?_ ?_
          ·simp [aN]
          refine jR 6 rfl (v' := .o 93 ((out.take k ++ l[i] :: out.drop k).map aP).length) (by simp) ?_
          refine BH 6 (rows := (out.take k ++ l[i] :: out.drop k).map aP) ?_ ?_ (hr := fun r hr => by
           obtain ⟨n, _, rfl⟩ := List.mem_map.1 hr
           rfl)
          ·rfl
          refine sn aA 0 3 [] ?_
          refine sl 0 ?_
          exact hO (i + 1, (out.take k ++ l[i] :: out.drop k)) (hI.go kG nY hi hk1 hgt) (by dsimp only; omega)
      ·rw [List.length_map] at h38
       have hil : i = l.length := by omega
       subst hil
       obtain ⟨hd, hTo⟩ := hI.all kG nY hTs.up hTs.perm
       have e2 : aV l = if 200 < l.length then ([], 6) else (T, 0) := by
        unfold aV
        rw [if_neg e0, if_neg e1, ← hT, if_neg (by rw [hd]; decide)]
       refine en aA 0 3 [] ?_
       refine si 0 rfl rfl (fun h96 => ?_) (fun h96 => ?_)
       ·rw [List.length_map] at h96
        have e : aV l = ([], 6) := by rw [e2, if_pos (by omega)]
        refine en aA 0 2 [] ?_
        refine uB 2 rfl (v' := cI []) (fun _ _ _ h => cS (by decide) h) ?_
        refine sr 0 R ?_
        rw [e]; rfl
       ·rw [List.length_map] at h96
        have e : aV l = (out, 0) := by rw [e2, if_neg (by omega), hTo]
        refine en aA 0 3 [] ?_
        refine sr 0 R ?_
        rw [e]; rfl
end Go.Proofs.YtomkgfdigldhcaaGreatDoor
