/- WB WC WF WD WE UN UO UP UQ UR WK WL WJ WM. -/
import Derived.Test.YtomkgfdigldhcaaGreatDoorLFH
namespace Go.Proofs.YtomkgfdigldhcaaGreatDoor
open Go.KX
set_option maxRecDepth 100000 in
theorem idxI_ok {l : List Int} {v : Int} : Fc Tryz.prog gT 318 [rI l, nI v] (nI (idxF (fun x => decide (v = x)) l)) := by
 refine fb tOK (fn := Tryz.f318) 19 [.tmp 4] Tryz.func318 Tryz.results318 (fun g0 B0 Q ρ0 R => ?_)
 refine en tOK 0 1 [] ?_
 refine sn tOK 0 3 [] ?_
 refine sl 0 ?_
 refine E_loop (σ := Nat) (fun j => j ≤ l.length ∧ ∀ x ∈ l.take j, decide (v = x) = false) (fun j => l.length - j)
   (fun j => [(0, rI l), (1, nI v), (4, nI 0), (7, nI l.length), (8, nI j)])
   (fun j => []) 0 ?_ ?_
 ·exact ⟨Nat.zero_le _, by simp⟩
 ·rintro J j ⟨hj0, hj1⟩ hJ
  refine elen 0 rfl (fun hl => ?_)
  simp only [List.length_map] at hl
  refine en tOK 0 1 [] ?_
  refine si 0 rfl rfl (fun h9 => ?_) (fun h9 => ?_)
  ·have hj : j < l.length := by omega
   refine en tOK 0 2 [] ?_
   refine sn tOK 0 6 [[nI l[j]]] ?_ (hφ := by exact ⟨by omega, row_at _ hj⟩)
   refine si 0 rfl rfl (fun h16 => ?_) (fun h16 => ?_)
   ·have e := idxF_some (p := fun x => decide (v = x)) hj hj1 (by simpa using h16)
    refine en tOK 0 2 [] ?_
    refine sr 0 R ?_
    rw [e]; rfl
   ·have hx : decide (v = l[j]) = false := by simpa using h16
    refine en tOK 0 2 [] ?_
    exact hJ (j + 1) ⟨by omega, take_next hj hj1 hx⟩ (by omega)
  ·have e := idxF_none (p := fun x => decide (v = x)) (fun x hx => hj1 x (by rw [List.take_of_length_le (by omega)]; exact hx))
   refine en tOK 0 1 [] ?_
   refine sr 0 R ?_
   rw [e]; rfl
set_option maxRecDepth 100000 in
theorem contI_ok {l : List Int} {v : Int} : Fc Tryz.prog gT 291 [rI l, nI v] (bS (l.any fun x => decide (v = x))) := by
 refine fb tOK (fn := Tryz.f291) 9 [.tmp 4] Tryz.func291 Tryz.results291 (fun g0 B0 Q ρ0 R => ?_)
 refine en tOK 0 1 [] ?_
 refine sn tOK 0 2 [] ?_
 refine fc tOK 2 [] (idxI_ok) ?_
 refine sr 0 R ?_
 rw [← idxF_any]; rfl
set_option maxRecDepth 100000 in
theorem idxV_ok {l : List Val} {fn : FuncId} {p : Val → Bool} (hs : ∀ v ∈ l, Fc Tryz.prog gT fn [vS v] (bS (p v))) : Fc Tryz.prog gT 221 [rV l, .f fn [] []] (nI (idxF p l)) := by
 refine fb tOK (fn := Tryz.f221) 19 [.tmp 4] Tryz.func221 Tryz.results221 (fun g0 B0 Q ρ0 R => ?_)
 refine en tOK 0 1 [] ?_
 refine sn tOK 0 3 [] ?_
 refine sl 0 ?_
 refine E_loop (σ := Nat) (fun j => j ≤ l.length ∧ ∀ x ∈ l.take j, p x = false) (fun j => l.length - j)
   (fun j => [(0, rV l), (1, .f fn [] []), (4, nI 0), (7, nI l.length), (8, nI j)])
   (fun j => []) 0 ?_ ?_
 ·exact ⟨Nat.zero_le _, by simp⟩
 ·rintro J j ⟨hj0, hj1⟩ hJ
  refine elen 0 rfl (fun hl => ?_)
  simp only [List.length_map] at hl
  refine en tOK 0 1 [] ?_
  refine si 0 rfl rfl (fun h9 => ?_) (fun h9 => ?_)
  ·have hj : j < l.length := by omega
   refine en tOK 0 2 [] ?_
   refine sn tOK 0 5 [[nI l[j].k, nI l[j].n]] ?_ (hφ := by exact ⟨by omega, row_at _ hj⟩)
   refine fc tOK 0 [] (hs l[j] (List.getElem_mem hj)) ?_
   refine sib 0 rfl rfl (fun h16 => ?_) (fun h16 => ?_)
   ·have e := idxF_some hj hj1 h16
    refine en tOK 0 2 [] ?_
    refine sr 0 R ?_
    rw [e]; rfl
   ·have hx := h16
    refine en tOK 0 2 [] ?_
    exact hJ (j + 1) ⟨by omega, take_next hj hj1 hx⟩ (by omega)
  ·have e := idxF_none (p := p) (fun x hx => hj1 x (by rw [List.take_of_length_le (by omega)]; exact hx))
   refine en tOK 0 1 [] ?_
   refine sr 0 R ?_
   rw [e]; rfl
set_option maxRecDepth 100000 in
theorem contV_ok {l : List Val} {fn : FuncId} {p : Val → Bool} (hs : ∀ v ∈ l, Fc Tryz.prog gT fn [vS v] (bS (p v))) : Fc Tryz.prog gT 146 [rV l, .f fn [] []] (bS (l.any p)) := by
 refine fb tOK (fn := Tryz.f146) 9 [.tmp 4] Tryz.func146 Tryz.results146 (fun g0 B0 Q ρ0 R => ?_)
 refine en tOK 0 1 [] ?_
 refine sn tOK 0 2 [] ?_
 refine fc tOK 2 [] (idxV_ok (p := p) hs) ?_
 refine sr 0 R ?_
 rw [← idxF_any]; rfl
set_option maxRecDepth 100000 in
theorem vcheck1_ok {v : Val} : Fc Tryz.prog gT 147 [vS v] (bS (!isV v)) := by
 refine fb tOK (fn := Tryz.f147) 6 [.tmp 2] Tryz.func147 Tryz.results147 (fun g0 B0 Q ρ0 R => ?_)
 refine en tOK 0 2 [] ?_
 refine sn tOK 0 1 [] ?_
 refine fc tOK 2 [] (vis_ok) ?_
 refine sr 0 R ?_
 rfl
set_option maxRecDepth 100000 in
theorem vcheck_ok {l : List Val} : Fc Tryz.prog gT 101 [rV l] (nI (if l.all isV then 0 else 80)) := by
 refine fb tOK (fn := Tryz.f101) 5 [.tmp 2] Tryz.func101 Tryz.results101 (fun g0 B0 Q ρ0 R => ?_)
 refine en tOK 0 1 [] ?_
 refine sn tOK 0 1 [] ?_
 refine fc tOK 0 [] (contV_ok (p := fun v => !isV v) (fun v _ => vcheck1_ok)) ?_
 refine sib 0 rfl rfl (fun h4 => ?_) (fun h4 => ?_)
 ·have e : ¬ l.all isV = true := by simpa using h4
  refine en tOK 0 1 [] ?_
  refine sr 0 R ?_
  first | (rw [if_pos e]; rfl) | (rw [if_neg e]; rfl)
 ·have e : l.all isV = true := by simpa using h4
  refine en tOK 0 1 [] ?_
  refine sr 0 R ?_
  first | (rw [if_pos e]; rfl) | (rw [if_neg e]; rfl)
set_option maxRecDepth 100000 in
theorem vkind1_ok {l : List Int} {v : Val} : Fc Tryz.prog gT 290 [vS v, .p [rI l]] (vS (truthV (l.any fun x => decide (v.k = x)))) := by
 refine fb tOK (fn := Tryz.f290) 9 [.cell 3 26] Tryz.func290 Tryz.results290 (fun g0 B0 Q ρ0 R => ?_)
 refine en tOK 0 2 [] ?_
 refine sn tOK 0 3 [] ?_
 refine fc tOK 0 [] (contI_ok) ?_
 refine fc tOK 1 [] (vtruth_ok) ?_
 refine sr 0 R ?_
 rfl
set_option maxRecDepth 100000 in
theorem vkind_ok {l : List Int} : Fc Tryz.prog gT 235 [rI l] (.f 290 [] [.p [rI l]]) := by
 refine fb tOK (fn := Tryz.f235) 4 [.tmp 2] Tryz.func235 Tryz.results235 (fun g0 B0 Q ρ0 R => ?_)
 refine en tOK 0 2 [] ?_
 refine sz 1 ?_
 refine sn tOK 0 2 [] ?_
 refine sr 0 R ?_
 rfl
set_option maxRecDepth 100000 in
theorem vplain1_ok {v : Val} {fn : FuncId} {φ : Int → Int} (hv : isV v = true) (hs : ∀ n, -1000000000000001 ≤ n → n ≤ 1000000000000001 → Fc Tryz.prog gT fn [nI n] (nI (φ n))) : Fc Tryz.prog gT 289 [vS v, .p [.f fn [] []]] (vS (plainV φ v)) := by
 refine fb tOK (fn := Tryz.f289) 18 [.cell 3 26] Tryz.func289 Tryz.results289 (fun g0 B0 Q ρ0 R => ?_)
 refine en tOK 0 2 [] ?_
 refine sn tOK 0 8 [] ?_
 refine sib 0 rfl rfl (fun h11 => ?_) (fun h11 => ?_)
 ·have e : plainV φ v = v := by unfold plainV; rw [if_pos (by simpa using h11)]
  refine en tOK 0 2 [] ?_
  refine sr 0 R ?_
  rw [e]; rfl
 ·have e : plainV φ v = numV (φ (rankV v)) := by unfold plainV; rw [if_neg (by simpa using h11)]
  refine edr 0 32 [0, 0, 2, 7, 15, 31] [0, 1, 2, 3, 4, 5] ?_
  refine xd tOK 2 [] ?_
  refine dc tOK 0 [] (vrank_ok) ?_
  refine dc tOK 0 [] (hs (rankV v) (rank_in hv).1 (rank_in hv).2) ?_
  refine dc tOK 1 [] (vback_ok) ?_
  refine xe ?_
  refine sr 0 R ?_
  rw [e]; rfl
set_option maxRecDepth 100000 in
theorem vplain_ok {fn : FuncId} : Fc Tryz.prog gT 228 [.f fn [] []] (.f 289 [] [.p [.f fn [] []]]) := by
 refine fb tOK (fn := Tryz.f228) 4 [.tmp 2] Tryz.func228 Tryz.results228 (fun g0 B0 Q ρ0 R => ?_)
 refine en tOK 0 2 [] ?_
 refine sz 1 ?_
 refine sn tOK 0 2 [] ?_
 refine sr 0 R ?_
 rfl
set_option maxRecDepth 100000 in
theorem vnumbers1_ok {a b : Val} {fn : FuncId} {φ : Val → Val → Val} (hs : Fc Tryz.prog gT fn [vS a, vS b] (vS (φ a b))) : Fc Tryz.prog gT 292 [vS a, vS b, .p [.f fn [] []]] (vS (numbersV φ a b)) := by
 refine fb tOK (fn := Tryz.f292) 19 [.cell 5 26] Tryz.func292 Tryz.results292 (fun g0 B0 Q ρ0 R => ?_)
 refine en tOK 0 3 [] ?_
 refine sn tOK 0 8 [] ?_
 refine sib 0 rfl rfl (fun h13 => ?_) (fun h13 => ?_)
 ·have e : numbersV φ a b = nanV := by unfold numbersV; rw [if_pos (by simpa using h13)]
  refine en tOK 0 0 [] ?_
  refine fc tOK 1 [] (vnan_ok) ?_
  refine sr 0 R ?_
  rw [e]; rfl
 ·have e : numbersV φ a b = φ a b := by unfold numbersV; rw [if_neg (by simpa using h13)]
  refine en tOK 0 3 [] ?_
  refine fc tOK 1 [] (hs) ?_
  refine sr 0 R ?_
  rw [e]; rfl
set_option maxRecDepth 100000 in
theorem vnumbers_ok {fn : FuncId} : Fc Tryz.prog gT 236 [.f fn [] []] (.f 292 [] [.p [.f fn [] []]]) := by
 refine fb tOK (fn := Tryz.f236) 4 [.tmp 2] Tryz.func236 Tryz.results236 (fun g0 B0 Q ρ0 R => ?_)
 refine en tOK 0 2 [] ?_
 refine sz 1 ?_
 refine sn tOK 0 2 [] ?_
 refine sr 0 R ?_
 rfl
set_option maxRecDepth 100000 in
theorem vorder1_ok {a b : Val} {fn : FuncId} {no : Bool} {φ : Int → Int → Bool} (hs : ∀ x y, Fc Tryz.prog gT fn [nI x, nI y] (bS (φ x y))) : Fc Tryz.prog gT 296 [vS a, vS b, .p [bS no], .p [.f fn [] []]] (vS (orderV no φ a b)) := by
 refine fb tOK (fn := Tryz.f296) 24 [.cell 6 26] Tryz.func296 Tryz.results296 (fun g0 B0 Q ρ0 R => ?_)
 refine en tOK 0 3 [] ?_
 refine sn tOK 0 8 [] ?_
 refine sib 0 rfl rfl (fun h14 => ?_) (fun h14 => ?_)
 ·have e : orderV no φ a b = truthV no := by unfold orderV; rw [if_pos (by simpa using h14)]
  refine en tOK 0 1 [] ?_
  refine fc tOK 1 [] (vtruth_ok) ?_
  refine sr 0 R ?_
  rw [e]; rfl
 ·have e : orderV no φ a b = truthV (φ (rankV a) (rankV b)) := by unfold orderV; rw [if_neg (by simpa using h14)]
  refine edr 0 128 [0, 0, 2, 0, 14, 31, 63, 127] [0, 1, 2, 3, 4, 5, 6, 7] ?_
  refine xd tOK 2 [] ?_
  refine dc tOK 1 [] (vrank_ok) ?_
  refine dc tOK 0 [] (vrank_ok) ?_
  refine dc tOK 0 [] (hs (rankV a) (rankV b)) ?_
  refine dc tOK 1 [] (vtruth_ok) ?_
  refine xe ?_
  refine sr 0 R ?_
  rw [e]; rfl
set_option maxRecDepth 100000 in
theorem vorder_ok {fn : FuncId} {no : Bool} : Fc Tryz.prog gT 243 [bS no, .f fn [] []] (.f 296 [] [.p [bS no], .p [.f fn [] []]]) := by
 refine fb tOK (fn := Tryz.f243) 6 [.tmp 4] Tryz.func243 Tryz.results243 (fun g0 B0 Q ρ0 R => ?_)
 refine en tOK 0 3 [] ?_
 refine sz 2 ?_
 refine sz 3 ?_
 refine sn tOK 0 2 [] ?_
 refine sr 0 R ?_
 rfl
set_option maxRecDepth 100000 in
theorem vone1_ok {n : Int} (h1 : -1000000000000001 ≤ n) (h2 : n ≤ 1000000000000001) : Fc Tryz.prog gT 229 [nI n] (nI (-n)) := by
 refine fb tOK (fn := Tryz.f229) 5 [.tmp 2] Tryz.func229 Tryz.results229 (fun g0 B0 Q ρ0 R => ?_)
 refine en tOK 0 1 [] ?_
 refine sn tOK 0 3 [] ?_
 refine sr 0 R ?_
 rw [← Int.zero_sub]; rfl
set_option maxRecDepth 100000 in
theorem vone2_ok {n : Int} (h1 : -1000000000000001 ≤ n) (h2 : n ≤ 1000000000000001) : Fc Tryz.prog gT 230 [nI n] (nI (max n (-n))) := by
 refine fb tOK (fn := Tryz.f230) 7 [.tmp 2] Tryz.func230 Tryz.results230 (fun g0 B0 Q ρ0 R => ?_)
 refine en tOK 0 1 [] ?_
 refine sn tOK 0 5 [] ?_
 refine sr 0 R ?_
 rw [← Int.zero_sub]; rfl
set_option maxRecDepth 100000 in
theorem vone4_ok {v : Val} : Fc Tryz.prog gT 233 [vS v] (vS (notV v)) := by
 refine fb tOK (fn := Tryz.f233) 11 [.cell 2 26] Tryz.func233 Tryz.results233 (fun g0 B0 Q ρ0 R => ?_)
 refine en tOK 0 2 [] ?_
 refine sn tOK 0 3 [] ?_
 refine si 0 rfl rfl (fun h5 => ?_) (fun h5 => ?_)
 ·have e : notV v = v := by unfold notV; rw [if_pos h5]
  refine en tOK 0 2 [] ?_
  refine sr 0 R ?_
  rw [e]; rfl
 ·have e : notV v = truthV (!trueV v) := by unfold notV; rw [if_neg h5]
  refine en tOK 0 1 [] ?_
  refine fc tOK 1 [] (vtrue_ok) ?_
  refine fc tOK 1 [] (vtruth_ok) ?_
  refine sr 0 R ?_
  rw [e]; rfl
set_option maxRecDepth 100000 in
theorem vone3_ok {v : Val} (hv : isV v = true) : Fc Tryz.prog gT 231 [vS v] (vS (floorV v)) := by
 refine fb tOK (fn := Tryz.f231) 15 [.cell 2 26] Tryz.func231 Tryz.results231 (fun g0 B0 Q ρ0 R => ?_)
 refine en tOK 0 2 [] ?_
 refine sn tOK 0 1 [] ?_
 refine fc tOK 0 [] (vfin_ok) ?_
 refine sib 0 rfl rfl (fun h4 => ?_) (fun h4 => ?_)
 ·have hk : v.k = 1 := by simpa [finV] using h4
  have hn := isV_n hv
  have e : floorV v = numV (v.n - (v.n.tmod 1000 + 1000).tmod 1000) := by unfold floorV; rw [if_pos hk]
  have t1 := tmod_lt v.n
  have t2 := tmod_lt (v.n.tmod 1000 + 1000)
  refine en tOK 0 8 [] ?_
  refine fc tOK 1 [] (vnum_ok) ?_
  refine sr 0 R ?_
  rw [e]; rfl
 ·have e : floorV v = v := by unfold floorV; rw [if_neg (by simpa [finV] using h4)]
  refine en tOK 0 2 [] ?_
  refine sr 0 R ?_
  rw [e]; rfl
set_option maxRecDepth 100000 in
theorem vtwo2_ok {a b : Int} : Fc Tryz.prog gT 244 [nI a, nI b] (bS (decide (a = b))) := by
 refine fb tOK (fn := Tryz.f244) 8 [.tmp 4] Tryz.func244 Tryz.results244 (fun g0 B0 Q ρ0 R => ?_)
 refine en tOK 0 1 [] ?_
 refine sn tOK 0 4 [] ?_
 refine sr 0 R ?_
 rfl
set_option maxRecDepth 100000 in
theorem vtwo3_ok {a b : Int} : Fc Tryz.prog gT 245 [nI a, nI b] (bS (decide (a ≠ b))) := by
 refine fb tOK (fn := Tryz.f245) 8 [.tmp 4] Tryz.func245 Tryz.results245 (fun g0 B0 Q ρ0 R => ?_)
 refine en tOK 0 1 [] ?_
 refine sn tOK 0 4 [] ?_
 refine sr 0 R ?_
 rfl
set_option maxRecDepth 100000 in
theorem vtwo4_ok {a b : Int} : Fc Tryz.prog gT 246 [nI a, nI b] (bS (decide (a < b))) := by
 refine fb tOK (fn := Tryz.f246) 8 [.tmp 4] Tryz.func246 Tryz.results246 (fun g0 B0 Q ρ0 R => ?_)
 refine en tOK 0 1 [] ?_
 refine sn tOK 0 4 [] ?_
 refine sr 0 R ?_
 rfl
set_option maxRecDepth 100000 in
theorem vtwo5_ok {a b : Int} : Fc Tryz.prog gT 247 [nI a, nI b] (bS (decide (a ≤ b))) := by
 refine fb tOK (fn := Tryz.f247) 8 [.tmp 4] Tryz.func247 Tryz.results247 (fun g0 B0 Q ρ0 R => ?_)
 refine en tOK 0 1 [] ?_
 refine sn tOK 0 4 [] ?_
 refine sr 0 R ?_
 rfl
set_option maxRecDepth 100000 in
theorem vtwo6_ok {a b : Int} : Fc Tryz.prog gT 248 [nI a, nI b] (bS (decide (b < a))) := by
 refine fb tOK (fn := Tryz.f248) 8 [.tmp 4] Tryz.func248 Tryz.results248 (fun g0 B0 Q ρ0 R => ?_)
 refine en tOK 0 1 [] ?_
 refine sn tOK 0 4 [] ?_
 refine sr 0 R ?_
 rfl
set_option maxRecDepth 100000 in
theorem vtwo7_ok {a b : Int} : Fc Tryz.prog gT 249 [nI a, nI b] (bS (decide (b ≤ a))) := by
 refine fb tOK (fn := Tryz.f249) 8 [.tmp 4] Tryz.func249 Tryz.results249 (fun g0 B0 Q ρ0 R => ?_)
 refine en tOK 0 1 [] ?_
 refine sn tOK 0 4 [] ?_
 refine sr 0 R ?_
 rfl
set_option maxRecDepth 100000 in
theorem vtwo8_ok {a b : Val} : Fc Tryz.prog gT 250 [vS a, vS b] (vS (truthV (trueV a && trueV b))) := by
 refine fb tOK (fn := Tryz.f250) 12 [.cell 4 26] Tryz.func250 Tryz.results250 (fun g0 B0 Q ρ0 R => ?_)
 refine en tOK 0 3 [] ?_
 refine sn tOK 0 1 [] ?_
 refine fc tOK 2 [] (vtrue_ok) ?_
 refine fg tOK 1 [] (fun hg => vtrue_ok) ?_
 refine fc tOK 1 [] (vtruth_ok) ?_
 refine sr 0 R ?_
 rfl
set_option maxRecDepth 100000 in
theorem vtwo9_ok {a b : Val} : Fc Tryz.prog gT 251 [vS a, vS b] (vS (truthV (trueV a || trueV b))) := by
 refine fb tOK (fn := Tryz.f251) 12 [.cell 4 26] Tryz.func251 Tryz.results251 (fun g0 B0 Q ρ0 R => ?_)
 refine en tOK 0 3 [] ?_
 refine sn tOK 0 1 [] ?_
 refine fc tOK 2 [] (vtrue_ok) ?_
 refine fg tOK 1 [] (fun hg => vtrue_ok) ?_
 refine fc tOK 1 [] (vtruth_ok) ?_
 refine sr 0 R ?_
 rfl
end Go.Proofs.YtomkgfdigldhcaaGreatDoor
namespace Go.Proofs.YtomkgfdigldhcaaGreatDoor
open Go.KX
set_option maxRecDepth 100000 in
theorem val_eq {w : World} (a b : Val) : (Op.eqFields 9999 #[.int .i64 a.k, .int .i64 a.n] #[.int .i64 b.k, .int .i64 b.n] (match Tryz.prog.underlying 26 with | some (.struct fl) => fl | _ => #[]).toList).run Tryz.prog w = .ok (decide (a = b)) w := by
  rw [Tryz.underlying26]
  dsimp only
  rw [eqF_int (by decide) Tryz.underlying3 rfl rfl, eqF_int (by decide) Tryz.underlying2 rfl rfl]
  obtain ⟨k, n⟩ := a
  obtain ⟨k2, n2⟩ := b
  by_cases h1 : k = k2 <;> by_cases h2 : n = n2 <;> simp [h1, h2, Op.eqFields]
set_option maxRecDepth 100000 in
theorem vadd_ok {a b : Val} (ha : isV a = true) (hb : isV b = true) : Fc Tryz.prog gT 237 [vS a, vS b] (vS (addV a b)) := by
 refine fb tOK (fn := Tryz.f237) 38 [.cell 4 26] Tryz.func237 Tryz.results237 (fun g0 B0 Q ρ0 R => ?_)
 have a1 := isV_n ha
 have b1 := isV_n hb
 refine en tOK 0 3 [] ?_
 refine sn tOK 0 1 [] ?_
 refine fc tOK 2 [] (vfin_ok) ?_
 refine fg tOK 2 [] (fun hg => vfin_ok) ?_
 refine sib 0 rfl rfl (fun h5 => ?_) (fun h5 => ?_)
 ·have e : addV a b = numV (a.n + b.n) := by unfold addV; rw [if_pos (by simpa [finV] using h5)]
  refine en tOK 0 5 [] ?_
  refine fc tOK 1 [] (vnum_ok) ?_
  refine sr 0 R ?_
  rw [e]; rfl
 ·refine en tOK 0 1 [] ?_
  refine fc tOK 3 [] (vfin_ok) ?_
  refine fg tOK 5 [] (fun hg => vfin_ok) ?_
  refine sq tOK 2 [] true (b := decide (a = b)) Tryz.underlying26 (by kernel_rfl) (fun w => val_eq _ _) ?_
  refine sib 0 rfl rfl (fun h18 => ?_) (fun h18 => ?_)
  ·have e : addV a b = nanV := by unfold addV; rw [if_neg (by simpa [finV] using h5), if_pos (by simpa [finV, and_assoc] using h18)]
   refine en tOK 0 0 [] ?_
   refine fc tOK 1 [] (vnan_ok) ?_
   refine sr 0 R ?_
   rw [e]; rfl
  ·refine en tOK 0 1 [] ?_
   refine fc tOK 1 [] (vfin_ok) ?_
   refine sib 0 rfl rfl (fun h33 => ?_) (fun h33 => ?_)
   ·have e : addV a b = b := by unfold addV; rw [if_neg (by simpa [finV] using h5), if_neg (by simpa [finV, and_assoc] using h18), if_pos (by simpa [finV] using h33)]
    refine en tOK 0 2 [] ?_
    refine sr 0 R ?_
    rw [e]; rfl
   ·have e : addV a b = a := by unfold addV; rw [if_neg (by simpa [finV] using h5), if_neg (by simpa [finV, and_assoc] using h18), if_neg (by simpa [finV] using h33)]
    refine en tOK 0 2 [] ?_
    refine sr 0 R ?_
    rw [e]; rfl
set_option maxRecDepth 100000 in
theorem vdiv_ok {a b : Val} (ha : isV a = true) (hb : isV b = true) : Fc Tryz.prog gT 242 [vS a, vS b] (vS (divV a b)) := by
 refine fb tOK (fn := Tryz.f242) 52 [.cell 4 26] Tryz.func242 Tryz.results242 (fun g0 B0 Q ρ0 R => ?_)
 have a1 := isV_n ha
 have b1 := isV_n hb
 have a2 := rank_in ha
 refine en tOK 0 3 [] ?_
 refine sn tOK 0 1 [] ?_
 refine fc tOK 3 [] (vfin_ok) ?_
 refine fg tOK 3 [] (fun hg => vfin_ok) ?_
 refine sib 0 rfl rfl (fun h5 => ?_) (fun h5 => ?_)
 ·have e : divV a b = nanV := by unfold divV; rw [if_pos (by simpa [finV] using h5)]
  refine en tOK 0 0 [] ?_
  refine fc tOK 1 [] (vnan_ok) ?_
  refine sr 0 R ?_
  first | (rw [e]; rfl) | (simp only [hq]; rw [e]; rfl)
 ·refine en tOK 0 1 [] ?_
  refine fc tOK 2 [] (vfin_ok) ?_
  refine sib 0 rfl rfl (fun h15 => ?_) (fun h15 => ?_)
  ·have e : divV a b = numV 0 := by unfold divV; rw [if_neg (by simpa [finV] using h5), if_pos (by simpa [finV] using h15)]
   refine en tOK 0 0 [] ?_
   refine fc tOK 1 [] (vnum_ok) ?_
   refine sr 0 R ?_
   first | (rw [e]; rfl) | (simp only [hq]; rw [e]; rfl)
  ·refine en tOK 0 1 [] ?_
   refine fc tOK 7 [] (vfin_ok) ?_
   refine sib 0 rfl rfl (fun h20 => ?_) (fun h20 => ?_)
   ·have e : divV a b = numV (-rankV a) := by unfold divV; rw [if_neg (by simpa [finV] using h5), if_neg (by simpa [finV] using h15), if_pos (by simpa [finV] using h20)]
    rw [← Int.zero_sub] at e
    refine en tOK 0 1 [] ?_
    refine fc tOK 1 [] (vrank_ok) ?_
    refine fc tOK 1 [] (vback_ok) ?_
    refine sr 0 R ?_
    first | (rw [e]; rfl) | (simp only [hq]; rw [e]; rfl)
   ·refine en tOK 0 1 [] ?_
    refine fc tOK 2 [] (vfin_ok) ?_
    refine sib 0 rfl rfl (fun h33 => ?_) (fun h33 => ?_)
    ·have e : divV a b = a := by unfold divV; rw [if_neg (by simpa [finV] using h5), if_neg (by simpa [finV] using h15), if_neg (by simpa [finV] using h20), if_pos (by simpa [finV] using h33)]
     refine en tOK 0 2 [] ?_
     refine sr 0 R ?_
     first | (rw [e]; rfl) | (simp only [hq]; rw [e]; rfl)
    ·refine en tOK 0 4 [] ?_
     refine si 0 rfl rfl (fun h38 => ?_) (fun h38 => ?_)
     ·have e : divV a b = infV a.n := by unfold divV; rw [if_neg (by simpa [finV] using h5), if_neg (by simpa [finV] using h15), if_neg (by simpa [finV] using h20), if_neg (by simpa [finV] using h33), if_pos h38]
      refine en tOK 0 2 [] ?_
      refine fc tOK 1 [] (vinf_ok) ?_
      refine sr 0 R ?_
      first | (rw [e]; rfl) | (simp only [hq]; rw [e]; rfl)
     ·have e : divV a b = numV ((a.n * 1000).tdiv b.n) := by unfold divV; rw [if_neg (by simpa [finV] using h5), if_neg (by simpa [finV] using h15), if_neg (by simpa [finV] using h20), if_neg (by simpa [finV] using h33), if_neg h38]
      have hq := quo_in (a := a.n * 1000) (b := b.n) (by omega) (by omega)
      refine en tOK 0 6 [] ?_
      refine fc tOK 1 [] (vnum_ok) ?_
      refine sr 0 R ?_
      first | (rw [e]; rfl) | (simp only [hq]; rw [e]; rfl)
set_option maxRecDepth 100000 in
theorem vtwo1_ok {a b : Val} (ha : isV a = true) (hb : isV b = true) : Fc Tryz.prog gT 238 [vS a, vS b] (vS (addV a (negV b))) := by
 refine fb tOK (fn := Tryz.f238) 11 [.cell 4 26] Tryz.func238 Tryz.results238 (fun g0 B0 Q ρ0 R => ?_)
 have b2 := rank_in hb
 refine en tOK 0 3 [] ?_
 refine sdr 0 64 [0, 0, 2, 6, 14, 31, 63] [0, 1, 2, 3, 4, 5, 6] ?_
 refine xd tOK 2 [] ?_
 refine dc tOK 1 [] (vrank_ok) ?_
 refine dc tOK 0 [] (vback_ok) ?_
 refine dc tOK 1 [] (vadd_ok ha (isV_num _)) ?_
 refine xe ?_
 refine sr 0 R ?_
 unfold negV; rw [← Int.zero_sub]; rfl
end Go.Proofs.YtomkgfdigldhcaaGreatDoor
namespace Go.Proofs.YtomkgfdigldhcaaGreatDoor
open Go.KX
set_option maxRecDepth 100000 in
theorem rplus_ok  : Fc Tryz.prog gT 90 [] (vS plusV) := by
 refine fb tOK (fn := Tryz.f90) 2 [.cell 0 26] Tryz.func90 Tryz.results90 (fun g0 B0 Q ρ0 R => ?_)
 refine en tOK 0 1 [] ?_
 refine sn tOK 0 2 [] ?_
 refine sr 0 R ?_
 rfl
set_option maxRecDepth 100000 in
theorem rminus_ok  : Fc Tryz.prog gT 91 [] (vS minusV) := by
 refine fb tOK (fn := Tryz.f91) 2 [.cell 0 26] Tryz.func91 Tryz.results91 (fun g0 B0 Q ρ0 R => ?_)
 refine en tOK 0 1 [] ?_
 refine sn tOK 0 2 [] ?_
 refine sr 0 R ?_
 rfl
set_option maxRecDepth 100000 in
theorem rnum_ok {n : Int} : Fc Tryz.prog gT 46 [nI n] (vS (numV n)) := by
 refine fb tOK (fn := Tryz.f46) 11 [.cell 2 26] Tryz.func46 Tryz.results46 (fun g0 B0 Q ρ0 R => ?_)
 refine en tOK 0 1 [] ?_
 refine sn tOK 0 2 [] ?_
 refine si 0 rfl rfl (fun h4 => ?_) (fun h4 => ?_)
 ·have e : numV n = plusV := by unfold numV; rw [if_pos h4]
  refine en tOK 0 0 [] ?_
  refine fc tOK 1 [] (rplus_ok) ?_
  refine sr 0 R ?_
  rw [e]; rfl
 ·refine en tOK 0 2 [] ?_
  refine si 0 rfl rfl (fun h7 => ?_) (fun h7 => ?_)
  ·have e : numV n = minusV := by unfold numV; rw [if_neg h4, if_pos h7]
   refine en tOK 0 0 [] ?_
   refine fc tOK 1 [] (rminus_ok) ?_
   refine sr 0 R ?_
   rw [e]; rfl
  ·have e : numV n = ⟨1, n⟩ := by unfold numV; rw [if_neg h4, if_neg h7]
   refine en tOK 0 3 [] ?_
   refine sr 0 R ?_
   rw [e]; rfl
end Go.Proofs.YtomkgfdigldhcaaGreatDoor
namespace Go.Proofs.YtomkgfdigldhcaaGreatDoor
open Go.KX
set_option maxRecDepth 100000 in
theorem div1000_ok {hi lo : Nat} (hh : hi < 1000) (hl : lo < 18446744073709551616) : Fc Tryz.prog gT 295 [nU hi, nU lo, nU 1000] (.t [nU (((hi * 18446744073709551616 + lo) / 1000 : Nat) : Int), nU (rem1000 hi lo)]) := by
 refine fb tOK (fn := Tryz.f295) 135 [.tmp 6, .tmp 7] Tryz.func295 Tryz.results295 (fun g0 B0 Q ρ0 R => ?_)
 obtain ⟨u, hu⟩ : ∃ u, u = hi * 18014398509481984 + lo / 1024 := ⟨_, rfl⟩
 obtain ⟨v, hv⟩ : ∃ v, v = lo % 1024 * 4194304 := ⟨_, rfl⟩
 obtain ⟨q1, hq1⟩ : ∃ q, q = u / 4194304000 := ⟨_, rfl⟩
 obtain ⟨r1, hr1⟩ : ∃ r, r = u % 4194304000 := ⟨_, rfl⟩
 obtain ⟨w, hw⟩ : ∃ w, w = r1 * 4294967296 + v := ⟨_, rfl⟩
 obtain ⟨q0, hq0⟩ : ∃ q, q = w / 4194304000 := ⟨_, rfl⟩
 obtain ⟨r0, hr0⟩ : ∃ r, r = w % 4194304000 := ⟨_, rfl⟩
 obtain ⟨b1, b0, bw, hQ⟩ := div_two hl hh hu hv (show u = 4194304000 * q1 + r1 by omega) (by omega) hw (show w = 4194304000 * q0 + r0 by omega) (by omega)
 have bu : u < 18014398509481984000 := by omega
 have hu0 : u = 4194304000 * q1 + r1 := by omega
 have hr1b : r1 < 4194304000 := by omega
 refine en tOK 0 2 [] ?_
 refine sn tOK 0 2 [] ?_
 refine si 0 rfl rfl (fun h20 => ?_) (fun h20 => ?_)
 ·exact absurd h20 (by decide)
 ·refine en tOK 0 3 [] ?_
  refine si 0 rfl rfl (fun h24 => ?_) (fun h24 => ?_)
  ·exact absurd h24 (by omega)
  ·refine en tOK 0 2 [] ?_
   refine si 0 rfl rfl (fun h27 => ?_) (fun h27 => ?_)
   ·have h0 : hi = 0 := by omega
    refine edr 0 0 [0, 0, 3, 0, 0, 24, 7, 127] [0, 1, 2, 3, 4, 5, 6, 7] ?_
    refine xd tOK 8 [] ?_
    refine xe ?_
    refine sr 0 R ?_
    rw [h0, rem1000, if_pos rfl]
    exact congrArg (fun x => SV.t [nU x, nU ((lo : Int).tmod 1000)]) (quo0_eq hl)
   ·have h0 : hi ≠ 0 := by omega
    refine en tOK 0 1 [] ?_
    refine fc tOK 2 [] (lz1000_ok) ?_
    refine sas 8 rfl (v' := nU 54) ?_ ?_
    ·exact rfl
    refine sn tOK 0 4 [] ?_
    refine sas 2 rfl (v' := nU 18014398509481984000) ?_ ?_
    ·exact rfl
    refine sn tOK 0 3 [] ?_
    refine sas 9 rfl (v' := nU 4194304000) ?_ ?_
    ·exact rfl
    refine sn tOK 0 3 [] ?_
    refine sas 10 rfl (v' := nU 0) ?_ ?_
    ·exact rfl
    refine sn tOK 0 9 [] ?_ (hφ := by exact ⟨⟨by decide, by decide⟩, ⟨by decide, by decide⟩⟩)
    refine sas 11 rfl (v' := nU u) ?_ ?_
    ·rw [hu]; exact congrArg nU (u_eq hh hl)
    refine sn tOK 0 4 [] ?_
    refine sas 12 rfl (v' := nU ((lo % 1024 * 18014398509481984 : Nat) : Int)) ?_ ?_
    ·exact congrArg nU (low_eq lo)
    refine sn tOK 0 3 [] ?_
    refine sas 13 rfl (v' := nU v) ?_ ?_
    ·rw [hv]; exact congrArg nU (mid_eq lo)
    refine sn tOK 0 3 [] ?_
    refine sas 14 rfl (v' := nU 0) ?_ ?_
    ·exact congrArg nU (mask_eq lo)
    refine sn tOK 0 4 [] ?_
    refine sas 15 rfl (v' := nU q1) ?_ ?_
    ·rw [hq1]; exact congrArg nU (quo_eq (by omega))
    refine sn tOK 0 6 [] ?_
    refine sl 0 ?_
    refine eas 16 rfl (v' := nU r1) ?_ ?_
    ·rw [hr1, hq1]; exact congrArg nU (rem_eq (by omega))
    refine E_loop (σ := Unit) (fun _ => True) (fun _ => 0)
      (fun _ => [(0, nU hi), (1, nU lo), (2, nU 18014398509481984000), (6, nU 0), (7, nU 0), (8, nU 54), (9, nU 4194304000), (10, nU 0), (11, nU u), (12, nU ((lo % 1024 * 18014398509481984 : Nat) : Int)), (13, nU v), (14, nU 0), (15, nU q1), (16, nU r1)])
      (fun _ => []) () ?_ ?_
    ·trivial
    ·rintro J _ _ hJ
     refine en tOK 0 12 [] ?_
     refine sib 0 rfl rfl (fun h78 => ?_) (fun h78 => ?_)
     ·exfalso
      simp only [Bool.or_eq_true, decide_eq_true_eq, IntKind.wrap_u64] at h78
      omega
     ·refine en tOK 0 9 [] ?_
      refine sas 17 rfl (v' := nU w) ?_ ?_
      ·exact congrArg nU (low_w hu0 hr1b hw bw)
      refine sn tOK 0 4 [] ?_
      refine sas 18 rfl (v' := nU q0) ?_ ?_
      ·rw [hq0]; exact congrArg nU (quo_eq (by omega))
      refine sn tOK 0 6 [] ?_
      refine sl 0 ?_
      refine eas 16 rfl (v' := nU r0) ?_ ?_
      ·rw [hr0, hq0]; exact congrArg nU (rem_eq (by omega))
      refine E_loop (σ := Unit) (fun _ => True) (fun _ => 0)
        (fun _ => [(0, nU hi), (1, nU lo), (2, nU 18014398509481984000), (6, nU 0), (7, nU 0), (8, nU 54), (9, nU 4194304000), (10, nU 0), (11, nU u), (12, nU ((lo % 1024 * 18014398509481984 : Nat) : Int)), (13, nU v), (14, nU 0), (15, nU q1), (17, nU w), (16, nU r0), (18, nU q0)])
        (fun _ => []) () ?_ ?_
      ·trivial
      ·rintro J _ _ hJ
       refine en tOK 0 12 [] ?_
       refine sib 0 rfl rfl (fun h113 => ?_) (fun h113 => ?_)
       ·exfalso
        simp only [Bool.or_eq_true, decide_eq_true_eq, IntKind.wrap_u64] at h113
        omega
       ·refine en tOK 0 16 [] ?_
        refine sr 0 R ?_
        exact t_eq (fin1 b1 b0 hQ) (fin2 h0 hu hv hr1 hw hq0 hr0)
set_option maxRecDepth 100000 in
theorem vmul_ok {a b : Val} (ha : isV a = true) (hb : isV b = true) : Fc Tryz.prog gT 241 [vS a, vS b] (vS (mulV a b)) := by
 refine fb tOK (fn := Tryz.f241) 60 [.cell 4 26] Tryz.func241 Tryz.results241 (fun g0 B0 Q ρ0 R => ?_)
 have a1 := isV_n ha
 have b1 := isV_n hb
 have hs := sgn_mul a b
 obtain ⟨A, hA⟩ : ∃ A : Nat, absI a.n = A := ⟨(absI a.n).toNat, by unfold absI; omega⟩
 obtain ⟨B, hB⟩ : ∃ B : Nat, absI b.n = B := ⟨(absI b.n).toNat, by unfold absI; omega⟩
 have hA2 : A ≤ 1000000000000000 := by unfold absI at hA; omega
 have hB2 : B ≤ 1000000000000000 := by unfold absI at hB; omega
 have hAB : A * B ≤ 1000000000000000 * 1000000000000000 := Nat.mul_le_mul hA2 hB2
 refine en tOK 0 3 [] ?_
 refine sdr 0 0 [0, 1, 0, 7, 15, 31] [0, 1, 2, 3, 4, 5] ?_
 refine xd tOK 1 [] ?_
 refine dc tOK 1 [] (vsign_ok) ?_
 refine dc tOK 2 [] (vsign_ok) ?_
 refine xe ?_
 refine sn tOK 0 1 [] ?_
 refine fc tOK 3 [] (vfin_ok) ?_
 refine fg tOK 2 [] (fun hg => vfin_ok) ?_
 refine sib 0 rfl rfl (fun h22 => ?_) (fun h22 => ?_)
 ·have e : mulV a b = infV (signV a * signV b) := by unfold mulV; rw [if_pos (by simpa [finV] using h22)]
  refine en tOK 0 1 [] ?_
  refine fc tOK 1 [] (vinf_ok) ?_
  refine sr 0 R ?_
  rw [e]; rfl
 ·have hk : a.k = 1 ∧ b.k = 1 := by simpa [finV] using h22
  have e0 := mul_split hk.1 hk.2 hA hB
  obtain ⟨N, hN⟩ : ∃ N, N = A * B / 1000 := ⟨_, rfl⟩
  rw [← hN] at e0
  have va := abs_sgn hk.1 hA
  have vb := abs_sgn hk.2 hB
  refine edr 0 0 [0, 1, 0, 4, 15, 31, 0, 64, 0, 268, 972, 1996, 4095, 8191, 16383, 16383, 32767, 131071] [0, 1, 2, 3, 4, 5, 6, 7, 8, 9, 10, 11, 12, 13, 14, 15, 16, 17] ?_
  refine xd tOK 3 [] ?_
  refine dc tOK 5 [] (vsign_ok) ?_
  refine dc tOK 2 [] (vsign_ok) ?_
  refine dc tOK 5 [] (mul64I_ok (p := IntKind.wrap .u64 (a.n * signV a)) (q := IntKind.wrap .u64 (b.n * signV b)) (x := A) (y := B) (by rw [va]; exact wrapN (by omega)) (by rw [vb]; exact wrapN (by omega)) (by omega) (by omega)) ?_
  refine xe ?_
  refine sn tOK 0 2 [] ?_
  refine si 0 rfl rfl (fun h42 => ?_) (fun h42 => ?_)
  ·have e : mulV a b = infV (signV a * signV b) := by rw [e0, if_pos (by omega)]
   refine en tOK 0 1 [] ?_
   refine fc tOK 1 [] (vinf_ok) ?_
   refine sr 0 R ?_
   rw [e]; rfl
  ·refine en tOK 0 2 [] ?_
   refine fc tOK 5 [] (div1000_ok (hi := A * B / 18446744073709551616) (lo := A * B % 18446744073709551616) (by omega) (by omega)) ?_
   refine sas 8 rfl (v' := nU (N : Int)) ?_ ?_
   ·rw [hN, Nat.div_add_mod']
   refine sn tOK 0 2 [] ?_
   refine si 0 rfl rfl (fun h52 => ?_) (fun h52 => ?_)
   ·have e : mulV a b = infV (signV a * signV b) := by rw [e0, if_pos (by omega)]
    refine en tOK 0 1 [] ?_
    refine fc tOK 1 [] (vinf_ok) ?_
    refine sr 0 R ?_
    rw [e]; rfl
   ·have e : mulV a b = numV (signV a * signV b * (N : Int)) := by rw [e0, if_neg (by omega)]
    have hp := sgn_times hs (n := N) (by omega)
    refine en tOK 0 4 [] ?_ (hφ := by clear hN; exact ⟨⟨by omega, by omega⟩, ⟨by omega, by omega⟩⟩)
    refine fc tOK 1 [] (vnum_ok) ?_
    refine sr 0 R ?_
    rw [e]; rfl
end Go.Proofs.YtomkgfdigldhcaaGreatDoor
namespace Go.Proofs.YtomkgfdigldhcaaGreatDoor
open Go.KX
abbrev pl (fn : FuncId) : SV := .f 289 [] [.p [.f fn [] []]]
abbrev kn (l : List Int) : SV := .f 290 [] [.p [rI l]]
abbrev nm (fn : FuncId) : SV := .f 292 [] [.p [.f fn [] []]]
abbrev od (no : Bool) (fn : FuncId) : SV := .f 296 [] [.p [bS no], .p [.f fn [] []]]
def onesT : List (Bytes × SV) := [(oSub, pl 229), (oAbs, pl 230), (oFloor, .f 231 [] []), (oNot, .f 233 [] []), (oNull, kn [2]), (oNan, kn [3]), (oInf, kn [4, 5]), (oNum, kn [1])]
def twosT : List (Bytes × SV) := [(oAdd, nm 237), (oSub, nm 238), (oMul, nm 241), (oDiv, nm 242), (oEq, od false 244), (oNe, od true 245), (oLt, od false 246), (oLe, od false 247), (oGt, od false 248), (oGe, od false 249), (oAnd, .f 250 [] []), (oOr, .f 251 [] [])]
set_option maxRecDepth 100000 in
theorem vones_ok  : Fc Tryz.prog gT 157 [] (.fm onesT) := by
 refine fb tOK (fn := Tryz.f157) 13 [.tmp 0] Tryz.func157 Tryz.results157 (fun g0 B0 Q ρ0 R => ?_)
 refine en tOK 0 1 [] ?_
 refine sn tOK 0 0 [] ?_
 refine smk ?_
 refine fc tOK 0 [] (vplain_ok) ?_
 refine sins tOK ?_
 refine fc tOK 0 [] (vplain_ok) ?_
 refine sins tOK ?_
 refine sins tOK ?_
 refine sins tOK ?_
 refine go tOK 1 [] ?_
 refine fc tOK 0 [] (vkind_ok (l := [2])) ?_
 refine sins tOK ?_
 refine go tOK 1 [] ?_
 refine fc tOK 0 [] (vkind_ok (l := [3])) ?_
 refine sins tOK ?_
 refine go tOK 1 [] ?_
 refine fc tOK 0 [] (vkind_ok (l := [4, 5])) ?_
 refine sins tOK ?_
 refine go tOK 1 [] ?_
 refine fc tOK 0 [] (vkind_ok (l := [1])) ?_
 refine sins tOK ?_
 refine go tOK 2 [] ?_
 refine sz 1 ?_
 refine sr 0 R ?_
 rfl
set_option maxRecDepth 100000 in
theorem vtwos_ok  : Fc Tryz.prog gT 158 [] (.fm twosT) := by
 refine fb tOK (fn := Tryz.f158) 13 [.tmp 0] Tryz.func158 Tryz.results158 (fun g0 B0 Q ρ0 R => ?_)
 refine en tOK 0 1 [] ?_
 refine sn tOK 0 0 [] ?_
 refine smk ?_
 refine fc tOK 0 [] (vnumbers_ok) ?_
 refine sins tOK ?_
 refine fc tOK 0 [] (vnumbers_ok) ?_
 refine sins tOK ?_
 refine fc tOK 0 [] (vnumbers_ok) ?_
 refine sins tOK ?_
 refine fc tOK 0 [] (vnumbers_ok) ?_
 refine sins tOK ?_
 refine fc tOK 0 [] (vorder_ok) ?_
 refine sins tOK ?_
 refine fc tOK 0 [] (vorder_ok) ?_
 refine sins tOK ?_
 refine fc tOK 0 [] (vorder_ok) ?_
 refine sins tOK ?_
 refine fc tOK 0 [] (vorder_ok) ?_
 refine sins tOK ?_
 refine fc tOK 0 [] (vorder_ok) ?_
 refine sins tOK ?_
 refine fc tOK 0 [] (vorder_ok) ?_
 refine sins tOK ?_
 refine sins tOK ?_
 refine sins tOK ?_
 refine go tOK 2 [] ?_
 refine sz 1 ?_
 refine sr 0 R ?_
 rfl
theorem ones_some {op : Bytes} (h : (mget onesT op).isSome = true) : ∃ φ fn ca, mget oneT op = some φ ∧ mget onesT op = some (.f fn [] ca) ∧ ∀ v, isV v = true → Fc Tryz.prog gT fn ([vS v] ++ ca) (vS (φ v)) := by
  unfold onesT oneT at *
  simp only [mget] at *
  split at h; · rename_i e; simp only [e, if_true]; exact ⟨_, _, _, rfl, rfl, fun v hv => vplain1_ok hv (fun n h1 h2 => vone1_ok h1 h2)⟩
  rename_i e1
  split at h; · rename_i e; simp only [e, if_true]; exact ⟨_, _, _, rfl, rfl, fun v hv => vplain1_ok hv (fun n h1 h2 => vone2_ok h1 h2)⟩
  rename_i e2
  split at h; · rename_i e; simp only [e, if_true]; exact ⟨_, _, _, rfl, rfl, fun v hv => vone3_ok hv⟩
  rename_i e3
  split at h; · rename_i e; simp only [e, if_true]; exact ⟨_, _, _, rfl, rfl, fun v hv => vone4_ok⟩
  rename_i e4
  split at h; · rename_i e; simp only [e, if_true]; exact ⟨_, _, _, rfl, rfl, fun v hv => by simpa using vkind1_ok (l := [2]) (v := v)⟩
  rename_i e5
  split at h; · rename_i e; simp only [e, if_true]; exact ⟨_, _, _, rfl, rfl, fun v hv => by simpa using vkind1_ok (l := [3]) (v := v)⟩
  rename_i e6
  split at h; · rename_i e; simp only [e, if_true]; exact ⟨_, _, _, rfl, rfl, fun v hv => by simpa using vkind1_ok (l := [4, 5]) (v := v)⟩
  rename_i e7
  split at h; · rename_i e; simp only [e, if_true]; exact ⟨_, _, _, rfl, rfl, fun v hv => by simpa using vkind1_ok (l := [1]) (v := v)⟩
  cases h
theorem len2 {l : List Val} (h : l.length = 2) : ∃ a b, l = [a, b] := by
  match l, h with
  | [a, b], _ => exact ⟨a, b, rfl⟩
set_option maxHeartbeats 2000000 in
theorem twos_some {op : Bytes} (h : (mget twosT op).isSome = true) : ∃ φ fn ca, mget twoT op = some φ ∧ mget twosT op = some (.f fn [] ca) ∧ ∀ a b, isV a = true → isV b = true → Fc Tryz.prog gT fn ([vS a, vS b] ++ ca) (vS (φ a b)) := by
  unfold twosT twoT at *
  simp only [mget] at *
  split at h; · rename_i e; simp only [e, if_true]; exact ⟨_, _, _, rfl, rfl, fun a b ha hb => vnumbers1_ok (φ := addV) (vadd_ok ha hb)⟩
  rename_i e0
  split at h; · rename_i e; simp only [e, if_true]; exact ⟨_, _, _, rfl, rfl, fun a b ha hb => vnumbers1_ok (φ := fun a b => addV a (negV b)) (vtwo1_ok ha hb)⟩
  rename_i e1
  split at h; · rename_i e; simp only [e, if_true]; exact ⟨_, _, _, rfl, rfl, fun a b ha hb => vnumbers1_ok (φ := mulV) (vmul_ok ha hb)⟩
  rename_i e2
  split at h; · rename_i e; simp only [e, if_true]; exact ⟨_, _, _, rfl, rfl, fun a b ha hb => vnumbers1_ok (φ := divV) (vdiv_ok ha hb)⟩
  rename_i e3
  split at h; · rename_i e; simp only [e, if_true]; exact ⟨_, _, _, rfl, rfl, fun a b ha hb => vorder1_ok (φ := fun x y => decide (x = y)) (fun x y => vtwo2_ok)⟩
  rename_i e4
  split at h; · rename_i e; simp only [e, if_true]; exact ⟨_, _, _, rfl, rfl, fun a b ha hb => vorder1_ok (φ := fun x y => decide (x ≠ y)) (fun x y => vtwo3_ok)⟩
  rename_i e5
  split at h; · rename_i e; simp only [e, if_true]; exact ⟨_, _, _, rfl, rfl, fun a b ha hb => vorder1_ok (φ := fun x y => decide (x < y)) (fun x y => vtwo4_ok)⟩
  rename_i e6
  split at h; · rename_i e; simp only [e, if_true]; exact ⟨_, _, _, rfl, rfl, fun a b ha hb => vorder1_ok (φ := fun x y => decide (x ≤ y)) (fun x y => vtwo5_ok)⟩
  rename_i e7
  split at h; · rename_i e; simp only [e, if_true]; exact ⟨_, _, _, rfl, rfl, fun a b ha hb => vorder1_ok (φ := fun x y => decide (y < x)) (fun x y => vtwo6_ok)⟩
  rename_i e8
  split at h; · rename_i e; simp only [e, if_true]; exact ⟨_, _, _, rfl, rfl, fun a b ha hb => vorder1_ok (φ := fun x y => decide (y ≤ x)) (fun x y => vtwo7_ok)⟩
  rename_i e9
  split at h; · rename_i e; simp only [e, if_true]; exact ⟨_, _, _, rfl, rfl, fun a b ha hb => vtwo8_ok⟩
  rename_i e10
  split at h; · rename_i e; simp only [e, if_true]; exact ⟨_, _, _, rfl, rfl, fun a b ha hb => vtwo9_ok⟩
  rename_i e11
  cases h
theorem ones_none {op : Bytes} (h : (mget onesT op).isSome = false) : mget oneT op = none := by
  unfold onesT oneT at *
  simp only [mget] at *
  by_cases h1 : op = oSub; · simp [h1] at h
  by_cases h2 : op = oAbs; · simp [h2] at h
  by_cases h3 : op = oFloor; · simp [h3] at h
  by_cases h4 : op = oNot; · simp [h4] at h
  by_cases h5 : op = oNull; · simp [h5] at h
  by_cases h6 : op = oNan; · simp [h6] at h
  by_cases h7 : op = oInf; · simp [h7] at h
  by_cases h8 : op = oNum; · simp [h8] at h
  simp only [h1, h2, h3, h4, h5, h6, h7, h8, if_false]
theorem twos_none {op : Bytes} (h : (mget twosT op).isSome = false) : mget twoT op = none := by
  unfold twosT twoT at *
  simp only [mget] at *
  by_cases hAdd : op = oAdd; · simp [hAdd] at h
  by_cases hSub : op = oSub; · simp [hSub] at h
  by_cases hMul : op = oMul; · simp [hMul] at h
  by_cases hDiv : op = oDiv; · simp [hDiv] at h
  by_cases hEq : op = oEq; · simp [hEq] at h
  by_cases hNe : op = oNe; · simp [hNe] at h
  by_cases hLt : op = oLt; · simp [hLt] at h
  by_cases hLe : op = oLe; · simp [hLe] at h
  by_cases hGt : op = oGt; · simp [hGt] at h
  by_cases hGe : op = oGe; · simp [hGe] at h
  by_cases hAnd : op = oAnd; · simp [hAnd] at h
  by_cases hOr : op = oOr; · simp [hOr] at h
  simp only [hAdd, hSub, hMul, hDiv, hEq, hNe, hLt, hLe, hGt, hGe, hAnd, hOr, if_false]
theorem ones_get (op : Bytes) : (mget oneT op = none ∧ mget onesT op = none) ∨ ∃ φ fn ca, mget oneT op = some φ ∧ mget onesT op = some (.f fn [] ca) ∧ ∀ v, isV v = true → Fc Tryz.prog gT fn ([vS v] ++ ca) (vS (φ v)) := by
  cases h : (mget onesT op).isSome with
  | false => exact .inl ⟨ones_none h, by simpa using h⟩
  | true => exact .inr (ones_some h)
theorem twos_get (op : Bytes) : (mget twoT op = none ∧ mget twosT op = none) ∨ ∃ φ fn ca, mget twoT op = some φ ∧ mget twosT op = some (.f fn [] ca) ∧ ∀ a b, isV a = true → isV b = true → Fc Tryz.prog gT fn ([vS a, vS b] ++ ca) (vS (φ a b)) := by
  cases h : (mget twosT op).isSome with
  | false => exact .inl ⟨twos_none h, by simpa using h⟩
  | true => exact .inr (twos_some h)
set_option maxRecDepth 100000 in
theorem vdo_ok {op : Bytes} {l : List Val} : Fc Tryz.prog gT 107 [.str op, rV l] (.t [vS (doV op l).1, nI (doV op l).2]) := by
 refine fb tOK (fn := Tryz.f107) 67 [.cell 4 26, .tmp 5] Tryz.func107 Tryz.results107 (fun g0 B0 Q ρ0 R => ?_)
 refine en tOK 0 2 [] ?_
 refine sn tOK 0 1 [] ?_
 refine fc tOK 1 [] (vcheck_ok) ?_
 refine sn tOK 0 2 [] ?_
 refine si 0 rfl rfl (fun h14 => ?_) (fun h14 => ?_)
 ·have hl : ¬ l.all isV = true := fun h => by rw [if_pos h] at h14; exact h14 rfl
  have e : doV op l = (zeroV, 80) := by unfold doV; rw [if_neg hl]
  refine eas 6 rfl (v' := nI 80) ?_ ?_
  ·rw [if_neg hl]
  refine en tOK 0 4 [] ?_
  refine sr 0 R ?_
  rw [e]; rfl
 ·have hl : l.all isV = true := Decidable.byContradiction fun h => by rw [if_neg h] at h14; exact h14 (by decide)
  refine en tOK 0 2 [] ?_
  refine sn tOK 0 2 [] ?_
  refine si 0 rfl rfl (fun h19 => ?_) (fun h19 => ?_)
  ·obtain ⟨a, rfl⟩ : ∃ a, l = [a] := List.length_eq_one_iff.1 (by have := h19; simp at this; omega)
   have ha : isV a = true := by simpa using hl
   rcases ones_get op with ⟨h1, h2⟩ | ⟨φ, fn, ca, h1, h2, h3⟩
   ·refine en tOK 0 0 [] ?_
    have e : doV op [a] = (zeroV, 2) := by unfold doV oneV; rw [if_pos hl]; simp only [h1, Option.map_none]
    refine fc tOK 1 [] (vones_ok) ?_
    refine slk tOK 5 none h2 ?_
    refine sn tOK 0 1 [] ?_
    refine sn tOK 1 3 [] ?_
    refine sr 0 R ?_
    rw [e]; rfl
   ·refine en tOK 0 0 [] ?_
    have e : doV op [a] = (φ a, 0) := by unfold doV oneV; rw [if_pos hl]; simp only [h1, Option.map_some]
    refine fc tOK 1 [] (vones_ok) ?_
    refine slk tOK 5 (some (.f fn [] ca)) h2 ?_
    refine sn tOK 0 1 [] ?_
    refine sn tOK 1 4 [[nI a.k, nI a.n]] ?_ (hφ := by exact ⟨by decide, rfl⟩)
    refine fc tOK 2 [] (h3 a ha) ?_
    refine sr 0 R ?_
    rw [e]; rfl
  ·refine en tOK 0 2 [] ?_
   refine si 0 rfl rfl (fun h33 => ?_) (fun h33 => ?_)
   ·obtain ⟨a, b, rfl⟩ : ∃ a b, l = [a, b] := len2 (by have := h33; simp at this; omega)
    have hab : isV a = true ∧ isV b = true := by simpa using hl
    rcases twos_get op with ⟨h1, h2⟩ | ⟨φ, fn, ca, h1, h2, h3⟩
    ·refine en tOK 0 0 [] ?_
     have e : doV op [a, b] = (zeroV, 2) := by unfold doV twoV; rw [if_pos hl]; simp only [h1, Option.map_none]
     refine fc tOK 1 [] (vtwos_ok) ?_
     refine slk tOK 5 none h2 ?_
     refine sn tOK 0 3 [] ?_
     refine sn tOK 1 3 [] ?_
     refine sr 0 R ?_
     rw [e]; rfl
    ·refine en tOK 0 0 [] ?_
     have e0 : doV op [a, b] = if a.k = 2 ∨ b.k = 2 then (nullV, 0) else (φ a b, 0) := by unfold doV twoV; rw [if_pos hl]; simp only [h1, Option.map_some]
     refine fc tOK 1 [] (vtwos_ok) ?_
     refine slk tOK 5 (some (.f fn [] ca)) h2 ?_
     refine sn tOK 0 3 [] ?_
     refine sn tOK 1 13 [[nI a.k, nI a.n], [nI b.k, nI b.n]] ?_ (hφ := by refine ⟨?_, ?_, ?_, ?_, ?_, ?_, ?_⟩ <;> first | exact ⟨by decide, rfl⟩ | exact fun _ => ⟨by decide, rfl⟩ | exact id | (intro h; simpa using h))
     refine sib 0 rfl rfl (fun h52 => ?_) (fun h52 => ?_)
     ·have e : doV op [a, b] = (nullV, 0) := by rw [e0, if_pos (by simpa using h52)]
      refine en tOK 0 0 [] ?_
      refine fc tOK 2 [] (vnull_ok) ?_
      refine sr 0 R ?_
      rw [e]; rfl
     ·have e : doV op [a, b] = (φ a b, 0) := by rw [e0, if_neg (by simpa using h52)]
      refine edr 0 256 [0, 0, 2, 6, 0, 16, 48, 127, 255, 511] [0, 1, 2, 3, 4, 5, 6, 7, 8, 9] ?_
      refine xd tOK 7 [[nI a.k, nI a.n], [nI b.k, nI b.n]] ?_ (hφ := by exact ⟨⟨by decide, rfl⟩, ⟨by decide, rfl⟩⟩)
      refine dc tOK 2 [] (h3 a b hab.1 hab.2) ?_
      refine xe ?_
      refine sr 0 R ?_
      rw [e]; rfl
   ·have e : doV op l = (zeroV, 2) := by unfold doV; rw [if_pos hl]; match l, h19, h33 with | [], _, _ => rfl | [_], h, _ => exact absurd rfl h | [_, _], _, h => exact absurd rfl h | _ :: _ :: _ :: _, _, _ => rfl
    refine en tOK 0 3 [] ?_
    refine sr 0 R ?_
    rw [e]; rfl
end Go.Proofs.YtomkgfdigldhcaaGreatDoor
namespace Go.Proofs.YtomkgfdigldhcaaGreatDoor
open Go.KX
set_option maxRecDepth 100000 in
theorem bmul1_ok  : Fc Tryz.prog gT 225 [nU 1, nU 1] (.t [nU 0, nU 1]) := by
 refine fb tOK (fn := Tryz.f225) 30 [.tmp 4, .tmp 5] Tryz.func225 Tryz.results225 (fun g0 B0 Q ρ0 R => ?_)
 refine en tOK 0 2 [] ?_
 refine sn tOK 1 2 [] ?_
 refine fc tOK 5 [] ((mul64_ok (x := 1) (y := 1) (by decide) (by decide) : Fc Tryz.prog gT 288 [nU 1, nU 1] (.t [nU 0, nU 1]))) ?_
 refine sn tOK 0 4 [] ?_
 refine sr 0 R ?_
 rfl
set_option maxRecDepth 100000 in
theorem repeat1_ok {v : Val} : Fc Tryz.prog gT 155 [rV [v], nI 1] (rV [v]) := by
 refine fb tOK (fn := Tryz.f155) 48 [.tmp 4] Tryz.func155 Tryz.results155 (fun g0 B0 Q ρ0 R => ?_)
 refine en tOK 0 1 [] ?_
 refine sn tOK 0 2 [] ?_
 refine sn tOK 1 5 [] ?_
 refine fc tOK 5 [] (bmul1_ok) ?_
 refine sn tOK 0 6 [] ?_
 refine sn tOK 1 2 [] ?_
 refine smks tOK 902 1 (sz := 2) (by decide) [⟨[.int .i64 0, .int .i64 0], rfl, by decide⟩] rfl rfl rfl (by kernel_rfl) (by decide) (by decide) (TT.get_ok tOK (rfl : tb.get 26 = some _)).ti Tryz.underlying46 ?_
 refine go tOK 1 [] ?_
 refine sn tOK 0 2 [] ?_
 refine scpy tOK (rows := [[nI 0, nI 0]]) (rows2 := (List.map (fun v : Val => [nI v.k, nI v.n]) [v])) rfl (by simp) (by simp) ?_
 refine go tOK 1 [] ?_
 refine sl 0 ?_
 refine E_loop (σ := Unit) (fun _ => True) (fun _ => 0)
   (fun _ => [(7, .o 902 1), (8, nI 1)])
   (fun _ => [(902, .r 26 2 (List.map (fun v : Val => [nI v.k, nI v.n]) [v]))]) () ?_ ?_
 ·trivial
 ·rintro J _ _ hJ
  refine en tOK 0 4 [] ?_
  refine sn tOK 1 2 [] ?_
  refine sezo 4 (rows := (List.map (fun v : Val => [nI v.k, nI v.n]) [v])) ?_ ?_ (hr := by simp)
  ·simp
  refine sr 0 R ?_
  rfl
set_option maxRecDepth 100000 in
theorem knows1_ok {op : Bytes} : Fc Tryz.prog gT 106 [.str op, nI 1] (bS (decide ((doV op [numV 0]).2 = 0))) := by
 refine fb tOK (fn := Tryz.f106) 18 [.tmp 4] Tryz.func106 Tryz.results106 (fun g0 B0 Q ρ0 R => ?_)
 refine en tOK 0 1 [] ?_
 refine sn tOK 0 1 [] ?_
 refine fc tOK 2 [] (vnum_ok (n := 0)) ?_
 refine fc tOK 0 [] (repeat1_ok (v := numV 0)) ?_
 refine fc tOK 6 [] (vdo_ok (op := op) (l := [numV 0])) ?_
 refine sn tOK 0 3 [] ?_
 refine sr 0 R ?_
 rfl
set_option maxRecDepth 100000 in
theorem num11_ok {n : Int} : Fc Tryz.prog gT 19 [nI n] (nI n) := by
 refine fb tOK (fn := Tryz.f19) 4 [.tmp 2] Tryz.func19 Tryz.results19 (fun g0 B0 Q ρ0 R => ?_)
 refine en tOK 0 1 [] ?_
 refine sn tOK 0 2 [] ?_
 refine sr 0 R ?_
 rfl
set_option maxRecDepth 100000 in
theorem rscalar_ok {v : Val} : Fc Tryz.prog gT 25 [vS v] (.s 3 [[.s 0 [], nI v.k, nI v.n]]) := by
 refine fb tOK (fn := Tryz.f25) 6 [.tmp 2] Tryz.func25 Tryz.results25 (fun g0 B0 Q ρ0 R => ?_)
 refine en tOK 0 2 [] ?_
 refine sn tOK 0 4 [] ?_
 refine sr 0 R ?_
 rfl
end Go.Proofs.YtomkgfdigldhcaaGreatDoor
namespace Go.Proofs.YtomkgfdigldhcaaGreatDoor
open Go.KX
set_option maxRecDepth 100000 in
theorem idxL0_ok {fn : FuncId} : Fc Tryz.prog gT 252 [.s 0 [], .f fn [] []] (nI (-1)) := by
 refine fb tOK (fn := Tryz.f252) 19 [.tmp 4] Tryz.func252 Tryz.results252 (fun g0 B0 Q ρ0 R => ?_)
 refine en tOK 0 1 [] ?_
 refine sn tOK 0 3 [] ?_
 refine sl 0 ?_
 refine E_loop (σ := Unit) (fun _ => True) (fun _ => 0)
   (fun _ => [(0, .s 0 []), (1, .f fn [] []), (7, nI 0), (8, nI 0)])
   (fun _ => []) () ?_ ?_
 ·trivial
 ·rintro J _ _ hJ
  refine en tOK 0 1 [] ?_
  refine sn tOK 1 1 [] ?_
  refine sr 0 R ?_
  rfl
set_option maxRecDepth 100000 in
theorem contL0_ok {fn : FuncId} : Fc Tryz.prog gT 159 [.s 0 [], .f fn [] []] (bS false) := by
 refine fb tOK (fn := Tryz.f159) 9 [.tmp 4] Tryz.func159 Tryz.results159 (fun g0 B0 Q ρ0 R => ?_)
 refine en tOK 0 1 [] ?_
 refine sn tOK 0 2 [] ?_
 refine fc tOK 2 [] (idxL0_ok) ?_
 refine sr 0 R ?_
 rfl
set_option maxRecDepth 100000 in
theorem cloneL0_ok  : Fc Tryz.prog gT 162 [.s 0 []] (.s 0 []) := by
 refine fb tOK (fn := Tryz.f162) 8 [.tmp 2] Tryz.func162 Tryz.results162 (fun g0 B0 Q ρ0 R => ?_)
 refine en tOK 0 1 [] ?_
 refine sn tOK 0 1 [] ?_
 refine knl tOK 0 [] (.bool true) (fun w => by kernel_rfl) ?_
 refine sn tOK 1 1 [] ?_
 refine sr 0 R ?_
 rfl
set_option maxRecDepth 100000 in
theorem insL0_ok  : Fc Tryz.prog gT 315 [.s 0 [], nI 0, nI 0, .f 153 [] []] (.t []) := by
 refine fb tOK (fn := Tryz.f315) 53 [] Tryz.func315 Tryz.results315 (fun g0 B0 Q ρ0 R => ?_)
 refine en tOK 0 3 [] ?_
 refine sl 0 ?_
 refine E_loop (σ := Unit) (fun _ => True) (fun _ => 0)
   (fun _ => [(0, .s 0 []), (2, nI 0), (8, nI 1)])
   (fun _ => []) () ?_ ?_
 ·trivial
 ·rintro J _ _ hJ
  refine en tOK 0 3 [] ?_
  refine sf 1 R ?_
  rfl
set_option maxRecDepth 100000 in
theorem stabL0_ok  : Fc Tryz.prog gT 283 [.s 0 [], nI 0, .f 153 [] []] (.t []) := by
 refine fb tOK (fn := Tryz.f283) 63 [] Tryz.func283 Tryz.results283 (fun g0 B0 Q ρ0 R => ?_)
 refine en tOK 0 1 [] ?_
 refine sn tOK 0 3 [] ?_
 refine sl 0 ?_
 refine E_loop (σ := Unit) (fun _ => True) (fun _ => 0)
   (fun _ => [(0, .s 0 []), (1, nI 0), (2, .f 153 [] []), (6, nI 20), (7, nI 0), (8, nI 20)])
   (fun _ => []) () ?_ ?_
 ·trivial
 ·rintro J _ _ hJ
  refine en tOK 0 3 [] ?_
  refine sn tOK 1 4 [] ?_
  refine fc tOK 0 [] (insL0_ok) ?_
  refine sl 0 ?_
  refine E_loop (σ := Unit) (fun _ => True) (fun _ => 0)
    (fun _ => [(1, nI 0), (6, nI 20)])
    (fun _ => []) () ?_ ?_
  ·trivial
  ·rintro J _ _ hJ
   refine en tOK 0 3 [] ?_
   refine sf 1 R ?_
   rfl
set_option maxRecDepth 100000 in
theorem sstL0_ok  : Fc Tryz.prog gT 220 [.s 0 [], .f 153 [] []] (.t []) := by
 refine fb tOK (fn := Tryz.f220) 9 [] Tryz.func220 Tryz.results220 (fun g0 B0 Q ρ0 R => ?_)
 refine en tOK 0 4 [] ?_
 refine fc tOK 0 [] (stabL0_ok) ?_
 refine sf 0 R ?_
 rfl
set_option maxRecDepth 100000 in
theorem make0_ok  : Fc Tryz.prog gT 144 [.s 0 []] (.t [.s 0 [], nI 0]) := by
 refine fb tOK (fn := Tryz.f144) 33 [.tmp 2, .tmp 3] Tryz.func144 Tryz.results144 (fun g0 B0 Q ρ0 R => ?_)
 refine en tOK 0 2 [] ?_
 refine sn tOK 0 1 [] ?_
 refine fc tOK 0 [] (contL0_ok) ?_
 refine sn tOK 1 1 [] ?_
 refine fc tOK 1 [] (cloneL0_ok) ?_
 refine sn tOK 0 1 [] ?_
 refine fc tOK 0 [] (sstL0_ok) ?_
 refine sn tOK 0 1 [] ?_
 refine sl 0 ?_
 refine E_loop (σ := Unit) (fun _ => True) (fun _ => 0)
   (fun _ => [(0, .s 0 []), (4, nI 1)])
   (fun _ => []) () ?_ ?_
 ·trivial
 ·rintro J _ _ hJ
  refine en tOK 0 4 [] ?_
  refine sn tOK 1 3 [] ?_
  refine sn tOK 1 3 [] ?_
  refine sr 0 R ?_
  rfl
set_option maxRecDepth 100000 in
theorem equal0_ok  : Fc Tryz.prog gT 145 [.s 0 [], .s 0 []] (bS true) := by
 refine fb tOK (fn := Tryz.f145) 26 [.tmp 4] Tryz.func145 Tryz.results145 (fun g0 B0 Q ρ0 R => ?_)
 refine en tOK 0 1 [] ?_
 refine sn tOK 0 5 [] ?_
 refine sn tOK 1 3 [] ?_
 refine sl 0 ?_
 refine E_loop (σ := Unit) (fun _ => True) (fun _ => 0)
   (fun _ => [(12, nI 0), (13, nI 0)])
   (fun _ => []) () ?_ ?_
 ·trivial
 ·rintro J _ _ hJ
  refine en tOK 0 1 [] ?_
  refine sn tOK 1 1 [] ?_
  refine sr 0 R ?_
  rfl
set_option maxRecDepth 100000 in
theorem isset0_ok  : Fc Tryz.prog gT 99 [.s 0 []] (bS true) := by
 refine fb tOK (fn := Tryz.f99) 17 [.tmp 2] Tryz.func99 Tryz.results99 (fun g0 B0 Q ρ0 R => ?_)
 refine en tOK 0 1 [] ?_
 refine sn tOK 0 1 [] ?_
 refine fc tOK 5 [] (make0_ok) ?_
 refine sn tOK 0 5 [] ?_
 refine fg tOK 2 [] (fun hg => equal0_ok) ?_
 refine sr 0 R ?_
 rfl
set_option maxRecDepth 100000 in
theorem sort1c_ok {v : Val} : Fc Tryz.prog gT 98 [.a (serL v)] (bS false) := by
 refine fb tOK (fn := Tryz.f98) 7 [.tmp 2] Tryz.func98 Tryz.results98 (fun g0 B0 Q ρ0 R => ?_)
 refine en tOK 0 2 [] ?_
 refine sn tOK 0 2 [] ?_
 refine fc tOK 2 [] (isset0_ok) ?_
 refine sr 0 R ?_
 rfl
set_option maxRecDepth 100000 in
theorem sort2c_ok {v : Val} : Fc Tryz.prog gT 100 [.a (serL v)] (bS (!isV v)) := by
 refine fb tOK (fn := Tryz.f100) 8 [.tmp 2] Tryz.func100 Tryz.results100 (fun g0 B0 Q ρ0 R => ?_)
 refine en tOK 0 2 [] ?_
 refine sn tOK 0 3 [] ?_
 refine fc tOK 2 [] (vcheck_ok (l := [v])) ?_
 refine sr 0 R ?_
 cases h : isV v <;> simp [h] <;> rfl
set_option maxRecDepth 100000 in
theorem idxS_ok {l : List Val} {fn : FuncId} {p : Val → Bool} (hs : ∀ v ∈ l, Fc Tryz.prog gT fn [.a (serL v)] (bS (p v))) : Fc Tryz.prog gT 143 [rS1 l, .f fn [] []] (nI (idxF p l)) := by
 refine fb tOK (fn := Tryz.f143) 19 [.tmp 4] Tryz.func143 Tryz.results143 (fun g0 B0 Q ρ0 R => ?_)
 refine en tOK 0 1 [] ?_
 refine sn tOK 0 3 [] ?_
 refine sl 0 ?_
 refine E_loop (σ := Nat) (fun j => j ≤ l.length ∧ ∀ x ∈ l.take j, p x = false) (fun j => l.length - j)
   (fun j => [(0, rS1 l), (1, .f fn [] []), (4, nI 0), (7, nI l.length), (8, nI j)])
   (fun j => []) 0 ?_ ?_
 ·exact ⟨Nat.zero_le _, by simp⟩
 ·rintro J j ⟨hj0, hj1⟩ hJ
  refine elen 0 rfl (fun hl => ?_)
  simp only [List.length_map] at hl
  refine en tOK 0 1 [] ?_
  refine si 0 rfl rfl (fun h9 => ?_) (fun h9 => ?_)
  ·have hj : j < l.length := by omega
   refine en tOK 0 2 [] ?_
   refine sn tOK 0 5 [serL l[j]] ?_ (hφ := by exact ⟨by omega, row_at _ hj⟩)
   refine fc tOK 0 [] (hs l[j] (List.getElem_mem hj)) ?_
   refine sib 0 rfl rfl (fun h16 => ?_) (fun h16 => ?_)
   ·have e := idxF_some hj hj1 h16
    refine en tOK 0 2 [] ?_
    refine sr 0 R ?_
    rw [e]; rfl
   ·have hx := h16
    refine en tOK 0 2 [] ?_
    exact hJ (j + 1) ⟨by omega, take_next hj hj1 hx⟩ (by omega)
  ·have e := idxF_none (p := p) (fun x hx => hj1 x (by rw [List.take_of_length_le (by omega)]; exact hx))
   refine en tOK 0 1 [] ?_
   refine sr 0 R ?_
   rw [e]; rfl
set_option maxRecDepth 100000 in
theorem contS_ok {l : List Val} {fn : FuncId} {p : Val → Bool} (hs : ∀ v ∈ l, Fc Tryz.prog gT fn [.a (serL v)] (bS (p v))) : Fc Tryz.prog gT 97 [rS1 l, .f fn [] []] (bS (l.any p)) := by
 refine fb tOK (fn := Tryz.f97) 9 [.tmp 4] Tryz.func97 Tryz.results97 (fun g0 B0 Q ρ0 R => ?_)
 refine en tOK 0 1 [] ?_
 refine sn tOK 0 2 [] ?_
 refine fc tOK 2 [] (idxS_ok (p := p) hs) ?_
 refine sr 0 R ?_
 rw [← idxF_any]; rfl
end Go.Proofs.YtomkgfdigldhcaaGreatDoor
namespace Go.Proofs.YtomkgfdigldhcaaGreatDoor
open Go.KX
set_option maxRecDepth 100000 in
theorem valuesS_ok {l : List Val} : Fc Tryz.prog gT 103 [rS1 l] (.f 150 [] [.p [rS1 l]]) := by
 refine fb tOK (fn := Tryz.f103) 4 [.tmp 2] Tryz.func103 Tryz.results103 (fun g0 B0 Q ρ0 R => ?_)
 refine en tOK 0 2 [] ?_
 refine sz 1 ?_
 refine sn tOK 0 2 [] ?_
 refine sr 0 R ?_
 rfl
set_option maxRecDepth 100000 in
theorem valS1_ok {l : List Val} (hl : l.length ≤ 1000000) : Itr Tryz.prog gT 150 [.p [rS1 l]] (vsA l) := by
 refine itrb tOK (fn := Tryz.f150) 16 Tryz.func150 Tryz.results150 (fun lp R hR g0 B0 Q ρ0 ms0 RR => ?_)
 rw [vsA_len] at RR
 refine en tOK 0 3 [] ?_
 refine sl 0 ?_
 refine eas 6 rfl (v' := nI l.length) (by simp) ?_
 refine E_loopO (σ := Nat × List Res) (fun st => st.1 ≤ l.length) (fun st => l.length - st.1)
   (fun st => [(0, .v (.func (.yield lp) #[] #[])), (5, rS1 l), (6, nI l.length), (7, nI st.1)])
   (fun st => R.f st.1 st.2 :: gT) (fun st => st.2) (0, ms0) ?_ ?_
 ·exact Nat.zero_le _
 ·rintro J ⟨j, ms⟩ hj0 hJ
  dsimp only at hj0 ⊢
  refine en tOK 0 1 [] ?_
  refine si 0 rfl rfl (fun h8 => ?_) (fun h8 => ?_)
  ·have hj : j < l.length := by omega
   refine en tOK 0 4 [serL l[j]] ?_ (hφ := by exact ⟨by omega, row_at _ hj⟩)
   refine sn tOK 0 2 [] ?_
   refine yw hR (vsA_get hj) (fun ms2 => ?_) (fun ms2 => ?_)
   ·refine go tOK 1 [] ?_
    refine sn tOK 1 2 [] ?_
    refine sl 0 ?_
    exact hJ (j + 1, ms2) (by dsimp only; omega) (by dsimp only; omega)
   ·refine go tOK 1 [] ?_
    refine sl 1 ?_
    exact RR.retx
  ·have ej : j = l.length := by omega
   subst ej
   refine el 0 ?_
   exact RR.fall
set_option maxRecDepth 100000 in
theorem appseq_ok {l : List Val} (hl : l.length ≤ 1000000) : FnN Tryz.prog gT 222 [.s 0 [], .f 150 [] [.p [rS1 l]]] (.o 903 l.length) 903 (.r 98 3 (l.map serL)) := by
 refine fnbm tOK (fn := Tryz.f222) 13 [.tmp 4] Tryz.func222 Tryz.results222 (fun g0 B0 Q ρ0 RM => ?_)
 refine eonl 0 903 98 3 ?_
 refine en tOK 0 2 [] ?_
 refine sdrp 0 ?_
 refine sn tOK 0 1 [] ?_
 refine sl 0 ?_
 refine E_rangeV 903 901 (fun j => [(2, .c 32 [.o 903 ((l.take j).map serL).length]), (903, .r 98 3 ((l.take j).map serL))]) (fun j => [(1002, .c 32 [.o 901 ((l.take j).map serL).length]), (901, .r 98 3 ((l.take j).map serL))]) (valS1_ok hl) (by decide) (by decide) rfl (fun j g ρ ms h => den_in h) (fun j g ρ ms h => den_out h) (fun j av hj lp g1 B1 ρ1 Q1 Q2 own1 own2 J hJ hE => ?_) (fun D => ?_) (fun a ha => by
    obtain ⟨v, hv, rfl⟩ := List.mem_map.1 ha
    rfl) (fun a ha => by
    obtain ⟨v, hv, rfl⟩ := List.mem_map.1 ha
    rfl)
 ·have hjl : j < l.length := by
   have := (List.getElem?_eq_some_iff.1 hj).1
   rwa [vsA_len] at this
  rw [vsA_get hjl] at hj
  cases hj
  refine en tOK 0 2 [] ?_
  refine sl 0 ?_
  refine hJ ?_
  refine en tOK 0 1 [] ?_
  refine sal 1002 901 777 ?_
  refine go tOK 2 [] ?_
  refine sap tOK 1 [] rfl (fun _ => rfl) ?_ ?_
  ·show (((l.take j).map serL).length + 1) * 40 ≤ _
   simp
   omega
  refine sl 0 ?_
  refine emb 901 (mb' := .r 98 3 ((l.take (j + 1)).map serL)) ?_ ?_
  ·rw [List.take_succ_eq_append_getElem hjl, List.map_append]; rfl
  refine emb 1002 (mb' := .c 32 [.o 901 ((l.take (j + 1)).map serL).length]) ?_ ?_
  ·rw [List.take_succ_eq_append_getElem hjl, List.map_append, List.length_append, List.length_append]; rfl
  exact hE rfl
 ·rw [vsA_len]
  show E _ _ _ [(2, .c 32 [.o 903 ((l.take l.length).map serL).length]), (903, .r 98 3 ((l.take l.length).map serL))] _ _
  refine en tOK 0 2 [] ?_
  refine srnm 0 (RM D) ?_
  exact ⟨by simp; rfl, by simp⟩
set_option maxRecDepth 100000 in
theorem collect_ok {l : List Val} (hl : l.length ≤ 1000000) : FnN Tryz.prog gT 148 [.f 150 [] [.p [rS1 l]]] (.o 903 l.length) 903 (.r 98 3 (l.map serL)) := by
 refine fnb tOK (fn := Tryz.f148) 5 [.tmp 2] Tryz.func148 Tryz.results148 (fun g0 B0 Q ρ0 R => ?_)
 refine en tOK 0 1 [] ?_
 refine sn tOK 0 1 [] ?_
 refine fnw tOK 1 [] (appseq_ok hl) ?_
 refine srn 0 R ?_
 exact ⟨rfl, rfl⟩
set_option maxRecDepth 100000 in
theorem insS1_ok {v : Val} : Fp Tryz.prog gT 284 [.o 1000 1, nI 0, nI 1, .f 104 [] []] (.r 98 3 [serL v]) (.t []) (.r 98 3 [serL v]) := by
 refine fpb tOK (fn := Tryz.f284) 53 [] Tryz.func284 Tryz.results284 (fun g0 B0 Q ρ0 R => ?_)
 refine en tOK 0 3 [] ?_
 refine sl 0 ?_
 refine E_loop (σ := Unit) (fun _ => True) (fun _ => 0)
   (fun _ => [(2, nI 1), (8, nI 1)])
   (fun _ => [(1000, .r 98 3 [serL v])]) () ?_ ?_
 ·trivial
 ·rintro J _ _ hJ
  refine en tOK 0 3 [] ?_
  refine sfp 1 R ?_
  exact ⟨rfl, rfl⟩
set_option maxRecDepth 100000 in
theorem stabS1_ok {v : Val} : Fp Tryz.prog gT 223 [.o 1000 1, nI 1, .f 104 [] []] (.r 98 3 [serL v]) (.t []) (.r 98 3 [serL v]) := by
 refine fpb tOK (fn := Tryz.f223) 63 [] Tryz.func223 Tryz.results223 (fun g0 B0 Q ρ0 R => ?_)
 refine en tOK 0 1 [] ?_
 refine sn tOK 0 3 [] ?_
 refine sl 0 ?_
 refine E_loop (σ := Unit) (fun _ => True) (fun _ => 0)
   (fun _ => [(0, .o 1000 1), (1, nI 1), (2, .f 104 [] []), (6, nI 20), (7, nI 0), (8, nI 20)])
   (fun _ => [(1000, .r 98 3 [serL v])]) () ?_ ?_
 ·trivial
 ·rintro J _ _ hJ
  refine en tOK 0 3 [] ?_
  refine sn tOK 1 4 [] ?_
  refine fp tOK 1000 0 [] (insS1_ok (v := v)) ?_
  refine sl 0 ?_
  refine E_loop (σ := Unit) (fun _ => True) (fun _ => 0)
    (fun _ => [(1, nI 1), (6, nI 20)])
    (fun _ => [(1000, .r 98 3 [serL v])]) () ?_ ?_
  ·trivial
  ·rintro J _ _ hJ
   refine en tOK 0 3 [] ?_
   refine sfp 1 R ?_
   exact ⟨rfl, rfl⟩
set_option maxRecDepth 100000 in
theorem sstS1_ok {v : Val} : Fp Tryz.prog gT 149 [.o 1000 1, .f 104 [] []] (.r 98 3 [serL v]) (.t []) (.r 98 3 [serL v]) := by
 refine fpb tOK (fn := Tryz.f149) 9 [] Tryz.func149 Tryz.results149 (fun g0 B0 Q ρ0 R => ?_)
 refine en tOK 0 4 [] ?_
 refine fp tOK 1000 0 [] (stabS1_ok (v := v)) ?_
 refine sfp 0 R ?_
 exact ⟨rfl, rfl⟩
set_option maxRecDepth 100000 in
theorem sortedS1_ok {v : Val} : FnN Tryz.prog gT 102 [.f 150 [] [.p [rS1 [v]]], .f 104 [] []] (.o 903 1) 903 (.r 98 3 [serL v]) := by
 refine fnb tOK (fn := Tryz.f102) 12 [.tmp 4] Tryz.func102 Tryz.results102 (fun g0 B0 Q ρ0 R => ?_)
 refine en tOK 0 1 [] ?_
 refine sn tOK 0 1 [] ?_
 refine fnw tOK 1 [] ((collect_ok (l := [v]) (by simp) : FnN Tryz.prog gT 148 [.f 150 [] [.p [rS1 [v]]]] (.o 903 1) 903 (.r 98 3 [serL v]))) ?_
 refine sn tOK 0 2 [] ?_
 refine fp tOK 903 0 [] (sstS1_ok (v := v)) ?_
 refine sn tOK 0 2 [] ?_
 refine srn 0 R ?_
 exact ⟨rfl, rfl⟩
set_option maxRecDepth 100000 in
theorem sortS1_ok {v : Val} (hv : isV v = true) : FnN Tryz.prog gT 55 [rS1 [v]] (.t [.o 903 1, nI 0]) 903 (.r 98 3 [serL v]) := by
 refine fnb tOK (fn := Tryz.f55) 37 [.tmp 2, .tmp 3] Tryz.func55 Tryz.results55 (fun g0 B0 Q ρ0 R => ?_)
 refine en tOK 0 2 [] ?_
 refine sn tOK 0 1 [] ?_
 refine fc tOK 1 [] (contS_ok (l := [v]) (p := fun _ => false) (fun v _ => sort1c_ok)) ?_
 refine sn tOK 1 1 [] ?_
 refine fc tOK 1 [] (contS_ok (l := [v]) (p := fun v => !isV v) (fun v _ => sort2c_ok)) ?_
 refine sib 0 rfl rfl (fun h8 => ?_) (fun h8 => ?_)
 ·simp [hv] at h8
 ·refine en tOK 0 1 [] ?_
  refine fc tOK 0 [] (valuesS_ok) ?_
  refine fnw tOK 1 [] (sortedS1_ok (v := v)) ?_
  refine sn tOK 0 1 [] ?_
  refine sl 0 ?_
  refine E_loop (σ := Unit) (fun _ => True) (fun _ => 0)
    (fun _ => [(0, .o 903 1), (4, nI 1)])
    (fun _ => [(903, .r 98 3 [serL v])]) () ?_ ?_
  ·trivial
  ·rintro J _ _ hJ
   refine en tOK 0 4 [] ?_
   refine sn tOK 1 3 [] ?_
   refine sn tOK 1 3 [] ?_
   refine srn 0 R ?_
   exact ⟨rfl, rfl⟩
end Go.Proofs.YtomkgfdigldhcaaGreatDoor
namespace Go.Proofs.YtomkgfdigldhcaaGreatDoor
open Go.KX
set_option maxRecDepth 100000 in
theorem mapS1_ok {op : Bytes} {v w : Val} (hv : isV v = true) (h0 : (doV op [numV 0]).2 = 0) (hw : (doV op [v]).1 = w) : Fc Tryz.prog gT 56 [.str op, rS1 [v]] (.t [rS1 [w], nI 0]) := by
 refine fb tOK (fn := Tryz.f56) 43 [.tmp 4, .tmp 5] Tryz.func56 Tryz.results56 (fun g0 B0 Q ρ0 R => ?_)
 refine en tOK 0 2 [] ?_
 refine sn tOK 0 1 [] ?_
 refine fnw tOK 5 [] (sortS1_ok hv) ?_
 refine sn tOK 0 3 [] ?_
 refine sn tOK 1 1 [] ?_
 refine fc tOK 2 [] (knows1_ok (op := op)) ?_
 refine sib 0 rfl rfl (fun h18 => ?_) (fun h18 => ?_)
 ·simp [h0] at h18
 ·refine en tOK 0 3 [] ?_
  refine sl 0 ?_
  refine E_loop (σ := Nat) (fun j => j ≤ 1) (fun j => 1 - j)
    (fun j => [(0, .str op), (1, .o 903 1), (22, .o 903 1), (23, nI 1), (24, nI j)])
    (fun j => [(903, .r 98 3 [serL (if j = 0 then v else w)])]) 0 ?_ ?_
  ·exact Nat.zero_le _
  ·rintro J j hj0 hJ
   refine en tOK 0 1 [] ?_
   refine si 0 rfl rfl (fun h25 => ?_) (fun h25 => ?_)
   ·have hj : j = 0 := by omega
    subst hj
    refine emb 903 (mb' := .r 98 3 [serL v]) ?_ ?_
    ·simp
    refine en tOK 0 1 [] ?_
    refine sri tOK 0 (rows := [serL v]) rfl (by simp) rfl ?_
    refine srl tOK 0 0 (row := serL v) rfl ?_
    refine go tOK 3 [] ?_
    refine sn tOK 0 6 [] ?_
    refine fc tOK 3 [] (vdo_ok (op := op) (l := [v])) ?_
    refine sri tOK 0 (rows := [serL v]) rfl (by simp) rfl ?_
    refine go tOK 1 [] ?_
    refine srs tOK 0 1 (row := serL v) rfl ?_
    refine sn tOK 0 2 [] ?_
    refine sl 0 ?_
    refine emb 903 (mb' := .r 98 3 [serL w]) ?_ ?_
    ·rw [← hw]; rfl
    exact hJ 1 (by omega) (by omega)
   ·have hj : j = 1 := by omega
    subst hj
    refine emb 903 (mb' := .r 98 3 [serL w]) ?_ ?_
    ·simp
    refine en tOK 0 3 [] ?_
    refine sezo 4 (rows := [serL w]) ?_ ?_ (hr := by simp)
    ·rfl
    refine sr 0 R ?_
    rfl
end Go.Proofs.YtomkgfdigldhcaaGreatDoor
namespace Go.Proofs.YtomkgfdigldhcaaGreatDoor
open Go.KX
set_option maxRecDepth 100000 in
theorem backF_ok {l : List (Bytes × Val)} : Fc Tryz.prog gT 54 [rF l] (.f 96 [] [.p [rF l]]) := by
 refine fb tOK (fn := Tryz.f54) 4 [.tmp 2] Tryz.func54 Tryz.results54 (fun g0 B0 Q ρ0 R => ?_)
 refine en tOK 0 2 [] ?_
 refine sz 1 ?_
 refine sn tOK 0 2 [] ?_
 refine sr 0 R ?_
 rfl
set_option maxRecDepth 100000 in
theorem backF1_ok {l : List (Bytes × Val)} (hl : l.length ≤ 1000000) : Itr Tryz.prog gT 96 [.p [rF l]] (bkF l) := by
 refine itrb tOK (fn := Tryz.f96) 19 Tryz.func96 Tryz.results96 (fun lp R hR g0 B0 Q ρ0 ms0 RR => ?_)
 rw [bkF_len] at RR
 refine en tOK 0 4 [] ?_
 refine sl 0 ?_
 refine eas 3 rfl (v' := nI ((l.length : Int) - 1 - (0 : Nat))) (by simp) ?_
 refine E_loopO (σ := Nat × List Res) (fun st => st.1 ≤ l.length) (fun st => l.length - st.1)
   (fun st => [(0, .v (.func (.yield lp) #[] #[])), (1, .p [rF l]), (3, nI ((l.length : Int) - 1 - st.1))])
   (fun st => R.f st.1 st.2 :: gT) (fun st => st.2) (0, ms0) ?_ ?_
 ·exact Nat.zero_le _
 ·rintro J ⟨j, ms⟩ hj0 hJ
  dsimp only at hj0 ⊢
  refine en tOK 0 2 [] ?_
  refine si 0 rfl rfl (fun h8 => ?_) (fun h8 => ?_)
  ·have hj : j < l.length := by omega
   refine en tOK 0 6 [frF (l[l.length - 1 - j]'(by omega)).1 (l[l.length - 1 - j]'(by omega)).2] ?_ (hφ := by exact ⟨by omega, row_atI (by omega)⟩)
   refine yw hR (bkF_get hj) (fun ms2 => ?_) (fun ms2 => ?_)
   ·refine go tOK 1 [] ?_
    refine sn tOK 1 3 [] ?_
    refine sl 0 ?_
    exact hJ (j + 1, ms2) (by dsimp only; omega) (by dsimp only; omega)
   ·refine go tOK 1 [] ?_
    refine sl 1 ?_
    exact RR.retx
  ·have ej : j = l.length := by omega
   subst ej
   refine el 0 ?_
   exact RR.fall
set_option maxRecDepth 100000 in
theorem evr_ok {l : List (Bytes × Val)} {n : Bytes} {v : Val} (hl : l.length ≤ 1000000) (hall : ∀ p ∈ l, isV p.2 = true) (h : lastR l n = some v) : Fc Tryz.prog gT 16 [.a [nI 2, .str n, nI 0, nI 0, .s 0 []], rF l] (.t [rS1 [v], nI 0]) := by
 refine fbm tOK (fn := Tryz.f16) 79 [.cell 4 32, .cell 5 33] Tryz.func16 Tryz.results16 (fun g0 B0 Q ρ0 R RM => ?_)
 refine en tOK 0 3 [] ?_
 refine sn tOK 0 2 [] ?_
 refine sn tOK 0 2 [] ?_
 refine sn tOK 1 2 [] ?_
 refine sz 2 ?_
 refine sn tOK 1 1 [] ?_
 refine fc tOK 0 [] (backF_ok (l := l)) ?_
 refine sl 0 ?_
 refine E_range (ι := Unit) (fun j => msF l n j) (fun _ => [(5, .c 33 [nI 0]), (4, .c 32 [rS1 [v]])]) (backF1_ok hl) (fun j av hj lp g1 B1 ρ1 Q1 Q2 own1 own2 J hJ hE hX => ?_) (fun D => ?_) (fun D i => ?_) (fun a ha => (bkF_clo a ha).1) (fun a ha => (bkF_clo a ha).2)
 ·have hjl : j < l.length := by
   have := (List.getElem?_eq_some_iff.1 hj).1
   rwa [bkF_len] at this
  rw [bkF_get hjl] at hj
  cases hj
  show E _ _ _ (upM (msF l n j)) _ _
  have hb : noneB l n j = true ∨ noneB l n j = false := by cases noneB l n j <;> simp
  rcases hb with hb | hb
  rotate_left
  · rw [msF_f hb]
    exact E_abs (fun g ρ ms => no_denF)
  rw [msF_t hb]
  refine en tOK 0 2 [] ?_
  refine sl 0 ?_
  refine hJ ?_
  refine en tOK 0 5 [] ?_
  refine si 0 rfl rfl (fun h30 => ?_) (fun h30 => ?_)
  ·have ev : (l[l.length - 1 - j]'(by omega)).2 = v := by
    have := last_at hjl hb h30
    rw [h] at this
    cases this
    rfl
   refine en tOK 0 2 [] ?_
   refine fnw tOK 2 [] (sortS1_ok (v := (l[l.length - 1 - j]'(by omega)).2) (hall _ (List.getElem_mem _))) ?_
   refine sezo 34 (rows := [serL (l[l.length - 1 - j]'(by omega)).2]) rfl ?_ (hr := by simp)
   refine go tOK 2 [] ?_
   refine sl 0 ?_
   refine emb 1004 (mb' := .c 32 [rS1 [v]]) ?_ ?_
   ·rw [← ev]; rfl
   exact hX () rfl
  ·refine el 0 ?_
   exact hE (by rw [msF_t (noneB_next hjl hb h30)]; rfl)
 ·rw [bkF_len]
  show E _ _ _ (msF l n l.length) _ _
  rw [msF_f (none_len h)]
  exact E_abs (fun g ρ ms => no_denF)
 ·refine erm 0 (RM D) ?_
  rfl
set_option maxRecDepth 100000 in
theorem evo_ok {l : List (Bytes × Val)} {o : Bytes} {a : Ex} {v w : Val} (ha : Fc Tryz.prog gT 16 [exS a, rF l] (.t [rS1 [v], nI 0])) (hv : isV v = true) (h0 : (doV o [numV 0]).2 = 0) (hw : (doV o [v]).1 = w) : Fc Tryz.prog gT 16 [.a [nI 3, .str o, nI 0, nI 0, .s 5 [exL a]], rF l] (.t [rS1 [w], nI 0]) := by
 refine fbm tOK (fn := Tryz.f16) 79 [.cell 4 32, .cell 5 33] Tryz.func16 Tryz.results16 (fun g0 B0 Q ρ0 R RM => ?_)
 refine en tOK 0 3 [] ?_
 refine sn tOK 0 2 [] ?_
 refine sn tOK 0 2 [] ?_
 refine sn tOK 1 2 [] ?_
 refine sn tOK 1 1 [] ?_
 refine sz 2 ?_
 refine sn tOK 0 4 [] ?_
 refine sl 0 ?_
 refine eonl 8 903 32 1 ?_
 refine E_loop (σ := Nat) (fun j => j ≤ 1) (fun j => 1 - j)
   (fun j => [(1, rF l), (2, .p [nI 3, .str o, nI 0, nI 0, .s 5 [exL a]]), (4, .l 4 0), (5, .l 5 0), (8, .o 903 (List.replicate j [rS1 [v]]).length), (37, .s 5 [exL a]), (38, nI 1), (39, nI j)])
   (fun j => [(903, .r 32 1 (List.replicate j [rS1 [v]])), (5, .c 33 [nI 0]), (4, .c 32 [.s 0 []])]) 0 ?_ ?_
 ·exact Nat.zero_le _
 ·rintro J j hj0 hJ
  refine en tOK 0 1 [] ?_
  refine si 0 rfl rfl (fun h40 => ?_) (fun h40 => ?_)
  ·have hj : j = 0 := by omega
   subst hj
   refine en tOK 0 4 [exL a] ?_
   refine sn tOK 0 2 [] ?_
   refine fc tOK 5 [] (ha) ?_
   refine sn tOK 0 2 [] ?_
   refine sn tOK 1 3 [] ?_
   refine sap tOK 1 [] rfl (fun _ => rfl) ?_ ?_
   ·simp
   refine sn tOK 0 2 [] ?_
   refine sl 0 ?_
   exact hJ 1 (by omega) (by omega)
  ·have hj : j = 1 := by omega
   subst hj
   refine eezo 8 (rows := [[rS1 [v]]]) rfl ?_ (hr := by simp)
   refine en tOK 0 3 [] ?_
   refine sdr 1 768 [0, 1, 0, 4, 12, 31, 63, 63, 255, 511] [0, 1, 2, 3, 4, 5, 6, 7, 8, 9] ?_
   refine xd tOK 5 [[rS1 [v]]] ?_
   refine dc tOK 4 [] (mapS1_ok hv h0 hw) ?_
   refine xe ?_
   refine sr 0 R ?_
   rfl
end Go.Proofs.YtomkgfdigldhcaaGreatDoor
namespace Go.Proofs.YtomkgfdigldhcaaGreatDoor
open Go.KX
set_option maxRecDepth 100000 in
theorem run_ok {s g : Bytes} (hs : s.length ≤ 1000000) : Fc Tryz.prog gT 116 [.str s, .str g] (nI (runB g s)) := by
 refine fb tOK (fn := Tryz.f116) 21 [.tmp 4] Tryz.func116 Tryz.results116 (fun g0 B0 Q ρ0 R => ?_)
 refine en tOK 0 1 [] ?_
 refine sn tOK 0 3 [] ?_
 refine sl 0 ?_
 refine E_loop (σ := Nat) (fun j => j ≤ s.length ∧ ∀ x ∈ s.take j, x ∈ g) (fun j => s.length - j)
   (fun j => [(0, .str s), (1, .str g), (7, nI s.length), (8, nI j)])
   (fun j => []) 0 ?_ ?_
 ·exact ⟨Nat.zero_le _, by simp⟩
 ·rintro J j ⟨hj0, hj1⟩ hJ
  refine en tOK 0 1 [] ?_
  refine si 0 rfl rfl (fun h9 => ?_) (fun h9 => ?_)
  ·have hj : j < s.length := by omega
   have ec : s.getD ((j : Int)).toNat 0 = s[j] := by simp [List.getD_eq_getElem?_getD, hj]
   refine en tOK 0 2 [] ?_
   refine sn tOK 0 4 [] ?_
   refine fc tOK 1 [] (ib_ok (n := ((s.getD ((j : Int)).toNat 0).toNat : Int)) (c := s[j]) (by rw [ec])) ?_
   refine si 0 rfl rfl (fun h16 => ?_) (fun h16 => ?_)
   ·have hx : s[j] ∉ g := (ib_mem _ _).1 h16
    have e : runB g s = j := by
      rw [runB_add hj0 hj1, List.drop_eq_getElem_cons hj]
      have : runB g (s[j] :: s.drop (j + 1)) = 0 := by unfold runB; rw [if_neg hx]
      omega
    refine en tOK 0 2 [] ?_
    refine sr 0 R ?_
    rw [e]; rfl
   ·have hx : s[j] ∈ g := Classical.byContradiction fun h => h16 ((ib_mem _ _).2 h)
    refine en tOK 0 2 [] ?_
    exact hJ (j + 1) ⟨by omega, take_next hj hj1 hx⟩ (by omega)
  ·have e : runB g s = s.length := by
     have hjj : j = s.length := by omega
     rw [runB_add hj0 hj1, hjj, List.drop_length]; rfl
   refine en tOK 0 3 [] ?_
   refine sr 0 R ?_
   rw [e]; rfl
end Go.Proofs.YtomkgfdigldhcaaGreatDoor
namespace Go.Proofs.YtomkgfdigldhcaaGreatDoor
open Go.KX
set_option maxRecDepth 100000 in
theorem idxB_ok {l : List Bytes} {v : Bytes} : Fc Tryz.prog gT 133 [rB l, .str v] (nI (idxF (fun x => decide (v = x)) l)) := by
 refine fb tOK (fn := Tryz.f133) 19 [.tmp 4] Tryz.func133 Tryz.results133 (fun g0 B0 Q ρ0 R => ?_)
 refine en tOK 0 1 [] ?_
 refine sn tOK 0 3 [] ?_
 refine sl 0 ?_
 refine E_loop (σ := Nat) (fun j => j ≤ l.length ∧ ∀ x ∈ l.take j, decide (v = x) = false) (fun j => l.length - j)
   (fun j => [(0, rB l), (1, .str v), (4, nI 0), (7, nI l.length), (8, nI j)])
   (fun j => []) 0 ?_ ?_
 ·exact ⟨Nat.zero_le _, by simp⟩
 ·rintro J j ⟨hj0, hj1⟩ hJ
  refine elen 0 rfl (fun hl => ?_)
  simp only [List.length_map] at hl
  refine en tOK 0 1 [] ?_
  refine si 0 rfl rfl (fun h9 => ?_) (fun h9 => ?_)
  ·have hj : j < l.length := by omega
   refine en tOK 0 2 [] ?_
   refine sn tOK 0 6 [[.str l[j]]] ?_ (hφ := by exact ⟨by omega, row_at _ hj⟩)
   refine si 0 rfl rfl (fun h16 => ?_) (fun h16 => ?_)
   ·have e := idxF_some (p := fun x => decide (v = x)) hj hj1 (by simpa using h16)
    refine en tOK 0 2 [] ?_
    refine sr 0 R ?_
    rw [e]; rfl
   ·have hx : decide (v = l[j]) = false := by simpa using h16
    refine en tOK 0 2 [] ?_
    exact hJ (j + 1) ⟨by omega, take_next hj hj1 hx⟩ (by omega)
  ·have e := idxF_none (p := fun x => decide (v = x)) (fun x hx => hj1 x (by rw [List.take_of_length_le (by omega)]; exact hx))
   refine en tOK 0 1 [] ?_
   refine sr 0 R ?_
   rw [e]; rfl
set_option maxRecDepth 100000 in
theorem contB_ok {l : List Bytes} {v : Bytes} : Fc Tryz.prog gT 81 [rB l, .str v] (bS (decide (v ∈ l))) := by
 refine fb tOK (fn := Tryz.f81) 9 [.tmp 4] Tryz.func81 Tryz.results81 (fun g0 B0 Q ρ0 R => ?_)
 refine en tOK 0 1 [] ?_
 refine sn tOK 0 2 [] ?_
 refine fc tOK 2 [] (idxB_ok) ?_
 refine sr 0 R ?_
 have e : decide (v ∈ l) = (l.any fun x => decide (v = x)) := by simp [List.any_eq, eq_comm]
 rw [e, ← idxF_any]; rfl
set_option maxRecDepth 100000 in
theorem fails_ok {s : Bytes} {p : Ps} {er a : Int} : Fp Tryz.prog gT 64 [.l 1000 0, nI er, nI a] (psC s p) (.t []) (psC s (p.fails er a)) := by
 refine fpb tOK (fn := Tryz.f64) 22 [] Tryz.func64 Tryz.results64 (fun g0 B0 Q ρ0 R => ?_)
 refine en tOK 0 5 [] ?_
 refine sib 0 rfl rfl (fun h10 => ?_) (fun h10 => ?_)
 ·have hd : p.dead = false := by simpa using h10
  have ef : p.fails er a = ⟨p.i, er, a, true⟩ := by unfold Ps.fails; rw [if_neg (by simp [hd])]
  refine en tOK 0 14 [] ?_
  refine sfp 0 R ?_
  exact ⟨rfl, by rw [ef] <;> rfl⟩
 ·have ef : p.fails er a = p := by unfold Ps.fails; rw [if_pos (by simpa using h10)]
  refine efp 0 R ?_
  exact ⟨rfl, by rw [ef] <;> rfl⟩
set_option maxRecDepth 100000 in
theorem rest_ok {s : Bytes} {p : Ps} (hi : p.i ≤ s.length) (hs : s.length ≤ 1024) : Fp Tryz.prog gT 63 [.l 1000 0] (psC s p) (.str (p.restT s)) (psC s (p.restP s)) := by
 refine fpb tOK (fn := Tryz.f63) 33 [.tmp 2] Tryz.func63 Tryz.results63 (fun g0 B0 Q ρ0 R => ?_)
 refine en tOK 0 1 [] ?_
 refine sn tOK 0 4 [] ?_
 refine sib 0 rfl rfl (fun h6 => ?_) (fun h6 => ?_)
 ·have e1 : p.restT s = [] := by unfold Ps.restT; rw [if_pos h6]
  have e2 : p.restP s = p := by unfold Ps.restP; rw [if_pos h6]
  refine en tOK 0 1 [] ?_
  refine srp 0 R ?_
  exact ⟨by rw [e1] <;> rfl, by rw [e2] <;> rfl⟩
 ·have hr := runB_le [32] (s.drop p.i)
  have hr2 : (s.drop p.i).length = s.length - p.i := by simp
  have e2 : p.restP s = { p with i := p.i + runB [32] (s.drop p.i) } := by unfold Ps.restP; rw [if_neg (by simp [h6])]
  have e1 : p.restT s = s.drop (p.i + runB [32] (s.drop p.i)) := by unfold Ps.restT; rw [if_neg (by simp [h6]), e2]
  refine edr 0 131072 [0, 1, 3, 7, 0, 16, 48, 112, 0, 256, 768, 1792, 4080, 8176, 16383, 32767, 65535, 131071] [0, 1, 2, 3, 4, 5, 6, 7, 8, 9, 10, 11, 12, 13, 14, 15, 16, 17] ?_
  refine xd tOK 13 [] ?_
  refine dc tOK 4 [] (run_ok (s := s.drop p.i) (by omega)) ?_
  refine xe ?_
  refine sdr 0 0 [0, 1, 3, 7, 0, 16, 48, 112, 255, 511] [0, 1, 2, 3, 4, 5, 6, 7, 8, 9] ?_
  refine xd tOK 10 [] ?_
  refine xe ?_
  refine srp 0 R ?_
  exact ⟨by rw [e1] <;> rfl, by rw [e2] <;> rfl⟩
set_option maxRecDepth 100000 in
theorem take_ok {s : Bytes} {l : List Bytes} {p : Ps} (hi : p.i ≤ s.length) (hs : s.length ≤ 1024) : Fp Tryz.prog gT 168 [.l 1000 0, rB l] (psC s p) (.t [.str ((takeT s l p).getD []), bS (takeT s l p).isSome]) (psC s (takeP s l p)) := by
 refine fpb tOK (fn := Tryz.f168) 32 [.tmp 4, .tmp 5] Tryz.func168 Tryz.results168 (fun g0 B0 Q ρ0 R => ?_)
 refine en tOK 0 2 [] ?_
 refine sn tOK 0 1 [] ?_
 refine fp tOK 1000 1 [] (rest_ok (by omega) (by omega)) ?_
 refine sn tOK 0 0 [] ?_
 have hle := rest_le (s := s) hi
 refine glo tOK 1 [] (r := .a (signsT.map .str)) signs_den ?_
 
 refine sl 0 ?_
 refine E_loop (σ := Nat) (fun j => j ≤ 15 ∧ ∀ x ∈ signsT.take j, Lib.hasPrefix (p.restT s) x = false) (fun j => 15 - j)
   (fun j => [(0, .l 1000 0), (1, rB l), (6, .str (p.restT s)), (11, .a (signsT.map .str)), (12, nI j)])
   (fun j => [(1000, psC s (p.restP s))]) 0 ?_ ?_
 ·exact ⟨Nat.zero_le _, by simp⟩
 ·rintro J j ⟨hj0, hj1⟩ hJ
  refine en tOK 0 1 [] ?_
  refine si 0 rfl rfl (fun h13 => ?_) (fun h13 => ?_)
  ·have hjl : j < 15 := by omega
   have hj : j < signsT.length := hjl
   refine en tOK 0 0 [] ?_
   refine ixg tOK 1 [] (n := 15) (z := (j : Int)) (cs := signsT.map .str) (.str signsT[j]) (by omega) (by simp [hj]) ?_
   
   refine sn tOK 0 2 [] ?_
   refine fc tOK 0 [] (hp_ok) ?_
   refine sib 0 rfl rfl (fun h17 => ?_) (fun h17 => ?_)
   ·have e1 : firstSign (p.restT s) = some signsT[j] := find_at hj hj1 h17
    refine en tOK 0 2 [] ?_
    refine fc tOK 0 [] (contB_ok) ?_
    refine sib 0 rfl rfl (fun h20 => ?_) (fun h20 => ?_)
    ·have h20 := of_decide_eq_true h20
     have e2 : takeT s l p = some signsT[j] := by unfold takeT; rw [e1]; simp only; rw [if_pos h20]
     have e3 : takeP s l p = { p.restP s with i := (p.restP s).i + signsT[j].length } := by unfold takeP; rw [e2]
     have hsl : signsT[j].length ≤ 2 := (show ∀ x ∈ signsT, x.length ≤ 2 by decide) _ (List.getElem_mem hj)
     refine en tOK 0 10 [] ?_
     refine sn tOK 0 3 [] ?_
     refine srp 0 R ?_
     exact ⟨by rw [e2] <;> rfl, by rw [e3] <;> rfl⟩
    ·have h20 := of_decide_eq_false h20
     have e2 : takeT s l p = none := by unfold takeT; rw [e1]; simp only; rw [if_neg h20]
     have e3 : takeP s l p = p.restP s := by unfold takeP; rw [e2]
     refine en tOK 0 2 [] ?_
     refine srp 0 R ?_
     exact ⟨by rw [e2] <;> rfl, by rw [e3] <;> rfl⟩
   ·have hx := h17
    refine en tOK 0 2 [] ?_
    exact hJ (j + 1) ⟨by omega, take_next hj hj1 hx⟩ (by omega)
  ·have hj15 : signsT.take j = signsT := by rw [List.take_of_length_le]; show 15 ≤ j; omega
   rw [hj15] at hj1
   have e1 : firstSign (p.restT s) = none := List.find?_eq_none.2 (fun x hx => by simp [hj1 x hx])
   have e2 : takeT s l p = none := by unfold takeT; rw [e1]
   have e3 : takeP s l p = p.restP s := by unfold takeP; rw [e2]
   refine en tOK 0 2 [] ?_
   refine srp 0 R ?_
   exact ⟨by rw [e2] <;> rfl, by rw [e3] <;> rfl⟩
set_option maxRecDepth 100000 in
theorem must_ok {s x : Bytes} {p : Ps} (hi : p.i ≤ s.length) (hs : s.length ≤ 1024) : Fp Tryz.prog gT 297 [.l 1000 0, .str x] (psC s p) (.t []) (psC s (mustP s x p)) := by
 refine fpb tOK (fn := Tryz.f297) 21 [] Tryz.func297 Tryz.results297 (fun g0 B0 Q ρ0 R => ?_)
 refine en tOK 0 3 [] ?_
 refine fp tOK 1000 5 [] (take_ok (l := [x]) hi hs) ?_
 refine sn tOK 0 2 [] ?_
 refine sib 0 rfl rfl (fun h14 => ?_) (fun h14 => ?_)
 ·have e1 : takeT s [x] p = none := by simpa using h14
  have e2 : mustP s x p = (takeP s [x] p).fails 110 (takeP s [x] p).i := by unfold mustP; rw [e1]
  refine en tOK 0 5 [] ?_
  refine fp tOK 1000 0 [] (fails_ok) ?_
  refine sfp 0 R ?_
  exact ⟨rfl, by rw [e2] <;> rfl⟩
 ·obtain ⟨y, e1⟩ : ∃ y, takeT s [x] p = some y := Option.isSome_iff_exists.1 (by simpa using h14)
  have e2 : mustP s x p = takeP s [x] p := by unfold mustP; rw [e1]
  refine efp 0 R ?_
  exact ⟨rfl, by rw [e2] <;> rfl⟩
set_option maxRecDepth 100000 in
theorem enter_ok {s : Bytes} {p : Ps} {d : Nat} (hi : p.i ≤ s.length) (hs : s.length ≤ 1024) : Fp Tryz.prog gT 114 [.l 1000 0, nI d] (psC s p) (.t []) (psC s (enterP s d p)) := by
 refine fpb tOK (fn := Tryz.f114) 14 [] Tryz.func114 Tryz.results114 (fun g0 B0 Q ρ0 R => ?_)
 refine en tOK 0 1 [] ?_
 refine fp tOK 1000 0 [] (rest_ok (by omega) (by omega)) ?_
 refine sn tOK 0 2 [] ?_
 refine si 0 rfl rfl (fun h7 => ?_) (fun h7 => ?_)
 ·have e2 : enterP s d p = (p.restP s).fails 111 (p.restP s).i := by unfold enterP; rw [if_pos (by omega)]
  refine en tOK 0 5 [] ?_
  refine fp tOK 1000 0 [] (fails_ok) ?_
  refine sfp 0 R ?_
  exact ⟨rfl, by rw [e2] <;> rfl⟩
 ·have e2 : enterP s d p = p.restP s := by unfold enterP; rw [if_neg (by omega)]
  refine efp 0 R ?_
  exact ⟨rfl, by rw [e2] <;> rfl⟩
set_option maxRecDepth 100000 in
theorem call2_ok {o : Bytes} {x y : Ex} : Fc Tryz.prog gT 169 [.str o, .s 5 [exL x, exL y]] (exS (exC o [x, y])) := by
 refine fb tOK (fn := Tryz.f169) 8 [.cell 4 29] Tryz.func169 Tryz.results169 (fun g0 B0 Q ρ0 R => ?_)
 refine en tOK 0 1 [] ?_
 refine sn tOK 0 4 [] ?_
 refine sr 0 R ?_
 rw [ex_pair]; rfl
set_option maxRecDepth 100000 in
theorem call1_ok {o : Bytes} {x : Ex} : Fc Tryz.prog gT 169 [.str o, .s 5 [exL x]] (exS (exC o [x])) := by
 refine fb tOK (fn := Tryz.f169) 8 [.cell 4 29] Tryz.func169 Tryz.results169 (fun g0 B0 Q ρ0 R => ?_)
 refine en tOK 0 1 [] ?_
 refine sn tOK 0 4 [] ?_
 refine sr 0 R ?_
 rw [ex_one]; rfl
set_option maxRecDepth 100000 in
theorem function_ok {w : Bytes} : Fc Tryz.prog gT 67 [.str w] (bS (functionB w)) := by
 refine fb tOK (fn := Tryz.f67) 6 [.tmp 2] Tryz.func67 Tryz.results67 (fun g0 B0 Q ρ0 R => ?_)
 refine en tOK 0 1 [] ?_
 refine sn tOK 0 2 [] ?_
 refine fc tOK 1 [] (contB_ok (l := [oAbs, oFloor, oNull, oNan, oInf, oNum])) ?_
 refine sr 0 R ?_
 rfl
set_option maxRecDepth 100000 in
theorem ref_ok {w : Bytes} (hs : w.length ≤ 1000000) : Fc Tryz.prog gT 125 [.str w] (bS (refB w)) := by
 refine fb tOK (fn := Tryz.f125) 23 [.tmp 2] Tryz.func125 Tryz.results125 (fun g0 B0 Q ρ0 R => ?_)
 refine en tOK 0 1 [] ?_
 refine sn tOK 0 10 [] ?_ (hφ := by
   refine ⟨fun h => ?_, id, id, id, id⟩
   cases w with
   | nil => simp at h
   | cons _ _ => exact ⟨by omega, by simp⟩)
 refine fg tOK 4 [] (fun hg => ib_ok (c := w.getD 0 0) rfl) ?_
 refine fg tOK 5 [] (fun hg => run_ok hs) ?_
 refine sr 0 R ?_
 cases w with
 | nil => rfl
 | cons c r =>
   have e : (decide (¬ (c :: r : Bytes) = []) && decide (((c :: r).length : Int) ≤ 16) && decide (0 ≤ Lib.indexByte gGreat c) && decide ((runB gLD (c :: r) : Int) = ((c :: r).length : Int))) = refB (c :: r) := by
     have a3 := ib_ge gGreat c
     have a2 : decide (((c :: r).length : Int) ≤ 16) = decide ((c :: r).length ≤ 16) := decide_eq_decide.2 (by omega)
     have a4 : decide ((runB gLD (c :: r) : Int) = ((c :: r).length : Int)) = decide (runB gLD (c :: r) = (c :: r).length) := decide_eq_decide.2 (by omega)
     rw [a2, a3, a4]
     simp [refB]
   exact congrArg (fun b => SV.v (.bool b)) e
end Go.Proofs.YtomkgfdigldhcaaGreatDoor
namespace Go.Proofs.YtomkgfdigldhcaaGreatDoor
open Go.KX
set_option maxRecDepth 100000 in
theorem vprint_ok {v : Val} : Fc Tryz.prog gT 65 [vS v] (.str (printV v)) := by
 refine fb tOK (fn := Tryz.f65) 42 [.tmp 2] Tryz.func65 Tryz.results65 (fun g0 B0 Q ρ0 R => ?_)
 refine en tOK 0 2 [] ?_
 refine sn tOK 0 1 [] ?_
 refine fc tOK 1 [] (vis_ok) ?_
 refine sib 0 rfl rfl (fun h7 => ?_) (fun h7 => ?_)
 ·have e : printV v = [] := by unfold printV; rw [if_pos (by simpa using h7)]
  refine en tOK 0 1 [] ?_
  refine sr 0 R ?_
  first | (rw [e]; rfl) | (rw [e, e0]; rfl)
 ·have hv : isV v = true := by simpa using h7
  have hnn := isV_n hv
  refine en tOK 0 3 [] ?_
  refine si 0 rfl rfl (fun h10 => ?_) (fun h10 => ?_)
  ·have hc : v.k = 2 ∨ v.k = 3 ∨ v.k = 4 ∨ v.k = 5 := by rcases isV_cases hv with ⟨h, _⟩ | rfl | rfl | rfl | rfl <;> first | exact absurd h h10 | simp
   rcases hc with hk | hk | hk | hk
   ·refine en tOK 0 0 [] ?_
    refine bld tOK 2 [] #[(2, str [110, 117, 108, 108]), (3, str [78, 97, 78]), (4, str [43, 73, 110, 102]), (5, str [45, 73, 110, 102])] (.agg #[str [], str [], str [110, 117, 108, 108], str [78, 97, 78], str [43, 73, 110, 102], str [45, 73, 110, 102]]) (fun w => by kernel_rfl) ?_
    refine sas 13 rfl (v' := nI 2) ?_ ?_
    ·rw [hk]
    refine ixa tOK 1 [] (.str [110, 117, 108, 108]) (fun w => by kernel_rfl) (fun _ _ => .str) ?_
    have e : printV v = [110, 117, 108, 108] := by subst_vars; unfold printV; rw [if_neg (by simp [hv])]; simp [hk]
    
    refine sr 0 R ?_
    first | (rw [e]; rfl) | (rw [e, e0]; rfl)
   ·refine en tOK 0 0 [] ?_
    refine bld tOK 2 [] #[(2, str [110, 117, 108, 108]), (3, str [78, 97, 78]), (4, str [43, 73, 110, 102]), (5, str [45, 73, 110, 102])] (.agg #[str [], str [], str [110, 117, 108, 108], str [78, 97, 78], str [43, 73, 110, 102], str [45, 73, 110, 102]]) (fun w => by kernel_rfl) ?_
    refine sas 13 rfl (v' := nI 3) ?_ ?_
    ·rw [hk]
    refine ixa tOK 1 [] (.str [78, 97, 78]) (fun w => by kernel_rfl) (fun _ _ => .str) ?_
    have e : printV v = [78, 97, 78] := by subst_vars; unfold printV; rw [if_neg (by simp [hv])]; simp [hk]
    
    refine sr 0 R ?_
    first | (rw [e]; rfl) | (rw [e, e0]; rfl)
   ·refine en tOK 0 0 [] ?_
    refine bld tOK 2 [] #[(2, str [110, 117, 108, 108]), (3, str [78, 97, 78]), (4, str [43, 73, 110, 102]), (5, str [45, 73, 110, 102])] (.agg #[str [], str [], str [110, 117, 108, 108], str [78, 97, 78], str [43, 73, 110, 102], str [45, 73, 110, 102]]) (fun w => by kernel_rfl) ?_
    refine sas 13 rfl (v' := nI 4) ?_ ?_
    ·rw [hk]
    refine ixa tOK 1 [] (.str [43, 73, 110, 102]) (fun w => by kernel_rfl) (fun _ _ => .str) ?_
    have e : printV v = [43, 73, 110, 102] := by subst_vars; unfold printV; rw [if_neg (by simp [hv])]; simp [hk]
    
    refine sr 0 R ?_
    first | (rw [e]; rfl) | (rw [e, e0]; rfl)
   ·refine en tOK 0 0 [] ?_
    refine bld tOK 2 [] #[(2, str [110, 117, 108, 108]), (3, str [78, 97, 78]), (4, str [43, 73, 110, 102]), (5, str [45, 73, 110, 102])] (.agg #[str [], str [], str [110, 117, 108, 108], str [78, 97, 78], str [43, 73, 110, 102], str [45, 73, 110, 102]]) (fun w => by kernel_rfl) ?_
    refine sas 13 rfl (v' := nI 5) ?_ ?_
    ·rw [hk]
    refine ixa tOK 1 [] (.str [45, 73, 110, 102]) (fun w => by kernel_rfl) (fun _ _ => .str) ?_
    have e : printV v = [45, 73, 110, 102] := by subst_vars; unfold printV; rw [if_neg (by simp [hv])]; simp [hk]
    
    refine sr 0 R ?_
    first | (rw [e]; rfl) | (rw [e, e0]; rfl)
  ·have h1 : v.k = 1 := Decidable.byContradiction h10
   have hm : printV v = if v.n < 0 then 45 :: magV v.n.natAbs else magV v.n.natAbs := by unfold printV; rw [if_neg (by simp [hv]), if_neg (by omega), if_neg (by omega), if_neg (by omega), if_neg (by omega)]
   obtain ⟨N, hN⟩ : ∃ N : Nat, max v.n (0 - v.n) = N := ⟨v.n.natAbs, by omega⟩
   have hN2 : v.n.natAbs = N := by omega
   have ed : ((N : Int)).tdiv 1000 = ((N / 1000 : Nat) : Int) := by rw [show (1000 : Int) = ((1000 : Nat) : Int) from rfl, ← Int.ofNat_tdiv]
   have em : ((N : Int)).tmod 1000 = ((N % 1000 : Nat) : Int) := by rw [show (1000 : Int) = ((1000 : Nat) : Int) from rfl, ← Int.ofNat_tmod]
   have hlen1 := dec_len (n := N / 1000) (by omega)
   have hl4 : (Lib.decDigits (1000 + N % 1000)).length = 4 := by have := congrArg List.length (dec4 (r := N % 1000) (by omega)); simp at this; omega
   refine en tOK 0 7 [] ?_
   refine sas 3 rfl (v' := nI (N : Int)) ?_ ?_
   ·rw [hN]
   refine sn tOK 0 2 [] ?_
   refine fc tOK 1 [] (fmtI (p := IntKind.wrap .i64 ((N : Int).tdiv 1000)) (x := N / 1000) (by rw [ed]; exact wrap_i64 (by omega) (by omega)) (by omega)) ?_
   refine sn tOK 0 3 [] ?_
   refine si 0 rfl rfl (fun h26 => ?_) (fun h26 => ?_)
   ·have hr : N % 1000 ≠ 0 := by omega
    have hlt : (Lib.trimRightB ((Lib.decDigits (1000 + N % 1000)).drop 1) 48).length ≤ 3 := by have := trim_len ((Lib.decDigits (1000 + N % 1000)).drop 1); rw [List.length_drop, hl4] at this; exact this
    have e0 : magV N = Lib.decDigits (N / 1000) ++ ([46] ++ Lib.trimRightB ((Lib.decDigits (1000 + N % 1000)).drop 1) 48) := by unfold magV fracV; rw [if_neg hr]; rfl
    refine en tOK 0 4 [] ?_
    refine fc tOK 1 [] (fmtI (p := 1000 + (N : Int).tmod 1000) (x := 1000 + N % 1000) (by rw [em]; omega) (by omega)) ?_
    refine fc tOK 3 [] (trim0_ok (s := (Lib.decDigits (1000 + N % 1000)).drop 1) (by simp; omega)) ?_ (hφ := by simp only [conj, List.length_append]; show (Lib.decDigits (N / 1000)).length + (1 + (Lib.trimRightB ((Lib.decDigits (1000 + N % 1000)).drop 1) 48).length) ≤ 9223372036854775807 ∧ 1 + (Lib.trimRightB ((Lib.decDigits (1000 + N % 1000)).drop 1) 48).length ≤ 9223372036854775807; omega)
    refine sn tOK 0 3 [] ?_
    refine si 0 rfl rfl (fun h38 => ?_) (fun h38 => ?_)
    ·have e : printV v = [45] ++ magV N := by rw [hm, if_pos h38, hN2]; rfl
     refine en tOK 0 3 [] ?_ (hφ := by simp only [conj, List.length_append, List.length_cons, List.length_nil, List.length_drop]; omega)
     refine sr 0 R ?_
     first | (rw [e]; rfl) | (rw [e, e0]; rfl)
    ·have e : printV v = magV N := by rw [hm, if_neg h38, hN2]
     refine en tOK 0 2 [] ?_
     refine sr 0 R ?_
     first | (rw [e]; rfl) | (rw [e, e0]; rfl)
   ·have e0 : magV N = Lib.decDigits (N / 1000) := by unfold magV fracV; rw [if_pos (by omega), List.append_nil]
    refine en tOK 0 3 [] ?_
    refine si 0 rfl rfl (fun h38 => ?_) (fun h38 => ?_)
    ·have e : printV v = [45] ++ magV N := by rw [hm, if_pos h38, hN2]; rfl
     refine en tOK 0 3 [] ?_ (hφ := by simp only [conj, List.length_append, List.length_cons, List.length_nil, List.length_drop]; omega)
     refine sr 0 R ?_
     first | (rw [e]; rfl) | (rw [e, e0]; rfl)
    ·have e : printV v = magV N := by rw [hm, if_neg h38, hN2]
     refine en tOK 0 2 [] ?_
     refine sr 0 R ?_
     first | (rw [e]; rfl) | (rw [e, e0]; rfl)
end Go.Proofs.YtomkgfdigldhcaaGreatDoor
namespace Go.Proofs.YtomkgfdigldhcaaGreatDoor
open Go.KX
set_option maxRecDepth 100000 in
theorem vparse_ok {s : Bytes} (hs : s.length ≤ 1000000) : Fc Tryz.prog gT 320 [.str s] (.t [vS (parseV s).1, nI (parseV s).2]) := by
 refine fb tOK (fn := Tryz.f320) 84 [.cell 2 26, .tmp 3] Tryz.func320 Tryz.results320 (fun g0 B0 Q ρ0 R => ?_)
 refine en tOK 0 2 [] ?_
 refine sn tOK 0 0 [] ?_
 refine fc tOK 0 [] (vnull_ok) ?_
 refine fc tOK 0 [] (vnan_ok) ?_
 refine fc tOK 0 [] (vplus_ok) ?_
 refine fc tOK 3 [] (vminus_ok) ?_
 refine sl 0 ?_
 refine E_loop (σ := Nat) (fun j => j ≤ 4 ∧ ∀ v ∈ c4.take j, decide (s = printV v) = false) (fun j => 4 - j)
   (fun j => [(0, .str s), (2, .l 2 0), (18, rV c4), (19, nI 4), (20, nI j)])
   (fun j => [(2, .c 26 [nI 0, nI 0])]) 0 ?_ ?_
 ·exact ⟨Nat.zero_le _, by simp⟩
 ·rintro J j ⟨hj0, hj1⟩ hJ
  refine en tOK 0 1 [] ?_
  refine si 0 rfl rfl (fun h21 => ?_) (fun h21 => ?_)
  ·have hjl : j < 4 := by omega
   have hj : j < c4.length := hjl
   refine en tOK 0 4 [[nI c4[j].k, nI c4[j].n]] ?_ (hφ := by exact ⟨by omega, row_at _ hj⟩)
   refine sn tOK 0 2 [] ?_
   refine fc tOK 1 [] (vprint_ok) ?_
   refine si 0 rfl rfl (fun h27 => ?_) (fun h27 => ?_)
   ·have e := parse_c4 hj h27
    refine en tOK 0 3 [] ?_
    refine sr 0 R ?_
    first | (rw [e]; rfl) | (rw [← Int.zero_sub] at e; rw [e]; rfl)
   ·have hx : decide (s = printV c4[j]) = false := by simpa using h27
    refine en tOK 0 2 [] ?_
    exact hJ (j + 1) ⟨by omega, take_next hj hj1 hx⟩ (by omega)
  ·have hn4 := not4_of (fun v hv => hj1 v (by rw [List.take_of_length_le (show c4.length ≤ j by show 4 ≤ j; omega)]; exact hv))
   have hbl := Lib.trimPrefix_le s [45]
   refine en tOK 0 1 [] ?_
   refine fc tOK 5 [] (cutp_ok) ?_
   obtain ⟨w, f, b, hcut⟩ : ∃ w f b, Lib.cut (Lib.trimPrefix s [45]) [46] = (w, f, b) := ⟨_, _, _, rfl⟩
   have hC : Fc Tryz.prog gT 333 [.str (Lib.trimPrefix s [45]), .str [46]] (.t [.str w, .str f, bS b]) := by
     have h := cut_ok (s := Lib.trimPrefix s [45]) (p := [46]) (by omega)
     rw [hcut] at h
     exact h
   refine sn tOK 0 1 [] ?_
   refine fc tOK 7 [] (hC) ?_
   refine sn tOK 0 8 [] ?_
   refine sib 0 rfl rfl (fun h48 => ?_) (fun h48 => ?_)
   ·have hl : f.length ≤ 3 ∧ w.length ≤ 13 := by simp at h48; omega
    have hrl : (Lib.repeatL [48] (3 - f.length)).length = 3 - f.length := by rw [Lib.repeatL_length]; simp
    have h16 : (w ++ f ++ Lib.repeatL [48] (3 - f.length)).length ≤ 16 := by rw [List.length_append, List.length_append, hrl]; omega
    have hne : w ++ f ++ Lib.repeatL [48] (3 - f.length) ≠ [] := by
      intro h
      have h0 := congrArg List.length h
      rw [List.length_append, List.length_append, hrl] at h0
      have h1 : ([] : Bytes).length = 0 := rfl
      omega
    rcases hP : Lib.parseUintM M62 0 (w ++ f ++ Lib.repeatL [48] (3 - f.length)) with n | _ | _
    rotate_left 2
    ·exact absurd hP (uintM_16 h16).1
    ·refine en tOK 0 6 [] ?_
     refine sas 55 rfl (v' := nI ((3 - f.length : Nat) : Int)) ?_ ?_
     ·rw [show (3 : Int) - f.length = ((3 - f.length : Nat) : Int) by omega]
     refine fc tOK 1 [] (rep_ok (s := [48]) (c := 3 - f.length) (by show 1 * (3 - f.length) ≤ _; omega) (by omega) (by decide)) ?_ (hφ := by exact (show (w ++ f).length + (Lib.repeatL [48] (3 - f.length)).length ≤ 9223372036854775807 by rw [List.length_append, hrl]; omega))
     refine fc tOK 5 [] (uintG_ok hne h16 hP) ?_
     have hnb := (uintM_16 h16).2 n hP
     refine sn tOK 0 2 [] ?_
     refine fc tOK 2 [] (vnum_ok) ?_
     refine sn tOK 0 1 [] ?_
     refine sib 0 rfl rfl (fun h64 => ?_) (fun h64 => ?_)
     ·have ez : (0 - (n : Int)) = -(n : Int) := by omega
      have e0 := prog_ok (x := -(n : Int)) hn4 hcut hl hP (by rw [if_pos h64])
      refine en tOK 0 3 [] ?_
      refine fc tOK 1 [] (vnum_ok) ?_
      refine sn tOK 0 1 [] ?_
      refine kn2 tOK 7 [] (.bool true) (fun w => by kernel_rfl) ?_
      refine fg tOK 3 [] (fun hg => vprint_ok) ?_
      refine sib 0 rfl rfl (fun h81 => ?_) (fun h81 => ?_)
      ·simp at h81
       have e := e0
       rw [if_pos ⟨h81.1, h81.2⟩] at e
       refine en tOK 0 3 [] ?_
       refine sr 0 R ?_
       first | (rw [e]; rfl) | (rw [← Int.zero_sub] at e; rw [e]; rfl)
      ·simp at h81
       have e := e0
       rw [if_neg (fun h => h81 h.1 h.2)] at e
       refine en tOK 0 3 [] ?_
       refine sr 0 R ?_
       first | (rw [e]; rfl) | (rw [← Int.zero_sub] at e; rw [e]; rfl)
     ·have e0 := prog_ok (x := (n : Int)) hn4 hcut hl hP (by rw [if_neg (by simpa using h64)])
      refine en tOK 0 1 [] ?_
      refine kn2 tOK 7 [] (.bool true) (fun w => by kernel_rfl) ?_
      refine fg tOK 3 [] (fun hg => vprint_ok) ?_
      refine sib 0 rfl rfl (fun h81 => ?_) (fun h81 => ?_)
      ·simp at h81
       have e := e0
       rw [if_pos ⟨h81.1, h81.2⟩] at e
       refine en tOK 0 3 [] ?_
       refine sr 0 R ?_
       first | (rw [e]; rfl) | (rw [← Int.zero_sub] at e; rw [e]; rfl)
      ·simp at h81
       have e := e0
       rw [if_neg (fun h => h81 h.1 h.2)] at e
       refine en tOK 0 3 [] ?_
       refine sr 0 R ?_
       first | (rw [e]; rfl) | (rw [← Int.zero_sub] at e; rw [e]; rfl)
    ·refine en tOK 0 6 [] ?_
     refine sas 55 rfl (v' := nI ((3 - f.length : Nat) : Int)) ?_ ?_
     ·rw [show (3 : Int) - f.length = ((3 - f.length : Nat) : Int) by omega]
     refine fc tOK 1 [] (rep_ok (s := [48]) (c := 3 - f.length) (by show 1 * (3 - f.length) ≤ _; omega) (by omega) (by decide)) ?_ (hφ := by exact (show (w ++ f).length + (Lib.repeatL [48] (3 - f.length)).length ≤ 9223372036854775807 by rw [List.length_append, hrl]; omega))
     refine fc tOK 5 [] (uintG_bad hne h16 hP) ?_
     have e := prog_bad hn4 hcut hl hP
     refine sn tOK 0 2 [] ?_
     refine fc tOK 2 [] (vnum_ok) ?_
     refine sn tOK 0 1 [] ?_
     refine sib 0 rfl rfl (fun h64 => ?_) (fun h64 => ?_)
     ·refine en tOK 0 3 [] ?_
      refine fc tOK 1 [] (vnum_ok) ?_
      refine sn tOK 0 1 [] ?_
      refine nnil tOK 7 [] false (by kernel_rfl) ?_
      refine fg tOK 3 [] (fun hg => vprint_ok) ?_
      refine sib 0 rfl rfl (fun h81 => ?_) (fun h81 => ?_)
      ·simp at h81
      ·refine en tOK 0 3 [] ?_
       refine sr 0 R ?_
       first | (rw [e]; rfl) | (rw [← Int.zero_sub] at e; rw [e]; rfl)
     ·refine en tOK 0 1 [] ?_
      refine nnil tOK 7 [] false (by kernel_rfl) ?_
      refine fg tOK 3 [] (fun hg => vprint_ok) ?_
      refine sib 0 rfl rfl (fun h81 => ?_) (fun h81 => ?_)
      ·simp at h81
      ·refine en tOK 0 3 [] ?_
       refine sr 0 R ?_
       first | (rw [e]; rfl) | (rw [← Int.zero_sub] at e; rw [e]; rfl)
   ·have e := prog_long hn4 hcut (fun h => by simp at h48; omega)
    refine en tOK 0 3 [] ?_
    refine sr 0 R ?_
    first | (rw [e]; rfl) | (rw [← Int.zero_sub] at e; rw [e]; rfl)
end Go.Proofs.YtomkgfdigldhcaaGreatDoor
