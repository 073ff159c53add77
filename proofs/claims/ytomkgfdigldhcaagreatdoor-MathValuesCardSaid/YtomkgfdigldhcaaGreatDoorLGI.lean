/- WB WC WF WD WE UN UO UP UQ UR VO UT. -/
import Derived.Test.YtomkgfdigldhcaaGreatDoorLGH
namespace Go.Proofs.YtomkgfdigldhcaaGreatDoor
open Go.KX
set_option maxRecDepth 100000 in
theorem idxI_ok {l : List Int} {v : Int} : Fc Tryz.prog gT 318 [rI l, nI v] (nI (idxF (fun x => decide (v = x)) l)) := by
 refine fb tOK (fn := Tryz.f318) 19 [.tmp 4] Tryz.func318 Tryz.results318 (fun g0 B0 Q ρ0 R => ?_)
 refine en tOK 0 1 [] ?_
 refine sn tOK 0 3 [] ?_
 refine sl 0 ?_
 refine E_loop (σ := Nat) (fun j => j ≤ l.length ∧ ∀ x ∈ l.take j, decide (v = x) = false) (fun j => l.length - j)
   (fun j => [(0, rI l), (1, nI v), (4, nI 0), (7, nI l.length), (8, nI j)])
   (fun j => []) 0 ?_ ?_
 ·exact ⟨Nat.zero_le _, by simp⟩
 ·rintro J j ⟨hj0, hj1⟩ hJ
  refine elen 0 rfl (fun hl => ?_)
  simp only [List.length_map] at hl
  refine en tOK 0 1 [] ?_
  refine si 0 rfl rfl (fun h9 => ?_) (fun h9 => ?_)
  ·have hj : j < l.length := by omega
   refine en tOK 0 2 [] ?_
   refine sn tOK 0 6 [[nI l[j]]] ?_ (hφ := by exact ⟨by omega, row_at _ hj⟩)
   refine si 0 rfl rfl (fun h16 => ?_) (fun h16 => ?_)
   ·have e := idxF_some (p := fun x => decide (v = x)) hj hj1 (by simpa using h16)
    refine en tOK 0 2 [] ?_
    refine sr 0 R ?_
    rw [e]; rfl
   ·have hx : decide (v = l[j]) = false := by simpa using h16
    refine en tOK 0 2 [] ?_
    exact hJ (j + 1) ⟨by omega, take_next hj hj1 hx⟩ (by omega)
  ·have e := idxF_none (p := fun x => decide (v = x)) (fun x hx => hj1 x (by rw [List.take_of_length_le (by omega)]; exact hx))
   refine en tOK 0 1 [] ?_
   refine sr 0 R ?_
   rw [e]; rfl
set_option maxRecDepth 100000 in
theorem contI_ok {l : List Int} {v : Int} : Fc Tryz.prog gT 291 [rI l, nI v] (bS (l.any fun x => decide (v = x))) := by
 refine fb tOK (fn := Tryz.f291) 9 [.tmp 4] Tryz.func291 Tryz.results291 (fun g0 B0 Q ρ0 R => ?_)
 refine en tOK 0 1 [] ?_
 refine sn tOK 0 2 [] ?_
 refine fc tOK 2 [] (idxI_ok) ?_
 refine sr 0 R ?_
 rw [← idxF_any]; rfl
set_option maxRecDepth 100000 in
theorem idxV_ok {l : List Val} {fn : FuncId} {p : Val → Bool} (hs : ∀ v ∈ l, Fc Tryz.prog gT fn [vS v] (bS (p v))) : Fc Tryz.prog gT 221 [rV l, .f fn [] []] (nI (idxF p l)) := by
 refine fb tOK (fn := Tryz.f221) 19 [.tmp 4] Tryz.func221 Tryz.results221 (fun g0 B0 Q ρ0 R => ?_)
 refine en tOK 0 1 [] ?_
 refine sn tOK 0 3 [] ?_
 refine sl 0 ?_
 refine E_loop (σ := Nat) (fun j => j ≤ l.length ∧ ∀ x ∈ l.take j, p x = false) (fun j => l.length - j)
   (fun j => [(0, rV l), (1, .f fn [] []), (4, nI 0), (7, nI l.length), (8, nI j)])
   (fun j => []) 0 ?_ ?_
 ·exact ⟨Nat.zero_le _, by simp⟩
 ·rintro J j ⟨hj0, hj1⟩ hJ
  refine elen 0 rfl (fun hl => ?_)
  simp only [List.length_map] at hl
  refine en tOK 0 1 [] ?_
  refine si 0 rfl rfl (fun h9 => ?_) (fun h9 => ?_)
  ·have hj : j < l.length := by omega
   refine en tOK 0 2 [] ?_
   refine sn tOK 0 5 [[nI l[j].k, nI l[j].n]] ?_ (hφ := by exact ⟨by omega, row_at _ hj⟩)
   refine fc tOK 0 [] (hs l[j] (List.getElem_mem hj)) ?_
   refine sib 0 rfl rfl (fun h16 => ?_) (fun h16 => ?_)
   ·have e := idxF_some hj hj1 h16
    refine en tOK 0 2 [] ?_
    refine sr 0 R ?_
    rw [e]; rfl
   ·have hx := h16
    refine en tOK 0 2 [] ?_
    exact hJ (j + 1) ⟨by omega, take_next hj hj1 hx⟩ (by omega)
  ·have e := idxF_none (p := p) (fun x hx => hj1 x (by rw [List.take_of_length_le (by omega)]; exact hx))
   refine en tOK 0 1 [] ?_
   refine sr 0 R ?_
   rw [e]; rfl
set_option maxRecDepth 100000 in
theorem contV_ok {l : List Val} {fn : FuncId} {p : Val → Bool} (hs : ∀ v ∈ l, Fc Tryz.prog gT fn [vS v] (bS (p v))) : Fc Tryz.prog gT 146 [rV l, .f fn [] []] (bS (l.any p)) := by
 refine fb tOK (fn := Tryz.f146) 9 [.tmp 4] Tryz.func146 Tryz.results146 (fun g0 B0 Q ρ0 R => ?_)
 refine en tOK 0 1 [] ?_
 refine sn tOK 0 2 [] ?_
 refine fc tOK 2 [] (idxV_ok (p := p) hs) ?_
 refine sr 0 R ?_
 rw [← idxF_any]; rfl
set_option maxRecDepth 100000 in
theorem vcheck1_ok {v : Val} : Fc Tryz.prog gT 147 [vS v] (bS (!isV v)) := by
 refine fb tOK (fn := Tryz.f147) 6 [.tmp 2] Tryz.func147 Tryz.results147 (fun g0 B0 Q ρ0 R => ?_)
 refine en tOK 0 2 [] ?_
 refine sn tOK 0 1 [] ?_
 refine fc tOK 2 [] (vis_ok) ?_
 refine sr 0 R ?_
 rfl
set_option maxRecDepth 100000 in
theorem vcheck_ok {l : List Val} : Fc Tryz.prog gT 101 [rV l] (nI (if l.all isV then 0 else 80)) := by
 refine fb tOK (fn := Tryz.f101) 5 [.tmp 2] Tryz.func101 Tryz.results101 (fun g0 B0 Q ρ0 R => ?_)
 refine en tOK 0 1 [] ?_
 refine sn tOK 0 1 [] ?_
 refine fc tOK 0 [] (contV_ok (p := fun v => !isV v) (fun v _ => vcheck1_ok)) ?_
 refine sib 0 rfl rfl (fun h4 => ?_) (fun h4 => ?_)
 ·have e : ¬ l.all isV = true := by simpa using h4
  refine en tOK 0 1 [] ?_
  refine sr 0 R ?_
  first | (rw [if_pos e]; rfl) | (rw [if_neg e]; rfl)
 ·have e : l.all isV = true := by simpa using h4
  refine en tOK 0 1 [] ?_
  refine sr 0 R ?_
  first | (rw [if_pos e]; rfl) | (rw [if_neg e]; rfl)
set_option maxRecDepth 100000 in
theorem vkind1_ok {l : List Int} {v : Val} : Fc Tryz.prog gT 290 [vS v, .p [rI l]] (vS (truthV (l.any fun x => decide (v.k = x)))) := by
 refine fb tOK (fn := Tryz.f290) 9 [.cell 3 26] Tryz.func290 Tryz.results290 (fun g0 B0 Q ρ0 R => ?_)
 refine en tOK 0 2 [] ?_
 refine sn tOK 0 3 [] ?_
 refine fc tOK 0 [] (contI_ok) ?_
 refine fc tOK 1 [] (vtruth_ok) ?_
 refine sr 0 R ?_
 rfl
set_option maxRecDepth 100000 in
theorem vkind_ok {l : List Int} : Fc Tryz.prog gT 235 [rI l] (.f 290 [] [.p [rI l]]) := by
 refine fb tOK (fn := Tryz.f235) 4 [.tmp 2] Tryz.func235 Tryz.results235 (fun g0 B0 Q ρ0 R => ?_)
 refine en tOK 0 2 [] ?_
 refine sz 1 ?_
 refine sn tOK 0 2 [] ?_
 refine sr 0 R ?_
 rfl
set_option maxRecDepth 100000 in
theorem vplain1_ok {v : Val} {fn : FuncId} {φ : Int → Int} (hv : isV v = true) (hs : ∀ n, -1000000000000001 ≤ n → n ≤ 1000000000000001 → Fc Tryz.prog gT fn [nI n] (nI (φ n))) : Fc Tryz.prog gT 289 [vS v, .p [.f fn [] []]] (vS (plainV φ v)) := by
 refine fb tOK (fn := Tryz.f289) 18 [.cell 3 26] Tryz.func289 Tryz.results289 (fun g0 B0 Q ρ0 R => ?_)
 refine en tOK 0 2 [] ?_
 refine sn tOK 0 8 [] ?_
 refine sib 0 rfl rfl (fun h11 => ?_) (fun h11 => ?_)
 ·have e : plainV φ v = v := by unfold plainV; rw [if_pos (by simpa using h11)]
  refine en tOK 0 2 [] ?_
  refine sr 0 R ?_
  rw [e]; rfl
 ·have e : plainV φ v = numV (φ (rankV v)) := by unfold plainV; rw [if_neg (by simpa using h11)]
  refine edr 0 32 [0, 0, 2, 7, 15, 31] [0, 1, 2, 3, 4, 5] ?_
  refine xd tOK 2 [] ?_
  refine dc tOK 0 [] (vrank_ok) ?_
  refine dc tOK 0 [] (hs (rankV v) (rank_in hv).1 (rank_in hv).2) ?_
  refine dc tOK 1 [] (vback_ok) ?_
  refine xe ?_
  refine sr 0 R ?_
  rw [e]; rfl
set_option maxRecDepth 100000 in
theorem vplain_ok {fn : FuncId} : Fc Tryz.prog gT 228 [.f fn [] []] (.f 289 [] [.p [.f fn [] []]]) := by
 refine fb tOK (fn := Tryz.f228) 4 [.tmp 2] Tryz.func228 Tryz.results228 (fun g0 B0 Q ρ0 R => ?_)
 refine en tOK 0 2 [] ?_
 refine sz 1 ?_
 refine sn tOK 0 2 [] ?_
 refine sr 0 R ?_
 rfl
set_option maxRecDepth 100000 in
theorem vnumbers1_ok {a b : Val} {fn : FuncId} {φ : Val → Val → Val} (hs : Fc Tryz.prog gT fn [vS a, vS b] (vS (φ a b))) : Fc Tryz.prog gT 292 [vS a, vS b, .p [.f fn [] []]] (vS (numbersV φ a b)) := by
 refine fb tOK (fn := Tryz.f292) 19 [.cell 5 26] Tryz.func292 Tryz.results292 (fun g0 B0 Q ρ0 R => ?_)
 refine en tOK 0 3 [] ?_
 refine sn tOK 0 8 [] ?_
 refine sib 0 rfl rfl (fun h13 => ?_) (fun h13 => ?_)
 ·have e : numbersV φ a b = nanV := by unfold numbersV; rw [if_pos (by simpa using h13)]
  refine en tOK 0 0 [] ?_
  refine fc tOK 1 [] (vnan_ok) ?_
  refine sr 0 R ?_
  rw [e]; rfl
 ·have e : numbersV φ a b = φ a b := by unfold numbersV; rw [if_neg (by simpa using h13)]
  refine en tOK 0 3 [] ?_
  refine fc tOK 1 [] (hs) ?_
  refine sr 0 R ?_
  rw [e]; rfl
set_option maxRecDepth 100000 in
theorem vnumbers_ok {fn : FuncId} : Fc Tryz.prog gT 236 [.f fn [] []] (.f 292 [] [.p [.f fn [] []]]) := by
 refine fb tOK (fn := Tryz.f236) 4 [.tmp 2] Tryz.func236 Tryz.results236 (fun g0 B0 Q ρ0 R => ?_)
 refine en tOK 0 2 [] ?_
 refine sz 1 ?_
 refine sn tOK 0 2 [] ?_
 refine sr 0 R ?_
 rfl
set_option maxRecDepth 100000 in
theorem vorder1_ok {a b : Val} {fn : FuncId} {no : Bool} {φ : Int → Int → Bool} (hs : ∀ x y, Fc Tryz.prog gT fn [nI x, nI y] (bS (φ x y))) : Fc Tryz.prog gT 296 [vS a, vS b, .p [bS no], .p [.f fn [] []]] (vS (orderV no φ a b)) := by
 refine fb tOK (fn := Tryz.f296) 24 [.cell 6 26] Tryz.func296 Tryz.results296 (fun g0 B0 Q ρ0 R => ?_)
 refine en tOK 0 3 [] ?_
 refine sn tOK 0 8 [] ?_
 refine sib 0 rfl rfl (fun h14 => ?_) (fun h14 => ?_)
 ·have e : orderV no φ a b = truthV no := by unfold orderV; rw [if_pos (by simpa using h14)]
  refine en tOK 0 1 [] ?_
  refine fc tOK 1 [] (vtruth_ok) ?_
  refine sr 0 R ?_
  rw [e]; rfl
 ·have e : orderV no φ a b = truthV (φ (rankV a) (rankV b)) := by unfold orderV; rw [if_neg (by simpa using h14)]
  refine edr 0 128 [0, 0, 2, 0, 14, 31, 63, 127] [0, 1, 2, 3, 4, 5, 6, 7] ?_
  refine xd tOK 2 [] ?_
  refine dc tOK 1 [] (vrank_ok) ?_
  refine dc tOK 0 [] (vrank_ok) ?_
  refine dc tOK 0 [] (hs (rankV a) (rankV b)) ?_
  refine dc tOK 1 [] (vtruth_ok) ?_
  refine xe ?_
  refine sr 0 R ?_
  rw [e]; rfl
set_option maxRecDepth 100000 in
theorem vorder_ok {fn : FuncId} {no : Bool} : Fc Tryz.prog gT 243 [bS no, .f fn [] []] (.f 296 [] [.p [bS no], .p [.f fn [] []]]) := by
 refine fb tOK (fn := Tryz.f243) 6 [.tmp 4] Tryz.func243 Tryz.results243 (fun g0 B0 Q ρ0 R => ?_)
 refine en tOK 0 3 [] ?_
 refine sz 2 ?_
 refine sz 3 ?_
 refine sn tOK 0 2 [] ?_
 refine sr 0 R ?_
 rfl
set_option maxRecDepth 100000 in
theorem vone1_ok {n : Int} (h1 : -1000000000000001 ≤ n) (h2 : n ≤ 1000000000000001) : Fc Tryz.prog gT 229 [nI n] (nI (-n)) := by
 refine fb tOK (fn := Tryz.f229) 5 [.tmp 2] Tryz.func229 Tryz.results229 (fun g0 B0 Q ρ0 R => ?_)
 refine en tOK 0 1 [] ?_
 refine sn tOK 0 3 [] ?_
 refine sr 0 R ?_
 rw [← Int.zero_sub]; rfl
set_option maxRecDepth 100000 in
theorem vone2_ok {n : Int} (h1 : -1000000000000001 ≤ n) (h2 : n ≤ 1000000000000001) : Fc Tryz.prog gT 230 [nI n] (nI (max n (-n))) := by
 refine fb tOK (fn := Tryz.f230) 7 [.tmp 2] Tryz.func230 Tryz.results230 (fun g0 B0 Q ρ0 R => ?_)
 refine en tOK 0 1 [] ?_
 refine sn tOK 0 5 [] ?_
 refine sr 0 R ?_
 rw [← Int.zero_sub]; rfl
set_option maxRecDepth 100000 in
theorem vone4_ok {v : Val} : Fc Tryz.prog gT 233 [vS v] (vS (notV v)) := by
 refine fb tOK (fn := Tryz.f233) 11 [.cell 2 26] Tryz.func233 Tryz.results233 (fun g0 B0 Q ρ0 R => ?_)
 refine en tOK 0 2 [] ?_
 refine sn tOK 0 3 [] ?_
 refine si 0 rfl rfl (fun h5 => ?_) (fun h5 => ?_)
 ·have e : notV v = v := by unfold notV; rw [if_pos h5]
  refine en tOK 0 2 [] ?_
  refine sr 0 R ?_
  rw [e]; rfl
 ·have e : notV v = truthV (!trueV v) := by unfold notV; rw [if_neg h5]
  refine en tOK 0 1 [] ?_
  refine fc tOK 1 [] (vtrue_ok) ?_
  refine fc tOK 1 [] (vtruth_ok) ?_
  refine sr 0 R ?_
  rw [e]; rfl
set_option maxRecDepth 100000 in
theorem vone3_ok {v : Val} (hv : isV v = true) : Fc Tryz.prog gT 231 [vS v] (vS (floorV v)) := by
 refine fb tOK (fn := Tryz.f231) 15 [.cell 2 26] Tryz.func231 Tryz.results231 (fun g0 B0 Q ρ0 R => ?_)
 refine en tOK 0 2 [] ?_
 refine sn tOK 0 1 [] ?_
 refine fc tOK 0 [] (vfin_ok) ?_
 refine sib 0 rfl rfl (fun h4 => ?_) (fun h4 => ?_)
 ·have hk : v.k = 1 := by simpa [finV] using h4
  have hn := isV_n hv
  have e : floorV v = numV (v.n - (v.n.tmod 1000 + 1000).tmod 1000) := by unfold floorV; rw [if_pos hk]
  have t1 := tmod_lt v.n
  have t2 := tmod_lt (v.n.tmod 1000 + 1000)
  refine en tOK 0 8 [] ?_
  refine fc tOK 1 [] (vnum_ok) ?_
  refine sr 0 R ?_
  rw [e]; rfl
 ·have e : floorV v = v := by unfold floorV; rw [if_neg (by simpa [finV] using h4)]
  refine en tOK 0 2 [] ?_
  refine sr 0 R ?_
  rw [e]; rfl
set_option maxRecDepth 100000 in
theorem vtwo2_ok {a b : Int} : Fc Tryz.prog gT 244 [nI a, nI b] (bS (decide (a = b))) := by
 refine fb tOK (fn := Tryz.f244) 8 [.tmp 4] Tryz.func244 Tryz.results244 (fun g0 B0 Q ρ0 R => ?_)
 refine en tOK 0 1 [] ?_
 refine sn tOK 0 4 [] ?_
 refine sr 0 R ?_
 rfl
set_option maxRecDepth 100000 in
theorem vtwo3_ok {a b : Int} : Fc Tryz.prog gT 245 [nI a, nI b] (bS (decide (a ≠ b))) := by
 refine fb tOK (fn := Tryz.f245) 8 [.tmp 4] Tryz.func245 Tryz.results245 (fun g0 B0 Q ρ0 R => ?_)
 refine en tOK 0 1 [] ?_
 refine sn tOK 0 4 [] ?_
 refine sr 0 R ?_
 rfl
set_option maxRecDepth 100000 in
theorem vtwo4_ok {a b : Int} : Fc Tryz.prog gT 246 [nI a, nI b] (bS (decide (a < b))) := by
 refine fb tOK (fn := Tryz.f246) 8 [.tmp 4] Tryz.func246 Tryz.results246 (fun g0 B0 Q ρ0 R => ?_)
 refine en tOK 0 1 [] ?_
 refine sn tOK 0 4 [] ?_
 refine sr 0 R ?_
 rfl
set_option maxRecDepth 100000 in
theorem vtwo5_ok {a b : Int} : Fc Tryz.prog gT 247 [nI a, nI b] (bS (decide (a ≤ b))) := by
 refine fb tOK (fn := Tryz.f247) 8 [.tmp 4] Tryz.func247 Tryz.results247 (fun g0 B0 Q ρ0 R => ?_)
 refine en tOK 0 1 [] ?_
 refine sn tOK 0 4 [] ?_
 refine sr 0 R ?_
 rfl
set_option maxRecDepth 100000 in
theorem vtwo6_ok {a b : Int} : Fc Tryz.prog gT 248 [nI a, nI b] (bS (decide (b < a))) := by
 refine fb tOK (fn := Tryz.f248) 8 [.tmp 4] Tryz.func248 Tryz.results248 (fun g0 B0 Q ρ0 R => ?_)
 refine en tOK 0 1 [] ?_
 refine sn tOK 0 4 [] ?_
 refine sr 0 R ?_
 rfl
set_option maxRecDepth 100000 in
theorem vtwo7_ok {a b : Int} : Fc Tryz.prog gT 249 [nI a, nI b] (bS (decide (b ≤ a))) := by
 refine fb tOK (fn := Tryz.f249) 8 [.tmp 4] Tryz.func249 Tryz.results249 (fun g0 B0 Q ρ0 R => ?_)
 refine en tOK 0 1 [] ?_
 refine sn tOK 0 4 [] ?_
 refine sr 0 R ?_
 rfl
set_option maxRecDepth 100000 in
theorem vtwo8_ok {a b : Val} : Fc Tryz.prog gT 250 [vS a, vS b] (vS (truthV (trueV a && trueV b))) := by
 refine fb tOK (fn := Tryz.f250) 12 [.cell 4 26] Tryz.func250 Tryz.results250 (fun g0 B0 Q ρ0 R => ?_)
 refine en tOK 0 3 [] ?_
 refine sn tOK 0 1 [] ?_
 refine fc tOK 2 [] (vtrue_ok) ?_
 refine fg tOK 1 [] (fun hg => vtrue_ok) ?_
 refine fc tOK 1 [] (vtruth_ok) ?_
 refine sr 0 R ?_
 rfl
set_option maxRecDepth 100000 in
theorem vtwo9_ok {a b : Val} : Fc Tryz.prog gT 251 [vS a, vS b] (vS (truthV (trueV a || trueV b))) := by
 refine fb tOK (fn := Tryz.f251) 12 [.cell 4 26] Tryz.func251 Tryz.results251 (fun g0 B0 Q ρ0 R => ?_)
 refine en tOK 0 3 [] ?_
 refine sn tOK 0 1 [] ?_
 refine fc tOK 2 [] (vtrue_ok) ?_
 refine fg tOK 1 [] (fun hg => vtrue_ok) ?_
 refine fc tOK 1 [] (vtruth_ok) ?_
 refine sr 0 R ?_
 rfl
end Go.Proofs.YtomkgfdigldhcaaGreatDoor
namespace Go.Proofs.YtomkgfdigldhcaaGreatDoor
open Go.KX
set_option maxRecDepth 100000 in
theorem val_eq {w : World} (a b : Val) : (Op.eqFields 9999 #[.int .i64 a.k, .int .i64 a.n] #[.int .i64 b.k, .int .i64 b.n] (match Tryz.prog.underlying 26 with | some (.struct fl) => fl | _ => #[]).toList).run Tryz.prog w = .ok (decide (a = b)) w := by
  rw [Tryz.underlying26]
  dsimp only
  rw [eqF_int (by decide) Tryz.underlying3 rfl rfl, eqF_int (by decide) Tryz.underlying2 rfl rfl]
  obtain ⟨k, n⟩ := a
  obtain ⟨k2, n2⟩ := b
  by_cases h1 : k = k2 <;> by_cases h2 : n = n2 <;> simp [h1, h2, Op.eqFields]
set_option maxRecDepth 100000 in
theorem vadd_ok {a b : Val} (ha : isV a = true) (hb : isV b = true) : Fc Tryz.prog gT 237 [vS a, vS b] (vS (addV a b)) := by
 refine fb tOK (fn := Tryz.f237) 38 [.cell 4 26] Tryz.func237 Tryz.results237 (fun g0 B0 Q ρ0 R => ?_)
 have a1 := isV_n ha
 have b1 := isV_n hb
 refine en tOK 0 3 [] ?_
 refine sn tOK 0 1 [] ?_
 refine fc tOK 2 [] (vfin_ok) ?_
 refine fg tOK 2 [] (fun hg => vfin_ok) ?_
 refine sib 0 rfl rfl (fun h5 => ?_) (fun h5 => ?_)
 ·have e : addV a b = numV (a.n + b.n) := by unfold addV; rw [if_pos (by simpa [finV] using h5)]
  refine en tOK 0 5 [] ?_
  refine fc tOK 1 [] (vnum_ok) ?_
  refine sr 0 R ?_
  rw [e]; rfl
 ·refine en tOK 0 1 [] ?_
  refine fc tOK 3 [] (vfin_ok) ?_
  refine fg tOK 5 [] (fun hg => vfin_ok) ?_
  refine sq tOK 2 [] true (b := decide (a = b)) Tryz.underlying26 (by kernel_rfl) (fun w => val_eq _ _) ?_
  refine sib 0 rfl rfl (fun h18 => ?_) (fun h18 => ?_)
  ·have e : addV a b = nanV := by unfold addV; rw [if_neg (by simpa [finV] using h5), if_pos (by simpa [finV, and_assoc] using h18)]
   refine en tOK 0 0 [] ?_
   refine fc tOK 1 [] (vnan_ok) ?_
   refine sr 0 R ?_
   rw [e]; rfl
  ·refine en tOK 0 1 [] ?_
   refine fc tOK 1 [] (vfin_ok) ?_
   refine sib 0 rfl rfl (fun h33 => ?_) (fun h33 => ?_)
   ·have e : addV a b = b := by unfold addV; rw [if_neg (by simpa [finV] using h5), if_neg (by simpa [finV, and_assoc] using h18), if_pos (by simpa [finV] using h33)]
    refine en tOK 0 2 [] ?_
    refine sr 0 R ?_
    rw [e]; rfl
   ·have e : addV a b = a := by unfold addV; rw [if_neg (by simpa [finV] using h5), if_neg (by simpa [finV, and_assoc] using h18), if_neg (by simpa [finV] using h33)]
    refine en tOK 0 2 [] ?_
    refine sr 0 R ?_
    rw [e]; rfl
set_option maxRecDepth 100000 in
theorem vdiv_ok {a b : Val} (ha : isV a = true) (hb : isV b = true) : Fc Tryz.prog gT 242 [vS a, vS b] (vS (divV a b)) := by
 refine fb tOK (fn := Tryz.f242) 52 [.cell 4 26] Tryz.func242 Tryz.results242 (fun g0 B0 Q ρ0 R => ?_)
 have a1 := isV_n ha
 have b1 := isV_n hb
 have a2 := rank_in ha
 refine en tOK 0 3 [] ?_
 refine sn tOK 0 1 [] ?_
 refine fc tOK 3 [] (vfin_ok) ?_
 refine fg tOK 3 [] (fun hg => vfin_ok) ?_
 refine sib 0 rfl rfl (fun h5 => ?_) (fun h5 => ?_)
 ·have e : divV a b = nanV := by unfold divV; rw [if_pos (by simpa [finV] using h5)]
  refine en tOK 0 0 [] ?_
  refine fc tOK 1 [] (vnan_ok) ?_
  refine sr 0 R ?_
  first | (rw [e]; rfl) | (simp only [hq]; rw [e]; rfl)
 ·refine en tOK 0 1 [] ?_
  refine fc tOK 2 [] (vfin_ok) ?_
  refine sib 0 rfl rfl (fun h15 => ?_) (fun h15 => ?_)
  ·have e : divV a b = numV 0 := by unfold divV; rw [if_neg (by simpa [finV] using h5), if_pos (by simpa [finV] using h15)]
   refine en tOK 0 0 [] ?_
   refine fc tOK 1 [] (vnum_ok) ?_
   refine sr 0 R ?_
   first | (rw [e]; rfl) | (simp only [hq]; rw [e]; rfl)
  ·refine en tOK 0 1 [] ?_
   refine fc tOK 7 [] (vfin_ok) ?_
   refine sib 0 rfl rfl (fun h20 => ?_) (fun h20 => ?_)
   ·have e : divV a b = numV (-rankV a) := by unfold divV; rw [if_neg (by simpa [finV] using h5), if_neg (by simpa [finV] using h15), if_pos (by simpa [finV] using h20)]
    rw [← Int.zero_sub] at e
    refine en tOK 0 1 [] ?_
    refine fc tOK 1 [] (vrank_ok) ?_
    refine fc tOK 1 [] (vback_ok) ?_
    refine sr 0 R ?_
    first | (rw [e]; rfl) | (simp only [hq]; rw [e]; rfl)
   ·refine en tOK 0 1 [] ?_
    refine fc tOK 2 [] (vfin_ok) ?_
    refine sib 0 rfl rfl (fun h33 => ?_) (fun h33 => ?_)
    ·have e : divV a b = a := by unfold divV; rw [if_neg (by simpa [finV] using h5), if_neg (by simpa [finV] using h15), if_neg (by simpa [finV] using h20), if_pos (by simpa [finV] using h33)]
     refine en tOK 0 2 [] ?_
     refine sr 0 R ?_
     first | (rw [e]; rfl) | (simp only [hq]; rw [e]; rfl)
    ·refine en tOK 0 4 [] ?_
     refine si 0 rfl rfl (fun h38 => ?_) (fun h38 => ?_)
     ·have e : divV a b = infV a.n := by unfold divV; rw [if_neg (by simpa [finV] using h5), if_neg (by simpa [finV] using h15), if_neg (by simpa [finV] using h20), if_neg (by simpa [finV] using h33), if_pos h38]
      refine en tOK 0 2 [] ?_
      refine fc tOK 1 [] (vinf_ok) ?_
      refine sr 0 R ?_
      first | (rw [e]; rfl) | (simp only [hq]; rw [e]; rfl)
     ·have e : divV a b = numV ((a.n * 1000).tdiv b.n) := by unfold divV; rw [if_neg (by simpa [finV] using h5), if_neg (by simpa [finV] using h15), if_neg (by simpa [finV] using h20), if_neg (by simpa [finV] using h33), if_neg h38]
      have hq := quo_in (a := a.n * 1000) (b := b.n) (by omega) (by omega)
      refine en tOK 0 6 [] ?_
      refine fc tOK 1 [] (vnum_ok) ?_
      refine sr 0 R ?_
      first | (rw [e]; rfl) | (simp only [hq]; rw [e]; rfl)
set_option maxRecDepth 100000 in
theorem vtwo1_ok {a b : Val} (ha : isV a = true) (hb : isV b = true) : Fc Tryz.prog gT 238 [vS a, vS b] (vS (addV a (negV b))) := by
 refine fb tOK (fn := Tryz.f238) 11 [.cell 4 26] Tryz.func238 Tryz.results238 (fun g0 B0 Q ρ0 R => ?_)
 have b2 := rank_in hb
 refine en tOK 0 3 [] ?_
 refine sdr 0 64 [0, 0, 2, 6, 14, 31, 63] [0, 1, 2, 3, 4, 5, 6] ?_
 refine xd tOK 2 [] ?_
 refine dc tOK 1 [] (vrank_ok) ?_
 refine dc tOK 0 [] (vback_ok) ?_
 refine dc tOK 1 [] (vadd_ok ha (isV_num _)) ?_
 refine xe ?_
 refine sr 0 R ?_
 unfold negV; rw [← Int.zero_sub]; rfl
end Go.Proofs.YtomkgfdigldhcaaGreatDoor
namespace Go.Proofs.YtomkgfdigldhcaaGreatDoor
open Go.KX
set_option maxRecDepth 100000 in
theorem rnull_ok  : Fc Tryz.prog gT 84 [] (vS nullV) := by
 refine fb tOK (fn := Tryz.f84) 2 [.cell 0 26] Tryz.func84 Tryz.results84 (fun g0 B0 Q ρ0 R => ?_)
 refine en tOK 0 1 [] ?_
 refine sn tOK 0 2 [] ?_
 refine sr 0 R ?_
 rfl
set_option maxRecDepth 100000 in
theorem rnan_ok  : Fc Tryz.prog gT 192 [] (vS nanV) := by
 refine fb tOK (fn := Tryz.f192) 2 [.cell 0 26] Tryz.func192 Tryz.results192 (fun g0 B0 Q ρ0 R => ?_)
 refine en tOK 0 1 [] ?_
 refine sn tOK 0 2 [] ?_
 refine sr 0 R ?_
 rfl
set_option maxRecDepth 100000 in
theorem rplus_ok  : Fc Tryz.prog gT 90 [] (vS plusV) := by
 refine fb tOK (fn := Tryz.f90) 2 [.cell 0 26] Tryz.func90 Tryz.results90 (fun g0 B0 Q ρ0 R => ?_)
 refine en tOK 0 1 [] ?_
 refine sn tOK 0 2 [] ?_
 refine sr 0 R ?_
 rfl
set_option maxRecDepth 100000 in
theorem rminus_ok  : Fc Tryz.prog gT 91 [] (vS minusV) := by
 refine fb tOK (fn := Tryz.f91) 2 [.cell 0 26] Tryz.func91 Tryz.results91 (fun g0 B0 Q ρ0 R => ?_)
 refine en tOK 0 1 [] ?_
 refine sn tOK 0 2 [] ?_
 refine sr 0 R ?_
 rfl
set_option maxRecDepth 100000 in
theorem rnum_ok {n : Int} : Fc Tryz.prog gT 46 [nI n] (vS (numV n)) := by
 refine fb tOK (fn := Tryz.f46) 11 [.cell 2 26] Tryz.func46 Tryz.results46 (fun g0 B0 Q ρ0 R => ?_)
 refine en tOK 0 1 [] ?_
 refine sn tOK 0 2 [] ?_
 refine si 0 rfl rfl (fun h4 => ?_) (fun h4 => ?_)
 ·have e : numV n = plusV := by unfold numV; rw [if_pos h4]
  refine en tOK 0 0 [] ?_
  refine fc tOK 1 [] (rplus_ok) ?_
  refine sr 0 R ?_
  rw [e]; rfl
 ·refine en tOK 0 2 [] ?_
  refine si 0 rfl rfl (fun h7 => ?_) (fun h7 => ?_)
  ·have e : numV n = minusV := by unfold numV; rw [if_neg h4, if_pos h7]
   refine en tOK 0 0 [] ?_
   refine fc tOK 1 [] (rminus_ok) ?_
   refine sr 0 R ?_
   rw [e]; rfl
  ·have e : numV n = ⟨1, n⟩ := by unfold numV; rw [if_neg h4, if_neg h7]
   refine en tOK 0 3 [] ?_
   refine sr 0 R ?_
   rw [e]; rfl
set_option maxRecDepth 100000 in
theorem rtruth_ok {b : Bool} : Fc Tryz.prog gT 187 [.v (.bool b)] (vS (truthV b)) := by
 refine fb tOK (fn := Tryz.f187) 6 [.cell 2 26] Tryz.func187 Tryz.results187 (fun g0 B0 Q ρ0 R => ?_)
 refine en tOK 0 1 [] ?_
 refine sn tOK 0 1 [] ?_
 refine sib 0 rfl rfl (fun h3 => ?_) (fun h3 => ?_)
 ·refine en tOK 0 0 [] ?_
  refine fc tOK 1 [] (rnum_ok) ?_
  refine sr 0 R ?_
  rw [h3]; rfl
 ·refine en tOK 0 0 [] ?_
  refine fc tOK 1 [] (rnum_ok) ?_
  refine sr 0 R ?_
  rw [h3]; rfl
set_option maxRecDepth 100000 in
theorem rfin_ok {v : Val} : Fc Tryz.prog gT 188 [vS v] (SV.v (.bool (decide (v.k = 1)))) := by
 refine fb tOK (fn := Tryz.f188) 6 [.tmp 2] Tryz.func188 Tryz.results188 (fun g0 B0 Q ρ0 R => ?_)
 refine en tOK 0 2 [] ?_
 refine sn tOK 0 4 [] ?_
 refine sr 0 R ?_
 rfl
set_option maxRecDepth 100000 in
theorem rsign_ok {v : Val} : Fc Tryz.prog gT 189 [vS v] (nI (signR v)) := by
 refine fb tOK (fn := Tryz.f189) 21 [.tmp 2] Tryz.func189 Tryz.results189 (fun g0 B0 Q ρ0 R => ?_)
 refine en tOK 0 2 [] ?_
 refine sn tOK 0 9 [] ?_
 refine sib 0 rfl rfl (fun h3 => ?_) (fun h3 => ?_)
 ·have e : signR v = 1 := by unfold signR; rw [if_pos (by simpa using h3)]
  refine en tOK 0 1 [] ?_
  refine sr 0 R ?_
  rw [e]; rfl
 ·refine en tOK 0 9 [] ?_
  refine sib 0 rfl rfl (fun h12 => ?_) (fun h12 => ?_)
  ·have e : signR v = -1 := by unfold signR; rw [if_neg (by simpa using h3), if_pos (by simpa using h12)]
   refine en tOK 0 1 [] ?_
   refine sr 0 R ?_
   rw [e]; rfl
  ·have e : signR v = 0 := by unfold signR; rw [if_neg (by simpa using h3), if_neg (by simpa using h12)]
   refine en tOK 0 1 [] ?_
   refine sr 0 R ?_
   rw [e]; rfl
set_option maxRecDepth 100000 in
theorem rbeyond_ok {s : Int} : Fc Tryz.prog gT 272 [nI s] (vS (beyondR s)) := by
 refine fb tOK (fn := Tryz.f272) 12 [.cell 2 26] Tryz.func272 Tryz.results272 (fun g0 B0 Q ρ0 R => ?_)
 refine en tOK 0 1 [] ?_
 refine sn tOK 0 3 [] ?_
 refine si 0 rfl rfl (fun h3 => ?_) (fun h3 => ?_)
 ·have e : beyondR s = plusV := by unfold beyondR; rw [if_pos h3]
  refine en tOK 0 0 [] ?_
  refine fc tOK 1 [] (rplus_ok) ?_
  refine sr 0 R ?_
  rw [e]; rfl
 ·refine en tOK 0 3 [] ?_
  refine si 0 rfl rfl (fun h7 => ?_) (fun h7 => ?_)
  ·have e : beyondR s = minusV := by unfold beyondR; rw [if_neg h3, if_pos h7]
   refine en tOK 0 0 [] ?_
   refine fc tOK 1 [] (rminus_ok) ?_
   refine sr 0 R ?_
   rw [e]; rfl
  ·have e : beyondR s = nanV := by unfold beyondR; rw [if_neg h3, if_neg h7]
   refine en tOK 0 0 [] ?_
   refine fc tOK 1 [] (rnan_ok) ?_
   refine sr 0 R ?_
   rw [e]; rfl
set_option maxRecDepth 100000 in
theorem rturned_ok {v : Val} (hv : -1000000000000001 ≤ v.n ∧ v.n ≤ 1000000000000001) : Fc Tryz.prog gT 190 [vS v] (vS (turnedR v)) := by
 refine fb tOK (fn := Tryz.f190) 16 [.cell 2 26] Tryz.func190 Tryz.results190 (fun g0 B0 Q ρ0 R => ?_)
 refine en tOK 0 2 [] ?_
 refine sn tOK 0 2 [] ?_
 refine sn tOK 0 2 [] ?_
 refine si 0 rfl rfl (fun h5 => ?_) (fun h5 => ?_)
 ·have e : turnedR v = minusV := by unfold turnedR; rw [if_pos h5]
  refine en tOK 0 0 [] ?_
  refine fc tOK 1 [] (rminus_ok) ?_
  refine sr 0 R ?_
  rw [e]; rfl
 ·refine en tOK 0 2 [] ?_
  refine si 0 rfl rfl (fun h8 => ?_) (fun h8 => ?_)
  ·have e : turnedR v = plusV := by unfold turnedR; rw [if_neg h5, if_pos h8]
   refine en tOK 0 0 [] ?_
   refine fc tOK 1 [] (rplus_ok) ?_
   refine sr 0 R ?_
   rw [e]; rfl
  ·have e : turnedR v = ⟨v.k, 0 - v.n⟩ := by unfold turnedR; rw [if_neg h5, if_neg h8, Int.zero_sub]
   refine en tOK 0 5 [] ?_
   refine sn tOK 0 2 [] ?_
   refine sr 0 R ?_
   rw [e]; rfl
set_option maxRecDepth 100000 in
theorem rsize_ok {n : Int} (h0 : -1000000000000001 ≤ n ∧ n ≤ 1000000000000001) : Fc Tryz.prog gT 273 [nI n] (nI (sizeR n)) := by
 refine fb tOK (fn := Tryz.f273) 8 [.tmp 2] Tryz.func273 Tryz.results273 (fun g0 B0 Q ρ0 R => ?_)
 refine en tOK 0 1 [] ?_
 refine sn tOK 0 2 [] ?_
 refine si 0 rfl rfl (fun h4 => ?_) (fun h4 => ?_)
 ·have e : sizeR n = 0 - n := by unfold sizeR; rw [if_pos h4, Int.zero_sub]
  refine en tOK 0 3 [] ?_
  refine sr 0 R ?_
  rw [e]; rfl
 ·have e : sizeR n = n := by unfold sizeR; rw [if_neg h4]
  refine en tOK 0 2 [] ?_
  refine sr 0 R ?_
  rw [e]; rfl
set_option maxRecDepth 100000 in
theorem ris_ok {v : Val} : Fc Tryz.prog gT 48 [vS v] (SV.v (.bool (isV v))) := by
 refine fb tOK (fn := Tryz.f48) 27 [.tmp 2] Tryz.func48 Tryz.results48 (fun g0 B0 Q ρ0 R => ?_)
 refine en tOK 0 2 [] ?_
 refine sn tOK 0 3 [] ?_
 refine si 0 rfl rfl (fun h5 => ?_) (fun h5 => ?_)
 ·have e : isV v = (decide (-1000000000000000 ≤ v.n) && decide (v.n ≤ 1000000000000000)) := by unfold isV; rw [if_pos h5, Bool.decide_and]
  refine en tOK 0 9 [] ?_
  refine sr 0 R ?_
  rw [e]; rfl
 ·have e : isV v = (decide (2 ≤ v.k) && decide (v.k ≤ 5) && decide (v.n = 0)) := by unfold isV; rw [if_neg h5]; simp [Bool.and_assoc]
  refine en tOK 0 14 [] ?_
  refine sr 0 R ?_
  rw [e]; rfl
set_option maxRecDepth 100000 in
theorem rtrue_ok {v : Val} : Fc Tryz.prog gT 49 [vS v] (SV.v (.bool (trueR v))) := by
 refine fb tOK (fn := Tryz.f49) 26 [.tmp 2] Tryz.func49 Tryz.results49 (fun g0 B0 Q ρ0 R => ?_)
 refine en tOK 0 2 [] ?_
 refine sn tOK 0 24 [] ?_
 refine sr 0 R ?_
 simp [resVS, trueR, Bool.or_assoc]
set_option maxRecDepth 100000 in
theorem rless_ok {a b : Val} : Fc Tryz.prog gT 191 [vS a, vS b] (SV.v (.bool (lessR a b))) := by
 refine fb tOK (fn := Tryz.f191) 31 [.tmp 4] Tryz.func191 Tryz.results191 (fun g0 B0 Q ρ0 R => ?_)
 refine en tOK 0 3 [] ?_
 refine sn tOK 0 1 [] ?_
 refine fc tOK 2 [] (rfin_ok) ?_
 refine fg tOK 2 [] (fun hg => rfin_ok) ?_
 refine sib 0 rfl rfl (fun h5 => ?_) (fun h5 => ?_)
 ·have e : lessR a b = decide (a.n < b.n) := by unfold lessR; rw [if_pos (by simpa using h5)]
  refine en tOK 0 6 [] ?_
  refine sr 0 R ?_
  rw [e]; rfl
 ·refine en tOK 0 6 [] ?_
  refine si 0 rfl rfl (fun h17 => ?_) (fun h17 => ?_)
  ·have e : lessR a b = false := by unfold lessR; rw [if_neg (by simpa using h5), if_pos h17]
   refine en tOK 0 1 [] ?_
   refine sr 0 R ?_
   rw [e]; rfl
  ·have e : lessR a b = (decide (a.k = 5) || decide (b.k = 4)) := by unfold lessR; rw [if_neg (by simpa using h5), if_neg h17]; simp
   refine en tOK 0 9 [] ?_
   refine sr 0 R ?_
   rw [e]; rfl
set_option maxRecDepth 100000 in
theorem radd_ok {a b : Val} (ha : -1000000000000001 ≤ a.n ∧ a.n ≤ 1000000000000001) (hb : -1000000000000001 ≤ b.n ∧ b.n ≤ 1000000000000001) : Fc Tryz.prog gT 193 [vS a, vS b] (vS (addR a b)) := by
 refine fb tOK (fn := Tryz.f193) 32 [.cell 4 26] Tryz.func193 Tryz.results193 (fun g0 B0 Q ρ0 R => ?_)
 refine en tOK 0 3 [] ?_
 refine sn tOK 0 1 [] ?_
 refine fc tOK 2 [] (rfin_ok) ?_
 refine fg tOK 2 [] (fun hg => rfin_ok) ?_
 refine sib 0 rfl rfl (fun h5 => ?_) (fun h5 => ?_)
 ·have e : addR a b = numV (a.n + b.n) := by unfold addR; rw [if_pos (by simpa using h5)]
  refine en tOK 0 5 [] ?_
  refine fc tOK 1 [] (rnum_ok) ?_
  refine sr 0 R ?_
  rw [e]; rfl
 ·refine en tOK 0 1 [] ?_
  refine fc tOK 1 [] (rfin_ok) ?_
  refine sib 0 rfl rfl (fun h18 => ?_) (fun h18 => ?_)
  ·have e : addR a b = b := by unfold addR; rw [if_neg (by simpa using h5), if_pos (by simpa using h18)]
   refine en tOK 0 2 [] ?_
   refine sr 0 R ?_
   rw [e]; rfl
  ·refine en tOK 0 1 [] ?_
   refine fc tOK 3 [] (rfin_ok) ?_
   refine sq tOK 2 [] false (b := decide (a = b)) Tryz.underlying26 (by kernel_rfl) (fun w => val_eq _ _) ?_
   refine sib 0 rfl rfl (fun h22 => ?_) (fun h22 => ?_)
   ·have e : addR a b = a := by unfold addR; rw [if_neg (by simpa using h5), if_neg (by simpa using h18), if_pos (by simpa using h22)]
    refine en tOK 0 2 [] ?_
    refine sr 0 R ?_
    rw [e]; rfl
   ·have e : addR a b = nanV := by unfold addR; rw [if_neg (by simpa using h5), if_neg (by simpa using h18), if_neg (by simpa using h22)]
    refine en tOK 0 0 [] ?_
    refine fc tOK 1 [] (rnan_ok) ?_
    refine sr 0 R ?_
    rw [e]; rfl
set_option maxRecDepth 100000 in
theorem rover_ok {a b : Val} (ha : -1000000000000000 ≤ a.n ∧ a.n ≤ 1000000000000000) (_hb : -1000000000000000 ≤ b.n ∧ b.n ≤ 1000000000000000) : Fc Tryz.prog gT 195 [vS a, vS b] (vS (overR a b)) := by
 refine fb tOK (fn := Tryz.f195) 53 [.cell 4 26] Tryz.func195 Tryz.results195 (fun g0 B0 Q ρ0 R => ?_)
 refine en tOK 0 3 [] ?_
 refine sn tOK 0 1 [] ?_
 refine fc tOK 2 [] (rfin_ok) ?_
 refine fg tOK 7 [] (fun hg => rfin_ok) ?_
 refine sib 0 rfl rfl (fun h5 => ?_) (fun h5 => ?_)
 ·have e : overR a b = beyondR (signR a) := by unfold overR; rw [if_pos (by simpa [and_assoc] using h5)]
  refine en tOK 0 1 [] ?_
  refine fc tOK 0 [] (rsign_ok) ?_
  refine fc tOK 1 [] (rbeyond_ok) ?_
  refine sr 0 R ?_
  rw [e]; rfl
 ·refine en tOK 0 1 [] ?_
  refine fc tOK 2 [] (rfin_ok) ?_
  refine fg tOK 2 [] (fun hg => rfin_ok) ?_
  refine sib 0 rfl rfl (fun h20 => ?_) (fun h20 => ?_)
  ·have hz : b.n ≠ 0 := fun h => by simp at h5 h20; exact h5 h20.1 h20.2 h
   have hq := quo_in (a := a.n * 1000) (b := b.n) (by omega) (by omega)
   have e : overR a b = numV ((a.n * 1000).tdiv b.n) := by unfold overR; rw [if_neg (by simpa [and_assoc] using h5), if_pos (by simpa using h20)]
   refine en tOK 0 6 [] ?_
   refine fc tOK 1 [] (rnum_ok) ?_
   refine sr 0 R ?_
   simp only [hq]; rw [e]; rfl
  ·refine en tOK 0 1 [] ?_
   refine fc tOK 1 [] (rfin_ok) ?_
   refine sib 0 rfl rfl (fun h34 => ?_) (fun h34 => ?_)
   ·have e : overR a b = numV 0 := by unfold overR; rw [if_neg (by simpa [and_assoc] using h5), if_neg (by simpa using h20), if_pos (by simpa using h34)]
    refine en tOK 0 0 [] ?_
    refine fc tOK 1 [] (rnum_ok) ?_
    refine sr 0 R ?_
    rw [e]; rfl
   ·refine en tOK 0 1 [] ?_
    refine fc tOK 6 [] (rfin_ok) ?_
    refine sib 0 rfl rfl (fun h38 => ?_) (fun h38 => ?_)
    ·have e : overR a b = turnedR a := by unfold overR; rw [if_neg (by simpa [and_assoc] using h5), if_neg (by simpa using h20), if_neg (by simpa using h34), if_pos (by simpa using h38)]
     refine en tOK 0 1 [] ?_
     refine fc tOK 1 [] (rturned_ok (v := a) (by omega)) ?_
     refine sr 0 R ?_
     rw [e]; rfl
    ·refine en tOK 0 1 [] ?_
     refine fc tOK 1 [] (rfin_ok) ?_
     refine sib 0 rfl rfl (fun h48 => ?_) (fun h48 => ?_)
     ·have e : overR a b = a := by unfold overR; rw [if_neg (by simpa [and_assoc] using h5), if_neg (by simpa using h20), if_neg (by simpa using h34), if_neg (by simpa using h38), if_pos (by simpa using h48)]
      refine en tOK 0 2 [] ?_
      refine sr 0 R ?_
      rw [e]; rfl
     ·have e : overR a b = nanV := by unfold overR; rw [if_neg (by simpa [and_assoc] using h5), if_neg (by simpa using h20), if_neg (by simpa using h34), if_neg (by simpa using h38), if_neg (by simpa using h48)]
      refine en tOK 0 0 [] ?_
      refine fc tOK 1 [] (rnan_ok) ?_
      refine sr 0 R ?_
      rw [e]; rfl
set_option maxRecDepth 100000 in
theorem rcheck_ok {l : List Val} : Fc Tryz.prog gT 23 [rV l] (nI (if l.all isV then 0 else 80)) := by
 refine fb tOK (fn := Tryz.f23) 16 [.tmp 2] Tryz.func23 Tryz.results23 (fun g0 B0 Q ρ0 R => ?_)
 refine en tOK 0 1 [] ?_
 refine sn tOK 0 1 [] ?_
 refine sl 0 ?_
 refine E_loop (σ := Nat) (fun j => j ≤ l.length ∧ ∀ x ∈ l.take j, isV x = true) (fun j => l.length - j)
   (fun j => [(0, rV l), (2, nI 0), (3, nI j)])
   (fun j => []) 0 ?_ ?_
 ·exact ⟨Nat.zero_le _, by simp⟩
 ·rintro J j ⟨hj0, hj1⟩ hJ
  refine elen 0 rfl (fun hl => ?_)
  simp only [List.length_map] at hl
  refine en tOK 0 4 [] ?_
  refine si 0 rfl rfl (fun h7 => ?_) (fun h7 => ?_)
  ·have hj : j < l.length := by simpa using h7
   refine en tOK 0 4 [[nI l[j].k, nI l[j].n]] ?_ (hφ := by exact ⟨by omega, row_at _ hj⟩)
   refine fc tOK 1 [] (ris_ok) ?_
   refine sib 0 rfl rfl (fun h15 => ?_) (fun h15 => ?_)
   ·have e : ¬ l.all isV = true := fun h => by have := List.all_eq_true.1 h l[j] (List.getElem_mem hj); simp [this] at h15
    refine en tOK 0 1 [] ?_
    refine sr 0 R ?_
    first | (rw [if_pos e]; rfl) | (rw [if_neg e]; rfl)
   ·have hx : isV l[j] = true := by simpa using h15
    refine en tOK 0 3 [] ?_
    exact hJ (j + 1) ⟨by omega, take_next hj hj1 hx⟩ (by omega)
  ·have e : l.all isV = true := List.all_eq_true.2 fun x hx => hj1 x (by rw [List.take_of_length_le (by have := h7; simp at this; omega)]; exact hx)
   refine en tOK 0 1 [] ?_
   refine sr 0 R ?_
   first | (rw [if_pos e]; rfl) | (rw [if_neg e]; rfl)
set_option maxRecDepth 100000 in
theorem rtimes_ok {a b : Val} (ha : -1000000000000000 ≤ a.n ∧ a.n ≤ 1000000000000000) (hb : -1000000000000000 ≤ b.n ∧ b.n ≤ 1000000000000000) : Fc Tryz.prog gT 194 [vS a, vS b] (vS (timesR a b)) := by
 refine fb tOK (fn := Tryz.f194) 56 [.cell 4 26] Tryz.func194 Tryz.results194 (fun g0 B0 Q ρ0 R => ?_)
 have hs := sgnR_mul a b
 have sa := sizeR_in ha
 have sb := sizeR_in hb
 refine en tOK 0 3 [] ?_
 refine sdr 0 0 [0, 1, 0, 7, 15, 31] [0, 1, 2, 3, 4, 5] ?_
 refine xd tOK 1 [] ?_
 refine dc tOK 1 [] (rsign_ok) ?_
 refine dc tOK 2 [] (rsign_ok) ?_
 refine xe ?_
 refine sn tOK 0 1 [] ?_
 refine fc tOK 3 [] (rfin_ok) ?_
 refine fg tOK 2 [] (fun hg => rfin_ok) ?_
 refine sib 0 rfl rfl (fun h22 => ?_) (fun h22 => ?_)
 ·have e : timesR a b = beyondR (signR a * signR b) := by unfold timesR; rw [if_pos (by simpa using h22)]
  refine en tOK 0 1 [] ?_
  refine fc tOK 1 [] (rbeyond_ok) ?_
  refine sr 0 R ?_
  first | (rw [e]; rfl) | (simp only [hq2]; rw [e]; rfl)
 ·have hx := times_in sa sb
  have hq1 : IntKind.wrap .i64 ((1000000000000000 : Int).tdiv ((sizeR a.n).tdiv 1000)) = (1000000000000000 : Int).tdiv ((sizeR a.n).tdiv 1000) := quo_in (by omega) (by omega)
  refine edr 0 0 [0, 1, 3, 0, 8, 31, 63, 127] [0, 1, 2, 3, 4, 5, 6, 7] ?_
  refine xd tOK 2 [] ?_
  refine dc tOK 2 [] (rsize_ok (n := a.n) (by omega)) ?_
  refine dc tOK 2 [] (rsize_ok (n := b.n) (by omega)) ?_
  refine xe ?_
  refine sn tOK 0 6 [] ?_
  refine sas 8 rfl (v' := nI ((sizeR a.n).tdiv 1000)) ?_ ?_
  ·rw [hx.1]
  refine sn tOK 0 8 [] ?_
  refine sib 0 rfl rfl (fun h42 => ?_) (fun h42 => ?_)
  ·have e : timesR a b = beyondR (signR a * signR b) := by unfold timesR; rw [if_neg (by simpa using h22), if_pos (by have := h42; rw [hq1] at this; simpa using this)]
   refine en tOK 0 1 [] ?_
   refine fc tOK 1 [] (rbeyond_ok) ?_
   refine sr 0 R ?_
   first | (rw [e]; rfl) | (simp only [hq2]; rw [e]; rfl)
  ·have h42' : ¬ (0 < (sizeR a.n).tdiv 1000 ∧ (1000000000000000 : Int).tdiv ((sizeR a.n).tdiv 1000) < sizeR b.n) := by have := h42; rw [hq1] at this; simpa using this
   have hy := times_small sa sb h42'
   have hq2 := quo_in (a := (sizeR a.n).tmod 1000 * sizeR b.n) (b := 1000) (by omega) (by omega)
   have hz := sgn_timesI hs hy.2.2
   have e : timesR a b = numV (signR a * signR b * ((sizeR a.n).tdiv 1000 * sizeR b.n + ((sizeR a.n).tmod 1000 * sizeR b.n).tdiv 1000)) := by unfold timesR; rw [if_neg (by simpa using h22), if_neg h42']
   refine en tOK 0 10 [] ?_ (hφ := by simp only [hq2, conj, i64ok]; omega)
   refine fc tOK 1 [] (rnum_ok) ?_
   refine sr 0 R ?_
   first | (rw [e]; rfl) | (simp only [hq2]; rw [e]; rfl)
end Go.Proofs.YtomkgfdigldhcaaGreatDoor
namespace Go.Proofs.YtomkgfdigldhcaaGreatDoor
open Go.KX
set_option maxRecDepth 100000 in
theorem div1000_ok {hi lo : Nat} (hh : hi < 1000) (hl : lo < 18446744073709551616) : Fc Tryz.prog gT 295 [nU hi, nU lo, nU 1000] (.t [nU (((hi * 18446744073709551616 + lo) / 1000 : Nat) : Int), nU (rem1000 hi lo)]) := by
 refine fb tOK (fn := Tryz.f295) 135 [.tmp 6, .tmp 7] Tryz.func295 Tryz.results295 (fun g0 B0 Q ρ0 R => ?_)
 obtain ⟨u, hu⟩ : ∃ u, u = hi * 18014398509481984 + lo / 1024 := ⟨_, rfl⟩
 obtain ⟨v, hv⟩ : ∃ v, v = lo % 1024 * 4194304 := ⟨_, rfl⟩
 obtain ⟨q1, hq1⟩ : ∃ q, q = u / 4194304000 := ⟨_, rfl⟩
 obtain ⟨r1, hr1⟩ : ∃ r, r = u % 4194304000 := ⟨_, rfl⟩
 obtain ⟨w, hw⟩ : ∃ w, w = r1 * 4294967296 + v := ⟨_, rfl⟩
 obtain ⟨q0, hq0⟩ : ∃ q, q = w / 4194304000 := ⟨_, rfl⟩
 obtain ⟨r0, hr0⟩ : ∃ r, r = w % 4194304000 := ⟨_, rfl⟩
 obtain ⟨b1, b0, bw, hQ⟩ := div_two hl hh hu hv (show u = 4194304000 * q1 + r1 by omega) (by omega) hw (show w = 4194304000 * q0 + r0 by omega) (by omega)
 have bu : u < 18014398509481984000 := by omega
 have hu0 : u = 4194304000 * q1 + r1 := by omega
 have hr1b : r1 < 4194304000 := by omega
 refine en tOK 0 2 [] ?_
 refine sn tOK 0 2 [] ?_
 refine si 0 rfl rfl (fun h20 => ?_) (fun h20 => ?_)
 ·exact absurd h20 (by decide)
 ·refine en tOK 0 3 [] ?_
  refine si 0 rfl rfl (fun h24 => ?_) (fun h24 => ?_)
  ·exact absurd h24 (by omega)
  ·refine en tOK 0 2 [] ?_
   refine si 0 rfl rfl (fun h27 => ?_) (fun h27 => ?_)
   ·have h0 : hi = 0 := by omega
    refine edr 0 0 [0, 0, 3, 0, 0, 24, 7, 127] [0, 1, 2, 3, 4, 5, 6, 7] ?_
    refine xd tOK 8 [] ?_
    refine xe ?_
    refine sr 0 R ?_
    rw [h0, rem1000, if_pos rfl]
    exact congrArg (fun x => SV.t [nU x, nU ((lo : Int).tmod 1000)]) (quo0_eq hl)
   ·have h0 : hi ≠ 0 := by omega
    refine en tOK 0 1 [] ?_
    refine fc tOK 2 [] (lz1000_ok) ?_
    refine sas 8 rfl (v' := nU 54) ?_ ?_
    ·exact rfl
    refine sn tOK 0 4 [] ?_
    refine sas 2 rfl (v' := nU 18014398509481984000) ?_ ?_
    ·exact rfl
    refine sn tOK 0 3 [] ?_
    refine sas 9 rfl (v' := nU 4194304000) ?_ ?_
    ·exact rfl
    refine sn tOK 0 3 [] ?_
    refine sas 10 rfl (v' := nU 0) ?_ ?_
    ·exact rfl
    refine sn tOK 0 9 [] ?_ (hφ := by exact ⟨⟨by decide, by decide⟩, ⟨by decide, by decide⟩⟩)
    refine sas 11 rfl (v' := nU u) ?_ ?_
    ·rw [hu]; exact congrArg nU (u_eq hh hl)
    refine sn tOK 0 4 [] ?_
    refine sas 12 rfl (v' := nU ((lo % 1024 * 18014398509481984 : Nat) : Int)) ?_ ?_
    ·exact congrArg nU (low_eq lo)
    refine sn tOK 0 3 [] ?_
    refine sas 13 rfl (v' := nU v) ?_ ?_
    ·rw [hv]; exact congrArg nU (mid_eq lo)
    refine sn tOK 0 3 [] ?_
    refine sas 14 rfl (v' := nU 0) ?_ ?_
    ·exact congrArg nU (mask_eq lo)
    refine sn tOK 0 4 [] ?_
    refine sas 15 rfl (v' := nU q1) ?_ ?_
    ·rw [hq1]; exact congrArg nU (quo_eq (by omega))
    refine sn tOK 0 6 [] ?_
    refine sl 0 ?_
    refine eas 16 rfl (v' := nU r1) ?_ ?_
    ·rw [hr1, hq1]; exact congrArg nU (rem_eq (by omega))
    refine E_loop (σ := Unit) (fun _ => True) (fun _ => 0)
      (fun _ => [(0, nU hi), (1, nU lo), (2, nU 18014398509481984000), (6, nU 0), (7, nU 0), (8, nU 54), (9, nU 4194304000), (10, nU 0), (11, nU u), (12, nU ((lo % 1024 * 18014398509481984 : Nat) : Int)), (13, nU v), (14, nU 0), (15, nU q1), (16, nU r1)])
      (fun _ => []) () ?_ ?_
    ·trivial
    ·rintro J _ _ hJ
     refine en tOK 0 12 [] ?_
     refine sib 0 rfl rfl (fun h78 => ?_) (fun h78 => ?_)
     ·exfalso
      simp only [Bool.or_eq_true, decide_eq_true_eq, IntKind.wrap_u64] at h78
      omega
     ·refine en tOK 0 9 [] ?_
      refine sas 17 rfl (v' := nU w) ?_ ?_
      ·exact congrArg nU (low_w hu0 hr1b hw bw)
      refine sn tOK 0 4 [] ?_
      refine sas 18 rfl (v' := nU q0) ?_ ?_
      ·rw [hq0]; exact congrArg nU (quo_eq (by omega))
      refine sn tOK 0 6 [] ?_
      refine sl 0 ?_
      refine eas 16 rfl (v' := nU r0) ?_ ?_
      ·rw [hr0, hq0]; exact congrArg nU (rem_eq (by omega))
      refine E_loop (σ := Unit) (fun _ => True) (fun _ => 0)
        (fun _ => [(0, nU hi), (1, nU lo), (2, nU 18014398509481984000), (6, nU 0), (7, nU 0), (8, nU 54), (9, nU 4194304000), (10, nU 0), (11, nU u), (12, nU ((lo % 1024 * 18014398509481984 : Nat) : Int)), (13, nU v), (14, nU 0), (15, nU q1), (17, nU w), (16, nU r0), (18, nU q0)])
        (fun _ => []) () ?_ ?_
      ·trivial
      ·rintro J _ _ hJ
       refine en tOK 0 12 [] ?_
       refine sib 0 rfl rfl (fun h113 => ?_) (fun h113 => ?_)
       ·exfalso
        simp only [Bool.or_eq_true, decide_eq_true_eq, IntKind.wrap_u64] at h113
        omega
       ·refine en tOK 0 16 [] ?_
        refine sr 0 R ?_
        exact t_eq (fin1 b1 b0 hQ) (fin2 h0 hu hv hr1 hw hq0 hr0)
set_option maxRecDepth 100000 in
theorem vmul_ok {a b : Val} (ha : isV a = true) (hb : isV b = true) : Fc Tryz.prog gT 241 [vS a, vS b] (vS (mulV a b)) := by
 refine fb tOK (fn := Tryz.f241) 60 [.cell 4 26] Tryz.func241 Tryz.results241 (fun g0 B0 Q ρ0 R => ?_)
 have a1 := isV_n ha
 have b1 := isV_n hb
 have hs := sgn_mul a b
 obtain ⟨A, hA⟩ : ∃ A : Nat, absI a.n = A := ⟨(absI a.n).toNat, by unfold absI; omega⟩
 obtain ⟨B, hB⟩ : ∃ B : Nat, absI b.n = B := ⟨(absI b.n).toNat, by unfold absI; omega⟩
 have hA2 : A ≤ 1000000000000000 := by unfold absI at hA; omega
 have hB2 : B ≤ 1000000000000000 := by unfold absI at hB; omega
 have hAB : A * B ≤ 1000000000000000 * 1000000000000000 := Nat.mul_le_mul hA2 hB2
 refine en tOK 0 3 [] ?_
 refine sdr 0 0 [0, 1, 0, 7, 15, 31] [0, 1, 2, 3, 4, 5] ?_
 refine xd tOK 1 [] ?_
 refine dc tOK 1 [] (vsign_ok) ?_
 refine dc tOK 2 [] (vsign_ok) ?_
 refine xe ?_
 refine sn tOK 0 1 [] ?_
 refine fc tOK 3 [] (vfin_ok) ?_
 refine fg tOK 2 [] (fun hg => vfin_ok) ?_
 refine sib 0 rfl rfl (fun h22 => ?_) (fun h22 => ?_)
 ·have e : mulV a b = infV (signV a * signV b) := by unfold mulV; rw [if_pos (by simpa [finV] using h22)]
  refine en tOK 0 1 [] ?_
  refine fc tOK 1 [] (vinf_ok) ?_
  refine sr 0 R ?_
  rw [e]; rfl
 ·have hk : a.k = 1 ∧ b.k = 1 := by simpa [finV] using h22
  have e0 := mul_split hk.1 hk.2 hA hB
  obtain ⟨N, hN⟩ : ∃ N, N = A * B / 1000 := ⟨_, rfl⟩
  rw [← hN] at e0
  have va := abs_sgn hk.1 hA
  have vb := abs_sgn hk.2 hB
  refine edr 0 0 [0, 1, 0, 4, 15, 31, 0, 64, 0, 268, 972, 1996, 4095, 8191, 16383, 16383, 32767, 131071] [0, 1, 2, 3, 4, 5, 6, 7, 8, 9, 10, 11, 12, 13, 14, 15, 16, 17] ?_
  refine xd tOK 3 [] ?_
  refine dc tOK 5 [] (vsign_ok) ?_
  refine dc tOK 2 [] (vsign_ok) ?_
  refine dc tOK 5 [] (mul64I_ok (p := IntKind.wrap .u64 (a.n * signV a)) (q := IntKind.wrap .u64 (b.n * signV b)) (x := A) (y := B) (by rw [va]; exact wrapN (by omega)) (by rw [vb]; exact wrapN (by omega)) (by omega) (by omega)) ?_
  refine xe ?_
  refine sn tOK 0 2 [] ?_
  refine si 0 rfl rfl (fun h42 => ?_) (fun h42 => ?_)
  ·have e : mulV a b = infV (signV a * signV b) := by rw [e0, if_pos (by omega)]
   refine en tOK 0 1 [] ?_
   refine fc tOK 1 [] (vinf_ok) ?_
   refine sr 0 R ?_
   rw [e]; rfl
  ·refine en tOK 0 2 [] ?_
   refine fc tOK 5 [] (div1000_ok (hi := A * B / 18446744073709551616) (lo := A * B % 18446744073709551616) (by omega) (by omega)) ?_
   refine sas 8 rfl (v' := nU (N : Int)) ?_ ?_
   ·rw [hN, Nat.div_add_mod']
   refine sn tOK 0 2 [] ?_
   refine si 0 rfl rfl (fun h52 => ?_) (fun h52 => ?_)
   ·have e : mulV a b = infV (signV a * signV b) := by rw [e0, if_pos (by omega)]
    refine en tOK 0 1 [] ?_
    refine fc tOK 1 [] (vinf_ok) ?_
    refine sr 0 R ?_
    rw [e]; rfl
   ·have e : mulV a b = numV (signV a * signV b * (N : Int)) := by rw [e0, if_neg (by omega)]
    have hp := sgn_times hs (n := N) (by omega)
    refine en tOK 0 4 [] ?_ (hφ := by clear hN; exact ⟨⟨by omega, by omega⟩, ⟨by omega, by omega⟩⟩)
    refine fc tOK 1 [] (vnum_ok) ?_
    refine sr 0 R ?_
    rw [e]; rfl
end Go.Proofs.YtomkgfdigldhcaaGreatDoor
namespace Go.Proofs.YtomkgfdigldhcaaGreatDoor
open Go.KX
abbrev pl (fn : FuncId) : SV := .f 289 [] [.p [.f fn [] []]]
abbrev kn (l : List Int) : SV := .f 290 [] [.p [rI l]]
abbrev nm (fn : FuncId) : SV := .f 292 [] [.p [.f fn [] []]]
abbrev od (no : Bool) (fn : FuncId) : SV := .f 296 [] [.p [bS no], .p [.f fn [] []]]
def onesT : List (Bytes × SV) := [(oSub, pl 229), (oAbs, pl 230), (oFloor, .f 231 [] []), (oNot, .f 233 [] []), (oNull, kn [2]), (oNan, kn [3]), (oInf, kn [4, 5]), (oNum, kn [1])]
def twosT : List (Bytes × SV) := [(oAdd, nm 237), (oSub, nm 238), (oMul, nm 241), (oDiv, nm 242), (oEq, od false 244), (oNe, od true 245), (oLt, od false 246), (oLe, od false 247), (oGt, od false 248), (oGe, od false 249), (oAnd, .f 250 [] []), (oOr, .f 251 [] [])]
set_option maxRecDepth 100000 in
theorem vones_ok  : Fc Tryz.prog gT 157 [] (.fm onesT) := by
 refine fb tOK (fn := Tryz.f157) 13 [.tmp 0] Tryz.func157 Tryz.results157 (fun g0 B0 Q ρ0 R => ?_)
 refine en tOK 0 1 [] ?_
 refine sn tOK 0 0 [] ?_
 refine smk ?_
 refine fc tOK 0 [] (vplain_ok) ?_
 refine sins tOK ?_
 refine fc tOK 0 [] (vplain_ok) ?_
 refine sins tOK ?_
 refine sins tOK ?_
 refine sins tOK ?_
 refine go tOK 1 [] ?_
 refine fc tOK 0 [] (vkind_ok (l := [2])) ?_
 refine sins tOK ?_
 refine go tOK 1 [] ?_
 refine fc tOK 0 [] (vkind_ok (l := [3])) ?_
 refine sins tOK ?_
 refine go tOK 1 [] ?_
 refine fc tOK 0 [] (vkind_ok (l := [4, 5])) ?_
 refine sins tOK ?_
 refine go tOK 1 [] ?_
 refine fc tOK 0 [] (vkind_ok (l := [1])) ?_
 refine sins tOK ?_
 refine go tOK 2 [] ?_
 refine sz 1 ?_
 refine sr 0 R ?_
 rfl
set_option maxRecDepth 100000 in
theorem vtwos_ok  : Fc Tryz.prog gT 158 [] (.fm twosT) := by
 refine fb tOK (fn := Tryz.f158) 13 [.tmp 0] Tryz.func158 Tryz.results158 (fun g0 B0 Q ρ0 R => ?_)
 refine en tOK 0 1 [] ?_
 refine sn tOK 0 0 [] ?_
 refine smk ?_
 refine fc tOK 0 [] (vnumbers_ok) ?_
 refine sins tOK ?_
 refine fc tOK 0 [] (vnumbers_ok) ?_
 refine sins tOK ?_
 refine fc tOK 0 [] (vnumbers_ok) ?_
 refine sins tOK ?_
 refine fc tOK 0 [] (vnumbers_ok) ?_
 refine sins tOK ?_
 refine fc tOK 0 [] (vorder_ok) ?_
 refine sins tOK ?_
 refine fc tOK 0 [] (vorder_ok) ?_
 refine sins tOK ?_
 refine fc tOK 0 [] (vorder_ok) ?_
 refine sins tOK ?_
 refine fc tOK 0 [] (vorder_ok) ?_
 refine sins tOK ?_
 refine fc tOK 0 [] (vorder_ok) ?_
 refine sins tOK ?_
 refine fc tOK 0 [] (vorder_ok) ?_
 refine sins tOK ?_
 refine sins tOK ?_
 refine sins tOK ?_
 refine go tOK 2 [] ?_
 refine sz 1 ?_
 refine sr 0 R ?_
 rfl
theorem ones_some {op : Bytes} (h : (mget onesT op).isSome = true) : ∃ φ fn ca, mget oneT op = some φ ∧ mget onesT op = some (.f fn [] ca) ∧ ∀ v, isV v = true → Fc Tryz.prog gT fn ([vS v] ++ ca) (vS (φ v)) := by
  unfold onesT oneT at *
  simp only [mget] at *
  split at h; · rename_i e; simp only [e, if_true]; exact ⟨_, _, _, rfl, rfl, fun v hv => vplain1_ok hv (fun n h1 h2 => vone1_ok h1 h2)⟩
  rename_i e1
  split at h; · rename_i e; simp only [e, if_true]; exact ⟨_, _, _, rfl, rfl, fun v hv => vplain1_ok hv (fun n h1 h2 => vone2_ok h1 h2)⟩
  rename_i e2
  split at h; · rename_i e; simp only [e, if_true]; exact ⟨_, _, _, rfl, rfl, fun v hv => vone3_ok hv⟩
  rename_i e3
  split at h; · rename_i e; simp only [e, if_true]; exact ⟨_, _, _, rfl, rfl, fun v hv => vone4_ok⟩
  rename_i e4
  split at h; · rename_i e; simp only [e, if_true]; exact ⟨_, _, _, rfl, rfl, fun v hv => by simpa using vkind1_ok (l := [2]) (v := v)⟩
  rename_i e5
  split at h; · rename_i e; simp only [e, if_true]; exact ⟨_, _, _, rfl, rfl, fun v hv => by simpa using vkind1_ok (l := [3]) (v := v)⟩
  rename_i e6
  split at h; · rename_i e; simp only [e, if_true]; exact ⟨_, _, _, rfl, rfl, fun v hv => by simpa using vkind1_ok (l := [4, 5]) (v := v)⟩
  rename_i e7
  split at h; · rename_i e; simp only [e, if_true]; exact ⟨_, _, _, rfl, rfl, fun v hv => by simpa using vkind1_ok (l := [1]) (v := v)⟩
  cases h
theorem len2 {l : List Val} (h : l.length = 2) : ∃ a b, l = [a, b] := by
  match l, h with
  | [a, b], _ => exact ⟨a, b, rfl⟩
set_option maxHeartbeats 2000000 in
theorem twos_some {op : Bytes} (h : (mget twosT op).isSome = true) : ∃ φ fn ca, mget twoT op = some φ ∧ mget twosT op = some (.f fn [] ca) ∧ ∀ a b, isV a = true → isV b = true → Fc Tryz.prog gT fn ([vS a, vS b] ++ ca) (vS (φ a b)) := by
  unfold twosT twoT at *
  simp only [mget] at *
  split at h; · rename_i e; simp only [e, if_true]; exact ⟨_, _, _, rfl, rfl, fun a b ha hb => vnumbers1_ok (φ := addV) (vadd_ok ha hb)⟩
  rename_i e0
  split at h; · rename_i e; simp only [e, if_true]; exact ⟨_, _, _, rfl, rfl, fun a b ha hb => vnumbers1_ok (φ := fun a b => addV a (negV b)) (vtwo1_ok ha hb)⟩
  rename_i e1
  split at h; · rename_i e; simp only [e, if_true]; exact ⟨_, _, _, rfl, rfl, fun a b ha hb => vnumbers1_ok (φ := mulV) (vmul_ok ha hb)⟩
  rename_i e2
  split at h; · rename_i e; simp only [e, if_true]; exact ⟨_, _, _, rfl, rfl, fun a b ha hb => vnumbers1_ok (φ := divV) (vdiv_ok ha hb)⟩
  rename_i e3
  split at h; · rename_i e; simp only [e, if_true]; exact ⟨_, _, _, rfl, rfl, fun a b ha hb => vorder1_ok (φ := fun x y => decide (x = y)) (fun x y => vtwo2_ok)⟩
  rename_i e4
  split at h; · rename_i e; simp only [e, if_true]; exact ⟨_, _, _, rfl, rfl, fun a b ha hb => vorder1_ok (φ := fun x y => decide (x ≠ y)) (fun x y => vtwo3_ok)⟩
  rename_i e5
  split at h; · rename_i e; simp only [e, if_true]; exact ⟨_, _, _, rfl, rfl, fun a b ha hb => vorder1_ok (φ := fun x y => decide (x < y)) (fun x y => vtwo4_ok)⟩
  rename_i e6
  split at h; · rename_i e; simp only [e, if_true]; exact ⟨_, _, _, rfl, rfl, fun a b ha hb => vorder1_ok (φ := fun x y => decide (x ≤ y)) (fun x y => vtwo5_ok)⟩
  rename_i e7
  split at h; · rename_i e; simp only [e, if_true]; exact ⟨_, _, _, rfl, rfl, fun a b ha hb => vorder1_ok (φ := fun x y => decide (y < x)) (fun x y => vtwo6_ok)⟩
  rename_i e8
  split at h; · rename_i e; simp only [e, if_true]; exact ⟨_, _, _, rfl, rfl, fun a b ha hb => vorder1_ok (φ := fun x y => decide (y ≤ x)) (fun x y => vtwo7_ok)⟩
  rename_i e9
  split at h; · rename_i e; simp only [e, if_true]; exact ⟨_, _, _, rfl, rfl, fun a b ha hb => vtwo8_ok⟩
  rename_i e10
  split at h; · rename_i e; simp only [e, if_true]; exact ⟨_, _, _, rfl, rfl, fun a b ha hb => vtwo9_ok⟩
  rename_i e11
  cases h
theorem ones_none {op : Bytes} (h : (mget onesT op).isSome = false) : mget oneT op = none := by
  unfold onesT oneT at *
  simp only [mget] at *
  by_cases h1 : op = oSub; · simp [h1] at h
  by_cases h2 : op = oAbs; · simp [h2] at h
  by_cases h3 : op = oFloor; · simp [h3] at h
  by_cases h4 : op = oNot; · simp [h4] at h
  by_cases h5 : op = oNull; · simp [h5] at h
  by_cases h6 : op = oNan; · simp [h6] at h
  by_cases h7 : op = oInf; · simp [h7] at h
  by_cases h8 : op = oNum; · simp [h8] at h
  simp only [h1, h2, h3, h4, h5, h6, h7, h8, if_false]
theorem twos_none {op : Bytes} (h : (mget twosT op).isSome = false) : mget twoT op = none := by
  unfold twosT twoT at *
  simp only [mget] at *
  by_cases hAdd : op = oAdd; · simp [hAdd] at h
  by_cases hSub : op = oSub; · simp [hSub] at h
  by_cases hMul : op = oMul; · simp [hMul] at h
  by_cases hDiv : op = oDiv; · simp [hDiv] at h
  by_cases hEq : op = oEq; · simp [hEq] at h
  by_cases hNe : op = oNe; · simp [hNe] at h
  by_cases hLt : op = oLt; · simp [hLt] at h
  by_cases hLe : op = oLe; · simp [hLe] at h
  by_cases hGt : op = oGt; · simp [hGt] at h
  by_cases hGe : op = oGe; · simp [hGe] at h
  by_cases hAnd : op = oAnd; · simp [hAnd] at h
  by_cases hOr : op = oOr; · simp [hOr] at h
  simp only [hAdd, hSub, hMul, hDiv, hEq, hNe, hLt, hLe, hGt, hGe, hAnd, hOr, if_false]
theorem ones_get (op : Bytes) : (mget oneT op = none ∧ mget onesT op = none) ∨ ∃ φ fn ca, mget oneT op = some φ ∧ mget onesT op = some (.f fn [] ca) ∧ ∀ v, isV v = true → Fc Tryz.prog gT fn ([vS v] ++ ca) (vS (φ v)) := by
  cases h : (mget onesT op).isSome with
  | false => exact .inl ⟨ones_none h, by simpa using h⟩
  | true => exact .inr (ones_some h)
theorem twos_get (op : Bytes) : (mget twoT op = none ∧ mget twosT op = none) ∨ ∃ φ fn ca, mget twoT op = some φ ∧ mget twosT op = some (.f fn [] ca) ∧ ∀ a b, isV a = true → isV b = true → Fc Tryz.prog gT fn ([vS a, vS b] ++ ca) (vS (φ a b)) := by
  cases h : (mget twosT op).isSome with
  | false => exact .inl ⟨twos_none h, by simpa using h⟩
  | true => exact .inr (twos_some h)
set_option maxRecDepth 100000 in
theorem vdo_ok {op : Bytes} {l : List Val} : Fc Tryz.prog gT 107 [.str op, rV l] (.t [vS (doV op l).1, nI (doV op l).2]) := by
 refine fb tOK (fn := Tryz.f107) 67 [.cell 4 26, .tmp 5] Tryz.func107 Tryz.results107 (fun g0 B0 Q ρ0 R => ?_)
 refine en tOK 0 2 [] ?_
 refine sn tOK 0 1 [] ?_
 refine fc tOK 1 [] (vcheck_ok) ?_
 refine sn tOK 0 2 [] ?_
 refine si 0 rfl rfl (fun h14 => ?_) (fun h14 => ?_)
 ·have hl : ¬ l.all isV = true := fun h => by rw [if_pos h] at h14; exact h14 rfl
  have e : doV op l = (zeroV, 80) := by unfold doV; rw [if_neg hl]
  refine eas 6 rfl (v' := nI 80) ?_ ?_
  ·rw [if_neg hl]
  refine en tOK 0 4 [] ?_
  refine sr 0 R ?_
  rw [e]; rfl
 ·have hl : l.all isV = true := Decidable.byContradiction fun h => by rw [if_neg h] at h14; exact h14 (by decide)
  refine en tOK 0 2 [] ?_
  refine sn tOK 0 2 [] ?_
  refine si 0 rfl rfl (fun h19 => ?_) (fun h19 => ?_)
  ·obtain ⟨a, rfl⟩ : ∃ a, l = [a] := List.length_eq_one_iff.1 (by have := h19; simp at this; omega)
   have ha : isV a = true := by simpa using hl
   rcases ones_get op with ⟨h1, h2⟩ | ⟨φ, fn, ca, h1, h2, h3⟩
   ·refine en tOK 0 0 [] ?_
    have e : doV op [a] = (zeroV, 2) := by unfold doV oneV; rw [if_pos hl]; simp only [h1, Option.map_none]
    refine fc tOK 1 [] (vones_ok) ?_
    refine slk tOK 5 none h2 ?_
    refine sn tOK 0 1 [] ?_
    refine sn tOK 1 3 [] ?_
    refine sr 0 R ?_
    rw [e]; rfl
   ·refine en tOK 0 0 [] ?_
    have e : doV op [a] = (φ a, 0) := by unfold doV oneV; rw [if_pos hl]; simp only [h1, Option.map_some]
    refine fc tOK 1 [] (vones_ok) ?_
    refine slk tOK 5 (some (.f fn [] ca)) h2 ?_
    refine sn tOK 0 1 [] ?_
    refine sn tOK 1 4 [[nI a.k, nI a.n]] ?_ (hφ := by exact ⟨by decide, rfl⟩)
    refine fc tOK 2 [] (h3 a ha) ?_
    refine sr 0 R ?_
    rw [e]; rfl
  ·refine en tOK 0 2 [] ?_
   refine si 0 rfl rfl (fun h33 => ?_) (fun h33 => ?_)
   ·obtain ⟨a, b, rfl⟩ : ∃ a b, l = [a, b] := len2 (by have := h33; simp at this; omega)
    have hab : isV a = true ∧ isV b = true := by simpa using hl
    rcases twos_get op with ⟨h1, h2⟩ | ⟨φ, fn, ca, h1, h2, h3⟩
    ·refine en tOK 0 0 [] ?_
     have e : doV op [a, b] = (zeroV, 2) := by unfold doV twoV; rw [if_pos hl]; simp only [h1, Option.map_none]
     refine fc tOK 1 [] (vtwos_ok) ?_
     refine slk tOK 5 none h2 ?_
     refine sn tOK 0 3 [] ?_
     refine sn tOK 1 3 [] ?_
     refine sr 0 R ?_
     rw [e]; rfl
    ·refine en tOK 0 0 [] ?_
     have e0 : doV op [a, b] = if a.k = 2 ∨ b.k = 2 then (nullV, 0) else (φ a b, 0) := by unfold doV twoV; rw [if_pos hl]; simp only [h1, Option.map_some]
     refine fc tOK 1 [] (vtwos_ok) ?_
     refine slk tOK 5 (some (.f fn [] ca)) h2 ?_
     refine sn tOK 0 3 [] ?_
     refine sn tOK 1 13 [[nI a.k, nI a.n], [nI b.k, nI b.n]] ?_ (hφ := by refine ⟨?_, ?_, ?_, ?_, ?_, ?_, ?_⟩ <;> first | exact ⟨by decide, rfl⟩ | exact fun _ => ⟨by decide, rfl⟩ | exact id | (intro h; simpa using h))
     refine sib 0 rfl rfl (fun h52 => ?_) (fun h52 => ?_)
     ·have e : doV op [a, b] = (nullV, 0) := by rw [e0, if_pos (by simpa using h52)]
      refine en tOK 0 0 [] ?_
      refine fc tOK 2 [] (vnull_ok) ?_
      refine sr 0 R ?_
      rw [e]; rfl
     ·have e : doV op [a, b] = (φ a b, 0) := by rw [e0, if_neg (by simpa using h52)]
      refine edr 0 256 [0, 0, 2, 6, 0, 16, 48, 127, 255, 511] [0, 1, 2, 3, 4, 5, 6, 7, 8, 9] ?_
      refine xd tOK 7 [[nI a.k, nI a.n], [nI b.k, nI b.n]] ?_ (hφ := by exact ⟨⟨by decide, rfl⟩, ⟨by decide, rfl⟩⟩)
      refine dc tOK 2 [] (h3 a b hab.1 hab.2) ?_
      refine xe ?_
      refine sr 0 R ?_
      rw [e]; rfl
   ·have e : doV op l = (zeroV, 2) := by unfold doV; rw [if_pos hl]; match l, h19, h33 with | [], _, _ => rfl | [_], h, _ => exact absurd rfl h | [_, _], _, h => exact absurd rfl h | _ :: _ :: _ :: _, _, _ => rfl
    refine en tOK 0 3 [] ?_
    refine sr 0 R ?_
    rw [e]; rfl
end Go.Proofs.YtomkgfdigldhcaaGreatDoor
namespace Go.Proofs.YtomkgfdigldhcaaGreatDoor
open Go.KX
set_option maxRecDepth 100000 in
theorem bmul1_ok  : Fc Tryz.prog gT 225 [nU 1, nU 1] (.t [nU 0, nU 1]) := by
 refine fb tOK (fn := Tryz.f225) 30 [.tmp 4, .tmp 5] Tryz.func225 Tryz.results225 (fun g0 B0 Q ρ0 R => ?_)
 refine en tOK 0 2 [] ?_
 refine sn tOK 1 2 [] ?_
 refine fc tOK 5 [] ((mul64_ok (x := 1) (y := 1) (by decide) (by decide) : Fc Tryz.prog gT 288 [nU 1, nU 1] (.t [nU 0, nU 1]))) ?_
 refine sn tOK 0 4 [] ?_
 refine sr 0 R ?_
 rfl
set_option maxRecDepth 100000 in
theorem repeat1_ok {v : Val} : Fc Tryz.prog gT 155 [rV [v], nI 1] (rV [v]) := by
 refine fb tOK (fn := Tryz.f155) 48 [.tmp 4] Tryz.func155 Tryz.results155 (fun g0 B0 Q ρ0 R => ?_)
 refine en tOK 0 1 [] ?_
 refine sn tOK 0 2 [] ?_
 refine sn tOK 1 5 [] ?_
 refine fc tOK 5 [] (bmul1_ok) ?_
 refine sn tOK 0 6 [] ?_
 refine sn tOK 1 2 [] ?_
 refine smks tOK 902 1 (sz := 2) (by decide) [⟨[.int .i64 0, .int .i64 0], rfl, by decide⟩] rfl rfl rfl (by kernel_rfl) (by decide) (by decide) (TT.get_ok tOK (rfl : tb.get 26 = some _)).ti Tryz.underlying46 ?_
 refine go tOK 1 [] ?_
 refine sn tOK 0 2 [] ?_
 refine scpy tOK (rows := [[nI 0, nI 0]]) (rows2 := (List.map (fun v : Val => [nI v.k, nI v.n]) [v])) rfl (by simp) (by simp) ?_
 refine go tOK 1 [] ?_
 refine sl 0 ?_
 refine E_loop (σ := Unit) (fun _ => True) (fun _ => 0)
   (fun _ => [(7, .o 902 1), (8, nI 1)])
   (fun _ => [(902, .r 26 2 (List.map (fun v : Val => [nI v.k, nI v.n]) [v]))]) () ?_ ?_
 ·trivial
 ·rintro J _ _ hJ
  refine en tOK 0 4 [] ?_
  refine sn tOK 1 2 [] ?_
  refine sezo 4 (rows := (List.map (fun v : Val => [nI v.k, nI v.n]) [v])) ?_ ?_ (hr := by simp)
  ·simp
  refine sr 0 R ?_
  rfl
set_option maxRecDepth 100000 in
theorem knows1_ok {op : Bytes} : Fc Tryz.prog gT 106 [.str op, nI 1] (bS (decide ((doV op [numV 0]).2 = 0))) := by
 refine fb tOK (fn := Tryz.f106) 18 [.tmp 4] Tryz.func106 Tryz.results106 (fun g0 B0 Q ρ0 R => ?_)
 refine en tOK 0 1 [] ?_
 refine sn tOK 0 1 [] ?_
 refine fc tOK 2 [] (vnum_ok (n := 0)) ?_
 refine fc tOK 0 [] (repeat1_ok (v := numV 0)) ?_
 refine fc tOK 6 [] (vdo_ok (op := op) (l := [numV 0])) ?_
 refine sn tOK 0 3 [] ?_
 refine sr 0 R ?_
 rfl
set_option maxRecDepth 100000 in
theorem num11_ok {n : Int} : Fc Tryz.prog gT 19 [nI n] (nI n) := by
 refine fb tOK (fn := Tryz.f19) 4 [.tmp 2] Tryz.func19 Tryz.results19 (fun g0 B0 Q ρ0 R => ?_)
 refine en tOK 0 1 [] ?_
 refine sn tOK 0 2 [] ?_
 refine sr 0 R ?_
 rfl
set_option maxRecDepth 100000 in
theorem sscalar_ok {v : Val} : Fc Tryz.prog gT 53 [vS v] (.s 3 [[.s 0 [], nI v.k, nI v.n]]) := by
 refine fb tOK (fn := Tryz.f53) 6 [.tmp 2] Tryz.func53 Tryz.results53 (fun g0 B0 Q ρ0 R => ?_)
 refine en tOK 0 2 [] ?_
 refine sn tOK 0 4 [] ?_
 refine sr 0 R ?_
 rfl
set_option maxRecDepth 100000 in
theorem rscalar_ok {v : Val} : Fc Tryz.prog gT 25 [vS v] (.s 3 [[.s 0 [], nI v.k, nI v.n]]) := by
 refine fb tOK (fn := Tryz.f25) 6 [.tmp 2] Tryz.func25 Tryz.results25 (fun g0 B0 Q ρ0 R => ?_)
 refine en tOK 0 2 [] ?_
 refine sn tOK 0 4 [] ?_
 refine sr 0 R ?_
 rfl
end Go.Proofs.YtomkgfdigldhcaaGreatDoor
namespace Go.Proofs.YtomkgfdigldhcaaGreatDoor
open Go.KX
set_option maxRecDepth 100000 in
theorem idxL0_ok {fn : FuncId} {ca : List SV} : Fc Tryz.prog gT 252 [.s 0 [], .f fn [] ca] (nI (-1)) := by
 refine fb tOK (fn := Tryz.f252) 19 [.tmp 4] Tryz.func252 Tryz.results252 (fun g0 B0 Q ρ0 R => ?_)
 refine en tOK 0 1 [] ?_
 refine sn tOK 0 3 [] ?_
 refine sl 0 ?_
 refine E_loop (σ := Unit) (fun _ => True) (fun _ => 0)
   (fun _ => [(0, .s 0 []), (7, nI 0), (8, nI 0)])
   (fun _ => []) () ?_ ?_
 ·trivial
 ·rintro J _ _ hJ
  refine en tOK 0 1 [] ?_
  refine sn tOK 1 1 [] ?_
  refine sr 0 R ?_
  rfl
set_option maxRecDepth 100000 in
theorem contL0_ok {fn : FuncId} {ca : List SV} : Fc Tryz.prog gT 159 [.s 0 [], .f fn [] ca] (bS false) := by
 refine fb tOK (fn := Tryz.f159) 9 [.tmp 4] Tryz.func159 Tryz.results159 (fun g0 B0 Q ρ0 R => ?_)
 refine en tOK 0 1 [] ?_
 refine sn tOK 0 2 [] ?_
 refine fc tOK 2 [] (idxL0_ok) ?_
 refine sr 0 R ?_
 rfl
set_option maxRecDepth 100000 in
theorem cloneL0_ok  : Fc Tryz.prog gT 162 [.s 0 []] (.s 0 []) := by
 refine fb tOK (fn := Tryz.f162) 8 [.tmp 2] Tryz.func162 Tryz.results162 (fun g0 B0 Q ρ0 R => ?_)
 refine en tOK 0 1 [] ?_
 refine sn tOK 0 1 [] ?_
 refine knl tOK 0 [] (.bool true) (fun w => by kernel_rfl) ?_
 refine sn tOK 1 1 [] ?_
 refine sr 0 R ?_
 rfl
set_option maxRecDepth 100000 in
theorem insL0_ok  : Fc Tryz.prog gT 315 [.s 0 [], nI 0, nI 0, .f 153 [] []] (.t []) := by
 refine fb tOK (fn := Tryz.f315) 53 [] Tryz.func315 Tryz.results315 (fun g0 B0 Q ρ0 R => ?_)
 refine en tOK 0 3 [] ?_
 refine sl 0 ?_
 refine E_loop (σ := Unit) (fun _ => True) (fun _ => 0)
   (fun _ => [(0, .s 0 []), (2, nI 0), (8, nI 1)])
   (fun _ => []) () ?_ ?_
 ·trivial
 ·rintro J _ _ hJ
  refine en tOK 0 3 [] ?_
  refine sf 1 R ?_
  rfl
set_option maxRecDepth 100000 in
theorem stabL0_ok  : Fc Tryz.prog gT 283 [.s 0 [], nI 0, .f 153 [] []] (.t []) := by
 refine fb tOK (fn := Tryz.f283) 63 [] Tryz.func283 Tryz.results283 (fun g0 B0 Q ρ0 R => ?_)
 refine en tOK 0 1 [] ?_
 refine sn tOK 0 3 [] ?_
 refine sl 0 ?_
 refine E_loop (σ := Unit) (fun _ => True) (fun _ => 0)
   (fun _ => [(0, .s 0 []), (1, nI 0), (2, .f 153 [] []), (6, nI 20), (7, nI 0), (8, nI 20)])
   (fun _ => []) () ?_ ?_
 ·trivial
 ·rintro J _ _ hJ
  refine en tOK 0 3 [] ?_
  refine sn tOK 1 4 [] ?_
  refine fc tOK 0 [] (insL0_ok) ?_
  refine sl 0 ?_
  refine E_loop (σ := Unit) (fun _ => True) (fun _ => 0)
    (fun _ => [(1, nI 0), (6, nI 20)])
    (fun _ => []) () ?_ ?_
  ·trivial
  ·rintro J _ _ hJ
   refine en tOK 0 3 [] ?_
   refine sf 1 R ?_
   rfl
set_option maxRecDepth 100000 in
theorem sstL0_ok  : Fc Tryz.prog gT 220 [.s 0 [], .f 153 [] []] (.t []) := by
 refine fb tOK (fn := Tryz.f220) 9 [] Tryz.func220 Tryz.results220 (fun g0 B0 Q ρ0 R => ?_)
 refine en tOK 0 4 [] ?_
 refine fc tOK 0 [] (stabL0_ok) ?_
 refine sf 0 R ?_
 rfl
set_option maxRecDepth 100000 in
theorem make0_ok  : Fc Tryz.prog gT 144 [.s 0 []] (.t [.s 0 [], nI 0]) := by
 refine fb tOK (fn := Tryz.f144) 33 [.tmp 2, .tmp 3] Tryz.func144 Tryz.results144 (fun g0 B0 Q ρ0 R => ?_)
 refine en tOK 0 2 [] ?_
 refine sn tOK 0 1 [] ?_
 refine fc tOK 0 [] (contL0_ok) ?_
 refine sn tOK 1 1 [] ?_
 refine fc tOK 1 [] (cloneL0_ok) ?_
 refine sn tOK 0 1 [] ?_
 refine fc tOK 0 [] (sstL0_ok) ?_
 refine sn tOK 0 1 [] ?_
 refine sl 0 ?_
 refine E_loop (σ := Unit) (fun _ => True) (fun _ => 0)
   (fun _ => [(0, .s 0 []), (4, nI 1)])
   (fun _ => []) () ?_ ?_
 ·trivial
 ·rintro J _ _ hJ
  refine en tOK 0 4 [] ?_
  refine sn tOK 1 3 [] ?_
  refine sn tOK 1 3 [] ?_
  refine sr 0 R ?_
  rfl
set_option maxRecDepth 100000 in
theorem equal0_ok  : Fc Tryz.prog gT 145 [.s 0 [], .s 0 []] (bS true) := by
 refine fb tOK (fn := Tryz.f145) 26 [.tmp 4] Tryz.func145 Tryz.results145 (fun g0 B0 Q ρ0 R => ?_)
 refine en tOK 0 1 [] ?_
 refine sn tOK 0 5 [] ?_
 refine sn tOK 1 3 [] ?_
 refine sl 0 ?_
 refine E_loop (σ := Unit) (fun _ => True) (fun _ => 0)
   (fun _ => [(12, nI 0), (13, nI 0)])
   (fun _ => []) () ?_ ?_
 ·trivial
 ·rintro J _ _ hJ
  refine en tOK 0 1 [] ?_
  refine sn tOK 1 1 [] ?_
  refine sr 0 R ?_
  rfl
set_option maxRecDepth 100000 in
theorem isset0_ok  : Fc Tryz.prog gT 99 [.s 0 []] (bS true) := by
 refine fb tOK (fn := Tryz.f99) 17 [.tmp 2] Tryz.func99 Tryz.results99 (fun g0 B0 Q ρ0 R => ?_)
 refine en tOK 0 1 [] ?_
 refine sn tOK 0 1 [] ?_
 refine fc tOK 5 [] (make0_ok) ?_
 refine sn tOK 0 5 [] ?_
 refine fg tOK 2 [] (fun hg => equal0_ok) ?_
 refine sr 0 R ?_
 rfl
set_option maxRecDepth 100000 in
theorem sort1c_ok {v : Val} : Fc Tryz.prog gT 98 [.a (serL v)] (bS false) := by
 refine fb tOK (fn := Tryz.f98) 7 [.tmp 2] Tryz.func98 Tryz.results98 (fun g0 B0 Q ρ0 R => ?_)
 refine en tOK 0 2 [] ?_
 refine sn tOK 0 2 [] ?_
 refine fc tOK 2 [] (isset0_ok) ?_
 refine sr 0 R ?_
 rfl
set_option maxRecDepth 100000 in
theorem sort2c_ok {v : Val} : Fc Tryz.prog gT 100 [.a (serL v)] (bS (!isV v)) := by
 refine fb tOK (fn := Tryz.f100) 8 [.tmp 2] Tryz.func100 Tryz.results100 (fun g0 B0 Q ρ0 R => ?_)
 refine en tOK 0 2 [] ?_
 refine sn tOK 0 3 [] ?_
 refine fc tOK 2 [] (vcheck_ok (l := [v])) ?_
 refine sr 0 R ?_
 cases h : isV v <;> simp [h] <;> rfl
set_option maxRecDepth 100000 in
theorem idxS_ok {l : List Val} {fn : FuncId} {p : Val → Bool} (hs : ∀ v ∈ l, Fc Tryz.prog gT fn [.a (serL v)] (bS (p v))) : Fc Tryz.prog gT 143 [rS1 l, .f fn [] []] (nI (idxF p l)) := by
 refine fb tOK (fn := Tryz.f143) 19 [.tmp 4] Tryz.func143 Tryz.results143 (fun g0 B0 Q ρ0 R => ?_)
 refine en tOK 0 1 [] ?_
 refine sn tOK 0 3 [] ?_
 refine sl 0 ?_
 refine E_loop (σ := Nat) (fun j => j ≤ l.length ∧ ∀ x ∈ l.take j, p x = false) (fun j => l.length - j)
   (fun j => [(0, rS1 l), (1, .f fn [] []), (4, nI 0), (7, nI l.length), (8, nI j)])
   (fun j => []) 0 ?_ ?_
 ·exact ⟨Nat.zero_le _, by simp⟩
 ·rintro J j ⟨hj0, hj1⟩ hJ
  refine elen 0 rfl (fun hl => ?_)
  simp only [List.length_map] at hl
  refine en tOK 0 1 [] ?_
  refine si 0 rfl rfl (fun h9 => ?_) (fun h9 => ?_)
  ·have hj : j < l.length := by omega
   refine en tOK 0 2 [] ?_
   refine sn tOK 0 5 [serL l[j]] ?_ (hφ := by exact ⟨by omega, row_at _ hj⟩)
   refine fc tOK 0 [] (hs l[j] (List.getElem_mem hj)) ?_
   refine sib 0 rfl rfl (fun h16 => ?_) (fun h16 => ?_)
   ·have e := idxF_some hj hj1 h16
    refine en tOK 0 2 [] ?_
    refine sr 0 R ?_
    rw [e]; rfl
   ·have hx := h16
    refine en tOK 0 2 [] ?_
    exact hJ (j + 1) ⟨by omega, take_next hj hj1 hx⟩ (by omega)
  ·have e := idxF_none (p := p) (fun x hx => hj1 x (by rw [List.take_of_length_le (by omega)]; exact hx))
   refine en tOK 0 1 [] ?_
   refine sr 0 R ?_
   rw [e]; rfl
set_option maxRecDepth 100000 in
theorem contS_ok {l : List Val} {fn : FuncId} {p : Val → Bool} (hs : ∀ v ∈ l, Fc Tryz.prog gT fn [.a (serL v)] (bS (p v))) : Fc Tryz.prog gT 97 [rS1 l, .f fn [] []] (bS (l.any p)) := by
 refine fb tOK (fn := Tryz.f97) 9 [.tmp 4] Tryz.func97 Tryz.results97 (fun g0 B0 Q ρ0 R => ?_)
 refine en tOK 0 1 [] ?_
 refine sn tOK 0 2 [] ?_
 refine fc tOK 2 [] (idxS_ok (p := p) hs) ?_
 refine sr 0 R ?_
 rw [← idxF_any]; rfl
end Go.Proofs.YtomkgfdigldhcaaGreatDoor
namespace Go.Proofs.YtomkgfdigldhcaaGreatDoor
open Go.KX
set_option maxRecDepth 100000 in
theorem valuesS_ok {l : List Val} : Fc Tryz.prog gT 103 [rS1 l] (.f 150 [] [.p [rS1 l]]) := by
 refine fb tOK (fn := Tryz.f103) 4 [.tmp 2] Tryz.func103 Tryz.results103 (fun g0 B0 Q ρ0 R => ?_)
 refine en tOK 0 2 [] ?_
 refine sz 1 ?_
 refine sn tOK 0 2 [] ?_
 refine sr 0 R ?_
 rfl
set_option maxRecDepth 100000 in
theorem valS1_ok {l : List Val} (hl : l.length ≤ 1000000) : Itr Tryz.prog gT 150 [.p [rS1 l]] (vsA l) := by
 refine itrb tOK (fn := Tryz.f150) 16 Tryz.func150 Tryz.results150 (fun lp R hR g0 B0 Q ρ0 ms0 RR => ?_)
 rw [vsA_len] at RR
 refine en tOK 0 3 [] ?_
 refine sl 0 ?_
 refine eas 6 rfl (v' := nI l.length) (by simp) ?_
 refine E_loopO (σ := Nat × List Res) (fun st => st.1 ≤ l.length) (fun st => l.length - st.1)
   (fun st => [(0, .v (.func (.yield lp) #[] #[])), (5, rS1 l), (6, nI l.length), (7, nI st.1)])
   (fun st => R.f st.1 st.2 :: gT) (fun st => st.2) (0, ms0) ?_ ?_
 ·exact Nat.zero_le _
 ·rintro J ⟨j, ms⟩ hj0 hJ
  dsimp only at hj0 ⊢
  refine en tOK 0 1 [] ?_
  refine si 0 rfl rfl (fun h8 => ?_) (fun h8 => ?_)
  ·have hj : j < l.length := by omega
   refine en tOK 0 4 [serL l[j]] ?_ (hφ := by exact ⟨by omega, row_at _ hj⟩)
   refine sn tOK 0 2 [] ?_
   refine yw hR (vsA_get hj) (fun ms2 => ?_) (fun ms2 => ?_)
   ·refine go tOK 1 [] ?_
    refine sn tOK 1 2 [] ?_
    refine sl 0 ?_
    exact hJ (j + 1, ms2) (by dsimp only; omega) (by dsimp only; omega)
   ·refine go tOK 1 [] ?_
    refine sl 1 ?_
    exact RR.retx
  ·have ej : j = l.length := by omega
   subst ej
   refine el 0 ?_
   exact RR.fall
set_option maxRecDepth 100000 in
theorem appseq_ok {l : List Val} (hl : l.length ≤ 1000000) : FnN Tryz.prog gT 222 [.s 0 [], .f 150 [] [.p [rS1 l]]] (.o 903 l.length) 903 (.r 98 3 (l.map serL)) := by
 refine fnbm tOK (fn := Tryz.f222) 13 [.tmp 4] Tryz.func222 Tryz.results222 (fun g0 B0 Q ρ0 RM => ?_)
 refine eonl 0 903 98 3 ?_
 refine en tOK 0 2 [] ?_
 refine sdrp 0 ?_
 refine sn tOK 0 1 [] ?_
 refine sl 0 ?_
 refine E_rangeV 903 901 (fun j => [(2, .c 32 [.o 903 ((l.take j).map serL).length]), (903, .r 98 3 ((l.take j).map serL))]) (fun j => [(1002, .c 32 [.o 901 ((l.take j).map serL).length]), (901, .r 98 3 ((l.take j).map serL))]) (valS1_ok hl) (by decide) (by decide) rfl (fun j g ρ ms h => den_in h) (fun j g ρ ms h => den_out h) (fun j av hj lp g1 B1 ρ1 Q1 Q2 own1 own2 J hJ hE => ?_) (fun D => ?_) (fun a ha => by
    obtain ⟨v, hv, rfl⟩ := List.mem_map.1 ha
    rfl) (fun a ha => by
    obtain ⟨v, hv, rfl⟩ := List.mem_map.1 ha
    rfl)
 ·have hjl : j < l.length := by
   have := (List.getElem?_eq_some_iff.1 hj).1
   rwa [vsA_len] at this
  rw [vsA_get hjl] at hj
  cases hj
  refine en tOK 0 2 [] ?_
  refine sl 0 ?_
  refine hJ ?_
  refine en tOK 0 1 [] ?_
  refine sal 1002 901 777 ?_
  refine go tOK 2 [] ?_
  refine sap tOK 1 [] rfl (fun _ => rfl) ?_ ?_
  ·show (((l.take j).map serL).length + 1) * 40 ≤ _
   simp
   omega
  refine sl 0 ?_
  refine emb 901 (mb' := .r 98 3 ((l.take (j + 1)).map serL)) ?_ ?_
  ·rw [List.take_succ_eq_append_getElem hjl, List.map_append]; rfl
  refine emb 1002 (mb' := .c 32 [.o 901 ((l.take (j + 1)).map serL).length]) ?_ ?_
  ·rw [List.take_succ_eq_append_getElem hjl, List.map_append, List.length_append, List.length_append]; rfl
  exact hE rfl
 ·rw [vsA_len]
  show E _ _ _ [(2, .c 32 [.o 903 ((l.take l.length).map serL).length]), (903, .r 98 3 ((l.take l.length).map serL))] _ _
  refine en tOK 0 2 [] ?_
  refine srnm 0 (RM D) ?_
  exact ⟨by simp; rfl, by simp⟩
set_option maxRecDepth 100000 in
theorem collect_ok {l : List Val} (hl : l.length ≤ 1000000) : FnN Tryz.prog gT 148 [.f 150 [] [.p [rS1 l]]] (.o 903 l.length) 903 (.r 98 3 (l.map serL)) := by
 refine fnb tOK (fn := Tryz.f148) 5 [.tmp 2] Tryz.func148 Tryz.results148 (fun g0 B0 Q ρ0 R => ?_)
 refine en tOK 0 1 [] ?_
 refine sn tOK 0 1 [] ?_
 refine fnw tOK 1 [] (appseq_ok hl) ?_
 refine srn 0 R ?_
 exact ⟨rfl, rfl⟩
set_option maxRecDepth 100000 in
theorem insS1_ok {v : Val} : Fp Tryz.prog gT 284 [.o 1000 1, nI 0, nI 1, .f 104 [] []] (.r 98 3 [serL v]) (.t []) (.r 98 3 [serL v]) := by
 refine fpb tOK (fn := Tryz.f284) 53 [] Tryz.func284 Tryz.results284 (fun g0 B0 Q ρ0 R => ?_)
 refine en tOK 0 3 [] ?_
 refine sl 0 ?_
 refine E_loop (σ := Unit) (fun _ => True) (fun _ => 0)
   (fun _ => [(2, nI 1), (8, nI 1)])
   (fun _ => [(1000, .r 98 3 [serL v])]) () ?_ ?_
 ·trivial
 ·rintro J _ _ hJ
  refine en tOK 0 3 [] ?_
  refine sfp 1 R ?_
  exact ⟨rfl, rfl⟩
set_option maxRecDepth 100000 in
theorem stabS1_ok {v : Val} : Fp Tryz.prog gT 223 [.o 1000 1, nI 1, .f 104 [] []] (.r 98 3 [serL v]) (.t []) (.r 98 3 [serL v]) := by
 refine fpb tOK (fn := Tryz.f223) 63 [] Tryz.func223 Tryz.results223 (fun g0 B0 Q ρ0 R => ?_)
 refine en tOK 0 1 [] ?_
 refine sn tOK 0 3 [] ?_
 refine sl 0 ?_
 refine E_loop (σ := Unit) (fun _ => True) (fun _ => 0)
   (fun _ => [(0, .o 1000 1), (1, nI 1), (2, .f 104 [] []), (6, nI 20), (7, nI 0), (8, nI 20)])
   (fun _ => [(1000, .r 98 3 [serL v])]) () ?_ ?_
 ·trivial
 ·rintro J _ _ hJ
  refine en tOK 0 3 [] ?_
  refine sn tOK 1 4 [] ?_
  refine fp tOK 1000 0 [] (insS1_ok (v := v)) ?_
  refine sl 0 ?_
  refine E_loop (σ := Unit) (fun _ => True) (fun _ => 0)
    (fun _ => [(1, nI 1), (6, nI 20)])
    (fun _ => [(1000, .r 98 3 [serL v])]) () ?_ ?_
  ·trivial
  ·rintro J _ _ hJ
   refine en tOK 0 3 [] ?_
   refine sfp 1 R ?_
   exact ⟨rfl, rfl⟩
set_option maxRecDepth 100000 in
theorem sstS1_ok {v : Val} : Fp Tryz.prog gT 149 [.o 1000 1, .f 104 [] []] (.r 98 3 [serL v]) (.t []) (.r 98 3 [serL v]) := by
 refine fpb tOK (fn := Tryz.f149) 9 [] Tryz.func149 Tryz.results149 (fun g0 B0 Q ρ0 R => ?_)
 refine en tOK 0 4 [] ?_
 refine fp tOK 1000 0 [] (stabS1_ok (v := v)) ?_
 refine sfp 0 R ?_
 exact ⟨rfl, rfl⟩
set_option maxRecDepth 100000 in
theorem sortedS1_ok {v : Val} : FnN Tryz.prog gT 102 [.f 150 [] [.p [rS1 [v]]], .f 104 [] []] (.o 903 1) 903 (.r 98 3 [serL v]) := by
 refine fnb tOK (fn := Tryz.f102) 12 [.tmp 4] Tryz.func102 Tryz.results102 (fun g0 B0 Q ρ0 R => ?_)
 refine en tOK 0 1 [] ?_
 refine sn tOK 0 1 [] ?_
 refine fnw tOK 1 [] ((collect_ok (l := [v]) (by simp) : FnN Tryz.prog gT 148 [.f 150 [] [.p [rS1 [v]]]] (.o 903 1) 903 (.r 98 3 [serL v]))) ?_
 refine sn tOK 0 2 [] ?_
 refine fp tOK 903 0 [] (sstS1_ok (v := v)) ?_
 refine sn tOK 0 2 [] ?_
 refine srn 0 R ?_
 exact ⟨rfl, rfl⟩
set_option maxRecDepth 100000 in
theorem sortS1_ok {v : Val} (hv : isV v = true) : FnN Tryz.prog gT 55 [rS1 [v]] (.t [.o 903 1, nI 0]) 903 (.r 98 3 [serL v]) := by
 refine fnb tOK (fn := Tryz.f55) 37 [.tmp 2, .tmp 3] Tryz.func55 Tryz.results55 (fun g0 B0 Q ρ0 R => ?_)
 refine en tOK 0 2 [] ?_
 refine sn tOK 0 1 [] ?_
 refine fc tOK 1 [] (contS_ok (l := [v]) (p := fun _ => false) (fun v _ => sort1c_ok)) ?_
 refine sn tOK 1 1 [] ?_
 refine fc tOK 1 [] (contS_ok (l := [v]) (p := fun v => !isV v) (fun v _ => sort2c_ok)) ?_
 refine sib 0 rfl rfl (fun h8 => ?_) (fun h8 => ?_)
 ·simp [hv] at h8
 ·refine en tOK 0 1 [] ?_
  refine fc tOK 0 [] (valuesS_ok) ?_
  refine fnw tOK 1 [] (sortedS1_ok (v := v)) ?_
  refine sn tOK 0 1 [] ?_
  refine sl 0 ?_
  refine E_loop (σ := Unit) (fun _ => True) (fun _ => 0)
    (fun _ => [(0, .o 903 1), (4, nI 1)])
    (fun _ => [(903, .r 98 3 [serL v])]) () ?_ ?_
  ·trivial
  ·rintro J _ _ hJ
   refine en tOK 0 4 [] ?_
   refine sn tOK 1 3 [] ?_
   refine sn tOK 1 3 [] ?_
   refine srn 0 R ?_
   exact ⟨rfl, rfl⟩
end Go.Proofs.YtomkgfdigldhcaaGreatDoor
namespace Go.Proofs.YtomkgfdigldhcaaGreatDoor
open Go.KX
set_option maxRecDepth 100000 in
theorem mapS1_ok {op : Bytes} {v w : Val} (hv : isV v = true) (h0 : (doV op [numV 0]).2 = 0) (hw : (doV op [v]).1 = w) : Fc Tryz.prog gT 56 [.str op, rS1 [v]] (.t [rS1 [w], nI 0]) := by
 refine fb tOK (fn := Tryz.f56) 43 [.tmp 4, .tmp 5] Tryz.func56 Tryz.results56 (fun g0 B0 Q ρ0 R => ?_)
 refine en tOK 0 2 [] ?_
 refine sn tOK 0 1 [] ?_
 refine fnw tOK 5 [] (sortS1_ok hv) ?_
 refine sn tOK 0 3 [] ?_
 refine sn tOK 1 1 [] ?_
 refine fc tOK 2 [] (knows1_ok (op := op)) ?_
 refine sib 0 rfl rfl (fun h18 => ?_) (fun h18 => ?_)
 ·simp [h0] at h18
 ·refine en tOK 0 3 [] ?_
  refine sl 0 ?_
  refine E_loop (σ := Nat) (fun j => j ≤ 1) (fun j => 1 - j)
    (fun j => [(0, .str op), (1, .o 903 1), (22, .o 903 1), (23, nI 1), (24, nI j)])
    (fun j => [(903, .r 98 3 [serL (if j = 0 then v else w)])]) 0 ?_ ?_
  ·exact Nat.zero_le _
  ·rintro J j hj0 hJ
   refine en tOK 0 1 [] ?_
   refine si 0 rfl rfl (fun h25 => ?_) (fun h25 => ?_)
   ·have hj : j = 0 := by omega
    subst hj
    refine emb 903 (mb' := .r 98 3 [serL v]) ?_ ?_
    ·simp
    refine en tOK 0 1 [] ?_
    refine sri tOK 0 (rows := [serL v]) rfl (by simp) rfl ?_
    refine srl tOK 0 0 (row := serL v) rfl ?_
    refine go tOK 3 [] ?_
    refine sn tOK 0 6 [] ?_
    refine fc tOK 3 [] (vdo_ok (op := op) (l := [v])) ?_
    refine sri tOK 0 (rows := [serL v]) rfl (by simp) rfl ?_
    refine go tOK 1 [] ?_
    refine srs tOK 0 1 (row := serL v) rfl ?_
    refine sn tOK 0 2 [] ?_
    refine sl 0 ?_
    refine emb 903 (mb' := .r 98 3 [serL w]) ?_ ?_
    ·rw [← hw]; rfl
    exact hJ 1 (by omega) (by omega)
   ·have hj : j = 1 := by omega
    subst hj
    refine emb 903 (mb' := .r 98 3 [serL w]) ?_ ?_
    ·simp
    refine en tOK 0 3 [] ?_
    refine sezo 4 (rows := [serL w]) ?_ ?_ (hr := by simp)
    ·rfl
    refine sr 0 R ?_
    rfl
end Go.Proofs.YtomkgfdigldhcaaGreatDoor
namespace Go.Proofs.YtomkgfdigldhcaaGreatDoor
open Go.KX
set_option maxRecDepth 100000 in
theorem backF_ok {l : List (Bytes × Val)} : Fc Tryz.prog gT 54 [rF l] (.f 96 [] [.p [rF l]]) := by
 refine fb tOK (fn := Tryz.f54) 4 [.tmp 2] Tryz.func54 Tryz.results54 (fun g0 B0 Q ρ0 R => ?_)
 refine en tOK 0 2 [] ?_
 refine sz 1 ?_
 refine sn tOK 0 2 [] ?_
 refine sr 0 R ?_
 rfl
set_option maxRecDepth 100000 in
theorem backF1_ok {l : List (Bytes × Val)} (hl : l.length ≤ 1000000) : Itr Tryz.prog gT 96 [.p [rF l]] (bkF l) := by
 refine itrb tOK (fn := Tryz.f96) 19 Tryz.func96 Tryz.results96 (fun lp R hR g0 B0 Q ρ0 ms0 RR => ?_)
 rw [bkF_len] at RR
 refine en tOK 0 4 [] ?_
 refine sl 0 ?_
 refine eas 3 rfl (v' := nI ((l.length : Int) - 1 - (0 : Nat))) (by simp) ?_
 refine E_loopO (σ := Nat × List Res) (fun st => st.1 ≤ l.length) (fun st => l.length - st.1)
   (fun st => [(0, .v (.func (.yield lp) #[] #[])), (1, .p [rF l]), (3, nI ((l.length : Int) - 1 - st.1))])
   (fun st => R.f st.1 st.2 :: gT) (fun st => st.2) (0, ms0) ?_ ?_
 ·exact Nat.zero_le _
 ·rintro J ⟨j, ms⟩ hj0 hJ
  dsimp only at hj0 ⊢
  refine en tOK 0 2 [] ?_
  refine si 0 rfl rfl (fun h8 => ?_) (fun h8 => ?_)
  ·have hj : j < l.length := by omega
   refine en tOK 0 6 [frF (l[l.length - 1 - j]'(by omega)).1 (l[l.length - 1 - j]'(by omega)).2] ?_ (hφ := by exact ⟨by omega, row_atI (by omega)⟩)
   refine yw hR (bkF_get hj) (fun ms2 => ?_) (fun ms2 => ?_)
   ·refine go tOK 1 [] ?_
    refine sn tOK 1 3 [] ?_
    refine sl 0 ?_
    exact hJ (j + 1, ms2) (by dsimp only; omega) (by dsimp only; omega)
   ·refine go tOK 1 [] ?_
    refine sl 1 ?_
    exact RR.retx
  ·have ej : j = l.length := by omega
   subst ej
   refine el 0 ?_
   exact RR.fall
set_option maxRecDepth 100000 in
theorem evr_ok {l : List (Bytes × Val)} {n : Bytes} {v : Val} (hl : l.length ≤ 1000000) (hall : ∀ p ∈ l, isV p.2 = true) (h : lastR l n = some v) : Fc Tryz.prog gT 16 [.a [nI 2, .str n, nI 0, nI 0, .s 0 []], rF l] (.t [rS1 [v], nI 0]) := by
 refine fbm tOK (fn := Tryz.f16) 79 [.cell 4 32, .cell 5 33] Tryz.func16 Tryz.results16 (fun g0 B0 Q ρ0 R RM => ?_)
 refine en tOK 0 3 [] ?_
 refine sn tOK 0 2 [] ?_
 refine sn tOK 0 2 [] ?_
 refine sn tOK 1 2 [] ?_
 refine sz 2 ?_
 refine sn tOK 1 1 [] ?_
 refine fc tOK 0 [] (backF_ok (l := l)) ?_
 refine sl 0 ?_
 refine E_range (ι := Unit) (fun j => msF l n j) (fun _ => [(5, .c 33 [nI 0]), (4, .c 32 [rS1 [v]])]) (backF1_ok hl) (fun j av hj lp g1 B1 ρ1 Q1 Q2 own1 own2 J hJ hE hX => ?_) (fun D => ?_) (fun D i => ?_) (fun a ha => (bkF_clo a ha).1) (fun a ha => (bkF_clo a ha).2)
 ·have hjl : j < l.length := by
   have := (List.getElem?_eq_some_iff.1 hj).1
   rwa [bkF_len] at this
  rw [bkF_get hjl] at hj
  cases hj
  show E _ _ _ (upM (msF l n j)) _ _
  have hb : noneB l n j = true ∨ noneB l n j = false := by cases noneB l n j <;> simp
  rcases hb with hb | hb
  rotate_left
  · rw [msF_f hb]
    exact E_abs (fun g ρ ms => no_denF)
  rw [msF_t hb]
  refine en tOK 0 2 [] ?_
  refine sl 0 ?_
  refine hJ ?_
  refine en tOK 0 5 [] ?_
  refine si 0 rfl rfl (fun h30 => ?_) (fun h30 => ?_)
  ·have ev : (l[l.length - 1 - j]'(by omega)).2 = v := by
    have := last_at hjl hb h30
    rw [h] at this
    cases this
    rfl
   refine en tOK 0 2 [] ?_
   refine fnw tOK 2 [] (sortS1_ok (v := (l[l.length - 1 - j]'(by omega)).2) (hall _ (List.getElem_mem _))) ?_
   refine sezo 34 (rows := [serL (l[l.length - 1 - j]'(by omega)).2]) rfl ?_ (hr := by simp)
   refine go tOK 2 [] ?_
   refine sl 0 ?_
   refine emb 1004 (mb' := .c 32 [rS1 [v]]) ?_ ?_
   ·rw [← ev]; rfl
   exact hX () rfl
  ·refine el 0 ?_
   exact hE (by rw [msF_t (noneB_next hjl hb h30)]; rfl)
 ·rw [bkF_len]
  show E _ _ _ (msF l n l.length) _ _
  rw [msF_f (none_len h)]
  exact E_abs (fun g ρ ms => no_denF)
 ·refine erm 0 (RM D) ?_
  rfl
set_option maxRecDepth 100000 in
theorem evo_ok {l : List (Bytes × Val)} {o : Bytes} {a : Ex} {v w : Val} (ha : Fc Tryz.prog gT 16 [exS a, rF l] (.t [rS1 [v], nI 0])) (hv : isV v = true) (h0 : (doV o [numV 0]).2 = 0) (hw : (doV o [v]).1 = w) : Fc Tryz.prog gT 16 [.a [nI 3, .str o, nI 0, nI 0, .s 5 [exL a]], rF l] (.t [rS1 [w], nI 0]) := by
 refine fbm tOK (fn := Tryz.f16) 79 [.cell 4 32, .cell 5 33] Tryz.func16 Tryz.results16 (fun g0 B0 Q ρ0 R RM => ?_)
 refine en tOK 0 3 [] ?_
 refine sn tOK 0 2 [] ?_
 refine sn tOK 0 2 [] ?_
 refine sn tOK 1 2 [] ?_
 refine sn tOK 1 1 [] ?_
 refine sz 2 ?_
 refine sn tOK 0 4 [] ?_
 refine sl 0 ?_
 refine eonl 8 903 32 1 ?_
 refine E_loop (σ := Nat) (fun j => j ≤ 1) (fun j => 1 - j)
   (fun j => [(1, rF l), (2, .p [nI 3, .str o, nI 0, nI 0, .s 5 [exL a]]), (4, .l 4 0), (5, .l 5 0), (8, .o 903 (List.replicate j [rS1 [v]]).length), (37, .s 5 [exL a]), (38, nI 1), (39, nI j)])
   (fun j => [(903, .r 32 1 (List.replicate j [rS1 [v]])), (5, .c 33 [nI 0]), (4, .c 32 [.s 0 []])]) 0 ?_ ?_
 ·exact Nat.zero_le _
 ·rintro J j hj0 hJ
  refine en tOK 0 1 [] ?_
  refine si 0 rfl rfl (fun h40 => ?_) (fun h40 => ?_)
  ·have hj : j = 0 := by omega
   subst hj
   refine en tOK 0 4 [exL a] ?_
   refine sn tOK 0 2 [] ?_
   refine fc tOK 5 [] (ha) ?_
   refine sn tOK 0 2 [] ?_
   refine sn tOK 1 3 [] ?_
   refine sap tOK 1 [] rfl (fun _ => rfl) ?_ ?_
   ·simp
   refine sn tOK 0 2 [] ?_
   refine sl 0 ?_
   exact hJ 1 (by omega) (by omega)
  ·have hj : j = 1 := by omega
   subst hj
   refine eezo 8 (rows := [[rS1 [v]]]) rfl ?_ (hr := by simp)
   refine en tOK 0 3 [] ?_
   refine sdr 1 768 [0, 1, 0, 4, 12, 31, 63, 63, 255, 511] [0, 1, 2, 3, 4, 5, 6, 7, 8, 9] ?_
   refine xd tOK 5 [[rS1 [v]]] ?_
   refine dc tOK 4 [] (mapS1_ok hv h0 hw) ?_
   refine xe ?_
   refine sr 0 R ?_
   rfl
end Go.Proofs.YtomkgfdigldhcaaGreatDoor
namespace Go.KX
/-- Slots that do not speak of any block. -/
def cloSL : SL → Bool
  | [] => true
  | (_, sv) :: r => clo sv && cloSL r
theorem cloSL_get : ∀ {L : SL}, cloSL L = true → ∀ t sv, lkS L t = some sv → clo sv = true
  | [], _, t, sv, h => by cases h
  | (u, x) :: r, hc, t, sv, h => by
    simp only [cloSL, Bool.and_eq_true] at hc
    by_cases htu : t = u
    · subst htu
      rw [lkS_same] at h
      cases h
      exact hc.1
    · rw [lkS_ne _ _ htu] at h
      exact cloSL_get hc.2 t sv h
section
variable {k : List It} {L : SL} {M : SM} {fs : List MF} {own : List Res} {arr : Array Oper} {l : List Oper} {o : Oper}
/-- What is owned, and spoken of by one slot alone, is pinned (and so on, back). -/
theorem E_pin {cx : Cx} {ρ0 : Nat → Lc} (t i j : Nat) {n T sz : Nat} {rows : List (List SV)} {L1 : SL} (hj : 1000 ≤ j) (h : ∀ ρ1, E ⟨cx, ρ1⟩ k ((t, .o j n) :: L1) [(j, .r T sz rows)] fs own) (ht : lkS L t = some (.o i n) := by rfl) (hc : cloSL L1 = true := by rfl) (hs : ∀ u sv, lkS L1 u = some sv → lkS L u = some sv) : E ⟨cx, ρ0⟩ k L [(i, .r T sz rows)] fs own := by
  intro g a s
  obtain ⟨ρ, ms, s1, s2, s3⟩ := s
  cases s2 with
  | cons hB tl =>
    cases tl
    cases hB with
    | r hz ys hl hd =>
      have hB' : DenB g (fun q => if q = j then ρ i else ρ q) j (.r T sz rows) (Res.arr (elRow sz hz) T ((fun q => if q = j then ρ i else ρ q) j).ad ((fun q => if q = j then ρ i else ρ q) j).c ys) := .r hz ys hl hd
      simp only [if_pos] at hB'
      refine h (fun q => if q = j then ρ i else ρ q) g a ⟨fun q => if q = j then ρ i else ρ q, _, ⟨s1.kn, s1.all, s1.own, s1.ext, s1.new⟩, .cons hB' .nil, fun q _ => rfl, fun u sv hu => ?_⟩
      by_cases hut : u = t
      · subst hut
        rw [lkS_same] at hu
        cases hu
        obtain ⟨x, hx, dx⟩ := s3.val u _ ht
        refine ⟨x, hx, ?_⟩
        cases dx with
        | o =>
          have : Den g (fun q => if q = j then ρ i else ρ q) (.o j n) (.slice ((fun q => if q = j then ρ i else ρ q) j).ad n ((fun q => if q = j then ρ i else ρ q) j).c) := .o
          simpa using this
      · rw [lkS_ne _ _ hut] at hu
        obtain ⟨x, hx, dx⟩ := s3.val u sv (hs u sv hu)
        exact ⟨x, hx, dx.swap (cloSL_get hc u sv hu) _⟩
theorem E_unpin {cx : Cx} {ρ0 ρ1 : Nat → Lc} (t i j : Nat) {n T sz : Nat} {rows : List (List SV)} {L1 : SL} (hi : i < 1000) (h : E ⟨cx, ρ0⟩ k ((t, .o i n) :: L1) [(i, .r T sz rows)] fs own) (ht : lkS L t = some (.o j n) := by rfl) (hc : cloSL L1 = true := by rfl) (hs : ∀ u sv, lkS L1 u = some sv → lkS L u = some sv) : E ⟨cx, ρ1⟩ k L [(j, .r T sz rows)] fs own := by
  intro g a s
  obtain ⟨ρ, ms, s1, s2, s3⟩ := s
  cases s2 with
  | cons hB tl =>
    cases tl
    cases hB with
    | r hz ys hl hd =>
      have hB' : DenB g (fun q => if q = i then ρ j else ρ0 q) i (.r T sz rows) (Res.arr (elRow sz hz) T ((fun q => if q = i then ρ j else ρ0 q) i).ad ((fun q => if q = i then ρ j else ρ0 q) i).c ys) := .r hz ys hl hd
      simp only [if_pos] at hB'
      refine h g a ⟨fun q => if q = i then ρ j else ρ0 q, _, ⟨s1.kn, s1.all, s1.own, s1.ext, s1.new⟩, .cons hB' .nil, fun q hq => ?_, fun u sv hu => ?_⟩
      · have : q ≠ i := by omega
        simp only [if_neg this]
      by_cases hut : u = t
      · subst hut
        rw [lkS_same] at hu
        cases hu
        obtain ⟨x, hx, dx⟩ := s3.val u _ ht
        refine ⟨x, hx, ?_⟩
        cases dx with
        | o =>
          have : Den g (fun q => if q = i then ρ j else ρ0 q) (.o i n) (.slice ((fun q => if q = i then ρ j else ρ0 q) i).ad n ((fun q => if q = i then ρ j else ρ0 q) i).c) := .o
          simpa using this
      · rw [lkS_ne _ _ hut] at hu
        obtain ⟨x, hx, dx⟩ := s3.val u sv (hs u sv hu)
        exact ⟨x, hx, dx.swap (cloSL_get hc u sv hu) _⟩
variable {X : Kx}
/-- xs[b:], xs owned and pinned. -/
theorem Stp_otl {tb : TT} (hT : tb.Ok X.P) {T Te d i n sz b : Nat} {kk : IntKind} {z : Int} {x lo : Operand} {rows : List (List SV)} {dT de : TD} (hi : 1000 ≤ i) (hzb : z = (b : Int)) (hb : b < n) (hn : n = rows.length) (ho : o.op = .slice T x (some lo) none none) (hg : o.guard = none) (hd : o.dst = some d) (hdn : Nat.blt d X.n = true) (hx : evS (lkS L) x = some (.o i n)) (hy : evS (lkS L) lo = some (.v (.int kk z))) (hm : lkM M i = some (.r Te sz rows))
    (hT1 : tb.get T = some dT) (hk1 : dT.kd = .sl Te) (hT2 : tb.get Te = some de) (hsz : de.sz = sz) : Stp X arr o L M fs own (.v (.slice ((X.ρ0 i).ad.map (·.add (b * sz))) (n - b) ((X.ρ0 i).c - b))) M := by
  subst hzb hsz hn
  have hG : gS arr (lkS L) o = some none := by unfold gS; rw [hg]
  refine Stp_read (sv := .v (.slice ((X.ρ0 i).ad.map (·.add (b * de.sz))) (rows.length - b) ((X.ρ0 i).c - b))) hG hd hdn (fun L' hL hon g a ρ ms st => ?_)
  have hSl : Sl X ρ L' a g := st.all _ (.tail _ (.head _))
  have hM : DenM g ρ M ms := st.all _ (.head _)
  have hev : evs (lkS L') [x, lo] = some [.o i rows.length, .v (.int kk (b : Int))] := by
    have := evs_agree' hL
    rw [show o.op.operands.toList = [x, lo] by rw [ho]; rfl] at this
    rw [this]
    simp only [evs, hx, hy]
  obtain ⟨_, _, e1, dx, hr1⟩ := (evals_den hSl.val hev).uncons
  obtain ⟨_, _, e2, dy, _⟩ := hr1.uncons
  simp only [List.map_cons, List.cons.injEq] at e1
  obtain ⟨rfl, rfl⟩ := e1
  simp only [List.cons.injEq] at e2
  obtain ⟨rfl, _⟩ := e2
  have hyv := den_int dy
  have u := (TT.get_ok hT hT1).kd
  rw [hk1] at u
  have hti := (TT.get_ok hT hT2).ti
  have hpin : ρ i = X.ρ0 i := hSl.pin i hi
  obtain ⟨r, m1, m2, rfl, hB, _⟩ := hM.split hm
  generalize hvx : a.eval x = vx at dx
  cases hB with
  | r hz ys hl hdd =>
    cases dx with
    | o =>
      obtain ⟨b0, had, _, hown⟩ := arr_head (st.own.p _ (List.mem_append_left _ (List.mem_append_right _ (.head _)))) (by omega)
      have hcap : ys.length ≤ (ρ i).c ∧ (ρ i).c ≤ maxLen := by
        rcases hown.2 with ⟨h', _⟩ | ⟨gg, cap, cur, h', hb0, hblk, hnc, hcm, hcs, htk⟩
        · simp at h'
        · simp only [Value.slice.injEq, true_and] at h'
          rw [h'.2]
          exact ⟨hnc, hcm⟩
      refine ⟨_, ?_, .v⟩
      have hb1 := run_sliceBound (P := X.P) (w := g.w) (kk := kk) (z := (b : Int)) (m := rows.length) (code := .sliceB) (by omega) (by omega)
      have hb2 : (Instr.sliceBounds true rows.length (ρ i).c (some (.int kk (b : Int))) none none).run X.P g.w = .ok (b, rows.length, (ρ i).c) g.w := by
        simp only [Instr.sliceBounds, Sem.run_bind, Sem.run_pure, Result.andThen_ok, Option.isSome_none, Bool.false_eq_true, if_false, hb1, Int.toNat_natCast]
      simp only [execOp, ho, hvx, ← hpin]
      simp only [Option.map_some, Option.map_none, hyv, Instr.sliceAt, Instr.slice, Sem.run_bind, run_underlying u, Result.andThen_ok, hb2, run_sizeOf hti, Sem.run_pure]
      have hne : ¬ (ρ i).c = b := by omega
      first | (simp [hne]; done) | (simp only [if_neg hne])
/-- xs[:b], xs owned and pinned. -/
theorem Stp_oct {tb : TT} (hT : tb.Ok X.P) {T Te d i n sz b : Nat} {kk : IntKind} {z : Int} {x hi' : Operand} {rows : List (List SV)} {dT de : TD} (hi : 1000 ≤ i) (hzb : z = (b : Int)) (hb : b ≤ n) (hn : n = rows.length) (hn0 : 0 < n) (ho : o.op = .slice T x none (some hi') none) (hg : o.guard = none) (hd : o.dst = some d) (hdn : Nat.blt d X.n = true) (hx : evS (lkS L) x = some (.o i n)) (hy : evS (lkS L) hi' = some (.v (.int kk z))) (hm : lkM M i = some (.r Te sz rows))
    (hT1 : tb.get T = some dT) (hk1 : dT.kd = .sl Te) (hT2 : tb.get Te = some de) (hsz : de.sz = sz) : Stp X arr o L M fs own (.v (.slice (X.ρ0 i).ad b (X.ρ0 i).c)) M := by
  subst hzb hsz hn
  have hG : gS arr (lkS L) o = some none := by unfold gS; rw [hg]
  refine Stp_read (sv := .v (.slice (X.ρ0 i).ad b (X.ρ0 i).c)) hG hd hdn (fun L' hL hon g a ρ ms st => ?_)
  have hSl : Sl X ρ L' a g := st.all _ (.tail _ (.head _))
  have hM : DenM g ρ M ms := st.all _ (.head _)
  have hev : evs (lkS L') [x, hi'] = some [.o i rows.length, .v (.int kk (b : Int))] := by
    have := evs_agree' hL
    rw [show o.op.operands.toList = [x, hi'] by rw [ho]; rfl] at this
    rw [this]
    simp only [evs, hx, hy]
  obtain ⟨_, _, e1, dx, hr1⟩ := (evals_den hSl.val hev).uncons
  obtain ⟨_, _, e2, dy, _⟩ := hr1.uncons
  simp only [List.map_cons, List.cons.injEq] at e1
  obtain ⟨rfl, rfl⟩ := e1
  simp only [List.cons.injEq] at e2
  obtain ⟨rfl, _⟩ := e2
  have hyv := den_int dy
  have u := (TT.get_ok hT hT1).kd
  rw [hk1] at u
  have hti := (TT.get_ok hT hT2).ti
  have hpin : ρ i = X.ρ0 i := hSl.pin i hi
  obtain ⟨r, m1, m2, rfl, hB, _⟩ := hM.split hm
  generalize hvx : a.eval x = vx at dx
  cases hB with
  | r hz ys hl hdd =>
    cases dx with
    | o =>
      obtain ⟨b0, had, _, hown⟩ := arr_head (st.own.p _ (List.mem_append_left _ (List.mem_append_right _ (.head _)))) (by omega)
      have hcap : ys.length ≤ (ρ i).c := by
        rcases hown.2 with ⟨h', _⟩ | ⟨gg, cap, cur, h', hb0, hblk, hnc, hcm, hcs, htk⟩
        · simp at h'
        · simp only [Value.slice.injEq, true_and] at h'
          rw [h'.2]
          exact hnc
      refine ⟨_, ?_, .v⟩
      have hh := run_sliceBound (P := X.P) (w := g.w) (kk := kk) (z := (b : Int)) (m := (ρ i).c) (code := .sliceAcap) (by omega) (by omega)
      have hb2 : (Instr.sliceBounds true rows.length (ρ i).c none (some (.int kk (b : Int))) none).run X.P g.w = .ok (0, b, (ρ i).c) g.w := by
        simp only [Instr.sliceBounds, Sem.run_bind, Sem.run_pure, Result.andThen_ok, if_true, hh, Int.toNat_natCast]
      simp only [execOp, ho, hvx, ← hpin, had]
      simp only [Option.map_some, Option.map_none, hyv, Instr.sliceAt, Instr.slice, Sem.run_bind, run_underlying u, Result.andThen_ok, hb2, run_sizeOf hti, Sem.run_pure]
      simp [add_zeroA]
/-- Of two rows the first one is copied over the second one. -/
theorem Stp_odc {tb : TT} (hT : tb.Ok X.P) {d T T2 Te i sz : Nat} {x y : Operand} {r0 r1 : List SV} {dT de : TD} {M2 : SM} (hi : 1000 ≤ i) (ho : o.op = .call ⟨.builtin .copy, #[x, y], #[T, T2]⟩) (hg : o.guard = none) (hd : o.dst = some d) (hdn : Nat.blt d X.n = true)
    (hx : evS (lkS L) x = some (.v (.slice ((X.ρ0 i).ad.map (·.add (1 * sz))) (2 - 1) ((X.ρ0 i).c - 1)))) (hy : evS (lkS L) y = some (.v (.slice (X.ρ0 i).ad 1 (X.ρ0 i).c))) (hm : lkM M i = some (.r Te sz [r0, r1])) (hT1 : tb.get T = some dT) (hk1 : dT.kd = .sl Te) (hT2 : tb.get Te = some de) (hsz : de.sz = sz) (hu : updK M i (.r Te sz [r0, r0]) some = some M2) :
    Stp X arr o L M fs own (.v (.int .i64 1)) M2 := by
  subst hsz
  intro L' hL g a hE
  obtain ⟨ρ, ms, st⟩ := hE.open
  have hSl : Sl X ρ L' a g := st.all _ (.tail _ (.head _))
  have hM : DenM g ρ M ms := st.all _ (.head _)
  have hw : Region.wanted o (yielded arr a.tmps) = true := live_wanted (L := []) st.kn (live_none hg)
  unfold opQ
  rw [if_pos hw]
  have hev : evs (lkS L') [x, y] = some [.v (.slice ((X.ρ0 i).ad.map (·.add (1 * de.sz))) (2 - 1) ((X.ρ0 i).c - 1)), .v (.slice (X.ρ0 i).ad 1 (X.ρ0 i).c)] := by
    have := evs_agree' hL
    rw [show o.op.operands.toList = [x, y] by rw [ho]; rfl] at this
    rw [this]
    simp only [evs, hx, hy]
  obtain ⟨_, _, e1, dx, hr1⟩ := (evals_den hSl.val hev).uncons
  obtain ⟨_, _, e2, dy, _⟩ := hr1.uncons
  simp only [List.map_cons, List.cons.injEq] at e1
  obtain ⟨rfl, rfl⟩ := e1
  simp only [List.cons.injEq] at e2
  obtain ⟨rfl, _⟩ := e2
  have hvx := den_v dx
  have hvy := den_v dy
  have hpin : ρ i = X.ρ0 i := hSl.pin i hi
  obtain ⟨r, m1, m2, rfl, hB, hup⟩ := hM.split hm
  obtain ⟨M3, hK, hM3⟩ := hup hu
  cases hK
  have u := (TT.get_ok hT hT1).kd
  rw [hk1] at u
  have hti := (TT.get_ok hT hT2).ti
  cases hB with
  | r hz ys hl hdd =>
    match ys, hl with
    | [y0, y1], _ =>
      have hp : (m1 ++ Res.arr (elRow de.sz hz) Te (ρ i).ad (ρ i).c [y0, y1] :: m2 ++ own).Perm (Res.arr (elRow de.sz hz) Te (ρ i).ad (ρ i).c [y0, y1] :: (m1 ++ m2 ++ own)) := by
        simp only [List.append_assoc, List.cons_append]
        exact List.perm_middle
      have stp0 := st.perm hp
      have stp : St X.toCx [] (rowsD [y0, y1] [r0, r1] :: F1 ρ M _ :: F2 X ρ L' a :: fs) _ g a := ⟨stp0.kn, All.cons hdd stp0.all, stp0.own, stp0.ext, stp0.new⟩
      obtain ⟨b, had, hbs, hown⟩ := arr_head (stp.own.p _ (.head _)) (by simp)
      have hy0 := y0.2.1
      have hy1 := y1.2.1
      have hfl : flat (elRow de.sz hz) [y0, y0] = (flat (elRow de.sz hz) [y0, y1]).take de.sz ++ (y0.1 ++ (flat (elRow de.sz hz) [y0, y1]).drop (de.sz + y0.1.length)) := by
        show y0.1 ++ (y0.1 ++ []) = (y0.1 ++ (y1.1 ++ [])).take de.sz ++ (y0.1 ++ (y0.1 ++ (y1.1 ++ [])).drop (de.sz + y0.1.length))
        rw [List.take_append_of_le_length (by omega), List.take_of_length_le (by omega), List.drop_of_length_le (by simp; omega)]
      obtain ⟨g', hst, s'⟩ := stp.write (P := X.P) (ys' := [y0, y0]) (off := de.sz) (vs := y0.1) .head had rfl hfl (by show de.sz + y0.1.length ≤ 2 * de.sz; omega) y0.2.2
      have hM' : DenM g' ρ M _ := s'.all (F1 ρ M _) (.tail _ (.head _))
      have hd1 : (rowsD [y0, y1] [r0, r1]).p g' := s'.all _ (.head _)
      have hBn : DenB g' ρ i (.r Te de.sz [r0, r0]) (Res.arr (elRow de.sz hz) Te (ρ i).ad (ρ i).c [y0, y0]) := .r hz _ rfl (fun ρ' k x r hk hr => by
        match k, hk, hr with
        | 0, hk, hr => cases hk; cases hr; exact hd1 ρ' 0 y0 r0 rfl rfl
        | 1, hk, hr => cases hk; cases hr; exact hd1 ρ' 0 y0 r0 rfl rfl)
      have hMn := hM3 g' _ hM' hBn
      have hp2 : (Res.arr (elRow de.sz hz) Te (ρ i).ad (ρ i).c [y0, y0] :: (m1 ++ m2 ++ own)).Perm (m1 ++ Res.arr (elRow de.sz hz) Te (ρ i).ad (ρ i).c [y0, y0] :: m2 ++ own) := by
        simp only [List.append_assoc, List.cons_append]
        exact List.perm_middle.symm
      have s2 := s'.perm hp2
      have hcp := run_copy_to (P := X.P) (w := g.w) (w' := g'.w) (dT := T) (sT := T2) (ty := o.type) (dCap := (ρ i).c - 1) (sCap := (ρ i).c) (sLen := 1) (dLen := 1) (ad := ⟨b, de.sz, none⟩) (ad2 := ⟨b, 0, none⟩) (vs := y0.1) u hti (by rw [hy0]; simp) (fun j v hv => by
        rw [addr_add]
        have := row_cell hown (j := 0) (f := j) (y := y0) rfl hv
        rwa [Nat.zero_mul] at this) hst
      have hre : (execOp a.eval o).run X.P g.w = .ok (.value (goInt 1)) g'.w := by
        simp only [execOp, ho, resolve]
        simp only [List.map_toArray, List.map_cons, List.map_nil, hvx, hvy, ← hpin, had, Option.map_some, addr_add, Nat.one_mul, Nat.zero_add]
        simp [invoke, builtin, hcp]
      simp only [wn, hre, hd]
      have s3 : St X.toCx [] (F1 ρ M2 (m1 ++ Res.arr (elRow de.sz hz) Te (ρ i).ad (ρ i).c [y0, y0] :: m2) :: F2 X ρ L' a :: fs) (m1 ++ Res.arr (elRow de.sz hz) Te (ρ i).ad (ρ i).c [y0, y0] :: m2 ++ own) g' a := ⟨s2.kn, All.cons hMn (All.cons (s2.all (F2 X ρ L' a) (.tail _ (.tail _ (.head _)))) (fun f hf => s2.all f (.tail _ (.tail _ (.tail _ hf))))), s2.own, s2.ext, s2.new⟩
      exact ⟨g', rfl, ESt.put s3 hdn .v⟩
theorem dotl {tb : TT} (hT : tb.Ok X.P) (b m : Nat) (H : List (List SV)) {un q d i T Te n sz : Nat} {D r π' : List Nat} {Ms Ms' : List SM} {kk : IntKind} {z : Int} {x lo : Operand} {rows : List (List SV)} {dT de : TD} {L' M' φ} (hi0 : 1000 ≤ i) (hzb : z = (b : Int)) (hb : b < n) (hn : n = rows.length) (hk : ED X arr k fs own un D π' L' M' Ms') (hi : arr[q]? = some o := by rfl) (hu : un.testBit q = false := by rfl) (ho : o.op = .slice T x (some lo) none none := by rfl) (hg : o.guard = none := by rfl) (hd : o.dst = some d := by rfl) (hdn : Nat.blt d X.n = true := by rfl) (hx : evS (lkS L) x = some (.o i n) := by rfl) (hy : evS (lkS L) lo = some (.v (.int kk z)) := by rfl)
    (hm : lkM M i = some (.r Te sz rows) := by rfl) (hall : allQ i (.r Te sz rows) Ms := by repeat (first | exact trivial | refine ⟨rfl, ?_⟩)) (hbb : Nat.ble (hiU arr.size un D q) Ms.length = true := by rfl) (hT1 : tb.get T = some dT := by rfl) (hk1 : dT.kd = .sl Te := by rfl) (hT2 : tb.get Te = some de := by rfl) (hsz : de.sz = sz := by rfl)
    (hr : xdrw tb X.n arr un D m H r ((d, .v (.slice ((X.ρ0 i).ad.map (·.add (b * sz))) (n - b) ((X.ρ0 i).c - b))) :: L) M Ms [] = some (π', L', M', Ms', φ) := by rfl) (hφ : conj φ := by first | trivial | omega | (simp +contextual [conj]; done)) : ED X arr k fs own un D (q :: r) L M Ms := by
  refine ⟨o, .v (.slice ((X.ρ0 i).ad.map (·.add (b * sz))) (n - b) ((X.ρ0 i).c - b)), hi, ?_⟩
  rw [hu]
  refine ⟨.inl ⟨Nat.le_of_ble_eq_true hbb, Stp_otl hT hi0 hzb hb hn ho hg hd hdn hx hy hm hT1 hk1 hT2 hsz, fun q M2 hq _ => Stp_otl hT hi0 hzb hb hn ho hg hd hdn hx hy (allQ_get hall hq) hT1 hk1 hT2 hsz⟩, ?_⟩
  rw [hd]
  exact xd hT m H hk hr hφ
theorem doct {tb : TT} (hT : tb.Ok X.P) (b m : Nat) (H : List (List SV)) {un q d i T Te n sz : Nat} {D r π' : List Nat} {Ms Ms' : List SM} {kk : IntKind} {z : Int} {x hi' : Operand} {rows : List (List SV)} {dT de : TD} {L' M' φ} (hi0 : 1000 ≤ i) (hzb : z = (b : Int)) (hb : b ≤ n) (hn : n = rows.length) (hn0 : 0 < n) (hk : ED X arr k fs own un D π' L' M' Ms') (hi : arr[q]? = some o := by rfl) (hu : un.testBit q = false := by rfl) (ho : o.op = .slice T x none (some hi') none := by rfl) (hg : o.guard = none := by rfl) (hd : o.dst = some d := by rfl) (hdn : Nat.blt d X.n = true := by rfl) (hx : evS (lkS L) x = some (.o i n) := by rfl) (hy : evS (lkS L) hi' = some (.v (.int kk z)) := by rfl)
    (hm : lkM M i = some (.r Te sz rows) := by rfl) (hall : allQ i (.r Te sz rows) Ms := by repeat (first | exact trivial | refine ⟨rfl, ?_⟩)) (hbb : Nat.ble (hiU arr.size un D q) Ms.length = true := by rfl) (hT1 : tb.get T = some dT := by rfl) (hk1 : dT.kd = .sl Te := by rfl) (hT2 : tb.get Te = some de := by rfl) (hsz : de.sz = sz := by rfl)
    (hr : xdrw tb X.n arr un D m H r ((d, .v (.slice (X.ρ0 i).ad b (X.ρ0 i).c)) :: L) M Ms [] = some (π', L', M', Ms', φ) := by rfl) (hφ : conj φ := by first | trivial | omega | (simp +contextual [conj]; done)) : ED X arr k fs own un D (q :: r) L M Ms := by
  refine ⟨o, .v (.slice (X.ρ0 i).ad b (X.ρ0 i).c), hi, ?_⟩
  rw [hu]
  refine ⟨.inl ⟨Nat.le_of_ble_eq_true hbb, Stp_oct hT hi0 hzb hb hn hn0 ho hg hd hdn hx hy hm hT1 hk1 hT2 hsz, fun q M2 hq _ => Stp_oct hT hi0 hzb hb hn hn0 ho hg hd hdn hx hy (allQ_get hall hq) hT1 hk1 hT2 hsz⟩, ?_⟩
  rw [hd]
  exact xd hT m H hk hr hφ
theorem dodc {tb : TT} (hT : tb.Ok X.P) (m : Nat) (H : List (List SV)) {un q d i T T2 Te sz : Nat} {D r π' : List Nat} {Ms Ms' : List SM} {x y : Operand} {r0 r1 : List SV} {dT de : TD} {M2 : SM} {L' M' φ} (hi0 : 1000 ≤ i) (hm : lkM M i = some (.r Te sz [r0, r1])) (hk : ED X arr k fs own un D π' L' M' Ms') (hi : arr[q]? = some o := by rfl) (hu : un.testBit q = true := by rfl) (ho : o.op = .call ⟨.builtin .copy, #[x, y], #[T, T2]⟩ := by rfl) (hg : o.guard = none := by rfl) (hd : o.dst = some d := by rfl) (hdn : Nat.blt d X.n = true := by rfl)
    (hx : evS (lkS L) x = some (.v (.slice ((X.ρ0 i).ad.map (·.add (1 * sz))) (2 - 1) ((X.ρ0 i).c - 1))) := by rfl) (hy : evS (lkS L) y = some (.v (.slice (X.ρ0 i).ad 1 (X.ρ0 i).c)) := by rfl) (hT1 : tb.get T = some dT := by rfl) (hk1 : dT.kd = .sl Te := by rfl) (hT2 : tb.get Te = some de := by rfl) (hsz : de.sz = sz := by rfl) (hup : updK M i (.r Te sz [r0, r0]) some = some M2 := by rfl)
    (hr : xdrw tb X.n arr un D m H r ((d, .v (.int .i64 1)) :: L) M2 (M :: Ms) [] = some (π', L', M', Ms', φ) := by rfl) (hφ : conj φ := by first | trivial | omega | (simp +contextual [conj]; done)) : ED X arr k fs own un D (q :: r) L M Ms := by
  refine ⟨o, .v (.int .i64 1), hi, ?_⟩
  rw [hu]
  refine ⟨M2, (Stp_odc hT hi0 ho hg hd hdn hx hy hm hT1 hk1 hT2 hsz hup).u, ?_⟩
  rw [hd]
  exact xd hT m H hk hr hφ
end
theorem sub1 {L : SL} {t : Nat} {x : SV} (h : lkS L t = some x) : ∀ u sv, lkS [(t, x)] u = some sv → lkS L u = some sv := fun u sv hu => by
  by_cases e : u = t
  · subst e
    rw [lkS_same] at hu
    cases hu
    exact h
  · rw [lkS_ne _ _ e] at hu
    cases hu
/-- A new block, under another number. -/
theorem FnN.ren {P : Program} {fs : List MF} {f : FuncId} {args : List SV} {i n T sz : Nat} {x : Value} {rows : List (List SV)} (j : Nat) (h : FnN P fs f args (.t [.o i n, .v x]) i (.r T sz rows)) : FnN P fs f args (.t [.o j n, .v x]) j (.r T sz rows) := by
  refine ⟨h.1, fun ρ g vs hf ha => (h.2 ρ g vs hf ha).mono ?_⟩
  rintro e w' ⟨v, g', r, ρ', h1, h2, h3, h4, h5, h6, h7⟩
  cases h5 with
  | r hz ys hl hd =>
    refine ⟨v, g', _, fun q => if q = j then ρ' i else ρ' q, h1, h2, h3, ?_, ?_, h6, h7⟩
    · cases h4 with
      | t xs hl2 hd2 =>
        match xs, hl2 with
        | [a, b], _ =>
          refine .t [a, b] rfl (fun p sv v hp hv => ?_)
          match p, hp, hv with
          | 0, hp, hv =>
            cases hp
            cases hv
            have := hd2 0 _ a rfl rfl
            cases this with
            | o =>
              have : Den g' (fun q => if q = j then ρ' i else ρ' q) (.o j n) (.slice ((fun q => if q = j then ρ' i else ρ' q) j).ad n ((fun q => if q = j then ρ' i else ρ' q) j).c) := .o
              simpa using this
          | 1, hp, hv =>
            cases hp
            cases hv
            have := hd2 1 _ b rfl rfl
            cases this
            exact .v
    · have : DenB g' (fun q => if q = j then ρ' i else ρ' q) j (.r T sz rows) (Res.arr (elRow sz hz) T ((fun q => if q = j then ρ' i else ρ' q) j).ad ((fun q => if q = j then ρ' i else ρ' q) j).c ys) := .r hz ys hl hd
      simpa using this
end Go.KX
namespace Go.Proofs.YtomkgfdigldhcaaGreatDoor
open Go.KX
set_option maxRecDepth 100000 in
theorem bmul2_ok  : Fc Tryz.prog gT 225 [nU 1, nU 2] (.t [nU 0, nU 2]) := by
 refine fb tOK (fn := Tryz.f225) 30 [.tmp 4, .tmp 5] Tryz.func225 Tryz.results225 (fun g0 B0 Q ρ0 R => ?_)
 refine en tOK 0 2 [] ?_
 refine sn tOK 1 2 [] ?_
 refine fc tOK 5 [] ((mul64_ok (x := 1) (y := 2) (by decide) (by decide) : Fc Tryz.prog gT 288 [nU 1, nU 2] (.t [nU 0, nU 2]))) ?_
 refine sn tOK 0 4 [] ?_
 refine sr 0 R ?_
 rfl
set_option maxRecDepth 100000 in
theorem repeat2_ok {v : Val} : Fc Tryz.prog gT 155 [rV [v], nI 2] (rV [v, v]) := by
 refine fb tOK (fn := Tryz.f155) 48 [.tmp 4] Tryz.func155 Tryz.results155 (fun g0 B0 Q ρ0 R => ?_)
 refine en tOK 0 1 [] ?_
 refine sn tOK 0 2 [] ?_
 refine sn tOK 1 5 [] ?_
 refine fc tOK 5 [] (bmul2_ok) ?_
 refine sn tOK 0 6 [] ?_
 refine sn tOK 1 2 [] ?_
 refine smks tOK 902 2 (sz := 2) (by decide) [⟨[.int .i64 0, .int .i64 0], rfl, by decide⟩, ⟨[.int .i64 0, .int .i64 0], rfl, by decide⟩] rfl rfl rfl (by kernel_rfl) (by decide) (by decide) (TT.get_ok tOK (rfl : tb.get 26 = some _)).ti Tryz.underlying46 ?_
 refine go tOK 1 [] ?_
 refine sn tOK 0 2 [] ?_
 refine scpy tOK (rows := [[nI 0, nI 0], [nI 0, nI 0]]) (rows2 := (List.map (fun v : Val => [nI v.k, nI v.n]) [v])) rfl (by simp) (by simp) ?_
 refine go tOK 1 [] ?_
 refine sl 0 ?_
 refine E_loop (σ := Nat) (fun j => j = 1 ∨ j = 2) (fun j => 2 - j)
   (fun j => [(7, .o 902 2), (8, nI j)])
   (fun j => [(902, .r 26 2 [[nI v.k, nI v.n], if j = 1 then [nI 0, nI 0] else [nI v.k, nI v.n]])]) 1 ?_ ?_
 ·exact .inl rfl
 ·rintro J j hj0 hJ
  refine en tOK 0 4 [] ?_
  refine si 0 rfl rfl (fun h37 => ?_) (fun h37 => ?_)
  ·have hj : j = 1 := by omega
   subst hj
   refine emb 902 (mb' := .r 26 2 [[nI v.k, nI v.n], [nI 0, nI 0]]) ?_ ?_
   ·simp
   refine E_pin 7 902 1005 (L1 := [(8, nI 1)]) (by decide) (fun ρ1 => ?_) rfl rfl (sub1 rfl)
   refine edr 0 128 [0, 0, 0, 6, 0, 0, 48, 126, 255, 511] [0, 1, 2, 3, 4, 5, 6, 7, 8, 9] ?_
   refine xd tOK 3 [] ?_
   refine dotl tOK 1 2 [] (i := 1005) (n := 2) (rows := [[nI v.k, nI v.n], [nI 0, nI 0]]) (by decide) rfl (by decide) rfl ?_
   refine doct tOK 1 0 [] (i := 1005) (n := 2) (rows := [[nI v.k, nI v.n], [nI 0, nI 0]]) (by decide) rfl (by decide) rfl (by decide) ?_
   refine dodc tOK 2 [] (i := 1005) (by decide) rfl ?_
   refine xe ?_
   refine sl 0 ?_
   refine E_unpin (ρ0 := ρ0) 7 902 1005 (L1 := [(8, nI 2)]) (by decide) ?_ rfl rfl (sub1 rfl)
   exact hJ 2 (.inr rfl) (by omega)
  ·have hj : j = 2 := by omega
   subst hj
   refine emb 902 (mb' := .r 26 2 [[nI v.k, nI v.n], [nI v.k, nI v.n]]) ?_ ?_
   ·simp
   refine en tOK 0 2 [] ?_
   refine sezo 4 (rows := [[nI v.k, nI v.n], [nI v.k, nI v.n]]) ?_ ?_ (hr := by simp)
   ·simp
   refine sr 0 R ?_
   rfl
set_option maxRecDepth 100000 in
theorem knows2_ok {op : Bytes} : Fc Tryz.prog gT 106 [.str op, nI 2] (bS (decide ((doV op [numV 0, numV 0]).2 = 0))) := by
 refine fb tOK (fn := Tryz.f106) 18 [.tmp 4] Tryz.func106 Tryz.results106 (fun g0 B0 Q ρ0 R => ?_)
 refine en tOK 0 1 [] ?_
 refine sn tOK 0 1 [] ?_
 refine fc tOK 2 [] (vnum_ok (n := 0)) ?_
 refine fc tOK 0 [] (repeat2_ok (v := numV 0)) ?_
 refine fc tOK 6 [] (vdo_ok (op := op) (l := [numV 0, numV 0])) ?_
 refine sn tOK 0 3 [] ?_
 refine sr 0 R ?_
 rfl
set_option maxRecDepth 100000 in
theorem within0_ok  : Fc Tryz.prog gT 108 [.s 0 [], .s 0 []] (bS true) := by
 refine fb tOK (fn := Tryz.f108) 9 [.tmp 4] Tryz.func108 Tryz.results108 (fun g0 B0 Q ρ0 R => ?_)
 refine en tOK 0 2 [] ?_
 refine sz 3 ?_
 refine sn tOK 0 2 [] ?_
 refine fc tOK 2 [] (contL0_ok) ?_
 refine sr 0 R ?_
 rfl
set_option maxRecDepth 100000 in
theorem ljoin0_ok  : Fc Tryz.prog gT 109 [.s 0 [], .s 0 []] (.t [.s 0 [], bS true]) := by
 refine fb tOK (fn := Tryz.f109) 47 [.tmp 4, .tmp 5] Tryz.func109 Tryz.results109 (fun g0 B0 Q ρ0 R => ?_)
 refine en tOK 0 2 [] ?_
 refine sn tOK 0 1 [] ?_
 refine fc tOK 1 [] (cloneL0_ok) ?_
 refine sn tOK 0 3 [] ?_
 refine sl 0 ?_
 refine E_loop (σ := Unit) (fun _ => True) (fun _ => 0)
   (fun _ => [(6, .s 0 []), (15, nI 0), (16, nI 0)])
   (fun _ => []) () ?_ ?_
 ·trivial
 ·rintro J _ _ hJ
  refine en tOK 0 1 [] ?_
  refine sn tOK 1 1 [] ?_
  refine fc tOK 5 [] (make0_ok) ?_
  refine sn tOK 0 5 [] ?_
  refine sr 0 R ?_
  rfl
end Go.Proofs.YtomkgfdigldhcaaGreatDoor
