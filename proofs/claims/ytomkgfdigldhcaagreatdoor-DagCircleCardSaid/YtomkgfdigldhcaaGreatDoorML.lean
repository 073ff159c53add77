/- Walks: WB. -/
import Derived.Test.YtomkgfdigldhcaaGreatDoorMK
import Derived.RangeFuncRecord
import Derived.ArgAppend
namespace Go.Proofs.YtomkgfdigldhcaaGreatDoor
open Go.KX
set_option maxRecDepth 100000 in
theorem idxI_ok {l : List Int} {v : Int} : Fc Tryz.prog gT 318 [rI l, nI v] (nI (idxF (fun x => decide (v = x)) l)) := by
 refine fb tOK (fn := Tryz.f318) 19 [.tmp 4] Tryz.func318 Tryz.results318 (fun g0 B0 Q ρ0 R => ?_)
 refine en tOK 0 1 [] ?_
 refine sn tOK 0 3 [] ?_
 refine sl 0 ?_
 refine E_loop (σ := Nat) (fun j => j ≤ l.length ∧ ∀ x ∈ l.take j, decide (v = x) = false) (fun j => l.length - j)
   (fun j => [(0, rI l), (1, nI v), (4, nI 0), (7, nI l.length), (8, nI j)])
   (fun j => []) 0 ?_ ?_
 ·exact ⟨Nat.zero_le _, by simp⟩
 ·rintro J j ⟨hj0, hj1⟩ hJ
  refine elen 0 rfl (fun hl => ?_)
  simp only [List.length_map] at hl
  refine en tOK 0 1 [] ?_
  refine si 0 rfl rfl (fun h9 => ?_) (fun h9 => ?_)
  ·have hj : j < l.length := by omega
   refine en tOK 0 2 [] ?_
   refine sn tOK 0 6 [[nI l[j]]] ?_ (hφ := by exact ⟨by omega, row_at _ hj⟩)
   refine si 0 rfl rfl (fun h16 => ?_) (fun h16 => ?_)
   ·have e := idxF_some (p := fun x => decide (v = x)) hj hj1 (by simpa using h16)
    refine en tOK 0 2 [] ?_
    refine sr 0 R ?_
    rw [e]; rfl
   ·have hx : decide (v = l[j]) = false := by simpa using h16
    refine en tOK 0 2 [] ?_
    exact hJ (j + 1) ⟨by omega, take_next hj hj1 hx⟩ (by omega)
  ·have e := idxF_none (p := fun x => decide (v = x)) (fun x hx => hj1 x (by rw [List.take_of_length_le (by omega)]; exact hx))
   refine en tOK 0 1 [] ?_
   refine sr 0 R ?_
   rw [e]; rfl
set_option maxRecDepth 100000 in
theorem contI_ok {l : List Int} {v : Int} : Fc Tryz.prog gT 291 [rI l, nI v] (bS (l.any fun x => decide (v = x))) := by
 refine fb tOK (fn := Tryz.f291) 9 [.tmp 4] Tryz.func291 Tryz.results291 (fun g0 B0 Q ρ0 R => ?_)
 refine en tOK 0 1 [] ?_
 refine sn tOK 0 2 [] ?_
 refine fc tOK 2 [] (idxI_ok) ?_
 refine sr 0 R ?_
 rw [← idxF_any]; rfl
set_option maxRecDepth 100000 in
theorem idxV_ok {l : List Val} {fn : FuncId} {p : Val → Bool} (hs : ∀ v ∈ l, Fc Tryz.prog gT fn [vS v] (bS (p v))) : Fc Tryz.prog gT 221 [rV l, .f fn [] []] (nI (idxF p l)) := by
 refine fb tOK (fn := Tryz.f221) 19 [.tmp 4] Tryz.func221 Tryz.results221 (fun g0 B0 Q ρ0 R => ?_)
 refine en tOK 0 1 [] ?_
 refine sn tOK 0 3 [] ?_
 refine sl 0 ?_
 refine E_loop (σ := Nat) (fun j => j ≤ l.length ∧ ∀ x ∈ l.take j, p x = false) (fun j => l.length - j)
   (fun j => [(0, rV l), (1, .f fn [] []), (4, nI 0), (7, nI l.length), (8, nI j)])
   (fun j => []) 0 ?_ ?_
 ·exact ⟨Nat.zero_le _, by simp⟩
 ·rintro J j ⟨hj0, hj1⟩ hJ
  refine elen 0 rfl (fun hl => ?_)
  simp only [List.length_map] at hl
  refine en tOK 0 1 [] ?_
  refine si 0 rfl rfl (fun h9 => ?_) (fun h9 => ?_)
  ·have hj : j < l.length := by omega
   refine en tOK 0 2 [] ?_
   refine sn tOK 0 5 [[nI l[j].k, nI l[j].n]] ?_ (hφ := by exact ⟨by omega, row_at _ hj⟩)
   refine fc tOK 0 [] (hs l[j] (List.getElem_mem hj)) ?_
   refine sib 0 rfl rfl (fun h16 => ?_) (fun h16 => ?_)
   ·have e := idxF_some hj hj1 h16
    refine en tOK 0 2 [] ?_
    refine sr 0 R ?_
    rw [e]; rfl
   ·have hx := h16
    refine en tOK 0 2 [] ?_
    exact hJ (j + 1) ⟨by omega, take_next hj hj1 hx⟩ (by omega)
  ·have e := idxF_none (p := p) (fun x hx => hj1 x (by rw [List.take_of_length_le (by omega)]; exact hx))
   refine en tOK 0 1 [] ?_
   refine sr 0 R ?_
   rw [e]; rfl
set_option maxRecDepth 100000 in
theorem contV_ok {l : List Val} {fn : FuncId} {p : Val → Bool} (hs : ∀ v ∈ l, Fc Tryz.prog gT fn [vS v] (bS (p v))) : Fc Tryz.prog gT 146 [rV l, .f fn [] []] (bS (l.any p)) := by
 refine fb tOK (fn := Tryz.f146) 9 [.tmp 4] Tryz.func146 Tryz.results146 (fun g0 B0 Q ρ0 R => ?_)
 refine en tOK 0 1 [] ?_
 refine sn tOK 0 2 [] ?_
 refine fc tOK 2 [] (idxV_ok (p := p) hs) ?_
 refine sr 0 R ?_
 rw [← idxF_any]; rfl
set_option maxRecDepth 100000 in
theorem vcheck1_ok {v : Val} : Fc Tryz.prog gT 147 [vS v] (bS (!isV v)) := by
 refine fb tOK (fn := Tryz.f147) 6 [.tmp 2] Tryz.func147 Tryz.results147 (fun g0 B0 Q ρ0 R => ?_)
 refine en tOK 0 2 [] ?_
 refine sn tOK 0 1 [] ?_
 refine fc tOK 2 [] (vis_ok) ?_
 refine sr 0 R ?_
 rfl
set_option maxRecDepth 100000 in
theorem vcheck_ok {l : List Val} : Fc Tryz.prog gT 101 [rV l] (nI (if l.all isV then 0 else 80)) := by
 refine fb tOK (fn := Tryz.f101) 5 [.tmp 2] Tryz.func101 Tryz.results101 (fun g0 B0 Q ρ0 R => ?_)
 refine en tOK 0 1 [] ?_
 refine sn tOK 0 1 [] ?_
 refine fc tOK 0 [] (contV_ok (p := fun v => !isV v) (fun v _ => vcheck1_ok)) ?_
 refine sib 0 rfl rfl (fun h4 => ?_) (fun h4 => ?_)
 ·have e : ¬ l.all isV = true := by simpa using h4
  refine en tOK 0 1 [] ?_
  refine sr 0 R ?_
  first | (rw [if_pos e]; rfl) | (rw [if_neg e]; rfl)
 ·have e : l.all isV = true := by simpa using h4
  refine en tOK 0 1 [] ?_
  refine sr 0 R ?_
  first | (rw [if_pos e]; rfl) | (rw [if_neg e]; rfl)
set_option maxRecDepth 100000 in
theorem vkind1_ok {l : List Int} {v : Val} : Fc Tryz.prog gT 290 [vS v, .p [rI l]] (vS (truthV (l.any fun x => decide (v.k = x)))) := by
 refine fb tOK (fn := Tryz.f290) 9 [.cell 3 26] Tryz.func290 Tryz.results290 (fun g0 B0 Q ρ0 R => ?_)
 refine en tOK 0 2 [] ?_
 refine sn tOK 0 3 [] ?_
 refine fc tOK 0 [] (contI_ok) ?_
 refine fc tOK 1 [] (vtruth_ok) ?_
 refine sr 0 R ?_
 rfl
set_option maxRecDepth 100000 in
theorem vkind_ok {l : List Int} : Fc Tryz.prog gT 235 [rI l] (.f 290 [] [.p [rI l]]) := by
 refine fb tOK (fn := Tryz.f235) 4 [.tmp 2] Tryz.func235 Tryz.results235 (fun g0 B0 Q ρ0 R => ?_)
 refine en tOK 0 2 [] ?_
 refine sz 1 ?_
 refine sn tOK 0 2 [] ?_
 refine sr 0 R ?_
 rfl
set_option maxRecDepth 100000 in
theorem vplain1_ok {v : Val} {fn : FuncId} {φ : Int → Int} (hv : isV v = true) (hs : ∀ n, -1000000000000001 ≤ n → n ≤ 1000000000000001 → Fc Tryz.prog gT fn [nI n] (nI (φ n))) : Fc Tryz.prog gT 289 [vS v, .p [.f fn [] []]] (vS (plainV φ v)) := by
 refine fb tOK (fn := Tryz.f289) 18 [.cell 3 26] Tryz.func289 Tryz.results289 (fun g0 B0 Q ρ0 R => ?_)
 refine en tOK 0 2 [] ?_
 refine sn tOK 0 8 [] ?_
 refine sib 0 rfl rfl (fun h11 => ?_) (fun h11 => ?_)
 ·have e : plainV φ v = v := by unfold plainV; rw [if_pos (by simpa using h11)]
  refine en tOK 0 2 [] ?_
  refine sr 0 R ?_
  rw [e]; rfl
 ·have e : plainV φ v = numV (φ (rankV v)) := by unfold plainV; rw [if_neg (by simpa using h11)]
  refine edr 0 32 [0, 0, 2, 7, 15, 31] [0, 1, 2, 3, 4, 5] ?_
  refine xd tOK 2 [] ?_
  refine dc tOK 0 [] (vrank_ok) ?_
  refine dc tOK 0 [] (hs (rankV v) (rank_in hv).1 (rank_in hv).2) ?_
  refine dc tOK 1 [] (vback_ok) ?_
  refine xe ?_
  refine sr 0 R ?_
  rw [e]; rfl
set_option maxRecDepth 100000 in
theorem vplain_ok {fn : FuncId} : Fc Tryz.prog gT 228 [.f fn [] []] (.f 289 [] [.p [.f fn [] []]]) := by
 refine fb tOK (fn := Tryz.f228) 4 [.tmp 2] Tryz.func228 Tryz.results228 (fun g0 B0 Q ρ0 R => ?_)
 refine en tOK 0 2 [] ?_
 refine sz 1 ?_
 refine sn tOK 0 2 [] ?_
 refine sr 0 R ?_
 rfl
set_option maxRecDepth 100000 in
theorem vnumbers1_ok {a b : Val} {fn : FuncId} {φ : Val → Val → Val} (hs : Fc Tryz.prog gT fn [vS a, vS b] (vS (φ a b))) : Fc Tryz.prog gT 292 [vS a, vS b, .p [.f fn [] []]] (vS (numbersV φ a b)) := by
 refine fb tOK (fn := Tryz.f292) 19 [.cell 5 26] Tryz.func292 Tryz.results292 (fun g0 B0 Q ρ0 R => ?_)
 refine en tOK 0 3 [] ?_
 refine sn tOK 0 8 [] ?_
 refine sib 0 rfl rfl (fun h13 => ?_) (fun h13 => ?_)
 ·have e : numbersV φ a b = nanV := by unfold numbersV; rw [if_pos (by simpa using h13)]
  refine en tOK 0 0 [] ?_
  refine fc tOK 1 [] (vnan_ok) ?_
  refine sr 0 R ?_
  rw [e]; rfl
 ·have e : numbersV φ a b = φ a b := by unfold numbersV; rw [if_neg (by simpa using h13)]
  refine en tOK 0 3 [] ?_
  refine fc tOK 1 [] (hs) ?_
  refine sr 0 R ?_
  rw [e]; rfl
set_option maxRecDepth 100000 in
theorem vnumbers_ok {fn : FuncId} : Fc Tryz.prog gT 236 [.f fn [] []] (.f 292 [] [.p [.f fn [] []]]) := by
 refine fb tOK (fn := Tryz.f236) 4 [.tmp 2] Tryz.func236 Tryz.results236 (fun g0 B0 Q ρ0 R => ?_)
 refine en tOK 0 2 [] ?_
 refine sz 1 ?_
 refine sn tOK 0 2 [] ?_
 refine sr 0 R ?_
 rfl
set_option maxRecDepth 100000 in
theorem vorder1_ok {a b : Val} {fn : FuncId} {no : Bool} {φ : Int → Int → Bool} (hs : ∀ x y, Fc Tryz.prog gT fn [nI x, nI y] (bS (φ x y))) : Fc Tryz.prog gT 296 [vS a, vS b, .p [bS no], .p [.f fn [] []]] (vS (orderV no φ a b)) := by
 refine fb tOK (fn := Tryz.f296) 24 [.cell 6 26] Tryz.func296 Tryz.results296 (fun g0 B0 Q ρ0 R => ?_)
 refine en tOK 0 3 [] ?_
 refine sn tOK 0 8 [] ?_
 refine sib 0 rfl rfl (fun h14 => ?_) (fun h14 => ?_)
 ·have e : orderV no φ a b = truthV no := by unfold orderV; rw [if_pos (by simpa using h14)]
  refine en tOK 0 1 [] ?_
  refine fc tOK 1 [] (vtruth_ok) ?_
  refine sr 0 R ?_
  rw [e]; rfl
 ·have e : orderV no φ a b = truthV (φ (rankV a) (rankV b)) := by unfold orderV; rw [if_neg (by simpa using h14)]
  refine edr 0 128 [0, 0, 2, 0, 14, 31, 63, 127] [0, 1, 2, 3, 4, 5, 6, 7] ?_
  refine xd tOK 2 [] ?_
  refine dc tOK 1 [] (vrank_ok) ?_
  refine dc tOK 0 [] (vrank_ok) ?_
  refine dc tOK 0 [] (hs (rankV a) (rankV b)) ?_
  refine dc tOK 1 [] (vtruth_ok) ?_
  refine xe ?_
  refine sr 0 R ?_
  rw [e]; rfl
set_option maxRecDepth 100000 in
theorem vorder_ok {fn : FuncId} {no : Bool} : Fc Tryz.prog gT 243 [bS no, .f fn [] []] (.f 296 [] [.p [bS no], .p [.f fn [] []]]) := by
 refine fb tOK (fn := Tryz.f243) 6 [.tmp 4] Tryz.func243 Tryz.results243 (fun g0 B0 Q ρ0 R => ?_)
 refine en tOK 0 3 [] ?_
 refine sz 2 ?_
 refine sz 3 ?_
 refine sn tOK 0 2 [] ?_
 refine sr 0 R ?_
 rfl
set_option maxRecDepth 100000 in
theorem vone1_ok {n : Int} (h1 : -1000000000000001 ≤ n) (h2 : n ≤ 1000000000000001) : Fc Tryz.prog gT 229 [nI n] (nI (-n)) := by
 refine fb tOK (fn := Tryz.f229) 5 [.tmp 2] Tryz.func229 Tryz.results229 (fun g0 B0 Q ρ0 R => ?_)
 refine en tOK 0 1 [] ?_
 refine sn tOK 0 3 [] ?_
 refine sr 0 R ?_
 rw [← Int.zero_sub]; rfl
set_option maxRecDepth 100000 in
theorem vone2_ok {n : Int} (h1 : -1000000000000001 ≤ n) (h2 : n ≤ 1000000000000001) : Fc Tryz.prog gT 230 [nI n] (nI (max n (-n))) := by
 refine fb tOK (fn := Tryz.f230) 7 [.tmp 2] Tryz.func230 Tryz.results230 (fun g0 B0 Q ρ0 R => ?_)
 refine en tOK 0 1 [] ?_
 refine sn tOK 0 5 [] ?_
 refine sr 0 R ?_
 rw [← Int.zero_sub]; rfl
set_option maxRecDepth 100000 in
theorem vone4_ok {v : Val} : Fc Tryz.prog gT 233 [vS v] (vS (notV v)) := by
 refine fb tOK (fn := Tryz.f233) 11 [.cell 2 26] Tryz.func233 Tryz.results233 (fun g0 B0 Q ρ0 R => ?_)
 refine en tOK 0 2 [] ?_
 refine sn tOK 0 3 [] ?_
 refine si 0 rfl rfl (fun h5 => ?_) (fun h5 => ?_)
 ·have e : notV v = v := by unfold notV; rw [if_pos h5]
  refine en tOK 0 2 [] ?_
  refine sr 0 R ?_
  rw [e]; rfl
 ·have e : notV v = truthV (!trueV v) := by unfold notV; rw [if_neg h5]
  refine en tOK 0 1 [] ?_
  refine fc tOK 1 [] (vtrue_ok) ?_
  refine fc tOK 1 [] (vtruth_ok) ?_
  refine sr 0 R ?_
  rw [e]; rfl
set_option maxRecDepth 100000 in
theorem vone3_ok {v : Val} (hv : isV v = true) : Fc Tryz.prog gT 231 [vS v] (vS (floorV v)) := by
 refine fb tOK (fn := Tryz.f231) 15 [.cell 2 26] Tryz.func231 Tryz.results231 (fun g0 B0 Q ρ0 R => ?_)
 refine en tOK 0 2 [] ?_
 refine sn tOK 0 1 [] ?_
 refine fc tOK 0 [] (vfin_ok) ?_
 refine sib 0 rfl rfl (fun h4 => ?_) (fun h4 => ?_)
 ·have hk : v.k = 1 := by simpa [finV] using h4
  have hn := isV_n hv
  have e : floorV v = numV (v.n - (v.n.tmod 1000 + 1000).tmod 1000) := by unfold floorV; rw [if_pos hk]
  have t1 := tmod_lt v.n
  have t2 := tmod_lt (v.n.tmod 1000 + 1000)
  refine en tOK 0 8 [] ?_
  refine fc tOK 1 [] (vnum_ok) ?_
  refine sr 0 R ?_
  rw [e]; rfl
 ·have e : floorV v = v := by unfold floorV; rw [if_neg (by simpa [finV] using h4)]
  refine en tOK 0 2 [] ?_
  refine sr 0 R ?_
  rw [e]; rfl
set_option maxRecDepth 100000 in
theorem vtwo2_ok {a b : Int} : Fc Tryz.prog gT 244 [nI a, nI b] (bS (decide (a = b))) := by
 refine fb tOK (fn := Tryz.f244) 8 [.tmp 4] Tryz.func244 Tryz.results244 (fun g0 B0 Q ρ0 R => ?_)
 refine en tOK 0 1 [] ?_
 refine sn tOK 0 4 [] ?_
 refine sr 0 R ?_
 rfl
set_option maxRecDepth 100000 in
theorem vtwo3_ok {a b : Int} : Fc Tryz.prog gT 245 [nI a, nI b] (bS (decide (a ≠ b))) := by
 refine fb tOK (fn := Tryz.f245) 8 [.tmp 4] Tryz.func245 Tryz.results245 (fun g0 B0 Q ρ0 R => ?_)
 refine en tOK 0 1 [] ?_
 refine sn tOK 0 4 [] ?_
 refine sr 0 R ?_
 rfl
set_option maxRecDepth 100000 in
theorem vtwo4_ok {a b : Int} : Fc Tryz.prog gT 246 [nI a, nI b] (bS (decide (a < b))) := by
 refine fb tOK (fn := Tryz.f246) 8 [.tmp 4] Tryz.func246 Tryz.results246 (fun g0 B0 Q ρ0 R => ?_)
 refine en tOK 0 1 [] ?_
 refine sn tOK 0 4 [] ?_
 refine sr 0 R ?_
 rfl
set_option maxRecDepth 100000 in
theorem vtwo5_ok {a b : Int} : Fc Tryz.prog gT 247 [nI a, nI b] (bS (decide (a ≤ b))) := by
 refine fb tOK (fn := Tryz.f247) 8 [.tmp 4] Tryz.func247 Tryz.results247 (fun g0 B0 Q ρ0 R => ?_)
 refine en tOK 0 1 [] ?_
 refine sn tOK 0 4 [] ?_
 refine sr 0 R ?_
 rfl
set_option maxRecDepth 100000 in
theorem vtwo6_ok {a b : Int} : Fc Tryz.prog gT 248 [nI a, nI b] (bS (decide (b < a))) := by
 refine fb tOK (fn := Tryz.f248) 8 [.tmp 4] Tryz.func248 Tryz.results248 (fun g0 B0 Q ρ0 R => ?_)
 refine en tOK 0 1 [] ?_
 refine sn tOK 0 4 [] ?_
 refine sr 0 R ?_
 rfl
set_option maxRecDepth 100000 in
theorem vtwo7_ok {a b : Int} : Fc Tryz.prog gT 249 [nI a, nI b] (bS (decide (b ≤ a))) := by
 refine fb tOK (fn := Tryz.f249) 8 [.tmp 4] Tryz.func249 Tryz.results249 (fun g0 B0 Q ρ0 R => ?_)
 refine en tOK 0 1 [] ?_
 refine sn tOK 0 4 [] ?_
 refine sr 0 R ?_
 rfl
set_option maxRecDepth 100000 in
theorem vtwo8_ok {a b : Val} : Fc Tryz.prog gT 250 [vS a, vS b] (vS (truthV (trueV a && trueV b))) := by
 refine fb tOK (fn := Tryz.f250) 12 [.cell 4 26] Tryz.func250 Tryz.results250 (fun g0 B0 Q ρ0 R => ?_)
 refine en tOK 0 3 [] ?_
 refine sn tOK 0 1 [] ?_
 refine fc tOK 2 [] (vtrue_ok) ?_
 refine fg tOK 1 [] (fun hg => vtrue_ok) ?_
 refine fc tOK 1 [] (vtruth_ok) ?_
 refine sr 0 R ?_
 rfl
set_option maxRecDepth 100000 in
theorem vtwo9_ok {a b : Val} : Fc Tryz.prog gT 251 [vS a, vS b] (vS (truthV (trueV a || trueV b))) := by
 refine fb tOK (fn := Tryz.f251) 12 [.cell 4 26] Tryz.func251 Tryz.results251 (fun g0 B0 Q ρ0 R => ?_)
 refine en tOK 0 3 [] ?_
 refine sn tOK 0 1 [] ?_
 refine fc tOK 2 [] (vtrue_ok) ?_
 refine fg tOK 1 [] (fun hg => vtrue_ok) ?_
 refine fc tOK 1 [] (vtruth_ok) ?_
 refine sr 0 R ?_
 rfl
end Go.Proofs.YtomkgfdigldhcaaGreatDoor
/- Walks: WQ. -/
namespace Go.Proofs.YtomkgfdigldhcaaGreatDoor
open Go.KX
set_option maxRecDepth 100000 in
theorem val_eqD {w : World} (d : Nat) (a b : Val) : (Op.eqFields (d + 1) #[.int .i64 a.k, .int .i64 a.n] #[.int .i64 b.k, .int .i64 b.n] (match Tryz.prog.underlying 26 with | some (.struct fl) => fl | _ => #[]).toList).run Tryz.prog w = .ok (decide (a = b)) w := by
  rw [Tryz.underlying26]
  dsimp only
  rw [eqF_int (by decide) Tryz.underlying3 rfl rfl, eqF_int (by decide) Tryz.underlying2 rfl rfl]
  obtain ⟨k, n⟩ := a
  obtain ⟨k2, n2⟩ := b
  by_cases h1 : k = k2 <;> by_cases h2 : n = n2 <;> simp [h1, h2, Op.eqFields]
set_option maxRecDepth 100000 in
theorem node_eq {w : World} (a b : Nd) : (Op.eqFields 9999 #[str a.ref, .int .i64 a.kind, str a.source, str a.input, str a.how, .bool a.strict, .int .i64 a.low.k, .int .i64 a.low.n, .int .i64 a.high.k, .int .i64 a.high.n, str a.text] #[str b.ref, .int .i64 b.kind, str b.source, str b.input, str b.how, .bool b.strict, .int .i64 b.low.k, .int .i64 b.low.n, .int .i64 b.high.k, .int .i64 b.high.n, str b.text] (match Tryz.prog.underlying 65 with | some (.struct fl) => fl | _ => #[]).toList).run Tryz.prog w = .ok (decide (a = b)) w := by
  have v1 := val_eqD (w := w) 9997 a.low b.low
  have v2 := val_eqD (w := w) 9997 a.high b.high
  rw [Tryz.underlying26] at v1 v2
  rw [Tryz.underlying65]
  dsimp only at v1 v2 ⊢
  rw [eqF_str (by decide) Tryz.underlying9 rfl rfl, eqF_int (by decide) Tryz.underlying3 rfl rfl, eqF_str (by decide) Tryz.underlying9 rfl rfl, eqF_str (by decide) Tryz.underlying9 rfl rfl, eqF_str (by decide) Tryz.underlying9 rfl rfl, eqF_bool (by decide) Tryz.underlying4 rfl rfl,
    eqF_st (sz := 2) (by decide) Tryz.underlying26 (by kernel_rfl) tk26.ti v1, eqF_st (sz := 2) (by decide) Tryz.underlying26 (by kernel_rfl) tk26.ti v2, eqF_str (by decide) Tryz.underlying9 rfl rfl]
  obtain ⟨a1, a2, a3, a4, a5, a6, a7, a8, a9⟩ := a
  obtain ⟨b1, b2, b3, b4, b5, b6, b7, b8, b9⟩ := b
  simp only [Nd.mk.injEq, decide_eq_true_eq]
  repeat (split <;> (try simp_all [Op.eqFields]))
set_option maxRecDepth 100000 in
theorem inputs_ok {n : Nd} : Fc Tryz.prog gT 32 [ndS n] (rB (inputsN n)) := by
 refine fb tOK (fn := Tryz.f32) 27 [.tmp 2] Tryz.func32 Tryz.results32 (fun g0 B0 Q ρ0 R => ?_)
 refine en tOK 0 2 [] ?_
 refine sn tOK 0 2 [] ?_
 refine sn tOK 0 2 [] ?_
 refine si 0 rfl rfl (fun h8 => ?_) (fun h8 => ?_)
 ·refine ei 0 rfl rfl (fun h8 => ?_) (fun h8 => ?_)
  ·refine en tOK 0 4 [] ?_
   first
    | (refine sr 0 R ?_; rw [show inputsN n = [n.input] by unfold inputsN; simp_all]; rfl)
    | (refine sr 0 R ?_; rw [show inputsN n = refsX (parseX parseV n.text).1 by unfold inputsN; simp_all]; rfl)
    | (refine sdn 2 (v' := .s 1 []) rfl (fun g ρ x h => den_s0 (by decide) h) ?_; refine sr 0 R ?_; rw [show inputsN n = [] by unfold inputsN; simp_all]; rfl)
  ·exact absurd ‹n.kind = 2› h8
 ·refine en tOK 0 2 [] ?_
  refine si 0 rfl rfl (fun h8 => ?_) (fun h8 => ?_)
  ·refine en tOK 0 4 [] ?_
   first
    | (refine sr 0 R ?_; rw [show inputsN n = [n.input] by unfold inputsN; simp_all]; rfl)
    | (refine sr 0 R ?_; rw [show inputsN n = refsX (parseX parseV n.text).1 by unfold inputsN; simp_all]; rfl)
    | (refine sdn 2 (v' := .s 1 []) rfl (fun g ρ x h => den_s0 (by decide) h) ?_; refine sr 0 R ?_; rw [show inputsN n = [] by unfold inputsN; simp_all]; rfl)
  ·refine en tOK 0 2 [] ?_
   refine si 0 rfl rfl (fun h14 => ?_) (fun h14 => ?_)
   ·refine en tOK 0 2 [] ?_
    refine fc tOK 8 [] (mparse_ok) ?_
    refine sn tOK 0 2 [] ?_
    refine si 0 rfl rfl (fun h24 => ?_) (fun h24 => ?_)
    ·refine en tOK 0 1 [] ?_
     refine fc tOK 1 [] (mrefs_ok (x := (parseX parseV n.text).1) (Nat.le_trans parse_sz (by decide))) ?_
     first
      | (refine sr 0 R ?_; rw [show inputsN n = [n.input] by unfold inputsN; simp_all]; rfl)
      | (refine sr 0 R ?_; rw [show inputsN n = refsX (parseX parseV n.text).1 by unfold inputsN; simp_all]; rfl)
      | (refine sdn 2 (v' := .s 1 []) rfl (fun g ρ x h => den_s0 (by decide) h) ?_; refine sr 0 R ?_; rw [show inputsN n = [] by unfold inputsN; simp_all]; rfl)
    ·refine en tOK 0 1 [] ?_
     first
      | (refine sr 0 R ?_; rw [show inputsN n = [n.input] by unfold inputsN; simp_all]; rfl)
      | (refine sr 0 R ?_; rw [show inputsN n = refsX (parseX parseV n.text).1 by unfold inputsN; simp_all]; rfl)
      | (refine sdn 2 (v' := .s 1 []) rfl (fun g ρ x h => den_s0 (by decide) h) ?_; refine sr 0 R ?_; rw [show inputsN n = [] by unfold inputsN; simp_all]; rfl)
   ·refine en tOK 0 1 [] ?_
    first
     | (refine sr 0 R ?_; rw [show inputsN n = [n.input] by unfold inputsN; simp_all]; rfl)
     | (refine sr 0 R ?_; rw [show inputsN n = refsX (parseX parseV n.text).1 by unfold inputsN; simp_all]; rfl)
     | (refine sdn 2 (v' := .s 1 []) rfl (fun g ρ x h => den_s0 (by decide) h) ?_; refine sr 0 R ?_; rw [show inputsN n = [] by unfold inputsN; simp_all]; rfl)
set_option maxRecDepth 100000 in
theorem bound_ok {v : Val} : Fc Tryz.prog gT 128 [vS v] (bS (boundV v)) := by
 refine fb tOK (fn := Tryz.f128) 17 [.tmp 2] Tryz.func128 Tryz.results128 (fun g0 B0 Q ρ0 R => ?_)
 refine en tOK 0 2 [] ?_
 refine sn tOK 0 2 [] ?_
 refine fc tOK 12 [] (vcheck_ok (l := [v])) ?_
 refine sr 0 R ?_
 have e : (decide ((if [v].all isV = true then (0 : Int) else 80) = 0) && decide (¬ v.k = 2) && decide (¬ v.k = 3)) = boundV v := by unfold boundV; cases h : isV v <;> simp [h]
 exact congrArg (fun b => SV.v (.bool b)) e
set_option maxRecDepth 100000 in
theorem plain_ok {n : Nd} : Fc Tryz.prog gT 126 [ndS n] (ndS (plainN n)) := by
 refine fb tOK (fn := Tryz.f126) 55 [.cell 2 65] Tryz.func126 Tryz.results126 (fun g0 B0 Q ρ0 R => ?_)
 refine en tOK 0 2 [] ?_
 refine sn tOK 0 7 [] ?_
 refine sn tOK 0 2 [] ?_
 refine sn tOK 0 2 [] ?_
 refine si 0 rfl rfl (fun h11 => ?_) (fun h11 => ?_)
 ·refine en tOK 0 4 [] ?_
  refine sn tOK 0 2 [] ?_
  refine sr 0 R ?_
  first
   | (rw [show plainN n = ⟨n.ref, n.kind, n.source, [], [], false, zeroV, zeroV, []⟩ by unfold plainN; simp_all]; rfl)
   | (rw [show plainN n = ⟨n.ref, n.kind, [], n.input, n.how, n.strict, zeroV, zeroV, []⟩ by unfold plainN; simp_all]; rfl)
   | (rw [show plainN n = ⟨n.ref, n.kind, [], [], [], false, zeroV, zeroV, n.text⟩ by unfold plainN; simp_all]; rfl)
   | (rw [show plainN n = ⟨n.ref, n.kind, [], n.input, n.how, false, n.low, n.high, []⟩ by unfold plainN; simp_all]; rfl)
   | (rw [show plainN n = ⟨n.ref, n.kind, [], n.input, n.how, false, n.low, zeroV, []⟩ by unfold plainN; simp_all]; rfl)
   | (rw [show plainN n = ⟨n.ref, n.kind, [], [], [], false, zeroV, zeroV, []⟩ by unfold plainN; simp_all]; rfl)
 ·refine en tOK 0 2 [] ?_
  refine si 0 rfl rfl (fun h16 => ?_) (fun h16 => ?_)
  ·refine edr 0 2688 [0, 1, 0, 4, 0, 16, 3, 67, 207, 463, 1023, 2047] [0, 1, 2, 4, 6, 8, 10, 7, 3, 9, 5, 11] ?_
   refine xd tOK 8 [] ?_
   refine dl tOK 1 [] ?_
   refine dl tOK 1 [] ?_
   refine xe ?_
   refine sn tOK 0 2 [] ?_
   refine sr 0 R ?_
   first
    | (rw [show plainN n = ⟨n.ref, n.kind, n.source, [], [], false, zeroV, zeroV, []⟩ by unfold plainN; simp_all]; rfl)
    | (rw [show plainN n = ⟨n.ref, n.kind, [], n.input, n.how, n.strict, zeroV, zeroV, []⟩ by unfold plainN; simp_all]; rfl)
    | (rw [show plainN n = ⟨n.ref, n.kind, [], [], [], false, zeroV, zeroV, n.text⟩ by unfold plainN; simp_all]; rfl)
    | (rw [show plainN n = ⟨n.ref, n.kind, [], n.input, n.how, false, n.low, n.high, []⟩ by unfold plainN; simp_all]; rfl)
    | (rw [show plainN n = ⟨n.ref, n.kind, [], n.input, n.how, false, n.low, zeroV, []⟩ by unfold plainN; simp_all]; rfl)
    | (rw [show plainN n = ⟨n.ref, n.kind, [], [], [], false, zeroV, zeroV, []⟩ by unfold plainN; simp_all]; rfl)
  ·refine en tOK 0 2 [] ?_
   refine si 0 rfl rfl (fun h27 => ?_) (fun h27 => ?_)
   ·refine en tOK 0 4 [] ?_
    refine sn tOK 0 2 [] ?_
    refine sr 0 R ?_
    first
     | (rw [show plainN n = ⟨n.ref, n.kind, n.source, [], [], false, zeroV, zeroV, []⟩ by unfold plainN; simp_all]; rfl)
     | (rw [show plainN n = ⟨n.ref, n.kind, [], n.input, n.how, n.strict, zeroV, zeroV, []⟩ by unfold plainN; simp_all]; rfl)
     | (rw [show plainN n = ⟨n.ref, n.kind, [], [], [], false, zeroV, zeroV, n.text⟩ by unfold plainN; simp_all]; rfl)
     | (rw [show plainN n = ⟨n.ref, n.kind, [], n.input, n.how, false, n.low, n.high, []⟩ by unfold plainN; simp_all]; rfl)
     | (rw [show plainN n = ⟨n.ref, n.kind, [], n.input, n.how, false, n.low, zeroV, []⟩ by unfold plainN; simp_all]; rfl)
     | (rw [show plainN n = ⟨n.ref, n.kind, [], [], [], false, zeroV, zeroV, []⟩ by unfold plainN; simp_all]; rfl)
   ·refine en tOK 0 2 [] ?_
    refine si 0 rfl rfl (fun h32 => ?_) (fun h32 => ?_)
    ·refine edr 0 2688 [0, 1, 0, 4, 0, 16, 3, 67, 207, 463, 1023, 2047] [0, 1, 2, 4, 6, 8, 10, 7, 3, 9, 5, 11] ?_
     refine xd tOK 8 [] ?_
     refine dl tOK 1 [] ?_
     refine dl tOK 1 [] ?_
     refine xe ?_
     refine sn tOK 0 8 [] ?_
     refine sib 0 rfl rfl (fun h50 => ?_) (fun h50 => ?_)
     ·refine en tOK 0 4 [] ?_
      refine sn tOK 0 2 [] ?_
      refine sr 0 R ?_
      first
       | (rw [show plainN n = ⟨n.ref, n.kind, n.source, [], [], false, zeroV, zeroV, []⟩ by unfold plainN; simp_all]; rfl)
       | (rw [show plainN n = ⟨n.ref, n.kind, [], n.input, n.how, n.strict, zeroV, zeroV, []⟩ by unfold plainN; simp_all]; rfl)
       | (rw [show plainN n = ⟨n.ref, n.kind, [], [], [], false, zeroV, zeroV, n.text⟩ by unfold plainN; simp_all]; rfl)
       | (rw [show plainN n = ⟨n.ref, n.kind, [], n.input, n.how, false, n.low, n.high, []⟩ by unfold plainN; simp_all]; rfl)
       | (rw [show plainN n = ⟨n.ref, n.kind, [], n.input, n.how, false, n.low, zeroV, []⟩ by unfold plainN; simp_all]; rfl)
       | (rw [show plainN n = ⟨n.ref, n.kind, [], [], [], false, zeroV, zeroV, []⟩ by unfold plainN; simp_all]; rfl)
     ·refine en tOK 0 2 [] ?_
      refine sr 0 R ?_
      first
       | (rw [show plainN n = ⟨n.ref, n.kind, n.source, [], [], false, zeroV, zeroV, []⟩ by unfold plainN; simp_all]; rfl)
       | (rw [show plainN n = ⟨n.ref, n.kind, [], n.input, n.how, n.strict, zeroV, zeroV, []⟩ by unfold plainN; simp_all]; rfl)
       | (rw [show plainN n = ⟨n.ref, n.kind, [], [], [], false, zeroV, zeroV, n.text⟩ by unfold plainN; simp_all]; rfl)
       | (rw [show plainN n = ⟨n.ref, n.kind, [], n.input, n.how, false, n.low, n.high, []⟩ by unfold plainN; simp_all]; rfl)
       | (rw [show plainN n = ⟨n.ref, n.kind, [], n.input, n.how, false, n.low, zeroV, []⟩ by unfold plainN; simp_all]; rfl)
       | (rw [show plainN n = ⟨n.ref, n.kind, [], [], [], false, zeroV, zeroV, []⟩ by unfold plainN; simp_all]; rfl)
    ·refine en tOK 0 2 [] ?_
     refine sr 0 R ?_
     first
      | (rw [show plainN n = ⟨n.ref, n.kind, n.source, [], [], false, zeroV, zeroV, []⟩ by unfold plainN; simp_all]; rfl)
      | (rw [show plainN n = ⟨n.ref, n.kind, [], n.input, n.how, n.strict, zeroV, zeroV, []⟩ by unfold plainN; simp_all]; rfl)
      | (rw [show plainN n = ⟨n.ref, n.kind, [], [], [], false, zeroV, zeroV, n.text⟩ by unfold plainN; simp_all]; rfl)
      | (rw [show plainN n = ⟨n.ref, n.kind, [], n.input, n.how, false, n.low, n.high, []⟩ by unfold plainN; simp_all]; rfl)
      | (rw [show plainN n = ⟨n.ref, n.kind, [], n.input, n.how, false, n.low, zeroV, []⟩ by unfold plainN; simp_all]; rfl)
      | (rw [show plainN n = ⟨n.ref, n.kind, [], [], [], false, zeroV, zeroV, []⟩ by unfold plainN; simp_all]; rfl)
end Go.Proofs.YtomkgfdigldhcaaGreatDoor
/- Walks: WR. -/
namespace Go.Proofs.YtomkgfdigldhcaaGreatDoor
open Go.KX
theorem den_nil : ∀ g ρ x, Den g ρ (.s 0 []) x → Den g ρ (.v (.slice none 0 0)) x := fun g ρ x h => by
  cases h with
  | s xs _ _ _ _ ho _ _ =>
    obtain ⟨rfl, rfl⟩ := ho.2 rfl
    exact .v
set_option maxRecDepth 100000 in
theorem idxP0_ok {fn : FuncId} : Fc Tryz.prog gT 274 [.s 0 [], .f fn [] []] (nI (-1)) := by
 refine fb tOK (fn := Tryz.f274) 19 [.tmp 4] Tryz.func274 Tryz.results274 (fun g0 B0 Q ρ0 R => ?_)
 refine en tOK 0 1 [] ?_
 refine sn tOK 0 3 [] ?_
 refine sl 0 ?_
 refine E_loop (σ := Unit) (fun _u => True) (fun _u => 0)
   (fun _u => [(0, .s 0 []), (1, .f fn [] []), (7, nI 0), (8, nI 0)])
   (fun _u => []) () ?_ ?_
 ·exact trivial
 ·rintro J _u _ hJ
  refine en tOK 0 1 [] ?_
  refine sn tOK 1 1 [] ?_
  refine sr 0 R ?_
  rfl
set_option maxRecDepth 100000 in
theorem contP0_ok {fn : FuncId} : Fc Tryz.prog gT 196 [.s 0 [], .f fn [] []] (bS false) := by
 refine fb tOK (fn := Tryz.f196) 9 [.tmp 4] Tryz.func196 Tryz.results196 (fun g0 B0 Q ρ0 R => ?_)
 refine en tOK 0 1 [] ?_
 refine sn tOK 0 2 [] ?_
 refine fc tOK 2 [] (idxP0_ok) ?_
 refine sr 0 R ?_
 rfl
set_option maxRecDepth 100000 in
theorem delP0_ok {fn : FuncId} : Fc Tryz.prog gT 198 [.s 0 [], .f fn [] []] (.s 0 []) := by
 refine fb tOK (fn := Tryz.f198) 42 [.tmp 4] Tryz.func198 Tryz.results198 (fun g0 B0 Q ρ0 R => ?_)
 refine en tOK 0 1 [] ?_
 refine sn tOK 0 2 [] ?_
 refine fc tOK 1 [] (idxP0_ok) ?_
 refine sn tOK 0 2 [] ?_
 refine sn tOK 1 2 [] ?_
 refine sr 0 R ?_
 rfl
set_option maxRecDepth 100000 in
theorem cloneP0_ok  : Fc Tryz.prog gT 199 [.s 0 []] (.s 0 []) := by
 refine fb tOK (fn := Tryz.f199) 8 [.tmp 2] Tryz.func199 Tryz.results199 (fun g0 B0 Q ρ0 R => ?_)
 refine en tOK 0 1 [] ?_
 refine sn tOK 0 1 [] ?_
 refine sdn 3 rfl (v' := .v (.slice none 0 0)) den_nil ?_
 refine knc tOK 0 [] (.bool true) (fun w => by kernel_rfl) ?_
 refine sn tOK 1 1 [] ?_
 refine sr 0 R ?_
 rfl
set_option maxRecDepth 100000 in
theorem many0_ok  : Fc Tryz.prog gT 202 [.s 0 []] (vS (numV 0)) := by
 refine fb tOK (fn := Tryz.f202) 7 [.cell 2 26] Tryz.func202 Tryz.results202 (fun g0 B0 Q ρ0 R => ?_)
 refine en tOK 0 1 [] ?_
 refine sn tOK 0 3 [] ?_
 refine fc tOK 1 [] (vnum_ok) ?_
 refine sr 0 R ?_
 rfl
set_option maxRecDepth 100000 in
theorem red0_ok {how : Bytes} {strict : Bool} : Fc Tryz.prog gT 127 [.str how, bS strict, .s 0 []] (.t [vS (red0 how).1, nI (red0 how).2]) := by
 refine fb tOK (fn := Tryz.f127) 70 [.cell 6 26, .tmp 7] Tryz.func127 Tryz.results127 (fun g0 B0 Q ρ0 R => ?_)
 refine en tOK 0 2 [] ?_
 refine sn tOK 0 2 [] ?_
 refine fc tOK 2 [] (contB_ok (l := hows)) ?_
 refine sib 0 rfl rfl (fun h8 => ?_) (fun h8 => ?_)
 ·have e : red0 how = (zeroV, 100) := by unfold red0; rw [if_neg (by simpa using h8)]
  refine en tOK 0 3 [] ?_
  refine sr 0 R ?_
  rw [e]; rfl
 ·have hm : how ∈ hows := by simpa using h8
  refine en tOK 0 4 [] ?_
  refine sn tOK 1 1 [] ?_
  refine fc tOK 1 [] (contP0_ok) ?_
  refine sn tOK 1 2 [] ?_
  refine sib 0 rfl rfl (fun h24 => ?_) (fun h24 => ?_)
  ·refine en tOK 0 1 [] ?_
   refine fc tOK 0 [] (cloneP0_ok) ?_
   refine fc tOK 1 [] (delP0_ok) ?_
   refine sn tOK 0 3 [] ?_
   refine si 0 rfl rfl (fun h28 => ?_) (fun h28 => ?_)
   ·have e : red0 how = (numV 0, 0) := by unfold red0; rw [if_pos hm, if_pos h28]
    refine en tOK 0 1 [] ?_
    refine fc tOK 2 [] (many0_ok) ?_
    refine sr 0 R ?_
    rw [e]; rfl
   ·have e : red0 how = (nullV, 0) := by unfold red0; rw [if_pos hm, if_neg h28]
    refine en tOK 0 4 [] ?_
    refine sn tOK 1 0 [] ?_
    refine fc tOK 2 [] (vnull_ok) ?_
    refine sr 0 R ?_
    rw [e]; rfl
  ·refine en tOK 0 3 [] ?_
   refine si 0 rfl rfl (fun h28 => ?_) (fun h28 => ?_)
   ·have e : red0 how = (numV 0, 0) := by unfold red0; rw [if_pos hm, if_pos h28]
    refine en tOK 0 1 [] ?_
    refine fc tOK 2 [] (many0_ok) ?_
    refine sr 0 R ?_
    rw [e]; rfl
   ·have e : red0 how = (nullV, 0) := by unfold red0; rw [if_pos hm, if_neg h28]
    refine en tOK 0 4 [] ?_
    refine sn tOK 1 0 [] ?_
    refine fc tOK 2 [] (vnull_ok) ?_
    refine sr 0 R ?_
    rw [e]; rfl
set_option maxRecDepth 100000 in
theorem is_ok {n : Nd} (hr : n.ref.length ≤ 1000000) : Fc Tryz.prog gT 77 [ndS n] (bS (isN n)) := by
 refine fb tOK (fn := Tryz.f77) 75 [.tmp 2] Tryz.func77 Tryz.results77 (fun g0 B0 Q ρ0 R => ?_)
 refine en tOK 0 2 [] ?_
 refine sdr 0 0 [0, 1, 3, 7, 15, 31, 31, 95, 255, 511] [0, 1, 2, 3, 4, 5, 6, 7, 8, 9] ?_
 refine xd tOK 2 [] ?_
 refine dc tOK 4 [] (ref_ok hr) ?_
 refine dg tOK 0 [] (fun hg => plain_ok) ?_
 refine dsq tOK 1 [] true (b := decide (n = plainN n)) Tryz.underlying65 (by kernel_rfl) (fun w => node_eq _ _) ?_
 refine xe ?_
 refine sib 0 rfl rfl (fun h17 => ?_) (fun h17 => ?_)
 ·have e : isN n = false := by unfold isN; rw [if_pos h17]
  refine en tOK 0 1 [] ?_
  refine sr 0 R ?_
  first
   | (rw [e]; rfl)
   | (rw [e0, isK1 h20]; rfl)
   | (rw [e0, isK2 h31]; rfl)
   | (rw [e0, isK3 h43]; rfl)
   | (rw [e0, isK4a h54 (.inl hh)]; rfl)
   | (rw [e0, isK4a h54 (.inr hh)]; rfl)
   | (rw [e0, isK4b h54 hng hnl (.inl hh2)]; rfl)
   | (rw [e0, isK4b h54 hng hnl (.inr hh2)]; rfl)
   | (rw [e0, isK4c h54 hng hnl hni hno]; rfl)
   | (rw [e0, isK0 h20 h31 h43 h54]; rfl)
 ·have e0 : isN n = isK n := by unfold isN; rw [if_neg (by simp only [Bool.not_eq_true]; exact h17)]
  refine en tOK 0 2 [] ?_
  refine sn tOK 0 2 [] ?_
  refine si 0 rfl rfl (fun h20 => ?_) (fun h20 => ?_)
  ·refine en tOK 0 10 [] ?_
   refine sr 0 R ?_
   first
    | (rw [e]; rfl)
    | (rw [e0, isK1 h20]; rfl)
    | (rw [e0, isK2 h31]; rfl)
    | (rw [e0, isK3 h43]; rfl)
    | (rw [e0, isK4a h54 (.inl hh)]; rfl)
    | (rw [e0, isK4a h54 (.inr hh)]; rfl)
    | (rw [e0, isK4b h54 hng hnl (.inl hh2)]; rfl)
    | (rw [e0, isK4b h54 hng hnl (.inr hh2)]; rfl)
    | (rw [e0, isK4c h54 hng hnl hni hno]; rfl)
    | (rw [e0, isK0 h20 h31 h43 h54]; rfl)
  ·refine en tOK 0 2 [] ?_
   refine si 0 rfl rfl (fun h31 => ?_) (fun h31 => ?_)
   ·refine en tOK 0 4 [] ?_
    refine fc tOK 6 [] (red0_ok) ?_
    refine sn tOK 0 3 [] ?_
    refine sr 0 R ?_
    first
     | (rw [e]; rfl)
     | (rw [e0, isK1 h20]; rfl)
     | (rw [e0, isK2 h31]; rfl)
     | (rw [e0, isK3 h43]; rfl)
     | (rw [e0, isK4a h54 (.inl hh)]; rfl)
     | (rw [e0, isK4a h54 (.inr hh)]; rfl)
     | (rw [e0, isK4b h54 hng hnl (.inl hh2)]; rfl)
     | (rw [e0, isK4b h54 hng hnl (.inr hh2)]; rfl)
     | (rw [e0, isK4c h54 hng hnl hni hno]; rfl)
     | (rw [e0, isK0 h20 h31 h43 h54]; rfl)
   ·refine en tOK 0 2 [] ?_
    refine si 0 rfl rfl (fun h43 => ?_) (fun h43 => ?_)
    ·refine en tOK 0 2 [] ?_
     refine fc tOK 8 [] (mparse_ok) ?_
     refine sn tOK 0 3 [] ?_
     refine sr 0 R ?_
     first
      | (rw [e]; rfl)
      | (rw [e0, isK1 h20]; rfl)
      | (rw [e0, isK2 h31]; rfl)
      | (rw [e0, isK3 h43]; rfl)
      | (rw [e0, isK4a h54 (.inl hh)]; rfl)
      | (rw [e0, isK4a h54 (.inr hh)]; rfl)
      | (rw [e0, isK4b h54 hng hnl (.inl hh2)]; rfl)
      | (rw [e0, isK4b h54 hng hnl (.inr hh2)]; rfl)
      | (rw [e0, isK4c h54 hng hnl hni hno]; rfl)
      | (rw [e0, isK0 h20 h31 h43 h54]; rfl)
    ·refine en tOK 0 2 [] ?_
     refine si 0 rfl rfl (fun h54 => ?_) (fun h54 => ?_)
     ·refine en tOK 0 2 [] ?_
      refine sn tOK 0 2 [] ?_
      refine si 0 rfl rfl (fun h58 => ?_) (fun h58 => ?_)
      ·have hh := h58
       refine ei 0 rfl rfl (fun h58 => ?_) (fun h58 => ?_)
       ·have hh := h58
        refine en tOK 0 2 [] ?_
        refine fc tOK 1 [] (bound_ok) ?_
        refine sr 0 R ?_
        first
         | (rw [e]; rfl)
         | (rw [e0, isK1 h20]; rfl)
         | (rw [e0, isK2 h31]; rfl)
         | (rw [e0, isK3 h43]; rfl)
         | (rw [e0, isK4a h54 (.inl hh)]; rfl)
         | (rw [e0, isK4a h54 (.inr hh)]; rfl)
         | (rw [e0, isK4b h54 hng hnl (.inl hh2)]; rfl)
         | (rw [e0, isK4b h54 hng hnl (.inr hh2)]; rfl)
         | (rw [e0, isK4c h54 hng hnl hni hno]; rfl)
         | (rw [e0, isK0 h20 h31 h43 h54]; rfl)
       ·exact absurd hh h58
      ·have hng := h58
       refine en tOK 0 2 [] ?_
       refine si 0 rfl rfl (fun h58 => ?_) (fun h58 => ?_)
       ·have hh := h58
        refine en tOK 0 2 [] ?_
        refine fc tOK 1 [] (bound_ok) ?_
        refine sr 0 R ?_
        first
         | (rw [e]; rfl)
         | (rw [e0, isK1 h20]; rfl)
         | (rw [e0, isK2 h31]; rfl)
         | (rw [e0, isK3 h43]; rfl)
         | (rw [e0, isK4a h54 (.inl hh)]; rfl)
         | (rw [e0, isK4a h54 (.inr hh)]; rfl)
         | (rw [e0, isK4b h54 hng hnl (.inl hh2)]; rfl)
         | (rw [e0, isK4b h54 hng hnl (.inr hh2)]; rfl)
         | (rw [e0, isK4c h54 hng hnl hni hno]; rfl)
         | (rw [e0, isK0 h20 h31 h43 h54]; rfl)
       ·have hnl := h58
        refine en tOK 0 2 [] ?_
        refine si 0 rfl rfl (fun h64 => ?_) (fun h64 => ?_)
        ·have hh2 := h64
         refine ei 0 rfl rfl (fun h64 => ?_) (fun h64 => ?_)
         ·have hh2 := h64
          refine en tOK 0 2 [] ?_
          refine fc tOK 3 [] (bound_ok) ?_
          refine fg tOK 2 [] (fun hg => bound_ok) ?_
          refine sr 0 R ?_
          first
           | (rw [e]; rfl)
           | (rw [e0, isK1 h20]; rfl)
           | (rw [e0, isK2 h31]; rfl)
           | (rw [e0, isK3 h43]; rfl)
           | (rw [e0, isK4a h54 (.inl hh)]; rfl)
           | (rw [e0, isK4a h54 (.inr hh)]; rfl)
           | (rw [e0, isK4b h54 hng hnl (.inl hh2)]; rfl)
           | (rw [e0, isK4b h54 hng hnl (.inr hh2)]; rfl)
           | (rw [e0, isK4c h54 hng hnl hni hno]; rfl)
           | (rw [e0, isK0 h20 h31 h43 h54]; rfl)
         ·exact absurd hh2 h64
        ·have hni := h64
         refine en tOK 0 2 [] ?_
         refine si 0 rfl rfl (fun h64 => ?_) (fun h64 => ?_)
         ·have hh2 := h64
          refine en tOK 0 2 [] ?_
          refine fc tOK 3 [] (bound_ok) ?_
          refine fg tOK 2 [] (fun hg => bound_ok) ?_
          refine sr 0 R ?_
          first
           | (rw [e]; rfl)
           | (rw [e0, isK1 h20]; rfl)
           | (rw [e0, isK2 h31]; rfl)
           | (rw [e0, isK3 h43]; rfl)
           | (rw [e0, isK4a h54 (.inl hh)]; rfl)
           | (rw [e0, isK4a h54 (.inr hh)]; rfl)
           | (rw [e0, isK4b h54 hng hnl (.inl hh2)]; rfl)
           | (rw [e0, isK4b h54 hng hnl (.inr hh2)]; rfl)
           | (rw [e0, isK4c h54 hng hnl hni hno]; rfl)
           | (rw [e0, isK0 h20 h31 h43 h54]; rfl)
         ·have hno := h64
          refine en tOK 0 1 [] ?_
          refine sr 0 R ?_
          first
           | (rw [e]; rfl)
           | (rw [e0, isK1 h20]; rfl)
           | (rw [e0, isK2 h31]; rfl)
           | (rw [e0, isK3 h43]; rfl)
           | (rw [e0, isK4a h54 (.inl hh)]; rfl)
           | (rw [e0, isK4a h54 (.inr hh)]; rfl)
           | (rw [e0, isK4b h54 hng hnl (.inl hh2)]; rfl)
           | (rw [e0, isK4b h54 hng hnl (.inr hh2)]; rfl)
           | (rw [e0, isK4c h54 hng hnl hni hno]; rfl)
           | (rw [e0, isK0 h20 h31 h43 h54]; rfl)
     ·refine en tOK 0 1 [] ?_
      refine sr 0 R ?_
      first
       | (rw [e]; rfl)
       | (rw [e0, isK1 h20]; rfl)
       | (rw [e0, isK2 h31]; rfl)
       | (rw [e0, isK3 h43]; rfl)
       | (rw [e0, isK4a h54 (.inl hh)]; rfl)
       | (rw [e0, isK4a h54 (.inr hh)]; rfl)
       | (rw [e0, isK4b h54 hng hnl (.inl hh2)]; rfl)
       | (rw [e0, isK4b h54 hng hnl (.inr hh2)]; rfl)
       | (rw [e0, isK4c h54 hng hnl hni hno]; rfl)
       | (rw [e0, isK0 h20 h31 h43 h54]; rfl)
end Go.Proofs.YtomkgfdigldhcaaGreatDoor
/- Walks: WS. -/
namespace Go.Proofs.YtomkgfdigldhcaaGreatDoor
open Go.KX
set_option maxRecDepth 100000 in
theorem byRefN_ok {l : List Nd} : FnN Tryz.prog gT 71 [rN l] (.t [.mp 7, bS (okN l)]) 7 (.m (msE (byR l))) := by
 refine fnb tOK (fn := Tryz.f71) 25 [.tmp 2, .tmp 3] Tryz.func71 Tryz.results71 (fun g0 B0 Q ρ0 R => ?_)
 refine elen 0 rfl (fun hl => ?_)
 rw [List.length_map] at hl
 refine en tOK 0 2 [] ?_
 refine sn tOK 0 0 [] ?_
 refine smk ?_
 refine go tOK 1 [] ?_
 refine sn tOK 0 3 [] ?_
 refine sl 0 ?_
 refine eas 9 rfl (v' := nI l.length) (by simp) ?_
 refine E_loop (σ := Nat) (fun j => j ≤ l.length) (fun j => l.length - j)
   (fun j => [(0, rN l), (4, .mp 7), (8, rN l), (9, nI l.length), (10, nI j)])
   (fun j => [(7, .m (msE (byR (l.take j))))]) 0 ?_ ?_
 ·exact Nat.zero_le _
 ·rintro J j hj0 hJ
  refine en tOK 0 1 [] ?_
  refine si 0 rfl rfl (fun h11 => ?_) (fun h11 => ?_)
  ·have hj : j < l.length := by omega
   refine en tOK 0 4 [ndL l[j]] ?_ (hφ := by exact ⟨by omega, by simpa using rN_get hj⟩)
   refine sn tOK 0 4 [] ?_
   refine sins tOK ?_
   refine sn tOK 0 2 [] ?_
   refine emb 7 (mb' := .m (msE (byR (l.take (j + 1))))) ?_ ?_
   ·exact congrArg MB.m (byR_next hj)
   exact hJ (j + 1) (by omega) (by omega)
  ·have ej : l.take j = l := List.take_of_length_le (by omega)
   rw [ej]
   refine en tOK 0 2 [] ?_
   refine smln tOK 5 ?_
   refine srn 0 R ?_
   exact ⟨congrArg (fun b => SV.t [SV.mp 7, bS b]) okN_len, rfl⟩
set_option maxRecDepth 100000 in
theorem byRef_ok {l : List Nd} : Fc Tryz.prog gT 71 [rN l] (.t [.fm (msE (byR l)), bS (okN l)]) := by
 refine fb tOK (fn := Tryz.f71) 25 [.tmp 2, .tmp 3] Tryz.func71 Tryz.results71 (fun g0 B0 Q ρ0 R => ?_)
 refine elen 0 rfl (fun hl => ?_)
 rw [List.length_map] at hl
 refine en tOK 0 2 [] ?_
 refine sn tOK 0 0 [] ?_
 refine smk ?_
 refine go tOK 1 [] ?_
 refine sn tOK 0 3 [] ?_
 refine sl 0 ?_
 refine eas 9 rfl (v' := nI l.length) (by simp) ?_
 refine E_loop (σ := Nat) (fun j => j ≤ l.length) (fun j => l.length - j)
   (fun j => [(0, rN l), (4, .mp 7), (8, rN l), (9, nI l.length), (10, nI j)])
   (fun j => [(7, .m (msE (byR (l.take j))))]) 0 ?_ ?_
 ·exact Nat.zero_le _
 ·rintro J j hj0 hJ
  refine en tOK 0 1 [] ?_
  refine si 0 rfl rfl (fun h11 => ?_) (fun h11 => ?_)
  ·have hj : j < l.length := by omega
   refine en tOK 0 4 [ndL l[j]] ?_ (hφ := by exact ⟨by omega, by simpa using rN_get hj⟩)
   refine sn tOK 0 4 [] ?_
   refine sins tOK ?_
   refine sn tOK 0 2 [] ?_
   refine emb 7 (mb' := .m (msE (byR (l.take (j + 1))))) ?_ ?_
   ·exact congrArg MB.m (byR_next hj)
   exact hJ (j + 1) (by omega) (by omega)
  ·have ej : l.take j = l := List.take_of_length_le (by omega)
   rw [ej]
   refine en tOK 0 2 [] ?_
   refine smln tOK 5 ?_
   refine sz 7 ?_
   refine sr 0 R ?_
   exact congrArg (fun b => SV.t [SV.fm (msE (byR l)), bS b]) okN_len
end Go.Proofs.YtomkgfdigldhcaaGreatDoor
/- Walks: WT. -/
namespace Go.Proofs.YtomkgfdigldhcaaGreatDoor
open Go.KX
set_option maxRecDepth 100000 in
theorem order_ok {l : List Nd} (hl : l.length ≤ 1000000) : Fc Tryz.prog gT 29 [rN l] (.t [rB (orderN l).1, nI (orderN l).2]) := by
 refine fb tOK (fn := Tryz.f29) 61 [.tmp 2, .tmp 3] Tryz.func29 Tryz.results29 (fun g0 B0 Q ρ0 R => ?_)
 refine en tOK 0 2 [] ?_
 refine sn tOK 0 1 [] ?_
 refine fnw tOK 5 [] (byRefN_ok (l := l)) ?_
 refine sn tOK 0 2 [] ?_
 refine sib 0 rfl rfl (fun h19 => ?_) (fun h19 => ?_)
 ·have ok0 : okN l = false := by simpa using h19
  have e : orderN l = ([], 8) := by unfold orderN; rw [if_pos ok0]
  refine en tOK 0 2 [] ?_
  refine sdn 2 (v' := .s 1 []) rfl (fun g ρ x h => den_s0 (by decide) h) ?_
  refine sr 0 R ?_
  rw [e]; rfl
 ·have ok1 : okN l = true := by simpa using h19
  have e0 : orderN l = orderL l.length [] l := by unfold orderN; rw [if_neg (by rw [ok1]; decide)]
  have hnd := (byR_ok ok1).2
  refine en tOK 0 0 [] ?_
  refine smk ?_
  refine go tOK 1 [] ?_
  refine sl 0 ?_
  refine eonl 2 902 9 1 ?_
  refine emb 7 (mb' := .m (l.map ordE)) ?_ ?_
  ·rw [byR_E ok1]
  refine E_loop (σ := List Bytes × List Nd) (fun st => (st.2.map (·.ref)).Nodup ∧ orderL st.2.length st.1 st.2 = orderL l.length [] l ∧ st.1.length + st.2.length = l.length) (fun st => st.2.length)
    (fun st => [(0, rN l), (2, .o 902 (rowsB st.1).length), (4, .mp 7), (6, .mp 20)])
    (fun st => [(902, .r 9 1 (rowsB st.1)), (20, .m (toldE st.1)), (7, .m (st.2.map ordE))]) ([], l) ?_ ?_
  ·exact ⟨hnd, rfl, by simp⟩
  ·rintro J ⟨out, left⟩ ⟨hn, hord, hlen⟩ hO
   dsimp only at hn hord hlen ⊢
   refine en tOK 0 1 [] ?_
   refine smln tOK 1 ?_
   refine si 0 rfl rfl (fun h23 => ?_) (fun h23 => ?_)
   ·rw [List.length_map] at h23
    refine esc 0 rfl R.ng ?_
    refine en tOK 0 1 [] ?_
    refine sn tOK 0 1 [] ?_
    refine slb 0 ?_
    refine en tOK 0 1 [] ?_
    refine smrg tOK ?_
    refine sl 0 ?_
    refine E_loop (σ := List Nat) (fun js => js.Nodup ∧ ∀ i ∈ js, i < left.length) (fun js => left.length - js.length)
      (fun js => [(0, rN l), (2, .o 902 (rowsB out).length), (4, .mp 7), (6, .mp 20), (7, .str (bestL out (pickL left js)).1), (8, bS (bestL out (pickL left js)).2), (25, .l 25 0)])
      (fun js => [(902, .r 9 1 (rowsB out)), (20, .m (toldE out)), (25, .it 7 (left.map ordE) js)]) [] ?_ ?_
    ·exact ⟨List.nodup_nil, fun _ h => by cases h⟩
    ·rintro J js ⟨hjn, hjl⟩ hR
     refine en tOK 0 0 [] ?_
     refine smnx tOK (i := 7) (j := 25) (es := left.map ordE) (js := js) rfl (fun hp => ?_) (fun n q sv M2 hnj hes hM => ?_)
     ·refine go tOK 1 [] ?_
      have hbest : bestL out (pickL left js) = bestL out left := (best_perm ((by simpa using hp : js.Perm (List.range left.length)).filterMap (left[·]?))).trans (congrArg (bestL out) (pickL_all left))
      refine smie 25 ?_
      refine sn tOK 1 2 [] ?_
      refine sib 0 rfl rfl (fun h51 => ?_) (fun h51 => ?_)
      ·have hbn : (bestL out left).2 = false := by rw [← hbest]; simpa using h51
       have e : orderN l = ([], 121) := by rw [e0, ← hord, show left.length = (left.length - 1) + 1 by omega, orderL, if_pos hbn]
       refine en tOK 0 2 [] ?_
       refine sdn 2 (v' := .s 1 []) rfl (fun g ρ x h => den_s0 (by decide) h) ?_
       refine sr 0 R ?_
       rw [e]; rfl
      ·have hbt : (bestL out left).2 = true := by rw [← hbest]; simpa using h51
       obtain ⟨hfl, hdel⟩ := best_left hn hbt
       have hstep : orderL (left.filter fun n => decide (n.ref ≠ (bestL out left).1)).length (out ++ [(bestL out left).1]) (left.filter fun n => decide (n.ref ≠ (bestL out left).1)) = orderL left.length out left := by
        rw [← hfl, orderL, if_neg (by rw [hbt]; decide)]
       rw [hbest]
       refine en tOK 0 2 [] ?_
       refine sins tOK ?_
       refine sn tOK 0 2 [] ?_
       refine smdl tOK ?_
       refine sn tOK 0 3 [] ?_
       refine sap tOK 1 [] rfl (fun _ => rfl) ?_ ?_
       ·show ((rowsB out).length + 1) * 16 ≤ _
        simp only [List.length_map]
        omega
       refine smb 7 (mb' := .m ((left.filter fun n => decide (n.ref ≠ (bestL out left).1)).map ordE)) ?_ ?_
       ·exact congrArg MB.m hdel
       refine smb 20 (mb' := .m (toldE (out ++ [(bestL out left).1]))) ?_ ?_
       ·exact congrArg MB.m (told_next _ _)
       refine sas 2 rfl (v' := .o 902 (rowsB (out ++ [(bestL out left).1])).length) ?_ ?_
       ·simp
       refine smb 902 (mb' := .r 9 1 (rowsB (out ++ [(bestL out left).1]))) ?_ ?_
       ·simp [cellsV]
       exact hO (out ++ [(bestL out left).1], left.filter fun n => decide (n.ref ≠ (bestL out left).1)) ⟨filter_nodup hn, by rw [← hord]; exact hstep, by dsimp only; rw [List.length_append, List.length_singleton]; omega⟩ (by dsimp only; omega)
     ·obtain ⟨x, hx, rfl, rfl⟩ := ordE_get hes
      have hes0 := hes
      cases hM
      have hjs : (js ++ [n]).Nodup ∧ ∀ i ∈ js ++ [n], i < left.length := snoc_ok hjn hjl hnj (List.getElem?_eq_some_iff.1 hx).1
      have hmu := snoc_mu hjn hjl hjs
      have hpk : bestL out (pickL left (js ++ [n])) = stepB out (bestL out (pickL left js)) x := by rw [pickL_snoc hx, best_snoc]
      refine go tOK 1 [] ?_
      refine sn tOK 1 0 [] ?_
      refine smen tOK 5 (n := n) (js := js) rfl hes0 ?_
      refine sn tOK 0 6 [] ?_
      refine sib 0 rfl rfl (fun h36 => ?_) (fun h36 => ?_)
      ·have hb : bestL out (pickL left (js ++ [n])) = bestL out (pickL left js) := by rw [hpk]; unfold stepB; rw [if_pos (by simpa using h36)]
       refine el 0 ?_
       refine eas 7 rfl (v' := .str (bestL out (pickL left (js ++ [n]))).1) (by rw [hb]) ?_
       refine eas 8 rfl (v' := bS (bestL out (pickL left (js ++ [n]))).2) (by rw [hb]) ?_
       exact hR (js ++ [n]) hjs hmu
      ·have hng := h36
       refine en tOK 0 1 [] ?_
       refine fc tOK 2 [] (inputs_ok (n := x)) ?_
       refine sl 0 ?_
       have hil := inputs_len x
       refine eas 39 rfl (v' := nI (inputsN x).length) (by simp) ?_
       refine E_loop (σ := Nat) (fun k => k ≤ (inputsN x).length ∧ ∀ i ∈ (inputsN x).take k, i ∈ out) (fun k => (inputsN x).length - k)
         (fun k => [(0, rN l), (2, .o 902 (rowsB out).length), (4, .mp 7), (6, .mp 20), (7, .str (bestL out (pickL left js)).1), (8, bS (bestL out (pickL left js)).2), (9, .str x.ref), (25, .l 25 0), (38, rB (inputsN x)), (39, nI (inputsN x).length), (40, nI k)])
         (fun k => [(902, .r 9 1 (rowsB out)), (20, .m (toldE out)), (25, .it 7 (left.map ordE) (js ++ [n]))]) 0 ?_ ?_
       ·exact ⟨Nat.zero_le _, by simp⟩
       ·rintro J k ⟨hk0, hk1⟩ hI
        refine en tOK 0 1 [] ?_
        refine si 0 rfl rfl (fun h41 => ?_) (fun h41 => ?_)
        ·have hk : k < (inputsN x).length := by omega
         refine en tOK 0 3 [[.str (inputsN x)[k]]] ?_ (hφ := by exact ⟨by omega, by simp [hk]⟩)
         by_cases hin : (inputsN x)[k] ∈ out
         ·refine sn tOK 0 2 [] ?_
          refine smlk tOK 1 false (some (bS true)) (told_in hin) ?_
          refine sn tOK 1 2 [] ?_
          exact hI (k + 1) ⟨by omega, by rw [List.take_succ_eq_append_getElem hk]; intro i hi; rcases List.mem_append.1 hi with hi | hi; exact hk1 i hi; simp only [List.mem_singleton] at hi; exact hi ▸ hin⟩ (by omega)
         ·refine sn tOK 0 2 [] ?_
          have hnr : readyN out x = false := by
           cases hq : readyN out x with
           | false => rfl
           | true => exact absurd (of_decide_eq_true ((List.all_eq_true.1 hq) _ (List.getElem_mem hk))) hin
          have hb : bestL out (pickL left (js ++ [n])) = bestL out (pickL left js) := by rw [hpk]; unfold stepB; rw [if_neg (by simpa using hng), if_neg (by rw [hnr]; decide)]
          refine smlk tOK 1 false none (told_out hin) ?_
          refine sl 1 ?_
          refine eas 7 rfl (v' := .str (bestL out (pickL left (js ++ [n]))).1) (by rw [hb]) ?_
          refine eas 8 rfl (v' := bS (bestL out (pickL left (js ++ [n]))).2) (by rw [hb]) ?_
          exact hR (js ++ [n]) hjs hmu
        ·have hrd : readyN out x = true := by
          unfold readyN
          rw [List.all_eq_true]
          intro i hi
          exact decide_eq_true (hk1 i (by rw [List.take_of_length_le (by omega)]; exact hi))
         have hb : bestL out (pickL left (js ++ [n])) = (x.ref, true) := by rw [hpk]; unfold stepB; rw [if_neg (by simpa using hng), if_pos hrd]
         refine en tOK 0 3 [] ?_
         refine sl 0 ?_
         refine eas 7 rfl (v' := .str (bestL out (pickL left (js ++ [n]))).1) (by rw [hb]) ?_
         refine eas 8 rfl (v' := bS (bestL out (pickL left (js ++ [n]))).2) (by rw [hb]) ?_
         exact hR (js ++ [n]) hjs hmu
   ·rw [List.length_map] at h23
    have hl0 : left = [] := List.eq_nil_of_length_eq_zero (by omega)
    subst hl0
    have e : orderN l = (out, 0) := by rw [e0, ← hord]; rfl
    refine en tOK 0 3 [] ?_
    refine sezo 2 ?_ ?_ (hr := rowsB_len)
    ·rfl
    refine sr 0 R ?_
    rw [e]; rfl
end Go.Proofs.YtomkgfdigldhcaaGreatDoor
/- What lies outside, under other names: each local thing's number is raised by 1000. No program in sight. -/
namespace Go.KX
mutual
def upV : SV → SV
  | .l j o => .l (j + 1000) o
  | .o j n => .o (j + 1000) n
  | .e j o => .e (j + 1000) o
  | .mp j => .mp (j + 1000)
  | .fm es => .fm es
  | .ni => .ni
  | .a cs => .a (upL cs)
  | .f n x y => .f n (upL x) (upL y)
  | .t vs => .t (upL vs)
  | .g b x => .g b (upV x)
  | .v v => .v v
  | .str s => .str s
  | .s z r => .s z r
  | .p c => .p c
def upL : List SV → List SV
  | [] => []
  | x :: r => upV x :: upL r
end
theorem upL_map : ∀ (l : List SV), upL l = l.map upV
  | [] => rfl
  | x :: r => by rw [upL, upL_map r]; rfl
theorem upL_len (l : List SV) : (upL l).length = l.length := by rw [upL_map, List.length_map]
theorem upL_get {l : List SV} {j : Nat} {sv : SV} (h : l[j]? = some sv) : (upL l)[j]? = some (upV sv) := by rw [upL_map, List.getElem?_map, h]; rfl
theorem upL_inv {l : List SV} {j : Nat} {sv : SV} (h : (upL l)[j]? = some sv) : ∃ sv0, l[j]? = some sv0 ∧ sv = upV sv0 := by
  rw [upL_map, List.getElem?_map] at h
  cases hl : l[j]? with
  | none => rw [hl] at h; cases h
  | some x => rw [hl] at h; cases h; exact ⟨x, rfl, rfl⟩
theorem Den.up {g : GW} {ρ ρ' : Nat → Lc} {sv x} (h : Den g ρ sv x) (e : ∀ i, ρ' (i + 1000) = ρ i) : Den g ρ' (upV sv) x := by
  induction h with
  | v => exact .v
  | str => exact .str
  | s xs h1 h2 hl hr ho hne hd _ => exact .s xs h1 h2 hl hr ho hne hd
  | p xs hl hf hc hd _ => exact .p xs hl hf hc hd
  | @l _ i off => rw [← e i]; exact .l
  | a xs hl _ ih => exact .a xs (by rw [upL_len]; exact hl) (fun j sv x h1 h2 => by obtain ⟨s0, h3, rfl⟩ := upL_inv h1; exact ih j s0 x h3 h2 e)
  | f xs ys hl _ hl2 _ ih ih2 =>
    exact .f xs ys (by rw [upL_len]; exact hl) (fun j sv x h1 h2 => by obtain ⟨s0, h3, rfl⟩ := upL_inv h1; exact ih j s0 x h3 h2 e) (by rw [upL_len]; exact hl2) (fun j sv x h1 h2 => by obtain ⟨s0, h3, rfl⟩ := upL_inv h1; exact ih2 j s0 x h3 h2 e)
  | t xs hl _ ih => exact .t xs (by rw [upL_len]; exact hl) (fun j sv x h1 h2 => by obtain ⟨s0, h3, rfl⟩ := upL_inv h1; exact ih j s0 x h3 h2 e)
  | gt _ ih => exact .gt (ih e)
  | gf => exact .gf
  | @o _ i n => rw [← e i]; exact .o
  | @e _ i off b o0 h' => exact .e (by rw [e i]; exact h')
  | fm raw ms clk hf hh he hk hd _ => exact .fm raw ms clk hf hh he hk hd
  | @mp _ i => rw [← e i]; exact .mp
  | ni => exact .ni
theorem Den.dn {g : GW} {ρ ρ' : Nat → Lc} {sv' x} (h : Den g ρ' sv' x) (e : ∀ i, ρ' (i + 1000) = ρ i) : ∀ sv, sv' = upV sv → Den g ρ sv x := by
  induction h with
  | v => intro sv h; cases sv <;> simp only [upV, reduceCtorEq, SV.v.injEq] at h; subst h; exact .v
  | str => intro sv h; cases sv <;> simp only [upV, reduceCtorEq, SV.str.injEq] at h; subst h; exact .str
  | s xs h1 h2 hl hr ho hne hd _ => intro sv h; cases sv <;> simp only [upV, reduceCtorEq, SV.s.injEq] at h; obtain ⟨rfl, rfl⟩ := h; exact .s xs h1 h2 hl hr ho hne hd
  | p xs hl hf hc hd _ => intro sv h; cases sv <;> simp only [upV, reduceCtorEq, SV.p.injEq] at h; subst h; exact .p xs hl hf hc hd
  | l => intro sv h; cases sv <;> simp only [upV, reduceCtorEq, SV.l.injEq] at h; obtain ⟨rfl, rfl⟩ := h; rw [e]; exact .l
  | a xs hl _ ih => intro sv h; cases sv <;> simp only [upV, reduceCtorEq, SV.a.injEq] at h; subst h; exact .a xs (by rw [← upL_len]; exact hl) (fun j sv x h1 h2 => ih j _ x (upL_get h1) h2 e sv rfl)
  | f xs ys hl _ hl2 _ ih ih2 =>
    intro sv h; cases sv <;> simp only [upV, reduceCtorEq, SV.f.injEq] at h; obtain ⟨rfl, rfl, rfl⟩ := h
    exact .f xs ys (by rw [← upL_len]; exact hl) (fun j sv x h1 h2 => ih j _ x (upL_get h1) h2 e sv rfl) (by rw [← upL_len]; exact hl2) (fun j sv x h1 h2 => ih2 j _ x (upL_get h1) h2 e sv rfl)
  | t xs hl _ ih => intro sv h; cases sv <;> simp only [upV, reduceCtorEq, SV.t.injEq] at h; subst h; exact .t xs (by rw [← upL_len]; exact hl) (fun j sv x h1 h2 => ih j _ x (upL_get h1) h2 e sv rfl)
  | gt _ ih => intro sv h; cases sv <;> simp only [upV, reduceCtorEq, SV.g.injEq] at h; obtain ⟨rfl, rfl⟩ := h; exact .gt (ih e _ rfl)
  | gf => intro sv h; cases sv <;> simp only [upV, reduceCtorEq, SV.g.injEq] at h; obtain ⟨rfl, rfl⟩ := h; exact .gf
  | o => intro sv h; cases sv <;> simp only [upV, reduceCtorEq, SV.o.injEq] at h; obtain ⟨rfl, rfl⟩ := h; rw [e]; exact .o
  | e h' => intro sv h; cases sv <;> simp only [upV, reduceCtorEq, SV.e.injEq] at h; obtain ⟨rfl, rfl⟩ := h; exact .e (by rw [← e]; exact h')
  | fm raw ms clk hf hh he hk hd _ => intro sv h; cases sv <;> simp only [upV, reduceCtorEq, SV.fm.injEq] at h; subst h; exact .fm raw ms clk hf hh he hk hd
  | mp => intro sv h; cases sv <;> simp only [upV, reduceCtorEq, SV.mp.injEq] at h; subst h; rw [e]; exact .mp
  | ni => intro sv h; cases sv <;> simp only [upV, reduceCtorEq] at h; exact .ni
theorem DenL.up {g : GW} {ρ ρ' : Nat → Lc} {svs xs} (h : DenL g ρ svs xs) (e : ∀ i, ρ' (i + 1000) = ρ i) : DenL g ρ' (upL svs) xs :=
  ⟨by rw [upL_len]; exact h.1, fun j sv x h1 h2 => by obtain ⟨s0, h3, rfl⟩ := upL_inv h1; exact (h.2 j s0 x h3 h2).up e⟩
theorem DenL.dn {g : GW} {ρ ρ' : Nat → Lc} {svs xs} (h : DenL g ρ' (upL svs) xs) (e : ∀ i, ρ' (i + 1000) = ρ i) : DenL g ρ svs xs :=
  ⟨by rw [← upL_len]; exact h.1, fun j sv x h1 h2 => (h.2 j _ x (upL_get h1) h2).dn e sv rfl⟩
def upB : MB → MB
  | .c T cs => .c T (upL cs)
  | .r T z rs => .r T z rs
  | .m es => .m es
  | .it i es js => .it (i + 1000) es js
  | .q T z rs => .q T z rs
def upM : SM → SM
  | [] => []
  | (i, m) :: r => (i + 1000, upB m) :: upM r
theorem DenB.up {g : GW} {ρ ρ' : Nat → Lc} {i : Nat} {mb : MB} {r : Res} (h : DenB g ρ i mb r) (e : ∀ i, ρ' (i + 1000) = ρ i) : DenB g ρ' (i + 1000) (upB mb) r := by
  cases h with
  | c xs hd h1 => rw [← e i]; exact .c xs (hd.up e) h1
  | r hz xs hl hd => rw [← e i]; exact .r hz xs hl hd
  | q hz xs hl hd => rw [← e i]; exact .q hz xs hl hd
  | m raw hk hd => rw [← e i]; exact .m raw hk hd
  | it raw hk hd => rename_i i0 es js; rw [← e i, ← e i0]; exact .it raw hk hd
theorem DenB.dn {g : GW} {ρ ρ' : Nat → Lc} {i : Nat} {mb : MB} {r : Res} (h : DenB g ρ' (i + 1000) (upB mb) r) (e : ∀ i, ρ' (i + 1000) = ρ i) : DenB g ρ i mb r := by
  cases mb with
  | c T cs => cases h with | c xs hd h1 => rw [e i]; exact .c xs (hd.dn e) h1
  | r T z rs => cases h with | r hz xs hl hd => rw [e i]; exact .r hz xs hl hd
  | q T z rs => cases h with | q hz xs hl hd => rw [e i]; exact .q hz xs hl hd
  | m es => cases h with | m raw hk hd => rw [e i]; exact .m raw hk hd
  | it i0 es js => cases h with | it raw hk hd => rw [e i, e i0]; exact .it raw hk hd
theorem DenM.up {g : GW} {ρ ρ' : Nat → Lc} (e : ∀ i, ρ' (i + 1000) = ρ i) : ∀ {M : SM} {ms : List Res}, DenM g ρ M ms → DenM g ρ' (upM M) ms
  | [], _, .nil => .nil
  | (_, _) :: _, _, .cons hb t => .cons (hb.up e) (DenM.up e t)
theorem DenM.dn {g : GW} {ρ ρ' : Nat → Lc} (e : ∀ i, ρ' (i + 1000) = ρ i) : ∀ {M : SM} {ms : List Res}, DenM g ρ' (upM M) ms → DenM g ρ M ms
  | [], _, h => by cases h; exact .nil
  | (_, _) :: _, _, h => by cases h with | cons hb t => exact .cons (hb.dn e) (DenM.dn e t)
def upS : SL → SL
  | [] => []
  | (t, v) :: r => (t, upV v) :: upS r
theorem upS_lk : ∀ {L : SL} {t : Nat} {sv : SV}, lkS (upS L) t = some sv → ∃ s0, lkS L t = some s0 ∧ sv = upV s0
  | [], t, sv, h => by cases h
  | (u, v) :: r, t, sv, h => by
    by_cases htu : t = u
    · subst htu
      simp only [upS] at h
      rw [lkS_same] at h ⊢
      cases h
      exact ⟨v, rfl, rfl⟩
    · simp only [upS] at h
      rw [lkS_ne _ _ htu] at h ⊢
      exact upS_lk h
/-- The loop's variables. -/
def putP : List Nat → List SV → SL → SL
  | p :: ps, v :: vs, L => putP ps vs ((p, v) :: L)
  | _, _, L => L
theorem putP_ok {g : GW} {ρ : Nat → Lc} : ∀ (ps : List Nat) {svs : List SV} {xs : List Value} {L : SL} {T : Array Value}, ps.all (fun p => Nat.blt p T.size) = true → DenL g ρ svs xs → (∀ t sv, lkS L t = some sv → ∃ x, T[t]? = some x ∧ Den g ρ sv x) →
    ((ps.zip xs).foldl (fun t p => t.setIfInBounds p.1 p.2) T).size = T.size ∧ ∀ t sv, lkS (putP ps svs L) t = some sv → ∃ x, ((ps.zip xs).foldl (fun t p => t.setIfInBounds p.1 p.2) T)[t]? = some x ∧ Den g ρ sv x
  | [], svs, xs, L, T, _, _, hL => ⟨by simp, by simpa [putP] using hL⟩
  | p :: ps, [], xs, L, T, _, hd, hL => by
    rw [hd.unnil]
    exact ⟨by simp, by simpa [putP] using hL⟩
  | p :: ps, sv :: svs, xs, L, T, hp, hd, hL => by
    obtain ⟨x, ys, rfl, dx, dr⟩ := hd.uncons
    simp only [List.all_cons, Bool.and_eq_true, Nat.blt_eq] at hp
    have hs : (T.setIfInBounds p x).size = T.size := by simp
    obtain ⟨h1, h2⟩ := putP_ok ps (svs := svs) (xs := ys) (L := (p, sv) :: L) (T := T.setIfInBounds p x) (by rw [hs]; exact hp.2) dr (fun t sv' ht => by
      by_cases htp : t = p
      · subst htp
        rw [lkS_same] at ht
        cases ht
        exact ⟨x, by simp [hp.1], dx⟩
      · rw [lkS_ne _ _ htp] at ht
        obtain ⟨y, hy, dy⟩ := hL t sv' ht
        exact ⟨y, by rw [Array.getElem?_setIfInBounds_ne (Ne.symm htp)]; exact hy, dy⟩)
    simp only [List.zip_cons_cons, List.foldl_cons]
    exact ⟨h1.trans hs, h2⟩
end Go.KX
/- Ranging over functions: what is iterated, and the rounds. No program in sight. -/
namespace Go.KX
theorem Split.app : ∀ (ms r : List Res), Split (ms ++ r) ms r
  | [], _ => .nil
  | _ :: ms, r => .cons .head (Split.app ms r)
/-- What holds between the rounds; what holds when one has left the loop. -/
structure Rnd where
  J : Nat → GW → List Res → Prop
  Jx : GW → List Res → Prop
  mono : ∀ {j g g' ms}, FExt g g' → J j g ms → J j g' ms
  monox : ∀ {g g' ms}, FExt g g' → Jx g ms → Jx g' ms
def Rnd.f (R : Rnd) (j : Nat) (ms : List Res) : MF := ⟨fun g => R.J j g ms, R.mono⟩
def Rnd.fx (R : Rnd) (ms : List Res) : MF := ⟨fun g => R.Jx g ms, R.monox⟩
structure RP (g : GW) (ms : List Res) (A B : GW → List Res → Prop) (e : Ending) (w' : World) : Prop where
  ex : ∃ v g' ms', e = .returned v ∧ g'.w = w' ∧ Ext (blks ms) g g' ∧ Own ms' g' ∧ (∀ b ∈ blks ms', b ∈ blks ms ∨ g.w.heap.size ≤ b) ∧ ((v = .bool true ∧ A g' ms') ∨ (v = .bool false ∧ B g' ms'))
def RndOK (P : Program) (l : Nat) (R : Rnd) (args : List (List SV)) : Prop := ∀ (j : Nat) a, args[j]? = some a → ∀ g ms ρ vs, R.J j g ms → Own ms g → DenL g ρ a vs →
  ∃ fn tmps assign body, (Instr.yield l vs.toArray).run P g.w = .ok (.round l fn tmps assign body) g.w ∧ RoundIn Fence.wide 0 P l fn tmps assign body g.w (RP g ms (R.J (j + 1)) R.Jx)
/-- It calls yield so many times, one list of arguments behind the other; what else there is in the world is the rounds' own. -/
def Itr (P : Program) (fs : List MF) (f : FuncId) (caps : List SV) (args : List (List SV)) : Prop := Callable P f ∧ ∀ l (R : Rnd) ρ g vs ms, All fs g → DenL g ρ caps vs → RndOK P l R args → R.J 0 g ms → Own ms g →
  Calls P f (#[.func (.yield l) #[] #[]] ++ vs.toArray) g.w fun e w' => ∃ v g' ms', e = .returned v ∧ g'.w = w' ∧ Ext (blks ms) g g' ∧ Own ms' g' ∧ (∀ b ∈ blks ms', b ∈ blks ms ∨ g.w.heap.size ≤ b) ∧ (R.J args.length g' ms' ∨ R.Jx g' ms')
structure RtI (X : Kx) (fs : List MF) (R : Rnd) (n : Nat) : Prop where
  ret : ∀ {k L M ms}, E X (.code .ret :: k) L M (R.f n ms :: fs) ms
  fall : ∀ {L M ms}, E X [] L M (R.f n ms :: fs) ms
  retx : ∀ {k L M ms}, E X (.code .ret :: k) L M (R.fx ms :: fs) ms
theorem itrb {P : Program} {fs : List MF} {tb : TT} (hT : tb.Ok P) {f : FuncId} {fn : Func} {c : Code} {caps : List SV} {args : List (List SV)} (n : Nat) (hf : P.funcs[f]? = some fn) (hrs : fn.results = #[])
    (h : ∀ l R, RndOK P l R args → ∀ g0 B0 Q ρ0 ms0, RtI ⟨⟨P, n, g0, B0, Q, none, []⟩, ρ0⟩ fs R args.length → E ⟨⟨P, n, g0, B0, Q, none, []⟩, ρ0⟩ [.code c] (initS (.v (.func (.yield l) #[] #[]) :: caps) 0) [] (R.f 0 ms0 :: fs) ms0) (hb : fn.body = some c := by rfl) (hname : (fn.name == "runtime.NumGoroutine") = false := by kernel_rfl) (hn : fn.ntmps = n := by rfl) (hle : caps.length + 1 ≤ n := by exact Nat.le_of_ble_eq_true rfl) : Itr P fs f caps args := by
  refine ⟨⟨fn, hf, by simp [hb], hname⟩, fun l R ρ g vs ms hfs ha hR hJ hO => ?_⟩
  refine calls_of_wp hf hb (wpIn_wide (n := 0) |>.1 ?_)
  let Post : Ending → World → Prop := fun e w' => ∃ v g' ms', e = .returned v ∧ g'.w = w' ∧ Ext (blks ms) g g' ∧ Own ms' g' ∧ (∀ b ∈ blks ms', b ∈ blks ms ∨ g.w.heap.size ≤ b) ∧ (R.J args.length g' ms' ∨ R.Jx g' ms')
  have hpost : ∀ (a : Act) (g' : GW) L M' ms' (F : MF), (F.p g' → R.J args.length g' ms' ∨ R.Jx g' ms') → ESt ⟨⟨P, n, g, blks ms, bodyPost P fn Post, none, []⟩, ρ⟩ L M' (F :: fs) ms' g' a →
      a.defers = [] ∧ ∃ v, (results fn a.tmps).run P g'.w = .ok v g'.w ∧ Post (.returned v) g'.w := by
    intro a g' L M' ms' F hF hst
    obtain ⟨ρ', msl, s1, s2, s3⟩ := hst
    obtain ⟨v, hv, _⟩ := results_ok (X := ⟨⟨P, n, g, blks ms, bodyPost P fn Post, none, []⟩, ρ⟩) (rs := []) (svs := []) hT s1 s2 s3 hrs rfl
    have s4 := (s1.perm (List.perm_append_comm (l₁ := msl) (l₂ := ms'))).drop
    exact ⟨s1.kn.defers, v, hv, v, g', ms', rfl, rfl, s1.ext, s4.own, s4.new, hF (s1.all F (.head _))⟩
  refine h l R hR g (blks ms) (bodyPost P fn Post) ρ ms ⟨?_, ?_, ?_⟩ g _ ?_
  · intro k L M' ms' g' a hst
    refine wpIn_ret ?_
    rw [cont_ret]
    exact hpost a g' L M' ms' _ .inl hst
  · intro L M' ms' g' a hst
    exact hpost a g' L M' ms' _ .inl hst
  · intro k L M' ms' g' a hst
    refine wpIn_ret ?_
    rw [cont_ret]
    exact hpost a g' L M' ms' _ .inr hst
  · have hd : DenL g ρ (.v (.func (.yield l) #[] #[]) :: caps) (.func (.yield l) #[] #[] :: vs) := DenL.cons .v ha
    refine ⟨ρ, [], ⟨⟨by simp [hn, ha.1]; omega, rfl, fun i v hi => by simp [lk] at hi⟩, All.cons hJ hfs, by simpa using hO, Ext.refl _ g, fun b hb => .inl (by simpa using hb)⟩, .nil, fun i _ => rfl, fun t sv ht => ?_⟩
    obtain ⟨j, rfl, hj⟩ := initS_lk _ 0 t sv ht
    obtain ⟨x, hx, dx⟩ := hd.get hj
    refine ⟨x, ?_, dx⟩
    have hlt : j < (Value.func (.yield l) #[] #[] :: vs).length := by
      rcases Nat.lt_or_ge j (Value.func (.yield l) #[] #[] :: vs).length with h | h
      · exact h
      · rw [List.getElem?_eq_none h] at hx; cases hx
    simp only [Nat.zero_add]
    rw [Array.getElem?_append_left (by simp at hlt ⊢; omega)]
    have e : (#[Value.func (.yield l) #[] #[]] ++ vs.toArray) = (Value.func (.yield l) #[] #[] :: vs).toArray := by simp
    rw [e]
    simpa using hx
section
variable {X : Kx} {k : List It} {L : SL} {M : SM} {fs : List MF} {own : List Res} {arr : Array Oper} {l : List Oper} {o : Oper}
/-- A loop, where what is owned and what is known turns with the state. -/
theorem E_loopO {σ : Type} (I : σ → Prop) (μ : σ → Nat) (Ls : σ → SL) (Fs : σ → List MF) (Os : σ → List Res) {body : Code} (s0 : σ) (h0 : I s0)
    (round : ∀ (J : Act → World → Prop) s, I s → (∀ s' {L' M'}, I s' → μ s' < μ s → (_ : subS L' (Ls s') := by (repeat (first | exact trivial | refine ⟨rfl, ?_⟩ | refine ⟨ivE (by omega), ?_⟩ | refine ⟨ivE (by simp; done), ?_⟩ | refine ⟨ivE (by simp <;> omega), ?_⟩))) → E X (.lp J :: k) L' M' (Fs s') (Os s')) → E X (.code body :: .lp J :: k) (Ls s) [] (Fs s) (Os s))
    (hL : subS L (Ls s0) := by (repeat (first | exact trivial | refine ⟨rfl, ?_⟩ | refine ⟨ivE (by omega), ?_⟩ | refine ⟨ivE (by simp; done), ?_⟩ | refine ⟨ivE (by simp <;> omega), ?_⟩))) : E X (.code (.loop body) :: k) L M (Fs s0) (Os s0) := by
  intro g a hs
  have none_ : ∀ M : SM, keepM (fun _ => false) M = [] := by
    intro M
    induction M with
    | nil => rfl
    | cons p M ih => obtain ⟨i, m⟩ := p; simp [keepM, ih]
  exact wpIn_loop_s (fun s a w => I s ∧ ∃ g', ESt X (Ls s) [] (Fs s) (Os s) g' a ∧ g'.w = w) μ (fun s a w ⟨hI, g', hst, hw⟩ => by
    subst hw
    exact round (fun a' w' => ∃ s', (I s' ∧ ∃ g', ESt X (Ls s') [] (Fs s') (Os s') g' a' ∧ g'.w = w') ∧ μ s' < μ s) s hI
      (fun s' {L' M'} h1 h2 h3 g2 a' hst' => ⟨s', ⟨h1, g2, hst'.weak h3 _ (none_ _), rfl⟩, h2⟩) g' a hst) s0 a g.w
    ⟨h0, g, hs.weak hL _ (none_ _), rfl⟩
/-- yield is called. -/
theorem yw {R : Rnd} {lp j d : Nat} {ms : List Res} {args : List (List SV)} {av : List SV} {fo : Operand} {az : Array Operand} {ts : Array TypeId} {svs : List SV} (hR : RndOK X.P lp R args) (hj : args[j]? = some av)
    (ht : ∀ ms', ES X arr l k ((d, .v (.bool true)) :: L) M (R.f (j + 1) ms' :: fs) ms') (hf : ∀ ms', ES X arr l k ((d, .v (.bool false)) :: L) M (R.fx ms' :: fs) ms') (hg : o.guard = none := by rfl) (hd : o.dst = some d := by rfl) (ho : o.op = .call ⟨.value fo, az, ts⟩ := by rfl) (hfo : evS (lkS L) fo = some (.v (.func (.yield lp) #[] #[])) := by rfl)
    (ha : evs (lkS L) az.toList = some svs := by rfl) (hb : svs.map st1 = av := by rfl) (hc : svs.flatMap cd1 = [] := by rfl) (hn : Nat.blt d X.n = true := by rfl) : ES X arr (o :: l) k L M (R.f j ms :: fs) ms := by
  intro g a hE
  obtain ⟨ρ, msl, st⟩ := hE.open
  have hSl : Sl X ρ L a g := st.all _ (.tail _ (.head _))
  have hw : Region.wanted o (yielded arr a.tmps) = true := live_wanted (L := []) st.kn (live_none hg)
  have hfe : a.eval fo = .func (.yield lp) #[] #[] := by
    have := eval_den hSl.val hfo
    generalize a.eval fo = x at this
    cases this; rfl
  have hden := sts_ok (evals_den hSl.val ha) (by simp only [hc]; intro p hp; cases hp)
  rw [hb] at hden
  have st2 := st.perm (List.perm_append_comm (l₁ := msl) (l₂ := ms))
  have hJ : R.J j g ms := st2.all (R.f j ms) (.tail _ (.tail _ (.head _)))
  obtain ⟨fn, tmps, assign, body, hy, hr⟩ := hR j av hj g ms ρ _ hJ st2.own.left hden
  have hrun : (execOp a.eval o).run X.P g.w = .ok (.round lp fn tmps assign body) g.w := by
    have e : (az.toList.map a.eval).toArray = az.map a.eval := Array.ext' (by simp)
    rw [e] at hy
    simp only [execOp, ho, resolve, hfe]
    simpa [invoke, go_sem] using hy
  simp only [wl, hw, if_true, wn, hrun]
  refine RoundIn.mono hr ?_
  rintro e w' ⟨v, g', ms', rfl, rfl, hE', hO', hN', hv⟩
  refine ⟨v, rfl, ?_⟩
  rw [hd]
  have s' := st2.frame (fsc := []) (fs' := []) (Split.app ms msl) hE' (fun f hf => (by cases hf)) hO' hN' .nil
  have s3 := s'.perm (List.perm_append_comm (l₁ := ms') (l₂ := msl))
  simp only [List.nil_append] at s3
  rcases hv with ⟨rfl, hA⟩ | ⟨rfl, hB⟩
  · have s4 : St X.toCx [] (F1 ρ M msl :: F2 X ρ L a :: R.f (j + 1) ms' :: fs) (msl ++ ms') g' a := ⟨s3.kn, All.cons (s3.all _ (.head _)) (All.cons (s3.all _ (.tail _ (.head _))) (All.cons hA (fun f hf => s3.all f (.tail _ (.tail _ (.tail _ hf)))))), s3.own, s3.ext, s3.new⟩
    exact ht ms' g' _ (ESt.put s4 hn .v)
  · have s4 : St X.toCx [] (F1 ρ M msl :: F2 X ρ L a :: R.fx ms' :: fs) (msl ++ ms') g' a := ⟨s3.kn, All.cons (s3.all _ (.head _)) (All.cons (s3.all _ (.tail _ (.head _))) (All.cons hB (fun f hf => s3.all f (.tail _ (.tail _ (.tail _ hf)))))), s3.own, s3.ext, s3.new⟩
    exact hf ms' g' _ (ESt.put s4 hn .v)
end
end Go.KX
/- The statement 'for .. := range f { .. }'. No program in sight. -/
namespace Go.KX
def colD (D : Nat) : Deferred := { target := .collected D, args := #[] }
theorem ESt.reQ {P : Program} {n : Nat} {g0 : GW} {B0 : List Nat} {Q Q' : Exit → Act → World → Prop} {rd rd' : Option Nat} {df : List Deferred} {ρ0 : Nat → Lc} {L : SL} {M : SM} {fs : List MF} {own : List Res} {g : GW} {a : Act}
    (h : ESt ⟨⟨P, n, g0, B0, Q, rd, df⟩, ρ0⟩ L M fs own g a) : ESt ⟨⟨P, n, g0, B0, Q', rd', df⟩, ρ0⟩ L M fs own g a := by
  obtain ⟨ρ, ms, s1, s2, s3⟩ := h.ex
  exact ⟨ρ, ms, ⟨s1.kn, s1.all, s1.own, s1.ext, s1.new⟩, s2, s3.pin, s3.val⟩
theorem St.putO {X : Cx} {L : LL} {fs : List MF} {own' : List Res} {g : GW} {a : Act} {b : Nat} {o : Obj} (s : St X L fs (Res.blk b o :: own') g a) (o' : Obj) : ∃ g', g'.w = g.w.putObj b o' ∧ St X L fs (Res.blk b o' :: own') g' a := by
  have hlt : b < g.w.heap.size := s.own.lt b (by simp [Res.blk])
  refine s.turn (r' := Res.blk b o') .head (fun c hc hn => World.putObj_heap_other (by simpa [Res.blk] using hn)) rfl rfl rfl (by rw [World.putObj_size]; exact Nat.le_refl _) (World.putObj_heap_same hlt) (by simp [Res.blk]) (fun c hc => ?_) (fun c hc => .inl hc)
  have : c = b := by simpa [Res.blk] using hc
  rw [this, World.putObj_size]; exact hlt
theorem St.alloc2 {X : Cx} {L : LL} {fs : List MF} {own : List Res} {g : GW} {a : Act} (s : St X L fs own g a) (o1 o2 : Obj) : ∃ g' : GW, g'.w = (g.w.alloc o1).alloc o2 ∧ St X L fs (Res.blk (g.w.heap.size + 1) o2 :: Res.blk g.w.heap.size o1 :: own) g' a := by
  have sL := (s.alloc o1).alloc o2
  have e : (g.w.alloc o1).heap.size = g.w.heap.size + 1 := size_alloc g.w o1
  simp only [e] at sL
  exact ⟨_, rfl, sL⟩
theorem zip_fold (ps : Array Nat) (vs : List Value) (T : Array Value) : (ps.zip vs.toArray).foldl (fun tmps (p : Nat × Value) => tmps.setIfInBounds p.1 p.2) T = (ps.toList.zip vs).foldl (fun t p => t.setIfInBounds p.1 p.2) T := by
  rw [← Array.foldl_toList]
  simp
/-- A range over a function. -/
theorem E_range {X : Kx} {k : List It} {L : SL} {M : SM} {fs : List MF} {fo : Operand} {ps : Array Tmp} {assign body : Code} {gf : FuncId} {caps : List SV} {args : List (List SV)} {ι : Type} (Ms : Nat → SM) (Mx : ι → SM) (hit : Itr X.P fs gf caps args)
    (hround : ∀ (j : Nat) a, args[j]? = some a → ∀ (l : Nat) g0 B0 ρ0 Q1 Q2 own1 own2 (J : Act → World → Prop),
      (∀ {L' M'}, E ⟨⟨X.P, X.n, g0, B0, Q2, some l, []⟩, ρ0⟩ [.code body] L' M' fs own2 → E ⟨⟨X.P, X.n, g0, B0, Q1, some l, []⟩, ρ0⟩ [.lp J] L' M' fs own1) →
      (∀ {L' M'}, keepM (Nat.ble 1000) M' = upM (Ms (j + 1)) → E ⟨⟨X.P, X.n, g0, B0, Q2, some l, []⟩, ρ0⟩ [] L' M' fs own2) →
      (∀ {k' L' M'} (i : ι), keepM (Nat.ble 1000) M' = upM (Mx i) → E ⟨⟨X.P, X.n, g0, B0, Q2, some l, []⟩, ρ0⟩ (.code .ret :: k') L' M' fs own2) →
      E ⟨⟨X.P, X.n, g0, B0, Q1, some l, []⟩, ρ0⟩ [.code assign, .lp J] (putP ps.toList a (upS L)) (upM (Ms j)) fs own1)
    (hk : ∀ D, E { X with df := [colD D] } k L (Ms args.length) fs [Res.blk D (.deferred (some []))])
    (hx : ∀ D i, E { X with df := [colD D] } (.code .ret :: k) L (Mx i) fs [Res.blk D (.deferred (some []))])
    (hcl : ∀ a ∈ args, cloL a = true) (hps : ∀ a ∈ args, a.length = ps.size) (hfo : evS (lkS L) fo = some (.f gf [] caps) := by rfl) (hpn : ps.toList.all (fun p => Nat.blt p X.n) = true := by rfl) (hM : keepM (keysB (Ms 0)) M = Ms 0 := by rfl) (hrd : X.rd = none := by rfl) (hdf : X.df = [] := by rfl) : E X (.code (.rangeFunc fo ps assign body) :: k) L M fs [] := by
  intro g a hE
  obtain ⟨ρ, msl, s1, s2, s3⟩ := hE.ex
  obtain ⟨m1, m2, h4, h5⟩ := s2.keep (keysB (Ms 0))
  rw [hM] at h4
  have st0 : St X.toCx [] fs m1 g a := (s1.perm (by simpa using h5)).drop
  have st : St X.toCx [] (F1 ρ (Ms 0) m1 :: F2 X ρ L a :: fs) m1 g a := ⟨st0.kn, All.cons h4 (All.cons s3 st0.all), st0.own, st0.ext, st0.new⟩
  have dfo := eval_den s3.val hfo
  obtain ⟨xs, ys, hfe, d1, d2⟩ := den_f dfo
  obtain rfl := d1.unnil
  show (Code.rangeFunc fo ps assign body).wpIn (fen X.rd) 0 X.P (cont X.P X.rd X.Q k) a g.w
  refine wpIn_rangeFunc (fun fn _ => ?_)
  have hro : (fen X.rd).round = none := hrd
  rw [hro]
  obtain ⟨D, hD⟩ : ∃ D, D = g.w.heap.size := ⟨_, rfl⟩
  obtain ⟨rec, hrec⟩ : ∃ rec : LoopState → Option Code → Loop, rec = fun st pe => { state := st, pending := pe, fn, tmps := a.tmps, params := ps, assign, body, defers := D } := ⟨_, rfl⟩
  obtain ⟨gL, hgL, sL⟩ := st.alloc2 (.deferred (some [])) (.loop (rec .ready none))
  rw [← hD] at sL
  have hent := run_enterLoop_outer (P := X.P) (w := g.w) fn a.tmps ps assign body
  rw [← hD, show ({ state := .ready, pending := none, fn, tmps := a.tmps, params := ps, assign, body, defers := D } : Loop) = rec .ready none by rw [hrec], ← hgL] at hent
  have hfe' : a.eval fo = .func (.func gf) #[] ys.toArray := hfe
  refine ⟨D + 1, [colD D], gL.w, { target := .fn (.func gf) ys.toArray, args := #[.func (.yield (D + 1)) #[] #[]] }, gL.w, gf, #[.func (.yield (D + 1)) #[] #[]] ++ ys.toArray, gL.w, hent, ?_, fun _ _ => trivial, ?_, fun h => by simp [Fence.wide] at h, (callsIn_wide (n := 0)).2 ?_⟩
  · simp only [resolve, hfe']
    simp [go_sem]
  · simp [invoke, go_sem, run_callFunc hit.1]
  have sL2 := sL.perm (own' := (Res.blk (D + 1) (.loop (rec .ready none)) :: m1) ++ [Res.blk D (.deferred (some []))]) (by
    simp only [List.cons_append]
    exact List.Perm.cons _ ((List.perm_append_comm (l₁ := [Res.blk D (.deferred (some []))]) (l₂ := m1))))
  have hF2 : (F2 X ρ L a).p gL := sL2.all _ (.tail _ (.head _))
  have hAL : All fs gL := fun f hf => sL2.all f (.tail _ (.tail _ hf))
  let R : Rnd := {
    J := fun j g ms => ∃ mms, ms = Res.blk (D + 1) (.loop (rec .ready none)) :: mms ∧ DenM g ρ (Ms j) mms ∧ (F2 X ρ L a).p g ∧ All fs g
    Jx := fun g ms => ∃ i mms, ms = Res.blk (D + 1) (.loop (rec .done (some .ret))) :: mms ∧ DenM g ρ (Mx i) mms ∧ (F2 X ρ L a).p g ∧ All fs g
    mono := fun e ⟨mms, h1, h2, h3, h4⟩ => ⟨mms, h1, h2.mono e, (F2 X ρ L a).mono e h3, h4.mono e⟩
    monox := fun e ⟨i, mms, h1, h2, h3, h4⟩ => ⟨i, mms, h1, h2.mono e, (F2 X ρ L a).mono e h3, h4.mono e⟩ }
  have hcaps : DenL gL ρ caps ys := by
    have dfo' := eval_den (Sl.val hF2) hfo
    obtain ⟨_, ys', hfe2, _, d3⟩ := den_f dfo'
    rw [hfe] at hfe2
    have : ys = ys' := by
      have := hfe2
      simp only [Value.func.injEq] at this
      exact List.toArray_inj this.2.2
    rw [this]; exact d3
  have hRnd : RndOK X.P (D + 1) R args := by
    rintro j av hj g1 ms ρa vs ⟨mms, rfl, hM1, hS1, hA1⟩ hO1 hd1
    have hmem : av ∈ args := List.mem_of_getElem? hj
    have hl : g1.w.heap[D + 1]? = some (.loop (rec .ready none)) := hO1.p _ (.head _)
    have hy := run_yield (P := X.P) (args := vs.toArray) hl (by rw [hrec]; simpa using hd1.1.trans (hps av hmem))
    rw [hrec] at hy
    refine ⟨fn, _, assign, body, hy, roundIn_of_wpIn (n := 0) (F := Fence.wide) trivial ?_⟩
    let ms := Res.blk (D + 1) (.loop (rec .ready none)) :: mms
    let ρ0 : Nat → Lc := fun i => ρ (i - 1000)
    have eρ : ∀ i, ρ0 (i + 1000) = ρ i := fun i => by simp [ρ0]
    let RR := RP g1 ms (R.J (j + 1)) R.Jx
    let Q2 := roundPost X.P (D + 1) RR
    let J1 : Act → World → Prop := fun a₁ w₁ => ∃ w₂, (Instr.beginRound (D + 1)).run X.P w₁ = .ok () w₂ ∧ body.wpIn (Fence.wide.inRound (D + 1)) 0 X.P (roundPost X.P (D + 1) RR) a₁ w₂
    have fin : ∀ (stt : LoopState) (pe : Option Code) {L' M' M1 g4 a4}, ESt ⟨⟨X.P, X.n, g1, blks ms, Q2, some (D + 1), []⟩, ρ0⟩ L' M' fs [Res.blk (D + 1) (.loop { rec .ready none with state := .busy })] g4 a4 → keepM (Nat.ble 1000) M' = upM M1 →
        g4.w.heap[D + 1]? = some (.loop { rec .ready none with state := .busy }) ∧ ∃ g' m4, g'.w = g4.w.putObj (D + 1) (.loop (rec stt pe)) ∧ Ext (blks ms) g1 g' ∧ Own (Res.blk (D + 1) (.loop (rec stt pe)) :: m4) g' ∧ (∀ b ∈ blks (Res.blk (D + 1) (.loop (rec stt pe)) :: m4), b ∈ blks ms ∨ g1.w.heap.size ≤ b) ∧ DenM g' ρ M1 m4 ∧ (F2 X ρ L a).p g' ∧ All fs g' := by
      intro stt pe L' M' M1 g4 a4 s4 hk4
      obtain ⟨ρ4, ms4, t1, t2, t3⟩ := s4.ex
      obtain ⟨m4, m5, h6, h7⟩ := t2.keep (Nat.ble 1000)
      rw [hk4] at h6
      have e4 : ∀ i, ρ4 (i + 1000) = ρ i := fun i => (t3.pin _ (by omega)).trans (eρ i)
      have t1p := (t1.perm (own' := (Res.blk (D + 1) (.loop { rec .ready none with state := .busy }) :: m4) ++ m5) ((List.perm_append_comm (l₁ := ms4)).trans (List.Perm.cons _ h7))).drop
      have hl4 := t1p.own.p _ (.head _)
      have t5 : St _ [] (F1 ρ4 (upM M1) m4 :: fs) _ g4 a4 := ⟨t1p.kn, All.cons h6 t1p.all, t1p.own, t1p.ext, t1p.new⟩
      obtain ⟨g', hw, s'⟩ := t5.putO (.loop (rec stt pe))
      exact ⟨hl4, g', m4, hw, s'.ext, s'.own, s'.new, (show DenM g' ρ4 (upM M1) m4 from s'.all _ (.head _)).dn e4, (F2 X ρ L a).mono s'.ext.toFExt hS1, fun f hf => s'.all f (.tail _ hf)⟩
    have key := hround j av hj (D + 1) g1 (blks ms) ρ0 (fun _ _ _ => False) Q2 [Res.blk (D + 1) (.loop (rec .ready none))] [Res.blk (D + 1) (.loop { rec .ready none with state := .busy })] J1 ?_ ?_ ?_
    · refine key g1 { tmps := _, defers := [] } ?_
      have hd1' : DenL g1 ρ0 av vs := hd1.swap (hcl av hmem) ρ0
      have hsz : a.tmps.size = X.n := st0.kn.size
      obtain ⟨h8, h9⟩ := putP_ok ps.toList (g := g1) (ρ := ρ0) (svs := av) (xs := vs) (L := upS L) (T := a.tmps) (by rw [hsz]; exact hpn) hd1' (fun t sv ht => by
        obtain ⟨s0, h10, rfl⟩ := upS_lk ht
        obtain ⟨x, hx, dx⟩ := Sl.val hS1 t s0 h10
        exact ⟨x, hx, dx.up eρ⟩)
      rw [← zip_fold] at h8 h9
      exact ⟨ρ0, mms, ⟨⟨h8.trans hsz, rfl, fun i v hi => by simp [lk] at hi⟩, hA1, hO1.perm (List.perm_append_comm (l₁ := [_])), Ext.refl _ g1, fun b hb => .inl ((blks_perm (List.perm_append_comm (l₁ := mms) (l₂ := [_]))).subset hb)⟩, hM1.up eρ, fun _ _ => rfl, h9⟩
    · intro L' M' hb g2 a2 hs2
      obtain ⟨ρ2, ms2, t2⟩ := hs2.open
      have t3 := t2.perm (List.perm_append_comm (l₂ := [Res.blk (D + 1) (.loop (rec .ready none))]))
      have hl2 : g2.w.heap[D + 1]? = some (.loop (rec .ready none)) := t3.own.p _ (.head _)
      obtain ⟨g3, hw3, t4⟩ := St.putO t3 (.loop { rec .ready none with state := .busy })
      refine ⟨_, run_beginRound hl2 (by rw [hrec]), ?_⟩
      rw [← hw3]
      exact hb g3 a2 (ESt.reQ (ESt.close (t4.perm (List.perm_append_comm (l₁ := [_]) (l₂ := ms2)))))
    · intro L' M' hk4 g4 a4 s4
      obtain ⟨hl4, g', m4, hw, q1, q2, q3, q4, q5, q6⟩ := fin .ready none s4 hk4
      have hr := run_endRound (P := X.P) none hl4
      refine ⟨_, _, hr, .bool true, g', Res.blk (D + 1) (.loop (rec .ready none)) :: m4, rfl, ?_, q1, q2, q3, .inl ⟨rfl, m4, rfl, q4, q5, q6⟩⟩
      rw [hw, hrec]; rfl
    · intro k' L' M' i hk4 g4 a4 s4
      obtain ⟨hl4, g', m4, hw, q1, q2, q3, q4, q5, q6⟩ := fin .done (some .ret) s4 hk4
      refine wpIn_ret ?_
      have hr := run_endRound (P := X.P) (some .ret) hl4
      rw [cont_ret]
      refine ⟨_, _, hr, .bool false, g', Res.blk (D + 1) (.loop (rec .done (some .ret))) :: m4, rfl, ?_, q1, q2, q3, .inr ⟨rfl, i, m4, rfl, q4, q5, q6⟩⟩
      rw [hw, hrec]; rfl
  refine (hit.2 (D + 1) R ρ gL ys _ hAL hcaps hRnd ⟨m1, rfl, sL2.all _ (.head _), hF2, hAL⟩ sL2.own.left).mono ?_
  rintro e w2 ⟨v, g2, ms2, rfl, rfl, hE2, hO2, hN2, hJ2⟩
  have s5 := sL2.frame (fsc := []) (fs' := []) (Split.app _ [Res.blk D (.deferred (some []))]) hE2 (fun f hf => (by cases hf)) hO2 hN2 .nil
  have fin : ∀ (stt : LoopState) (pe : Option Code) mms M1, ms2 = Res.blk (D + 1) (.loop (rec stt pe)) :: mms → DenM g2 ρ M1 mms → (F2 X ρ L a).p g2 → All fs g2 →
      g2.w.heap[D + 1]? = some (.loop (rec stt pe)) ∧ ∃ g3 : GW, g3.w = g2.w.putObj (D + 1) (.loop { rec stt pe with state := .exhausted }) ∧ ESt { X with df := [colD D] } L M1 fs [Res.blk D (.deferred (some []))] g3 { a with defers := [colD D] ++ a.defers } := by
    rintro stt pe mms M1 rfl hM3 hS3 hA3
    have s6 : St X.toCx [] (F1 ρ M1 mms :: F2 X ρ L a :: fs) (Res.blk (D + 1) (.loop (rec stt pe)) :: (mms ++ [Res.blk D (.deferred (some []))])) g2 a := ⟨s5.kn, All.cons hM3 (All.cons hS3 hA3), s5.own, s5.ext, s5.new⟩
    obtain ⟨g3, hw3, s7⟩ := s6.putO (.loop { rec stt pe with state := .exhausted })
    refine ⟨s6.own.p _ (.head _), g3, hw3, ?_⟩
    have s8 := (s7.perm (List.perm_append_comm (l₁ := [_]))).drop
    have hS4 : Sl X ρ L a g3 := s8.all _ (.tail _ (.head _))
    refine ⟨ρ, mms, ⟨⟨s8.kn.size, ?_, fun i v hi => by simp [lk] at hi⟩, fun f hf => s8.all f (.tail _ (.tail _ hf)), s8.own, s8.ext, s8.new⟩, s8.all _ (.head _), hS4.pin, hS4.val⟩
    show [colD D] ++ a.defers = [colD D]
    rw [s8.kn.defers, hdf]; rfl
  rcases hJ2 with ⟨mms, hms, hM3, hS3, hA3⟩ | ⟨i, mms, hms, hM3, hS3, hA3⟩
  · obtain ⟨hl2, g3, hw3, hs⟩ := fin _ _ mms _ hms hM3 hS3 hA3
    have hr := run_endLoop (P := X.P) hl2 (by rw [hrec]; simp)
    have hp : (rec .ready none).pending = none := by rw [hrec]
    exact ⟨(rec .ready none).pending, g3.w, by rw [hw3]; exact hr, by rw [hp]; exact hk D g3 _ hs⟩
  · obtain ⟨hl2, g3, hw3, hs⟩ := fin _ _ mms _ hms hM3 hS3 hA3
    have hr := run_endLoop (P := X.P) hl2 (by rw [hrec]; simp)
    have hp : (rec .done (some .ret)).pending = some .ret := by rw [hrec]
    exact ⟨(rec .done (some .ret)).pending, g3.w, by rw [hw3]; exact hr, by rw [hp]; exact hx D i g3 _ hs⟩
end Go.KX
/- Functions that hold a range over a function: their contract. No program in sight. -/
namespace Go.KX
structure Rm (X : Kx) (fs : List MF) (tb : TT) (rs : List ResultVar) (res : SV) (D : Nat) : Prop where
  ret : ∀ {k L M svs}, resS tb L M rs = some svs → hiS (resVS svs) = true → resVS svs = res → E X (.code .ret :: k) L M fs [Res.blk D (.deferred (some []))]
  fall : ∀ {L M svs}, resS tb L M rs = some svs → hiS (resVS svs) = true → resVS svs = res → E X [] L M fs [Res.blk D (.deferred (some []))]
theorem fbm {P : Program} {fs : List MF} {tb : TT} (hT : tb.Ok P) {f : FuncId} {fn : Func} {c : Code} {args : List SV} {res : SV} (n : Nat) (rs : List ResultVar)
    (hf : P.funcs[f]? = some fn) (hrs : fn.results = rs.toArray) (h : ∀ g0 B0 Q ρ0, Rt ⟨⟨P, n, g0, B0, Q, none, []⟩, ρ0⟩ fs tb rs (fun sv _ => sv = res) → (∀ D, Rm ⟨⟨P, n, g0, B0, Q, none, [colD D]⟩, ρ0⟩ fs tb rs res D) → E ⟨⟨P, n, g0, B0, Q, none, []⟩, ρ0⟩ [.code c] (initS args 0) [] fs []) (hb : fn.body = some c := by rfl)
    (hname : (fn.name == "runtime.NumGoroutine") = false := by kernel_rfl) (hn : fn.ntmps = n := by rfl) (hle : args.length ≤ n := by exact Nat.le_of_ble_eq_true rfl) : Fc P fs f args res := by
  refine ⟨⟨fn, hf, by simp [hb], hname⟩, fun ρ g vs hfs ha => ?_⟩
  refine (callsIn_wide (n := 0)).1 (callsIn_of_wp_marks hf hb trivial ?_)
  let Post : Ending → World → Prop := fun e w' => ∃ v g', e = .returned v ∧ g'.w = w' ∧ Ext [] g g' ∧ Den g' ρ res v
  have hpost0 : ∀ (a : Act) (g' : GW) L M' svs, resS tb L M' rs = some svs → hiS (resVS svs) = true → resVS svs = res → ESt ⟨⟨P, n, g, [], bodyPostM Fence.wide 0 P fn Post, none, []⟩, ρ⟩ L M' fs [] g' a → LeavesInM Fence.wide 0 P fn a.tmps Post a.defers .returning g'.w := by
    intro a g' L M' svs h1 h2 h3 hst
    obtain ⟨ρ', ms', s1, s2, s3⟩ := hst
    obtain ⟨v, hv, dv⟩ := results_ok (X := ⟨⟨P, n, g, [], _, none, []⟩, ρ⟩) hT s1 s2 s3 hrs h1
    rw [s1.kn.defers]
    exact ⟨v, hv, v, g', rfl, rfl, s1.ext, h3 ▸ dv.hi h2 ρ s3.pin⟩
  have hpost : ∀ D (a : Act) (g' : GW) L M' svs, resS tb L M' rs = some svs → hiS (resVS svs) = true → resVS svs = res → ESt ⟨⟨P, n, g, [], bodyPostM Fence.wide 0 P fn Post, none, [colD D]⟩, ρ⟩ L M' fs [Res.blk D (.deferred (some []))] g' a → LeavesInM Fence.wide 0 P fn a.tmps Post a.defers .returning g'.w := by
    intro D a g' L M' svs h1 h2 h3 hst
    obtain ⟨ρ', ms', st⟩ := hst.open
    have s1 := st.perm (List.perm_append_comm (l₂ := [Res.blk D (.deferred (some []))]))
    have hl : g'.w.heap[D]? = some (.deferred (some [])) := s1.own.p _ (.head _)
    obtain ⟨g2, hw, s2⟩ := St.putO s1 (.deferred none)
    have s3 := s2.perm (List.perm_append_comm (l₁ := [_]) (l₂ := ms'))
    have hS : Sl ⟨⟨P, n, g, [], bodyPostM Fence.wide 0 P fn Post, none, [colD D]⟩, ρ⟩ ρ' L a g2 := s3.all _ (.tail _ (.head _))
    obtain ⟨v, hv, dv⟩ := results_ok (X := ⟨⟨P, n, g, [], _, none, [colD D]⟩, ρ⟩) hT s3 (s3.all _ (.head _)) hS hrs h1
    rw [s1.kn.defers]
    refine ⟨by simp, .inl ⟨D, g2.w, rfl, by rw [hw]; exact run_takeDeferred hl, v, hv, v, g2, rfl, rfl, s3.ext, h3 ▸ dv.hi h2 ρ hS.pin⟩⟩
  refine h g [] (bodyPostM Fence.wide 0 P fn Post) ρ ⟨?_, ?_, fun _ _ _ h => h⟩ (fun D => ⟨?_, ?_⟩) g _ ?_
  · intro k L M' svs h1 h2 _ h4 g' a hst
    refine wpIn_ret ?_
    rw [cont_ret]
    exact hpost0 a g' L M' svs h1 h2 h4 hst
  · intro L M' svs h1 h2 _ h4 g' a hst
    exact hpost0 a g' L M' svs h1 h2 h4 hst
  · intro k L M' svs h1 h2 h4 g' a hst
    refine wpIn_ret ?_
    rw [cont_ret]
    exact hpost D a g' L M' svs h1 h2 h4 hst
  · intro L M' svs h1 h2 h4 g' a hst
    exact hpost D a g' L M' svs h1 h2 h4 hst
  · refine ⟨ρ, [], ⟨⟨by simp [hn, ha.1]; omega, rfl, fun i v hi => by simp [lk] at hi⟩, hfs, ⟨fun r hr => (by cases hr), List.nodup_nil, fun b hb => (by cases hb), fun b hb => (by cases hb)⟩, Ext.refl _ g, fun b hb => (by cases hb)⟩, .nil, fun i _ => rfl, fun t sv ht => ?_⟩
    obtain ⟨j, rfl, hj⟩ := initS_lk args 0 t sv ht
    obtain ⟨x, hx, dx⟩ := ha.get hj
    refine ⟨x, ?_, dx⟩
    have hlt : j < vs.length := by
      rcases Nat.lt_or_ge j vs.length with h | h
      · exact h
      · rw [List.getElem?_eq_none h] at hx; cases hx
    simp only [Nat.zero_add]
    rw [Array.getElem?_append_left (by simpa using hlt)]
    simpa using hx
section
variable {X : Kx} {k : List It} {L : SL} {M : SM} {fs : List MF} {arr : Array Oper} {l : List Oper} {o : Oper} {tb : TT} {rs : List ResultVar}
theorem erm {res : SV} {svs : List SV} {k' : List It} {D : Nat} (n : Nat) (R : Rm X fs tb rs res D) (he : resVS svs = res) (hk : normS (lkS L) 64 n k = .code .ret :: k' := by rfl) (hr : resS tb L M rs = some svs := by rfl) (hh : hiS (resVS svs) = true := by rfl) : E X k L M fs [Res.blk D (.deferred (some []))] :=
  norm_E 64 n (hk ▸ R.ret hr hh he)
theorem efm {res : SV} {svs : List SV} {D : Nat} (n : Nat) (R : Rm X fs tb rs res D) (he : resVS svs = res) (hk : normS (lkS L) 64 n k = [] := by rfl) (hr : resS tb L M rs = some svs := by rfl) (hh : hiS (resVS svs) = true := by rfl) : E X k L M fs [Res.blk D (.deferred (some []))] :=
  norm_E 64 n (hk ▸ R.fall hr hh he)
theorem srm {res : SV} {svs : List SV} {k' : List It} {D : Nat} (n : Nat) (R : Rm X fs tb rs res D) (he : resVS svs = res) (hk : normS (lkS L) 64 n k = .code .ret :: k' := by rfl) (hr : resS tb L M rs = some svs := by rfl) (hh : hiS (resVS svs) = true := by rfl) : ES X arr [] k L M fs [Res.blk D (.deferred (some []))] := ES_nil (erm n R he hk hr hh)
theorem sfm {res : SV} {svs : List SV} {D : Nat} (n : Nat) (R : Rm X fs tb rs res D) (he : resVS svs = res) (hk : normS (lkS L) 64 n k = [] := by rfl) (hr : resS tb L M rs = some svs := by rfl) (hh : hiS (resVS svs) = true := by rfl) : ES X arr [] k L M fs [Res.blk D (.deferred (some []))] := ES_nil (efm n R he hk hr hh)
end
end Go.KX
/- Rows that are owned as a queue: appended to, cut in front, read. No program in sight. -/
namespace Go.KX
section
variable {P : Program} {w : World}
theorem run_append_roomq (t ty e : TypeId) (i : TypeInfo) (ht : P.underlying t = some (.slice e)) (hi : P.info? e = some i) (g off sLen sCap : Nat) (cur : Array Value) (hg : w.heap[g]? = some (.cells cur e (0, 0)))
    (a : Addr) (m c : Nat) (news : List Value) (hl : news.length = m * i.size) (hnews : ∀ (j : Nat) u, news[j]? = some u → w.cell? (a.add j) = some u) (h1 : ∀ u ∈ news, u.oneCell' = true) (hroom : sLen + m ≤ sCap) (hfit : off + sLen * i.size + news.length ≤ cur.size) :
    (Builtin.append_ #[t, t] ty #[.slice (some ⟨g, off, none⟩) sLen sCap, .slice (some a) m c]).run P w = .ok (.slice (some ⟨g, off, none⟩) (sLen + m) sCap) (w.setRow g (cur.toList.take (off + sLen * i.size) ++ news ++ cur.toList.drop (off + sLen * i.size + news.length)).toArray) := by
  have hf := run_firstCells_some (P := P) w i.size m a m c news hl hnews
  have hst := run_storeCells_at P g (off + sLen * i.size) e news 0 cur w hg (by simpa using hfit) h1
  simp only [Nat.add_zero] at hst
  simp [Builtin.append_, run_underlying ht, sizeOf, typeInfo, hi, Builtin.lenOf, hroom, hf, Addr.add_lit, hst]
structure AppQ {α : Type} (w w' : World) (E : El α) (Te : Nat) (ad : Option Addr) (v' : Value) (zs : List α) : Prop where
  ex : ∃ ad' c', v' = .slice ad' zs.length c' ∧ (Res.que E Te ad' c' zs).p w' ∧ (∀ b, b < w.heap.size → b ∉ vbs ad → w'.heap[b]? = w.heap[b]?) ∧ w'.os = w.os ∧ w'.tape = w.tape ∧ w'.output = w.output ∧ w.heap.size ≤ w'.heap.size ∧ ∀ b ∈ vbs ad', b < w'.heap.size ∧ (b ∈ vbs ad ∨ w.heap.size ≤ b)
theorem own_que {α : Type} {E : El α} {B Te : Nat} {v : Value} {zs : List α} (h : w.ownsRow B Te E.sz v zs.length (flat E zs)) : ∃ ad c, v = .slice ad zs.length c ∧ (Res.que E Te ad c zs).p w ∧ ∀ b ∈ vbs ad, B ≤ b ∧ b < w.heap.size := by
  have hlt := h.lt
  rcases h.2 with ⟨rfl, hn⟩ | ⟨g, cap, cur, rfl, hb, hg, hnc, hcm, hcs, htk⟩
  · have : zs = [] := List.eq_nil_of_length_eq_zero hn
    subst this
    exact ⟨none, 0, rfl, .inl ⟨rfl, rfl, rfl⟩, fun b hb => by cases hb⟩
  · refine ⟨some ⟨g, 0, none⟩, cap, rfl, .inr ⟨g, 0, cur, rfl, hg, hnc, hcm, by omega, by simpa using htk⟩, fun b hb => ?_⟩
    have : b = g := by simpa [vbs] using hb
    subst this
    exact hlt b rfl
theorem run_appq {T Te sz by_ ty : Nat} {z : Value} (hz : 0 < sz) (u : P.underlying T = some (.slice Te)) (hti : TI P Te sz by_ z) (hzs : z.cells.size = sz) {ad : Option Addr} {c : Nat} {ys : List (Row sz)} (hq : (Res.que (elRow sz hz) Te ad c ys).p w)
    {ad2 : Option Addr} {ys2 : List (Row sz)} {c2 : Nat} (h2 : ys2 ≠ [] → ∃ b o, ad2 = some ⟨b, o, none⟩ ∧ ∀ (j : Nat) v, (flat (elRow sz hz) ys2)[j]? = some v → w.cell? ⟨b, o + j, none⟩ = some v) (hby : 1 ≤ by_) (hbig : (ys.length + ys2.length) * by_ ≤ 140737488355328) :
    ∃ v' w', (Builtin.append_ #[T, T] ty #[.slice ad ys.length c, .slice ad2 ys2.length c2]).run P w = .ok v' w' ∧ AppQ w w' (elRow sz hz) Te ad v' (ys ++ ys2) := by
  obtain ⟨i0, hi, hs0, hb0, hz0⟩ := hti
  by_cases he : ys2 = []
  · subst he
    have same : AppQ w w (elRow sz hz) Te ad (.slice ad (ys ++ []).length c) (ys ++ []) := by
      refine ⟨ad, c, rfl, by simpa using hq, fun _ _ _ => rfl, rfl, rfl, rfl, Nat.le_refl _, fun b hb => ⟨?_, .inl hb⟩⟩
      rcases hq with ⟨rfl, _, _⟩ | ⟨gg, off, cur, rfl, hg, _⟩
      · cases hb
      · have : b = gg := by simpa [vbs] using hb
        subst this
        exact (Array.getElem?_eq_some_iff.1 hg).1
    refine ⟨_, w, ?_, same⟩
    rcases hq with ⟨rfl, rfl, rfl⟩ | ⟨gg, off, cur, rfl, hg, hnc, _⟩
    · cases ad2 <;> simp [Builtin.append_, run_underlying u, sizeOf, typeInfo, hi, Builtin.lenOf, Builtin.firstCells, loadCells, loadCellsFrom]
    · cases ad2 <;> simp [Builtin.append_, run_underlying u, sizeOf, typeInfo, hi, Builtin.lenOf, Builtin.firstCells, loadCells, loadCellsFrom, storeCells, hnc]
  · obtain ⟨b2, o2, rfl, hcell⟩ := h2 he
    have hm : 0 < ys2.length := List.length_pos_iff.2 he
    have hnl : (flat (elRow sz hz) ys2).length = ys2.length * sz := flat_len (elRow sz hz) ys2
    have h63 : ys.length + ys2.length ≤ maxLen := by
      have : ys.length + ys2.length ≤ (ys.length + ys2.length) * by_ := Nat.le_mul_of_pos_right _ hby
      simp only [maxLen]; omega
    have hnews : ∀ (j : Nat) v, (flat (elRow sz hz) ys2)[j]? = some v → w.cell? ((⟨b2, o2, none⟩ : Addr).add j) = some v := fun j v hv => by rw [addr_add]; exact hcell j v hv
    rcases hq with ⟨rfl, rfl, rfl⟩ | ⟨gg, off, cur, rfl, hg, hnc, hcm, hcs, htk⟩
    · obtain ⟨v', w', r1, r2, r3, _⟩ := run_append_own (P := P) w w.heap.size T ty Te i0 z sz by_ u hi hz0 hs0 hb0 hzs hz (.slice none 0 0) 0 [] ⟨by simp, .inl ⟨rfl, rfl⟩⟩ ⟨b2, o2, none⟩ ys2.length c2 _ hnl hnews (flat_one _ _) (by simpa using h63) (by simpa using hbig) (Nat.le_refl _)
      obtain ⟨ad', c', rfl, q1, q2⟩ := own_que (E := elRow sz hz) (zs := ys2) (by have := r2; simp only [Nat.zero_add, List.nil_append] at this; exact this)
      exact ⟨_, w', r1, ad', c', rfl, q1, fun b hb _ => r3.block b hb (by simp [Value.ownBlock]), r3.os, r3.tape, r3.output, r3.size, fun b hb => ⟨(q2 b hb).2, .inr (q2 b hb).1⟩⟩
    · have hcs' : off + c * sz ≤ cur.size := hcs
      have htk' : (cur.toList.drop off).take (ys.length * sz) = flat (elRow sz hz) ys := htk
      by_cases hroom : ys.length + ys2.length ≤ c
      · have hle : (ys.length + ys2.length) * sz ≤ c * sz := Nat.mul_le_mul_right _ hroom
        rw [Nat.add_mul] at hle
        have hr := run_append_roomq (P := P) (w := w) T ty Te i0 u hi gg off ys.length c cur hg ⟨b2, o2, none⟩ ys2.length c2 _ (by rw [hs0]; exact hnl) hnews (flat_one _ _) hroom (by rw [hs0, hnl]; omega)
        rw [hs0] at hr
        refine ⟨_, _, hr, some ⟨gg, off, none⟩, c, by rw [List.length_append], .inr ⟨gg, off, _, rfl, setRow_heap w gg cur _ Te _ hg, by rw [List.length_append]; exact hroom, hcm, ?_, ?_⟩, fun b _ hb => setRow_other w gg b _ (by simpa [vbs] using hb), rfl, rfl, rfl, by simp, fun b hb => ⟨?_, .inl hb⟩⟩
        · show off + c * sz ≤ _
          simp only [List.size_toArray, List.length_append, List.length_take, List.length_drop, Array.length_toList, hnl]
          omega
        · show List.take ((ys ++ ys2).length * sz) (List.drop off (cur.toList.take (off + ys.length * sz) ++ flat (elRow sz hz) ys2 ++ cur.toList.drop (off + ys.length * sz + (flat (elRow sz hz) ys2).length))) = _
          rw [flat_append, ← htk', List.append_assoc, List.drop_append_of_le_length (by simp; omega), List.drop_take, ← List.append_assoc]
          have e : off + ys.length * sz - off = ys.length * sz := by omega
          rw [e]
          have hl2 : ((cur.toList.drop off).take (ys.length * sz) ++ flat (elRow sz hz) ys2).length = (ys ++ ys2).length * sz := by
            simp only [List.length_append, List.length_take, List.length_drop, Array.length_toList, hnl, Nat.add_mul]
            omega
          rw [← hl2]
          exact List.take_left
        · have : b = gg := by simpa [vbs] using hb
          subst this
          have := (Array.getElem?_eq_some_iff.1 hg).1
          simpa using this
      · have holds : ∀ (j : Nat) v, (flat (elRow sz hz) ys)[j]? = some v → w.cell? ((⟨gg, off, none⟩ : Addr).add j) = some v := by
          intro j v hv
          rw [addr_add]
          rw [← htk'] at hv
          have hlt : j < ys.length * sz := by
            rcases Nat.lt_or_ge j (ys.length * sz) with h | h
            · exact h
            · rw [List.getElem?_eq_none (by simp; omega)] at hv; cases hv
          rw [List.getElem?_take_of_lt hlt, List.getElem?_drop] at hv
          simp only [World.cell?, hg]
          simpa using hv
        obtain ⟨v', w', r1, r2, r3⟩ := run_append_arg_grows (P := P) w T ty Te i0 z sz by_ u hi hz0 hs0 hb0 hzs hz ⟨gg, off, none⟩ ys.length c _ (flat_len (elRow sz hz) ys) holds ⟨b2, o2, none⟩ ys2.length c2 _ hnl hnews (by omega) h63 hbig
        obtain ⟨ad', c', rfl, q1, q2⟩ := own_que (E := elRow sz hz) (zs := ys ++ ys2) (by rw [List.length_append, flat_append]; exact r2)
        exact ⟨_, w', r1, ad', c', rfl, q1, fun b hb _ => r3.block b hb (by simp), r3.os, r3.tape, r3.output, r3.size, fun b hb => ⟨(q2 b hb).2, .inr (q2 b hb).1⟩⟩
end
end Go.KX
