/- Walks: WN. -/
import Derived.Test.YtlgbhceifnjdnaaPX
import Derived.Test.YtlgbhceifnjdnaaWM
import Derived.Test.YtlgbhceifnjdnaaBY
import Derived.Test.YtlgbhceifnjdnaaProg
import Derived.KernelRfl
namespace Go.Proofs.Ytlgbhceifnjdnaa
open Go.KX
namespace TWN
theorem u3 : Try.prog.underlying 3 = some (.int .i64) := Try.underlying3
theorem u9 : Try.prog.underlying 9 = some (.string) := Try.underlying9
theorem u79 : Try.prog.underlying 79 = some (.slice 83) := Try.underlying79
theorem u128 : Try.prog.underlying 128 = some (.int .u64) := Try.underlying128
theorem ti83 : TI Try.prog 83 4 48 (.agg #[str [], str [], .int .i64 0, .int .i64 0]) := TI_of (by kernel_rfl)
theorem ti95 : TI Try.prog 95 1 8 (.pointer none) := TI_of (by kernel_rfl)
theorem ly83 : LY Try.prog 83 [(0, 1, false), (1, 1, false), (2, 1, false), (3, 1, false)] := LY_of Try.underlying83 (by kernel_rfl)
theorem bt83 : BT Try.prog 83 [(0, 1), (1, 1), (2, 1), (3, 1)] [str [], str [], .int .i64 0, .int .i64 0] := BT_of (pl := [(0, 1, false), (1, 1, false), (2, 1, false), (3, 1, false)]) Try.underlying83 (by kernel_rfl) ti83
end TWN
open TWN
set_option maxRecDepth 100000 in
theorem delS_ok {i c : Nat} {ad : Option Addr} {ys : List Cell} (hi : i < ys.length) : Spx Try.prog 52 #[.slice ad ys.length c, .int .i64 (i : Int), .int .i64 ((i + 1 : Nat) : Int)] [] [Res.arr elCell 83 ad c ys] (fun v fs' own' => v = .slice ad (ys.take i ++ ys.drop (i + 1)).length c ∧ fs' = [] ∧ own' = [Res.arr elCell 83 ad c (ys.take i ++ ys.drop (i + 1))]) := by
 refine Spx_of_body (fn := Try.f52) 33 Try.func52 rfl (by kernel_rfl) rfl (Nat.le_of_ble_eq_true rfl) (fun g0 Q hret hend => ?_); dsimp only [initL]; refine C_pureR (r := Res.arr elCell 83 ad c ys) .head (fun w h => arr_cap w h) (fun hcap => ?_); have hc1 := hcap.1; have hc2 := hcap.2; have hyl : (ys.take i ++ ys.drop (i + 1)).length = (i + (ys.length - (i + 1))) := by rw [List.length_append, List.length_take, List.length_drop]; omega
 refine C_seq <| C_region <| S_run 1 rfl <| S_nil <| C_seq <| C_region <| S_run 4 rfl ?_; refine S_y rfl rfl rfl (Y_slen rfl rfl u79) ?_; refine S_y rfl rfl rfl (Y_s3 rfl u79 ti83 rfl rfl rfl rfl (by omega) (by omega) (by omega) (by omega)) ?_; refine S_nil <| C_seq <| C_seq <| C_region <| S_run 3 rfl <| S_nil ?_; refine C_if rfl (fun h16 => ?_) (fun h16 => ?_)
 ·omega
 ·refine C_skip <| C_seq <| C_region <| S_run 1 rfl ?_; refine S_y rfl rfl rfl (Y_slen rfl rfl u79) ?_; refine S_run 1 rfl <| S_nil <| C_seq ?_; refine C_draw rfl ?_; refine c_p 0 196 ?_; refine c_p 1 196 ?_; refine c_r 2 192 (by kernel_rfl) rfl rfl rfl rfl ((Y_cut rfl u79 ti83 rfl rfl (by omega) (by omega)).as (v' := .slice ad i c) (by rfl)) ?_; refine c_p 3 224 ?_; refine c_p 4 224 ?_; refine c_r 5 192 (by kernel_rfl) rfl rfl rfl rfl ((Y_tail rfl u79 ti83 rfl rfl (by omega) (by omega) hc1).as (v' := .slice (if c = i + 1 then ad else ad.map (·.add ((i + 1) * 4))) (ys.length - (i + 1)) (c - (i + 1))) (by rfl)) ?_; refine C_one (i := 6) (by kernel_rfl) rfl ?_; refine S_delA (E := elCell) (p := i) (j := i + 1) (m := ys.length - (i + 1)) rfl rfl rfl rfl u79 ti83 rfl rfl rfl (by repeat constructor) (by omega) (by omega) (by omega) ?_; refine S_nil ?_; refine c_p 7 0 ?_; refine c_d <| C_seq <| C_region <| S_run 2 rfl ?_; refine S_y rfl rfl rfl (Y_slen rfl rfl u79) ?_; refine S_run 1 rfl ?_; refine S_y rfl rfl rfl ((Y_mid rfl u79 ti83 rfl rfl rfl (by omega) (by omega) (by omega)).as (v' := .slice (if c = (i + (ys.length - (i + 1))) then ad else ad.map (·.add ((i + (ys.length - (i + 1))) * 4))) (ys.length - (i + (ys.length - (i + 1)))) (c - (i + (ys.length - (i + 1))))) (by rfl)) ?_; refine S_clearA (E := elCell) (p := (i + (ys.length - (i + 1)))) (m := ys.length - (i + (ys.length - (i + 1)))) rfl rfl rfl u79 ti83 rfl rfl (fun v hv => by simp [Value.cells] at hv; rcases hv with rfl | rfl | rfl | rfl <;> rfl) rfl (by repeat constructor) hyl.symm (by omega) ?_
  refine S_nil <| C_seq <| C_region <| S_run 2 rfl <| S_nil ?_; rw [hyl] at hret; exact hret (Res_tmps Try.results52 rfl rfl) ⟨rfl, rfl, rfl⟩
set_option maxRecDepth 100000 in
theorem searchO_ok {n fn : Nat} {c1 c2 : Value} {f1 f2 : MF} {r : Res} {f : Nat → Bool} (hn : n ≤ 4611686018427387904) (hf : ∀ i, i < n → Spx Try.prog fn #[.int .i64 (i : Int), c1, c2] [f1, f2] [r] (fun v fs' own' => v = .bool (f i) ∧ fs' = [] ∧ own' = [r])) : Spx Try.prog 46 #[.int .i64 (n : Int), .func (.func fn) #[] #[c1, c2]] [f1, f2] [r] (fun v fs' own' => v = .int .i64 (searchN n f : Int) ∧ fs' = [] ∧ own' = [r]) := by
 refine Spx_of_body (fn := Try.f46) 26 Try.func46 rfl (by kernel_rfl) rfl (Nat.le_of_ble_eq_true rfl) (fun g0 Q hret hend => ?_); dsimp only [initL]; refine C_seq <| C_region <| S_run 1 rfl <| S_nil <| C_seq <| C_region <| S_run 3 rfl <| S_nil <| C_seq <| C_block ?_
 refine C_loop (σ := Nat × Nat × Nat) (fun s => s.2.1 ≤ s.2.2 ∧ s.2.2 ≤ n ∧ s.2.2 - s.2.1 ≤ s.1 ∧ bs s.1 f s.2.1 s.2.2 = searchN n f) (fun s => s.2.2 - s.2.1)
   (fun s => [(1, .func (.func fn) #[] #[c1, c2]), (5, .int .i64 (s.2.1 : Int)), (6, .int .i64 (s.2.2 : Int))])
   (fun s => [f1, f2]) (fun s => [r]) (n, 0, n) ?_ (by repeat (first | exact trivial | refine ⟨rfl, ?_⟩ | refine ⟨intE (by omega), ?_⟩)) (by repeat constructor) (by repeat constructor) ?_
 ·exact ⟨Nat.zero_le _, Nat.le_refl _, by simp, rfl⟩
 ·rintro J ⟨fu, i, j⟩ ⟨hij, hjn, hfu, hr⟩ hJ; dsimp only at hij hjn hfu hr ⊢; refine C_seq <| C_seq <| C_region <| S_run 3 rfl <| S_nil ?_; refine C_if rfl (fun h11 => ?_) (fun h11 => ?_)
  ·refine C_skip <| C_block <| C_seq <| C_region <| S_run 2 rfl ?_; refine S_y rfl rfl rfl (Y_addi rfl rfl rfl (by omega) (by omega)) ?_; refine S_y rfl rfl rfl ((Y_conv rfl rfl u3 u128).as (v' := .int .u64 ((i + j : Nat) : Int)) (by rw [wrap_u64 (by omega) (by omega)]; push_cast; rfl)) ?_; refine S_y rfl rfl rfl ((Y_shr rfl rfl rfl (by decide)).as (v' := .int .u64 (((i + j) / 2 : Nat) : Int)) (by congr 1; show ((i + j : Nat) : Int).fdiv 2 = _; rw [Int.fdiv_eq_ediv_of_nonneg _ (by decide)]; rfl)) ?_; refine S_y rfl rfl rfl ((Y_conv rfl rfl u128 u3).as (v' := .int .i64 (((i + j) / 2 : Nat) : Int)) (by rw [wrap_i64 (by omega) (by omega)])) ?_; refine S_run 1 rfl <| S_nil <| C_seq <| C_region <| S_run 2 rfl ?_; refine S_enter rfl rfl rfl (E_val rfl rfl rfl rfl) (hf ((i + j) / 2) (by omega)) ?_; rintro _ _ _ ⟨rfl, rfl, rfl⟩; (try dsimp only [c_a, n_a]); refine S_run 1 rfl <| S_nil ?_; refine C_cond rfl (fun h21 => ?_) (fun h21 => ?_)
   ·have hfh : f ((i + j) / 2) = false := by simpa using h21
    refine C_region <| S_run 1 rfl ?_; refine S_y rfl rfl rfl (Y_addi rfl rfl rfl (by omega) (by omega)) ?_; refine S_run 1 rfl <| S_nil <| C_blk ?_; obtain ⟨fu, rfl⟩ : ∃ k, fu = k + 1 := ⟨fu - 1, by omega⟩; rw [bs, if_pos (by omega)] at hr; rw [hfh] at hr
    first
      | (rw [if_neg (by decide)] at hr
         exact hJ (fu, (i + j) / 2 + 1, j) ⟨by show (i + j) / 2 + 1 ≤ j; omega, hjn, by show j - ((i + j) / 2 + 1) ≤ fu; omega, hr⟩ (by show j - ((i + j) / 2 + 1) < j - i; omega))
      | (rw [if_pos rfl] at hr
         exact hJ (fu, i, (i + j) / 2) ⟨by show i ≤ (i + j) / 2; omega, by show (i + j) / 2 ≤ n; omega, by show (i + j) / 2 - i ≤ fu; omega, hr⟩ (by show (i + j) / 2 - i < j - i; omega))
   ·have hfh : f ((i + j) / 2) = true := by simpa using h21
    refine C_region <| S_run 2 rfl <| S_nil <| C_blk ?_; obtain ⟨fu, rfl⟩ : ∃ k, fu = k + 1 := ⟨fu - 1, by omega⟩; rw [bs, if_pos (by omega)] at hr; rw [hfh] at hr
    first
      | (rw [if_neg (by decide)] at hr
         exact hJ (fu, (i + j) / 2 + 1, j) ⟨by show (i + j) / 2 + 1 ≤ j; omega, hjn, by show j - ((i + j) / 2 + 1) ≤ fu; omega, hr⟩ (by show j - ((i + j) / 2 + 1) < j - i; omega))
      | (rw [if_pos rfl] at hr
         exact hJ (fu, i, (i + j) / 2) ⟨by show i ≤ (i + j) / 2; omega, by show (i + j) / 2 ≤ n; omega, by show (i + j) / 2 - i ≤ fu; omega, hr⟩ (by show (i + j) / 2 - i < j - i; omega))
  ·refine C_exit rfl <| C_seq <| C_region ?_; rw [bs_end (by omega)] at hr; subst hr; refine S_run 2 rfl <| S_nil ?_; exact hret (Res_tmps Try.results46 rfl rfl) ⟨rfl, rfl, rfl⟩
set_option maxRecDepth 100000 in
theorem del11O_ok {bl bk i c : Nat} {ad : Option Addr} {l : List Cell} {key : Bytes} (hi : i < l.length) : Spx Try.prog 51 #[.int .i64 (i : Int), .pointer (some ⟨bl, 0, none⟩), .pointer (some ⟨bk, 0, none⟩)] [PtM bl 0 [.slice ad l.length c], PtM bk 0 [str key]] [Res.arr elCell 83 ad c l] (fun v fs' own' => v = .bool (geAt l key i) ∧ fs' = [] ∧ own' = [Res.arr elCell 83 ad c l]) := by
 refine Spx_of_body (fn := Try.f51) 12 Try.func51 rfl (by kernel_rfl) rfl (Nat.le_of_ble_eq_true rfl) (fun g0 Q hret hend => ?_); dsimp only [initL]; refine C_seq <| C_region <| S_run 1 rfl <| S_nil <| C_seq ?_; refine C_draw rfl ?_; refine c_r 0 220 (by kernel_rfl) rfl rfl rfl rfl (Y_ld u79 rfl rfl rfl) ?_; refine c_p 1 220 ?_; obtain ⟨y, hy⟩ : ∃ y, l[i]? = some y := ⟨_, List.getElem?_eq_getElem hi⟩; refine C_firstx (i := 2) (W := 216) (by kernel_rfl) rfl rfl rfl rfl (Y_ixO rfl u79 ti83 rfl rfl rfl (by repeat constructor) rfl (by omega) (by omega)) ?_; rintro _ _ ⟨b7, rfl, rfl⟩; refine c_f 3 208 ly83 ?_; refine c_r 4 192 (by kernel_rfl) rfl rfl rfl rfl (Y_ldA (i := i) (j := 0) u9 rfl rfl rfl (by repeat constructor) (by repeat constructor) rfl hy rfl) ?_; refine c_r 5 192 (by kernel_rfl) rfl rfl rfl rfl (Y_ld u9 rfl rfl rfl) ?_; refine c_r 6 128 (by kernel_rfl) rfl rfl rfl rfl (Y_strgeq rfl rfl rfl) ?_; refine c_p 7 0 ?_; refine c_d ?_; exact hret (Res_tmps Try.results51 rfl rfl) ⟨by unfold geAt; rw [hy]; first | done | rfl, rfl, rfl⟩
set_option maxRecDepth 100000 in
set_option maxHeartbeats 2000000 in
theorem del1_ok {bk bo c : Nat} {ad : Option Addr} {l : List Cell} {key : Bytes} (hl : l.length ≤ 1000000000) : Spx Try.prog 50 #[.slice ad l.length c, .pointer (some ⟨bk, 0, none⟩), .pointer (some ⟨bo, 0, none⟩)] [PtM bk 0 [str key]] [Res.arr elCell 83 ad c l, Res.blk bo (.cells #[oldV none] 95 (0, 0))] (fun v fs' own' => ∃ ad' c' x, v = .tuple #[.slice ad' (delE key l).1.length c', .int .i64 (delE key l).2.1, .int .i64 (delE key l).2.2.1] ∧ fs' = [OldF x (delE key l).2.2.2] ∧ own' = [Res.arr elCell 83 ad' c' (delE key l).1, Res.blk bo (.cells #[oldV x] 95 (0, 0))]) := by
 refine Spx_of_body (fn := Try.f50) 43 Try.func50 rfl (by kernel_rfl) rfl (Nat.le_of_ble_eq_true rfl) (fun g0 Q hret hend => ?_); dsimp only [initL]; refine C_seq <| C_region ?_; refine S_box rfl rfl rfl rfl rfl rfl (fun b3 => ?_); refine S_run 3 rfl <| S_nil <| C_seq <| C_region ?_; refine S_frz (b := b3) (by repeat constructor) ?_; have hnl := searchN_le l.length (geAt l key); refine S_fact (f := PF True) (fun _ _ => trivial) ?_; refine S_y rfl rfl rfl (Y_ld u79 rfl rfl rfl) ?_; refine S_y rfl rfl rfl (Y_slen rfl rfl u79) ?_; refine S_run 1 rfl ?_; refine S_enter rfl rfl rfl (E_fn rfl rfl) (searchO_ok (f := geAt l key) (by omega) (fun i hi => del11O_ok hi)) ?_; rintro _ _ _ ⟨rfl, rfl, rfl⟩; (try dsimp only [c_a, n_a]); refine S_run 1 rfl <| S_nil <| C_seq <| C_seq ?_; refine C_draw rfl ?_; refine c_p 0 8184 ?_; refine c_r 1 8188 (by kernel_rfl) rfl rfl rfl rfl (Y_ld u79 rfl rfl rfl) ?_; refine c_r 2 8184 (by kernel_rfl) rfl rfl rfl rfl (Y_slen rfl rfl u79) ?_; refine c_p 3 8176 ?_; refine c_p 4 8160 ?_; refine C_prop 16 rfl (fun h16 => ?_) (fun h16 => ?_)
 ·refine C_firstoff (i := 5) (W := 7040) (by kernel_rfl) rfl rfl rfl rfl ?_; refine C_firstoff (i := 6) (W := 7040) (by kernel_rfl) rfl rfl rfl rfl ?_; refine C_firstoff (i := 7) (W := 6912) (by kernel_rfl) rfl rfl rfl rfl ?_; refine C_firstoff (i := 8) (W := 6656) (by kernel_rfl) rfl rfl rfl rfl ?_; refine C_firstoff (i := 9) (W := 6144) (by kernel_rfl) rfl rfl rfl rfl ?_; refine C_firstoff (i := 10) (W := 6144) (by kernel_rfl) rfl rfl rfl rfl ?_; refine C_firstoff (i := 11) (W := 4096) (by kernel_rfl) rfl rfl rfl rfl ?_; refine c_p 12 0 ?_; refine c_d ?_; refine C_cond_t rfl ?_; refine C_seq <| C_region ?_; refine S_nilarr elCell 83 ?_
  have hit : hitAt l key = none := by
    unfold hitAt neAt
    first | (rw [hy]; exact if_neg h24) | rw [List.getElem?_eq_none (by omega)]
  refine S_run 3 rfl <| S_nil ?_
  first
    | (have e : delE key l = ([], 0, -1, none) := by unfold delE; rw [hit]
       rw [e] at hret; exact hret (Res_tmps Try.results50 rfl rfl) ⟨none, 0, none, rfl, rfl, rfl⟩)
    | (have e : delE key l = (l.take (searchN l.length (geAt l key)) ++ l.drop ((searchN l.length (geAt l key)) + 1), -1, 0, some ⟨key, [], y.page, y.size⟩) := by unfold delE; rw [hit]; rfl
       rw [e] at hret; exact hret (Res_tmps Try.results50 rfl rfl) ⟨ad, c, some (b37, 0), rfl, rfl, rfl⟩)
 ·refine c_r 5 7040 (by kernel_rfl) rfl rfl rfl rfl (Y_ld u79 rfl rfl rfl) ?_; refine c_p 6 7040 ?_; obtain ⟨y, hy⟩ : ∃ y, l[(searchN l.length (geAt l key))]? = some y := ⟨_, List.getElem?_eq_getElem (by omega)⟩; refine C_firstx (i := 7) (W := 6912) (by kernel_rfl) rfl rfl rfl rfl (Y_ixO rfl u79 ti83 rfl rfl rfl (by repeat constructor) rfl (by omega) (by omega)) ?_; rintro _ _ ⟨b19, rfl, rfl⟩; refine c_f 8 6656 ly83 ?_; refine c_r 9 6144 (by kernel_rfl) rfl rfl rfl rfl (Y_ldA (i := (searchN l.length (geAt l key))) (j := 0) u9 rfl rfl rfl (by repeat constructor) (by repeat constructor) rfl hy rfl) ?_; refine c_r 10 6144 (by kernel_rfl) rfl rfl rfl rfl (Y_ld u9 rfl rfl rfl) ?_; refine c_r 11 4096 (by kernel_rfl) rfl rfl rfl rfl (Y_strneq rfl rfl rfl) ?_; refine c_p 12 0 ?_; refine c_d ?_; refine C_if rfl (fun h24 => ?_) (fun h24 => ?_)
  ·refine C_seq <| C_region ?_; refine S_nilarr elCell 83 ?_
   have hit : hitAt l key = none := by
     unfold hitAt neAt
     first | (rw [hy]; exact if_neg h24) | rw [List.getElem?_eq_none (by omega)]
   refine S_run 3 rfl <| S_nil ?_
   first
     | (have e : delE key l = ([], 0, -1, none) := by unfold delE; rw [hit]
        rw [e] at hret; exact hret (Res_tmps Try.results50 rfl rfl) ⟨none, 0, none, rfl, rfl, rfl⟩)
     | (have e : delE key l = (l.take (searchN l.length (geAt l key)) ++ l.drop ((searchN l.length (geAt l key)) + 1), -1, 0, some ⟨key, [], y.page, y.size⟩) := by unfold delE; rw [hit]; rfl
        rw [e] at hret; exact hret (Res_tmps Try.results50 rfl rfl) ⟨ad, c, some (b37, 0), rfl, rfl, rfl⟩)
  ·refine C_skip <| C_seq ?_; refine C_draw rfl ?_; refine c_r 0 14336 (by kernel_rfl) rfl rfl rfl rfl (Y_ld u9 rfl rfl rfl) ?_; refine c_r 1 14392 (by kernel_rfl) rfl rfl rfl rfl (Y_ld u79 rfl rfl rfl) ?_; refine c_p 2 14392 ?_; refine C_firstx (i := 3) (W := 14384) (by kernel_rfl) rfl rfl rfl rfl (Y_ixO rfl u79 ti83 rfl rfl rfl (by repeat constructor) rfl (by omega) (by omega)) ?_; rintro _ _ ⟨b28, rfl, rfl⟩; refine c_f 4 14368 ly83 ?_; refine c_r 5 14336 (by kernel_rfl) rfl rfl rfl rfl (Y_ldA (i := (searchN l.length (geAt l key))) (j := 2) u3 rfl rfl rfl (by repeat constructor) (by repeat constructor) rfl hy rfl) ?_; refine c_r 6 16128 (by kernel_rfl) rfl rfl rfl rfl (Y_ld u79 rfl rfl rfl) ?_; refine c_p 7 16128 ?_; refine C_firstx (i := 8) (W := 15872) (by kernel_rfl) rfl rfl rfl rfl (Y_ixO rfl u79 ti83 rfl rfl rfl (by repeat constructor) rfl (by omega) (by omega)) ?_; rintro _ _ ⟨b33, rfl, rfl⟩; refine c_f 9 15360 ly83 ?_; refine c_r 10 14336 (by kernel_rfl) rfl rfl rfl rfl (Y_ldA (i := (searchN l.length (geAt l key))) (j := 3) u3 rfl rfl rfl (by repeat constructor) (by repeat constructor) rfl hy rfl) ?_; refine c_r 11 12288 (by kernel_rfl) rfl rfl rfl rfl (Y_build [.tmp 35, .tmp 30, .const (str []), .tmp 25] bt83 rfl rfl rfl rfl) ?_; refine C_one (i := 12) (by kernel_rfl) rfl ?_; refine S_box rfl rfl rfl rfl rfl rfl (fun b37 => ?_); refine S_nil ?_; refine C_one (i := 13) (by kernel_rfl) rfl ?_; refine S_st rfl rfl rfl ti95 rfl rfl rfl (by repeat constructor) (by rfl) ?_; refine S_nil <| c_d <| C_seq <| C_region ?_
   have hit : hitAt l key = some y := by
     unfold hitAt neAt; rw [hy]; exact if_pos (Decidable.byContradiction h24)
   refine S_frz (b := b37) (by repeat constructor) ?_; refine S_y rfl rfl rfl (Y_ld u79 rfl rfl rfl) ?_; refine S_run 2 rfl ?_; refine S_y rfl rfl rfl ((Y_addi rfl rfl rfl (by omega) (by omega)).as (v' := .int .i64 (((searchN l.length (geAt l key)) + 1 : Nat) : Int)) (by rfl)) ?_; refine S_enter rfl rfl rfl (E_fn rfl rfl) (delS_ok (i := (searchN l.length (geAt l key))) (by omega)) ?_; rintro _ _ _ ⟨rfl, rfl, rfl⟩; (try dsimp only [c_a, n_a]); refine S_run 3 rfl <| S_nil ?_
   first
     | (have e : delE key l = ([], 0, -1, none) := by unfold delE; rw [hit]
        rw [e] at hret; exact hret (Res_tmps Try.results50 rfl rfl) ⟨none, 0, none, rfl, rfl, rfl⟩)
     | (have e : delE key l = (l.take (searchN l.length (geAt l key)) ++ l.drop ((searchN l.length (geAt l key)) + 1), -1, 0, some ⟨key, [], y.page, y.size⟩) := by unfold delE; rw [hit]; rfl
        rw [e] at hret; exact hret (Res_tmps Try.results50 rfl rfl) ⟨ad, c, some (b37, 0), rfl, rfl, rfl⟩)
end Go.Proofs.Ytlgbhceifnjdnaa
