/- Walks: WL. -/
import Derived.Test.YtlgbhceifnjdnaaPX
import Derived.Test.YtlgbhceifnjdnaaWK
import Derived.Test.YtlgbhceifnjdnaaProg
import Derived.KernelRfl
namespace Go.Proofs.Ytlgbhceifnjdnaa
open Go.KX
namespace TWL
theorem u9 : Try.prog.underlying 9 = some (.string) := Try.underlying9
theorem u32 : Try.prog.underlying 32 = some (.slice 56) := Try.underlying32
theorem ti56 : TI Try.prog 56 2 32 (.agg #[str [], str []]) := TI_of (by kernel_rfl)
theorem ly56 : LY Try.prog 56 [(0, 1, false), (1, 1, false)] := LY_of Try.underlying56 (by kernel_rfl)
theorem bt56 : BT Try.prog 56 [(0, 1), (1, 1)] [str [], str []] := BT_of (pl := [(0, 1, false), (1, 1, false)]) Try.underlying56 (by kernel_rfl) ti56
end TWL
open TWL
set_option maxRecDepth 100000 in
theorem find_ok {ad : Option Addr} {c : Nat} {l : List KV} {key : Bytes} : Spx Try.prog 39 #[.slice ad l.length c, str key] [SlM elKV ad c l] [] (fun v fs' own' => v = .tuple #[.int .i64 (findK l key : Int), .bool (isAt l key)] ∧ fs' = [] ∧ own' = []) := by
 refine Spx_of_body (fn := Try.f39) 36 Try.func39 rfl (by kernel_rfl) rfl (Nat.le_of_ble_eq_true rfl) (fun g0 Q hret hend => ?_); dsimp only [initL]; refine C_pure (f := SlM elKV ad c l) (by repeat constructor) SlM.le (fun hls => ?_); refine C_seq <| C_region <| S_run 2 rfl <| S_nil <| C_seq <| C_region <| S_run 1 rfl <| S_nil <| C_seq <| C_block ?_
 refine C_loop (σ := Nat) (fun k => k ≤ l.length ∧ k + findK (l.drop k) key = findK l key) (fun k => l.length - k)
   (fun k => [(0, .slice ad l.length c), (1, str key), (6, .int .i64 (k : Int))])
   (fun k => [SlM elKV ad c l]) (fun k => []) 0 ?_ (by repeat (first | exact trivial | refine ⟨rfl, ?_⟩ | refine ⟨intE (by omega), ?_⟩)) (by repeat constructor) (by repeat constructor) ?_
 ·exact ⟨Nat.zero_le _, by simp⟩
 ·rintro J k ⟨hk, hr⟩ hJ; refine C_seq <| C_seq <| C_region <| S_run 2 rfl ?_; refine S_y rfl rfl rfl (Y_slen rfl rfl u32) ?_; refine S_run 2 rfl ?_; refine S_prop 11 rfl (fun h11 => ?_) (fun h11 => ?_)
  ·refine S_run 2 rfl ?_; obtain ⟨y, hy⟩ : ∃ y, l[k]? = some y := ⟨_, List.getElem?_eq_getElem (by omega)⟩; refine S_yx rfl rfl rfl (Y_ixA rfl u32 ti56 rfl rfl rfl (by repeat constructor) rfl (by omega) hy) ?_; rintro _ _ ⟨b14, o14, rfl, rfl⟩; refine S_y rfl rfl rfl (Y_fa ly56 rfl rfl rfl) ?_; refine S_y rfl rfl rfl (Y_ld u9 rfl rfl rfl) ?_; refine S_run 1 rfl ?_; refine S_y rfl rfl rfl (Y_strlss rfl rfl rfl) ?_; refine S_run 1 rfl <| S_nil ?_; refine C_cond rfl (fun h19 => ?_) (fun h19 => ?_)
   ·refine C_skip <| C_block <| C_region <| S_run 1 rfl ?_; refine S_y rfl rfl rfl (Y_addi rfl rfl rfl (by omega) (by omega)) ?_; refine S_run 1 rfl <| S_nil <| C_blk ?_; rw [drop_cons hy, findK, if_pos h19] at hr; exact hJ (k + 1) ⟨by omega, by omega⟩ (by show l.length - (k + 1) < l.length - k; omega)
   ·have hk2 : k = findK l key := by
      rw [drop_cons hy, findK, if_neg (by rw [h19]; decide)] at hr; exact hr
    refine C_exit rfl <| C_seq ?_; refine C_draw rfl ?_; refine c_p 0 49152 ?_; refine c_p 1 65520 ?_; refine c_p 2 65528 ?_; refine c_r 3 65520 (by kernel_rfl) rfl rfl rfl rfl (Y_slen rfl rfl u32) ?_; refine c_p 4 65504 ?_; refine c_p 5 65472 ?_; refine C_prop 27 rfl (fun h27 => ?_) (fun h27 => ?_)
    ·refine c_p 6 46848 ?_; refine c_p 7 46848 ?_; obtain ⟨y4, hy4⟩ : ∃ y, l[k]? = some y := ⟨_, List.getElem?_eq_getElem (by omega)⟩; refine C_firstx (i := 8) (W := 46592) (by kernel_rfl) rfl rfl rfl rfl (Y_ixA rfl u32 ti56 rfl rfl rfl (by repeat constructor) rfl (by omega) hy4) ?_; rintro _ _ ⟨b30, o30, rfl, rfl⟩; refine c_f 9 46080 ly56 ?_; refine c_r 10 45056 (by kernel_rfl) rfl rfl rfl rfl (Y_ld u9 rfl rfl rfl) ?_; refine c_p 11 45056 ?_; refine c_r 12 40960 (by kernel_rfl) rfl rfl rfl rfl (Y_streql rfl rfl rfl) ?_; refine c_p 13 32768 ?_; refine c_p 14 32768 ?_; refine c_p 15 0 ?_; refine c_d ?_
     have hk3 : k = findK l key := by
       first
         | exact hk2
         | (rw [List.drop_of_length_le (by omega)] at hr; exact hr)
     subst hk3
     first
       | exact hret (Res_tmps Try.results39 rfl rfl) ⟨by unfold isAt; rw [hy4]; rfl, rfl, rfl⟩
       | exact hret (Res_tmps Try.results39 rfl rfl) ⟨by unfold isAt; rw [List.getElem?_eq_none (by omega)]; rfl, rfl, rfl⟩
    ·refine C_firstoff (i := 6) (W := 46848) (by kernel_rfl) rfl rfl rfl rfl ?_; refine C_firstoff (i := 7) (W := 46848) (by kernel_rfl) rfl rfl rfl rfl ?_; refine C_firstoff (i := 8) (W := 46592) (by kernel_rfl) rfl rfl rfl rfl ?_; refine C_firstoff (i := 9) (W := 46080) (by kernel_rfl) rfl rfl rfl rfl ?_; refine C_firstoff (i := 10) (W := 45056) (by kernel_rfl) rfl rfl rfl rfl ?_; refine C_firstoff (i := 11) (W := 45056) (by kernel_rfl) rfl rfl rfl rfl ?_; refine C_firstoff (i := 12) (W := 40960) (by kernel_rfl) rfl rfl rfl rfl ?_; refine c_p 13 32768 ?_; refine c_p 14 32768 ?_; refine c_p 15 0 ?_; refine c_d ?_
     have hk3 : k = findK l key := by
       first
         | exact hk2
         | (rw [List.drop_of_length_le (by omega)] at hr; exact hr)
     subst hk3
     first
       | exact hret (Res_tmps Try.results39 rfl rfl) ⟨by unfold isAt; rw [hy4]; rfl, rfl, rfl⟩
       | exact hret (Res_tmps Try.results39 rfl rfl) ⟨by unfold isAt; rw [List.getElem?_eq_none (by omega)]; rfl, rfl, rfl⟩
  ·refine S_run 2 rfl <| S_run 6 rfl <| S_nil ?_; refine C_cond_f rfl ?_; refine C_exit rfl <| C_seq ?_; refine C_draw rfl ?_; refine c_p 0 49152 ?_; refine c_p 1 65520 ?_; refine c_p 2 65528 ?_; refine c_r 3 65520 (by kernel_rfl) rfl rfl rfl rfl (Y_slen rfl rfl u32) ?_; refine c_p 4 65504 ?_; refine c_p 5 65472 ?_; refine C_prop 27 rfl (fun h27 => ?_) (fun h27 => ?_)
   ·refine c_p 6 46848 ?_; refine c_p 7 46848 ?_; obtain ⟨y4, hy4⟩ : ∃ y, l[k]? = some y := ⟨_, List.getElem?_eq_getElem (by omega)⟩; refine C_firstx (i := 8) (W := 46592) (by kernel_rfl) rfl rfl rfl rfl (Y_ixA rfl u32 ti56 rfl rfl rfl (by repeat constructor) rfl (by omega) hy4) ?_; rintro _ _ ⟨b30, o30, rfl, rfl⟩; refine c_f 9 46080 ly56 ?_; refine c_r 10 45056 (by kernel_rfl) rfl rfl rfl rfl (Y_ld u9 rfl rfl rfl) ?_; refine c_p 11 45056 ?_; refine c_r 12 40960 (by kernel_rfl) rfl rfl rfl rfl (Y_streql rfl rfl rfl) ?_; refine c_p 13 32768 ?_; refine c_p 14 32768 ?_; refine c_p 15 0 ?_; refine c_d ?_
    have hk3 : k = findK l key := by
      first
        | exact hk2
        | (rw [List.drop_of_length_le (by omega)] at hr; exact hr)
    subst hk3
    first
      | exact hret (Res_tmps Try.results39 rfl rfl) ⟨by unfold isAt; rw [hy4]; rfl, rfl, rfl⟩
      | exact hret (Res_tmps Try.results39 rfl rfl) ⟨by unfold isAt; rw [List.getElem?_eq_none (by omega)]; rfl, rfl, rfl⟩
   ·refine C_firstoff (i := 6) (W := 46848) (by kernel_rfl) rfl rfl rfl rfl ?_; refine C_firstoff (i := 7) (W := 46848) (by kernel_rfl) rfl rfl rfl rfl ?_; refine C_firstoff (i := 8) (W := 46592) (by kernel_rfl) rfl rfl rfl rfl ?_; refine C_firstoff (i := 9) (W := 46080) (by kernel_rfl) rfl rfl rfl rfl ?_; refine C_firstoff (i := 10) (W := 45056) (by kernel_rfl) rfl rfl rfl rfl ?_; refine C_firstoff (i := 11) (W := 45056) (by kernel_rfl) rfl rfl rfl rfl ?_; refine C_firstoff (i := 12) (W := 40960) (by kernel_rfl) rfl rfl rfl rfl ?_; refine c_p 13 32768 ?_; refine c_p 14 32768 ?_; refine c_p 15 0 ?_; refine c_d ?_
    have hk3 : k = findK l key := by
      first
        | exact hk2
        | (rw [List.drop_of_length_le (by omega)] at hr; exact hr)
    subst hk3
    first
      | exact hret (Res_tmps Try.results39 rfl rfl) ⟨by unfold isAt; rw [hy4]; rfl, rfl, rfl⟩
      | exact hret (Res_tmps Try.results39 rfl rfl) ⟨by unfold isAt; rw [List.getElem?_eq_none (by omega)]; rfl, rfl, rfl⟩
set_option maxRecDepth 100000 in
theorem rget_ok {ad : Option Addr} {c : Nat} {l : List KV} {key : Bytes} : Spx Try.prog 18 #[.slice ad l.length c, str key] [SlM elKV ad c l] [] (fun v fs' own' => v = .tuple #[str (getK l key).1, .bool (getK l key).2] ∧ fs' = [] ∧ own' = []) := by
 refine Spx_of_body (fn := Try.f18) 21 Try.func18 rfl (by kernel_rfl) rfl (Nat.le_of_ble_eq_true rfl) (fun g0 Q hret hend => ?_); dsimp only [initL]; refine C_seq <| C_region <| S_run 2 rfl <| S_nil <| C_seq <| C_region <| S_run 2 rfl ?_; refine S_enter rfl rfl rfl (E_fn rfl rfl) find_ok ?_; rintro _ _ _ ⟨rfl, rfl, rfl⟩; (try dsimp only [c_a, n_a]); refine S_run 5 rfl <| S_nil <| C_seq <| C_seq <| C_region <| S_run 2 rfl <| S_nil ?_; refine C_cond rfl (fun h15 => ?_) (fun h15 => ?_)
 ·refine C_seq <| C_region ?_
  have e : getK l key = ([], false) := by
    unfold getK isAt at *
    cases hg : l[findK l key]? with
    | none => rfl
    | some p => rw [hg] at h15; simp at h15; simp [h15]
  refine S_run 2 rfl <| S_nil ?_; rw [e] at hret; exact hret (Res_tmps Try.results18 rfl rfl) ⟨rfl, rfl, rfl⟩
 ·refine C_skip <| C_seq <| C_region ?_
  obtain ⟨y, hy, hyk⟩ : ∃ y, l[findK l key]? = some y ∧ y.key = key := by
    unfold isAt at h15
    cases hg : l[findK l key]? with
    | none => rw [hg] at h15; simp at h15
    | some p => rw [hg] at h15; simp at h15; exact ⟨p, rfl, h15⟩
  have e : getK l key = (y.value, true) := by unfold getK; rw [hy]; exact if_pos hyk
  refine S_run 2 rfl ?_; refine S_yx rfl rfl rfl (Y_ixA rfl u32 ti56 rfl rfl rfl (by repeat constructor) rfl (by omega) hy) ?_; rintro _ _ ⟨b18, o18, rfl, rfl⟩; refine S_y rfl rfl rfl (Y_fa ly56 rfl rfl rfl) ?_; refine S_y rfl rfl rfl (Y_ld u9 rfl rfl rfl) ?_; refine S_run 2 rfl <| S_nil ?_; rw [e] at hret; exact hret (Res_tmps Try.results18 rfl rfl) ⟨rfl, rfl, rfl⟩
set_option maxRecDepth 100000 in
theorem rput_ok {ad : Option Addr} {c : Nat} {l : List KV} {key : Bytes} {value : Bytes} (hl : l.length ≤ 1000000000) : Spx Try.prog 25 #[.slice ad l.length c, str key, str value] [SlM elKV ad c l] [] (fun v fs' own' => ∃ ad' c', v = .slice ad' (putK l key value).length c' ∧ fs' = [SlM elKV ad' c' (putK l key value)] ∧ own' = []) := by
 refine Spx_of_body (fn := Try.f25) 36 Try.func25 rfl (by kernel_rfl) rfl (Nat.le_of_ble_eq_true rfl) (fun g0 Q hret hend => ?_); dsimp only [initL]; refine C_seq <| C_region <| S_run 1 rfl <| S_nil <| C_seq <| C_region <| S_run 2 rfl ?_; refine S_enter rfl rfl rfl (E_fn rfl rfl) find_ok ?_; rintro _ _ _ ⟨rfl, rfl, rfl⟩; (try dsimp only [c_a, n_a]); have hkl := findK_le l key; refine S_run 5 rfl <| S_nil <| C_seq <| C_region <| S_run 2 rfl ?_; refine S_yx rfl rfl rfl (Y_reslice rfl u32 ti56 rfl rfl (by repeat constructor) rfl ⟨_, rfl⟩ rfl (by omega) (by omega) (by omega)) ?_; rintro _ _ ⟨ad18, c18, rfl, rfl⟩; rw [show (l.drop ((findK l key : Int) : Int).toNat).take ((l.length : Int).toNat - ((findK l key : Int) : Int).toNat) = l.drop (findK l key) by rw [show ((findK l key : Int) : Int).toNat = findK l key by omega]; exact List.take_of_length_le (by simp)]; refine S_run 1 rfl <| S_nil <| C_seq <| C_seq <| C_region <| S_run 1 rfl <| S_nil ?_; refine C_cond rfl (fun h19 => ?_) (fun h19 => ?_)
 ·refine C_region ?_
  have hlt : findK l key < l.length := by
    unfold isAt at h19
    rcases Nat.lt_or_ge (findK l key) l.length with h | h
    · exact h
    · rw [List.getElem?_eq_none h] at h19; cases h19
  refine S_run 2 rfl ?_; refine S_y rfl rfl rfl (Y_addi rfl rfl rfl (by omega) (by omega)) ?_; refine S_yx rfl rfl rfl (Y_reslice rfl u32 ti56 rfl rfl (by repeat constructor) rfl ⟨_, rfl⟩ rfl (by omega) (by omega) (by omega)) ?_; rintro _ _ ⟨ad23, c23, rfl, rfl⟩; rw [show (l.drop (((findK l key : Int) + 1) : Int).toNat).take ((l.length : Int).toNat - (((findK l key : Int) + 1) : Int).toNat) = l.drop (findK l key + 1) by rw [show (((findK l key : Int) + 1) : Int).toNat = findK l key + 1 by omega]; exact List.take_of_length_le (by simp)]; refine S_run 1 rfl <| S_nil <| C_seq <| C_region ?_; refine S_lit elKV [] (parts := []) (vs := []) rfl rfl rfl rfl u32 ti56 rfl rfl rfl rfl rfl (by decide) (fun ad24 c24 => ?_); refine S_run 2 rfl ?_; refine S_yx rfl rfl rfl (Y_reslice rfl u32 ti56 rfl rfl (by repeat constructor) rfl rfl ⟨_, rfl⟩ (by decide) (by omega) (by omega)) ?_; rintro _ _ ⟨ad27, c27, rfl, rfl⟩; rw [show (l.drop (0 : Int).toNat).take ((findK l key : Int).toNat - (0 : Int).toNat) = l.take (findK l key) by simp]; have htl : (l.take (findK l key)).length ≤ l.length := by simp; omega
  refine S_app rfl rfl rfl rfl u32 ti56 rfl rfl rfl rfl rfl rfl (by repeat constructor) (by repeat constructor) (by simp <;> omega) (by simp <;> omega) (fun ad28 c28 => ?_)
  refine S_run 2 rfl ?_; refine S_y rfl rfl rfl (Y_build [.tmp 30, .tmp 29] bt56 rfl rfl rfl rfl) ?_; refine S_lit elKV [⟨key, value⟩] rfl rfl rfl rfl u32 ti56 rfl rfl rfl rfl rfl (by decide) (fun ad32 c32 => ?_); refine S_pub (by repeat constructor) ?_; refine S_app rfl rfl rfl rfl u32 ti56 rfl rfl rfl rfl rfl rfl (by repeat constructor) (by repeat constructor) (by simp <;> omega) (by simp <;> omega) (fun ad33 c33 => ?_)
  refine S_run 1 rfl ?_; refine S_app rfl rfl rfl rfl u32 ti56 rfl rfl rfl rfl rfl rfl (by repeat constructor) (by repeat constructor) (by simp <;> omega) (by simp <;> omega) (fun ad35 c35 => ?_)
  refine S_pub (by repeat constructor) ?_; refine S_run 1 rfl <| S_nil ?_
  first
    | (have e : putK l key value = ([] ++ l.take (findK l key) ++ [⟨key, value⟩]) ++ l.drop (findK l key + 1) := by unfold putK; rw [if_pos h19]; rfl
       rw [e] at hret; exact hret (Res_tmps Try.results25 rfl rfl) ⟨ad35, c35, rfl, rfl, rfl⟩)
    | (have e : putK l key value = ([] ++ l.take (findK l key) ++ [⟨key, value⟩]) ++ l.drop (findK l key) := by unfold putK; rw [if_neg (by rw [h19]; decide)]; rfl
       rw [e] at hret; exact hret (Res_tmps Try.results25 rfl rfl) ⟨ad35, c35, rfl, rfl, rfl⟩)
 ·refine C_skip <| C_seq <| C_region ?_; refine S_lit elKV [] (parts := []) (vs := []) rfl rfl rfl rfl u32 ti56 rfl rfl rfl rfl rfl (by decide) (fun ad24 c24 => ?_); refine S_run 2 rfl ?_; refine S_yx rfl rfl rfl (Y_reslice rfl u32 ti56 rfl rfl (by repeat constructor) rfl rfl ⟨_, rfl⟩ (by decide) (by omega) (by omega)) ?_; rintro _ _ ⟨ad27, c27, rfl, rfl⟩; rw [show (l.drop (0 : Int).toNat).take ((findK l key : Int).toNat - (0 : Int).toNat) = l.take (findK l key) by simp]; have htl : (l.take (findK l key)).length ≤ l.length := by simp; omega
  refine S_app rfl rfl rfl rfl u32 ti56 rfl rfl rfl rfl rfl rfl (by repeat constructor) (by repeat constructor) (by simp <;> omega) (by simp <;> omega) (fun ad28 c28 => ?_)
  refine S_run 2 rfl ?_; refine S_y rfl rfl rfl (Y_build [.tmp 30, .tmp 29] bt56 rfl rfl rfl rfl) ?_; refine S_lit elKV [⟨key, value⟩] rfl rfl rfl rfl u32 ti56 rfl rfl rfl rfl rfl (by decide) (fun ad32 c32 => ?_); refine S_pub (by repeat constructor) ?_; refine S_app rfl rfl rfl rfl u32 ti56 rfl rfl rfl rfl rfl rfl (by repeat constructor) (by repeat constructor) (by simp <;> omega) (by simp <;> omega) (fun ad33 c33 => ?_)
  refine S_run 1 rfl ?_; refine S_app rfl rfl rfl rfl u32 ti56 rfl rfl rfl rfl rfl rfl (by repeat constructor) (by repeat constructor) (by simp <;> omega) (by simp <;> omega) (fun ad35 c35 => ?_)
  refine S_pub (by repeat constructor) ?_; refine S_run 1 rfl <| S_nil ?_
  first
    | (have e : putK l key value = ([] ++ l.take (findK l key) ++ [⟨key, value⟩]) ++ l.drop (findK l key + 1) := by unfold putK; rw [if_pos h19]; rfl
       rw [e] at hret; exact hret (Res_tmps Try.results25 rfl rfl) ⟨ad35, c35, rfl, rfl, rfl⟩)
    | (have e : putK l key value = ([] ++ l.take (findK l key) ++ [⟨key, value⟩]) ++ l.drop (findK l key) := by unfold putK; rw [if_neg (by rw [h19]; decide)]; rfl
       rw [e] at hret; exact hret (Res_tmps Try.results25 rfl rfl) ⟨ad35, c35, rfl, rfl, rfl⟩)
set_option maxRecDepth 100000 in
theorem rdel_ok {ad : Option Addr} {c : Nat} {l : List KV} {key : Bytes} (hl : l.length ≤ 1000000000) : Spx Try.prog 31 #[.slice ad l.length c, str key] [SlM elKV ad c l] [] (fun v fs' own' => ∃ ad' c', v = .slice ad' (delK l key).length c' ∧ fs' = [SlM elKV ad' c' (delK l key)] ∧ own' = []) := by
 refine Spx_of_body (fn := Try.f31) 26 Try.func31 rfl (by kernel_rfl) rfl (Nat.le_of_ble_eq_true rfl) (fun g0 Q hret hend => ?_); dsimp only [initL]; refine C_seq <| C_region <| S_run 1 rfl <| S_nil <| C_seq <| C_region <| S_run 2 rfl ?_; refine S_enter rfl rfl rfl (E_fn rfl rfl) find_ok ?_; rintro _ _ _ ⟨rfl, rfl, rfl⟩; (try dsimp only [c_a, n_a]); have hkl := findK_le l key; refine S_run 5 rfl <| S_nil <| C_seq <| C_seq <| C_region <| S_run 2 rfl <| S_nil ?_; refine C_cond rfl (fun h14 => ?_) (fun h14 => ?_)
 ·refine C_seq <| C_region ?_; have e : delK l key = l := by unfold delK; rw [if_neg (by intro h; rw [h] at h14; cases h14)]
  refine S_run 2 rfl <| S_nil ?_; rw [e] at hret
  first
    | exact hret (Res_tmps Try.results31 rfl rfl) ⟨ad25, c25, rfl, rfl, rfl⟩
    | exact hret (Res_tmps Try.results31 rfl rfl) ⟨ad, c, rfl, rfl, rfl⟩
 ·have hia : isAt l key = true := by cases hq : isAt l key with | true => rfl | false => (rw [hq] at h14; cases h14)
  have hlt : findK l key < l.length := by
    have h19 := hia; unfold isAt at h19
    rcases Nat.lt_or_ge (findK l key) l.length with h | h
    · exact h
    · rw [List.getElem?_eq_none h] at h19; cases h19
  have e : delK l key = [] ++ l.take (findK l key) ++ l.drop (findK l key + 1) := by unfold delK; rw [if_pos hia]; rfl
  refine C_skip <| C_seq ?_; refine C_draw rfl ?_; refine c_p 1 1560 ?_; refine c_p 2 1560 ?_; refine C_firstw (i := 3) (W := 1552) (by kernel_rfl) rfl rfl rfl rfl (Y_resliceW rfl u32 ti56 rfl rfl (by repeat constructor) rfl rfl ⟨_, rfl⟩ (by decide) (by omega) (by omega)) ?_; rintro _ _ ⟨ad19, c19, rfl, rfl⟩; rw [show (l.drop (0 : Int).toNat).take ((findK l key : Int).toNat - (0 : Int).toNat) = l.take (findK l key) by simp]; have htl : (l.take (findK l key)).length ≤ l.length := by simp; omega
  refine c_p 5 1792 ?_; refine c_p 6 1920 ?_; refine C_firstb (i := 7) (W := 1792) (by kernel_rfl) rfl rfl rfl rfl (Y_addiW rfl rfl rfl (by omega) (by omega)) ?_; refine C_firstw (i := 8) (W := 1536) (by kernel_rfl) rfl rfl rfl rfl (Y_resliceW rfl u32 ti56 rfl rfl (by repeat constructor) rfl ⟨_, rfl⟩ rfl (by omega) (by omega) (by omega)) ?_; rintro _ _ ⟨ad24, c24, rfl, rfl⟩; rw [show (l.drop (((findK l key : Int) + 1) : Int).toNat).take ((l.length : Int).toNat - (((findK l key : Int) + 1) : Int).toNat) = l.drop (findK l key + 1) by rw [show (((findK l key : Int) + 1) : Int).toNat = findK l key + 1 by omega]; exact List.take_of_length_le (by simp)]; refine C_one (i := 0) (by kernel_rfl) rfl ?_; refine S_lit elKV [] (parts := []) (vs := []) rfl rfl rfl rfl u32 ti56 rfl rfl rfl rfl rfl (by decide) (fun ad16 c16 => ?_); refine S_nil ?_; refine C_one (i := 4) (by kernel_rfl) rfl ?_; refine S_app rfl rfl rfl rfl u32 ti56 rfl rfl rfl rfl rfl rfl (by repeat constructor) (by repeat constructor) (by simp <;> omega) (by simp <;> omega) (fun ad20 c20 => ?_)
  refine S_nil ?_; refine C_one (i := 9) (by kernel_rfl) rfl ?_; refine S_app rfl rfl rfl rfl u32 ti56 rfl rfl rfl rfl rfl rfl (by repeat constructor) (by repeat constructor) (by simp <;> omega) (by simp <;> omega) (fun ad25 c25 => ?_)
  refine S_pub (by repeat constructor) ?_; refine S_nil ?_; refine c_p 10 0 ?_; refine c_d ?_; rw [e] at hret
  first
    | exact hret (Res_tmps Try.results31 rfl rfl) ⟨ad25, c25, rfl, rfl, rfl⟩
    | exact hret (Res_tmps Try.results31 rfl rfl) ⟨ad, c, rfl, rfl, rfl⟩
set_option maxRecDepth 100000 in
theorem rright_ok {key value : Bytes} : Spx Try.prog 22 #[str key, str value] [] [] (fun v fs' own' => v = .bool (rightKV key value) ∧ fs' = [] ∧ own' = []) := by
 refine Spx_of_body (fn := Try.f22) 18 Try.func22 rfl (by kernel_rfl) rfl (Nat.le_of_ble_eq_true rfl) (fun g0 Q hret hend => ?_); dsimp only [initL]; refine C_seq <| C_region <| S_run 1 rfl <| S_nil <| C_seq <| C_region <| S_run 1 rfl ?_; refine S_y rfl rfl rfl (Y_strlen rfl rfl u9) ?_; refine S_run 2 rfl ?_; refine S_prop 8 rfl (fun h8 => ?_) (fun h8 => ?_)
 ·refine S_run 1 rfl ?_; refine S_y rfl rfl rfl (Y_strlen rfl rfl u9) ?_; refine S_run 3 rfl ?_; refine S_prop 13 rfl (fun h13 => ?_) (fun h13 => ?_)
  ·refine S_run 1 rfl ?_; refine S_y rfl rfl rfl (Y_strlen rfl rfl u9) ?_; refine S_run 3 rfl <| S_nil ?_; exact hret (Res_tmps Try.results22 rfl rfl) ⟨by first | exact congrArg Value.bool (decide_eq_true (by omega)).symm | exact congrArg Value.bool (decide_eq_false (by omega)).symm | exact congrArg Value.bool (decide_eq_decide.2 ⟨fun h => by omega, fun h => by omega⟩), rfl, rfl⟩
  ·refine S_run 5 rfl <| S_nil ?_; exact hret (Res_tmps Try.results22 rfl rfl) ⟨by first | exact congrArg Value.bool (decide_eq_true (by omega)).symm | exact congrArg Value.bool (decide_eq_false (by omega)).symm | exact congrArg Value.bool (decide_eq_decide.2 ⟨fun h => by omega, fun h => by omega⟩), rfl, rfl⟩
 ·refine S_run 10 rfl <| S_nil ?_; exact hret (Res_tmps Try.results22 rfl rfl) ⟨by first | exact congrArg Value.bool (decide_eq_true (by omega)).symm | exact congrArg Value.bool (decide_eq_false (by omega)).symm | exact congrArg Value.bool (decide_eq_decide.2 ⟨fun h => by omega, fun h => by omega⟩), rfl, rfl⟩
set_option maxRecDepth 100000 in
theorem same_ok {ad ad2 : Option Addr} {c c2 : Nat} {a b : List KV} : Spx Try.prog 20 #[.slice ad a.length c, .slice ad2 b.length c2] [SlM elKV ad c a, SlM elKV ad2 c2 b] [] (fun v fs' own' => v = .bool (decide (a = b)) ∧ fs' = [] ∧ own' = []) := by
 refine Spx_of_body (fn := Try.f20) 26 Try.func20 rfl (by kernel_rfl) rfl (Nat.le_of_ble_eq_true rfl) (fun g0 Q hret hend => ?_); dsimp only [initL]; refine C_pure (f := SlM elKV ad c a) (by repeat constructor) SlM.le (fun hls => ?_); refine C_seq <| C_region <| S_run 1 rfl <| S_nil <| C_seq <| C_seq <| C_region <| S_run 1 rfl ?_; refine S_y rfl rfl rfl (Y_slen rfl rfl u32) ?_; refine S_run 1 rfl ?_; refine S_y rfl rfl rfl (Y_slen rfl rfl u32) ?_; refine S_run 1 rfl <| S_nil ?_; refine C_if rfl (fun h10 => ?_) (fun h10 => ?_)
 ·refine C_seq <| C_region ?_; have e : decide (a = b) = false := decide_eq_false (fun h => by subst h; omega); refine S_run 1 rfl <| S_nil ?_; rw [e] at hret; exact hret (Res_tmps Try.results20 rfl rfl) ⟨rfl, rfl, rfl⟩
 ·refine C_skip <| C_seq <| C_seq <| C_region <| S_run 1 rfl <| S_nil <| C_block ?_
  refine C_loop (σ := Nat) (fun i => i ≤ a.length ∧ a.take i = b.take i) (fun i => a.length - i)
    (fun i => [(0, .slice ad a.length c), (1, .slice ad2 b.length c2), (5, .int .i64 (i : Int))])
    (fun i => [SlM elKV ad c a, SlM elKV ad2 c2 b]) (fun i => []) 0 ?_ (by repeat (first | exact trivial | refine ⟨rfl, ?_⟩ | refine ⟨intE (by omega), ?_⟩)) (by repeat constructor) (by repeat constructor) ?_
  ·exact ⟨Nat.zero_le _, rfl⟩
  ·rintro J i ⟨hi, hr⟩ hJ; refine C_seq <| C_seq <| C_region <| S_run 2 rfl ?_; refine S_y rfl rfl rfl (Y_slen rfl rfl u32) ?_; refine S_run 1 rfl <| S_nil ?_; refine C_if rfl (fun h14 => ?_) (fun h14 => ?_)
   ·refine C_skip <| C_seq <| C_block <| C_seq ?_; refine C_draw rfl ?_; refine c_p 0 268 ?_; refine c_p 1 268 ?_; obtain ⟨x, hx⟩ : ∃ y, a[i]? = some y := ⟨_, List.getElem?_eq_getElem (by omega)⟩; obtain ⟨y, hy⟩ : ∃ y, b[i]? = some y := ⟨_, List.getElem?_eq_getElem (by omega)⟩; refine C_firstx (i := 2) (W := 264) (by kernel_rfl) rfl rfl rfl rfl (Y_ixA rfl u32 ti56 rfl rfl rfl (by repeat constructor) rfl (by omega) hx) ?_; rintro _ _ ⟨b19, o19, rfl, rfl⟩; refine c_r 3 256 (by kernel_rfl) rfl rfl rfl rfl (Y_ldS Try.underlying56 rfl ti56 rfl rfl) ?_; refine c_p 4 448 ?_; refine c_p 5 448 ?_; refine C_firstx (i := 6) (W := 384) (by kernel_rfl) rfl rfl rfl rfl (Y_ixA rfl u32 ti56 rfl rfl rfl (by repeat constructor) rfl (by omega) hy) ?_; rintro _ _ ⟨b23, o23, rfl, rfl⟩; refine c_r 7 256 (by kernel_rfl) rfl rfl rfl rfl (Y_ldS Try.underlying56 rfl ti56 rfl rfl) ?_; refine c_r 8 0 (by kernel_rfl) rfl rfl rfl rfl (Y_neqS (fl := Try.prog.fieldsOf 56) rfl rfl rfl (by kernel_rfl) (by kernel_rfl) (fun w => by kernel_rfl) (fun w => pair_eq _ _ _ _)) ?_; refine c_d ?_; refine C_cond rfl (fun h25 => ?_) (fun h25 => ?_)
    ·have e : decide (a = b) = false := decide_eq_false (fun h => by
       subst h; rw [hx] at hy
       cases hy
       simp at h25)
     refine C_seq <| C_region <| S_run 1 rfl <| S_nil ?_; rw [e] at hret; exact hret (Res_tmps Try.results20 rfl rfl) ⟨rfl, rfl, rfl⟩
    ·have hxy : x = y := by
       obtain ⟨xk, xv⟩ := x; obtain ⟨yk, yv⟩ := y; simp at h25; rw [h25.1, h25.2]
     refine C_skip <| C_blk <| C_region <| S_run 1 rfl ?_; refine S_y rfl rfl rfl (Y_addi rfl rfl rfl (by omega) (by omega)) ?_; refine S_run 1 rfl <| S_nil ?_; exact hJ (i + 1) ⟨by omega, by rw [take_succ_snoc hx, take_succ_snoc hy, hr, hxy]⟩ (by show a.length - (i + 1) < a.length - i; omega)
   ·refine C_exit rfl <| C_seq <| C_region ?_; have e : decide (a = b) = true := decide_eq_true (by rw [List.take_of_length_le (by omega), List.take_of_length_le (by omega)] at hr; exact hr); refine S_run 1 rfl <| S_nil ?_; rw [e] at hret; exact hret (Res_tmps Try.results20 rfl rfl) ⟨rfl, rfl, rfl⟩
set_option maxRecDepth 100000 in
set_option maxHeartbeats 1000000 in
theorem rscan_ok {ad : Option Addr} {c : Nat} {l : List KV} {fr to : Bytes} (hl : l.length ≤ 1000000000) : Spx Try.prog 21 #[.slice ad l.length c, str fr, str to] [SlM elKV ad c l] [] (fun v fs' own' => ∃ ad' c', v = .slice ad' (scanK l fr to).length c' ∧ fs' = [SlM elKV ad' c' (scanK l fr to)] ∧ own' = []) := by
 refine Spx_of_body (fn := Try.f21) 43 Try.func21 rfl (by kernel_rfl) rfl (Nat.le_of_ble_eq_true rfl) (fun g0 Q hret hend => ?_); dsimp only [initL]; refine C_seq <| C_region <| S_run 1 rfl <| S_nil <| C_seq <| C_region <| S_run 1 rfl <| S_nil <| C_seq <| C_seq <| C_region <| S_run 1 rfl <| S_nil <| C_block ?_; refine C_nilarr elKV 56 ?_
 refine C_loop (σ := Nat × List KV × (Option Addr × Nat)) (fun s => s.1 ≤ l.length ∧ s.2.1 = scanK (l.take s.1) fr to) (fun s => l.length - s.1)
   (fun s => [(0, .slice ad l.length c), (1, str fr), (2, str to), (7, .slice s.2.2.1 s.2.1.length s.2.2.2), (8, .int .i64 (s.1 : Int))])
   (fun s => [SlM elKV ad c l]) (fun s => [Res.arr elKV 56 s.2.2.1 s.2.2.2 s.2.1]) (0, [], (none, 0)) ?_ (by repeat (first | exact trivial | refine ⟨rfl, ?_⟩ | refine ⟨intE (by omega), ?_⟩)) (by repeat constructor) (by repeat constructor) ?_
 ·exact ⟨Nat.zero_le _, rfl⟩
 ·rintro J ⟨i, out, ⟨adO, cO⟩⟩ ⟨hi, hr⟩ hJ; dsimp only at hi hr ⊢
  have hol : out.length ≤ i := by
    have h1 := List.length_filter_le (inK fr to) (l.take i); rw [hr]; unfold scanK; simp at h1; omega
  refine C_seq <| C_seq <| C_region <| S_run 2 rfl ?_; refine S_y rfl rfl rfl (Y_slen rfl rfl u32) ?_; refine S_run 1 rfl <| S_nil ?_; refine C_if rfl (fun h12 => ?_) (fun h12 => ?_)
  ·refine C_skip <| C_seq <| C_block <| C_seq <| C_region <| S_run 2 rfl ?_; obtain ⟨y, hy⟩ : ∃ y, l[i]? = some y := ⟨_, List.getElem?_eq_getElem (by omega)⟩; refine S_yx rfl rfl rfl (Y_ixA rfl u32 ti56 rfl rfl rfl (by repeat constructor) rfl (by omega) hy) ?_; rintro _ _ ⟨b17, o17, rfl, rfl⟩; refine S_y rfl rfl rfl (Y_fa ly56 rfl rfl rfl) ?_; refine S_y rfl rfl rfl (Y_ld u9 rfl rfl rfl) ?_; refine S_run 1 rfl ?_; refine S_y rfl rfl rfl (Y_strgeq rfl rfl rfl) ?_; refine S_run 1 rfl ?_; refine S_bool 22 rfl (fun h22 => ?_) (fun h22 => ?_)
   ·refine S_run 1 rfl ?_; refine S_y rfl rfl rfl (Y_streql rfl rfl rfl) ?_; refine S_run 1 rfl ?_; refine S_prop 25 rfl (fun h25 => ?_) (fun h25 => ?_)
    ·refine S_run 9 rfl <| S_nil ?_; refine C_cond_t rfl ?_; refine C_region ?_
     have hin : inK fr to y = true := by
       clear hJ hret hend hr
       unfold inK; simp_all
     refine S_run 3 rfl ?_; refine S_yx rfl rfl rfl (Y_ixA rfl u32 ti56 rfl rfl rfl (by repeat constructor) rfl (by omega) hy) ?_; rintro _ _ ⟨b38, o38, rfl, rfl⟩; refine S_y rfl rfl rfl (Y_ldS Try.underlying56 rfl ti56 rfl rfl) ?_; refine S_lit elKV [y] rfl rfl rfl rfl u32 ti56 rfl rfl rfl rfl rfl (by decide) (fun ad40 c40 => ?_); refine S_pub (by repeat constructor) ?_; refine S_app rfl rfl rfl rfl u32 ti56 rfl rfl rfl rfl rfl rfl (by repeat constructor) (by repeat constructor) (by simp <;> omega) (by simp <;> omega) (fun ad41 c41 => ?_)
     refine S_run 1 rfl <| S_nil <| C_blk <| C_region <| S_run 1 rfl ?_; refine S_y rfl rfl rfl (Y_addi rfl rfl rfl (by omega) (by omega)) ?_; refine S_run 1 rfl <| S_nil ?_
     have hsn : scanK (l.take (i + 1)) fr to = out ++ (if inK fr to y = true then [y] else []) := by
       rw [take_succ_snoc hy, scanK, List.filter_append, hr]; unfold scanK; simp only [List.filter_cons, List.filter_nil]
     first
       | (rw [if_pos (by first | exact hin)] at hsn
          exact hJ (i + 1, out ++ [y], (_, _)) ⟨by show i + 1 ≤ _; omega, hsn.symm⟩ (by show l.length - (i + 1) < l.length - i; omega))
       | (have hin2 : ¬ inK fr to y = true := by
            clear hJ hret hend hsn hr
            unfold inK; simp_all
          rw [if_neg hin2, List.append_nil] at hsn; exact hJ (i + 1, out, (_, _)) ⟨by show i + 1 ≤ _; omega, hsn.symm⟩ (by show l.length - (i + 1) < l.length - i; omega))
    ·refine S_run 2 rfl ?_; refine S_yx rfl rfl rfl (Y_ixA rfl u32 ti56 rfl rfl rfl (by repeat constructor) rfl (by omega) hy) ?_; rintro _ _ ⟨b28, o28, rfl, rfl⟩; refine S_y rfl rfl rfl (Y_fa ly56 rfl rfl rfl) ?_; refine S_y rfl rfl rfl (Y_ld u9 rfl rfl rfl) ?_; refine S_run 1 rfl ?_; refine S_y rfl rfl rfl (Y_strlss rfl rfl rfl) ?_; refine S_run 2 rfl <| S_nil ?_; refine C_cond rfl (fun h34 => ?_) (fun h34 => ?_)
     ·refine C_region ?_
      have hin : inK fr to y = true := by
        clear hJ hret hend hr
        unfold inK; simp_all
      refine S_run 3 rfl ?_; refine S_yx rfl rfl rfl (Y_ixA rfl u32 ti56 rfl rfl rfl (by repeat constructor) rfl (by omega) hy) ?_; rintro _ _ ⟨b38, o38, rfl, rfl⟩; refine S_y rfl rfl rfl (Y_ldS Try.underlying56 rfl ti56 rfl rfl) ?_; refine S_lit elKV [y] rfl rfl rfl rfl u32 ti56 rfl rfl rfl rfl rfl (by decide) (fun ad40 c40 => ?_); refine S_pub (by repeat constructor) ?_; refine S_app rfl rfl rfl rfl u32 ti56 rfl rfl rfl rfl rfl rfl (by repeat constructor) (by repeat constructor) (by simp <;> omega) (by simp <;> omega) (fun ad41 c41 => ?_)
      refine S_run 1 rfl <| S_nil <| C_blk <| C_region <| S_run 1 rfl ?_; refine S_y rfl rfl rfl (Y_addi rfl rfl rfl (by omega) (by omega)) ?_; refine S_run 1 rfl <| S_nil ?_
      have hsn : scanK (l.take (i + 1)) fr to = out ++ (if inK fr to y = true then [y] else []) := by
        rw [take_succ_snoc hy, scanK, List.filter_append, hr]; unfold scanK; simp only [List.filter_cons, List.filter_nil]
      first
        | (rw [if_pos (by first | exact hin)] at hsn
           exact hJ (i + 1, out ++ [y], (_, _)) ⟨by show i + 1 ≤ _; omega, hsn.symm⟩ (by show l.length - (i + 1) < l.length - i; omega))
        | (have hin2 : ¬ inK fr to y = true := by
             clear hJ hret hend hsn hr
             unfold inK; simp_all
           rw [if_neg hin2, List.append_nil] at hsn; exact hJ (i + 1, out, (_, _)) ⟨by show i + 1 ≤ _; omega, hsn.symm⟩ (by show l.length - (i + 1) < l.length - i; omega))
     ·refine C_skip <| C_blk <| C_region <| S_run 1 rfl ?_; refine S_y rfl rfl rfl (Y_addi rfl rfl rfl (by omega) (by omega)) ?_; refine S_run 1 rfl <| S_nil ?_
      have hsn : scanK (l.take (i + 1)) fr to = out ++ (if inK fr to y = true then [y] else []) := by
        rw [take_succ_snoc hy, scanK, List.filter_append, hr]; unfold scanK; simp only [List.filter_cons, List.filter_nil]
      first
        | (rw [if_pos (by first | exact hin)] at hsn
           exact hJ (i + 1, out ++ [y], (_, _)) ⟨by show i + 1 ≤ _; omega, hsn.symm⟩ (by show l.length - (i + 1) < l.length - i; omega))
        | (have hin2 : ¬ inK fr to y = true := by
             clear hJ hret hend hsn hr
             unfold inK; simp_all
           rw [if_neg hin2, List.append_nil] at hsn; exact hJ (i + 1, out, (_, _)) ⟨by show i + 1 ≤ _; omega, hsn.symm⟩ (by show l.length - (i + 1) < l.length - i; omega))
   ·refine S_run 12 rfl <| S_nil ?_; refine C_cond_f rfl ?_; refine C_skip <| C_blk <| C_region <| S_run 1 rfl ?_; refine S_y rfl rfl rfl (Y_addi rfl rfl rfl (by omega) (by omega)) ?_; refine S_run 1 rfl <| S_nil ?_
    have hsn : scanK (l.take (i + 1)) fr to = out ++ (if inK fr to y = true then [y] else []) := by
      rw [take_succ_snoc hy, scanK, List.filter_append, hr]; unfold scanK; simp only [List.filter_cons, List.filter_nil]
    first
      | (rw [if_pos (by first | exact hin)] at hsn
         exact hJ (i + 1, out ++ [y], (_, _)) ⟨by show i + 1 ≤ _; omega, hsn.symm⟩ (by show l.length - (i + 1) < l.length - i; omega))
      | (have hin2 : ¬ inK fr to y = true := by
           clear hJ hret hend hsn hr
           unfold inK; simp_all
         rw [if_neg hin2, List.append_nil] at hsn; exact hJ (i + 1, out, (_, _)) ⟨by show i + 1 ≤ _; omega, hsn.symm⟩ (by show l.length - (i + 1) < l.length - i; omega))
  ·refine C_exit rfl <| C_seq <| C_region ?_; have hi2 : i = l.length := by omega
   subst hi2; rw [List.take_length] at hr; subst hr; refine S_pub (E := elKV) (by repeat constructor) ?_; refine S_run 2 rfl <| S_nil ?_; exact hret (Res_tmps Try.results21 rfl rfl) ⟨adO, cO, rfl, rfl, rfl⟩
end Go.Proofs.Ytlgbhceifnjdnaa
