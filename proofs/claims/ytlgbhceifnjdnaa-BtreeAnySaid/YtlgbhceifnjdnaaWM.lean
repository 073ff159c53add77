/- Walks: WM. -/
import Derived.Test.YtlgbhceifnjdnaaPX
import Derived.Test.YtlgbhceifnjdnaaWK
import Derived.Test.YtlgbhceifnjdnaaProg
import Derived.KernelRfl
namespace Go.Proofs.Ytlgbhceifnjdnaa
open Go.KX
namespace TWM
theorem u9 : Try.prog.underlying 9 = some (.string) := Try.underlying9
theorem u79 : Try.prog.underlying 79 = some (.slice 83) := Try.underlying79
theorem u129 : Try.prog.underlying 129 = some (.slice 79) := Try.underlying129
theorem ti79 : TI Try.prog 79 1 24 (.slice none 0 0) := TI_of (by kernel_rfl)
theorem ti83 : TI Try.prog 83 4 48 (.agg #[str [], str [], .int .i64 0, .int .i64 0]) := TI_of (by kernel_rfl)
theorem ti95 : TI Try.prog 95 1 8 (.pointer none) := TI_of (by kernel_rfl)
theorem ly83 : LY Try.prog 83 [(0, 1, false), (1, 1, false), (2, 1, false), (3, 1, false)] := LY_of Try.underlying83 (by kernel_rfl)
end TWM
open TWM
set_option maxRecDepth 100000 in
theorem put11_ok {bl bk i c : Nat} {ad : Option Addr} {l : List Cell} {key : Bytes} (hi : i < l.length) : Spx Try.prog 47 #[.int .i64 (i : Int), .pointer (some ⟨bl, 0, none⟩), .pointer (some ⟨bk, 0, none⟩)] [PtM bl 0 [.slice ad l.length c], PtM bk 0 [str key], SlM elCell ad c l] [] (fun v fs' own' => v = .bool (geAt l key i) ∧ fs' = [] ∧ own' = []) := by
 refine Spx_of_body (fn := Try.f47) 12 Try.func47 rfl (by kernel_rfl) rfl (Nat.le_of_ble_eq_true rfl) (fun g0 Q hret hend => ?_)
 dsimp only [initL]
 refine C_seq <| C_region ?_
 refine S_run 1 rfl ?_
 refine S_nil <| C_seq ?_
 refine C_draw rfl ?_
 refine C_first (i := 0) (W := 220) (by kernel_rfl) rfl rfl rfl rfl (Y_ld u79 rfl rfl rfl) ?_
 refine C_firstp (i := 1) (W := 220) (by kernel_rfl) rfl rfl rfl rfl rfl ?_
 obtain ⟨y, hy⟩ : ∃ y, l[i]? = some y := ⟨_, List.getElem?_eq_getElem hi⟩
 refine C_firstx (i := 2) (W := 216) (by kernel_rfl) rfl rfl rfl rfl (Y_ixA rfl u79 ti83 rfl rfl rfl (by repeat constructor) rfl (by omega) hy) ?_
 rintro _ _ ⟨b7, o7, rfl, rfl⟩
 refine C_firstf (i := 3) (W := 208) (by kernel_rfl) rfl rfl rfl rfl ly83 rfl rfl rfl ?_
 refine C_first (i := 4) (W := 192) (by kernel_rfl) rfl rfl rfl rfl (Y_ld u9 rfl rfl rfl) ?_
 refine C_first (i := 5) (W := 192) (by kernel_rfl) rfl rfl rfl rfl (Y_ld u9 rfl rfl rfl) ?_
 refine C_first (i := 6) (W := 128) (by kernel_rfl) rfl rfl rfl rfl (Y_strgeq rfl rfl rfl) ?_
 refine C_firstp (i := 7) (W := 0) (by kernel_rfl) rfl rfl rfl rfl rfl ?_
 refine C_done (by kernel_rfl) ?_
 exact hret (Res_tmps Try.results47 rfl rfl) ⟨by unfold geAt; rw [hy]; first | done | rfl, rfl, rfl⟩
set_option maxRecDepth 100000 in
theorem del11_ok {bl bk i c : Nat} {ad : Option Addr} {l : List Cell} {key : Bytes} (hi : i < l.length) : Spx Try.prog 51 #[.int .i64 (i : Int), .pointer (some ⟨bl, 0, none⟩), .pointer (some ⟨bk, 0, none⟩)] [PtM bl 0 [.slice ad l.length c], PtM bk 0 [str key], SlM elCell ad c l] [] (fun v fs' own' => v = .bool (geAt l key i) ∧ fs' = [] ∧ own' = []) := by
 refine Spx_of_body (fn := Try.f51) 12 Try.func51 rfl (by kernel_rfl) rfl (Nat.le_of_ble_eq_true rfl) (fun g0 Q hret hend => ?_)
 dsimp only [initL]
 refine C_seq <| C_region ?_
 refine S_run 1 rfl ?_
 refine S_nil <| C_seq ?_
 refine C_draw rfl ?_
 refine C_first (i := 0) (W := 220) (by kernel_rfl) rfl rfl rfl rfl (Y_ld u79 rfl rfl rfl) ?_
 refine C_firstp (i := 1) (W := 220) (by kernel_rfl) rfl rfl rfl rfl rfl ?_
 obtain ⟨y, hy⟩ : ∃ y, l[i]? = some y := ⟨_, List.getElem?_eq_getElem hi⟩
 refine C_firstx (i := 2) (W := 216) (by kernel_rfl) rfl rfl rfl rfl (Y_ixA rfl u79 ti83 rfl rfl rfl (by repeat constructor) rfl (by omega) hy) ?_
 rintro _ _ ⟨b7, o7, rfl, rfl⟩
 refine C_firstf (i := 3) (W := 208) (by kernel_rfl) rfl rfl rfl rfl ly83 rfl rfl rfl ?_
 refine C_first (i := 4) (W := 192) (by kernel_rfl) rfl rfl rfl rfl (Y_ld u9 rfl rfl rfl) ?_
 refine C_first (i := 5) (W := 192) (by kernel_rfl) rfl rfl rfl rfl (Y_ld u9 rfl rfl rfl) ?_
 refine C_first (i := 6) (W := 128) (by kernel_rfl) rfl rfl rfl rfl (Y_strgeq rfl rfl rfl) ?_
 refine C_firstp (i := 7) (W := 0) (by kernel_rfl) rfl rfl rfl rfl rfl ?_
 refine C_done (by kernel_rfl) ?_
 exact hret (Res_tmps Try.results51 rfl rfl) ⟨by unfold geAt; rw [hy]; first | done | rfl, rfl, rfl⟩
set_option maxRecDepth 100000 in
set_option maxHeartbeats 2000000 in
theorem put1_ok {bk bo bc c : Nat} {ad : Option Addr} {l : List Cell} {key : Bytes} {cl : Cell} (hl : l.length ≤ 1000000000) : Spx Try.prog 45 #[.slice ad l.length c, .pointer (some ⟨bk, 0, none⟩), .pointer (some ⟨bo, 0, none⟩), .pointer (some ⟨bc, 0, none⟩)] [PtM bk 0 [str key], PtM bc 0 (encCell cl)] [Res.arr elCell 83 ad c l, Res.blk bo (.cells #[oldV none] 95 (0, 0))] (fun v fs' own' => ∃ ad' c' x, v = .tuple #[.slice ad' (putE key cl l).1.length c', .int .i64 (putE key cl l).2.1, .int .i64 (putE key cl l).2.2.1] ∧ fs' = [OldF x (putE key cl l).2.2.2] ∧ own' = [Res.arr elCell 83 ad' c' (putE key cl l).1, Res.blk bo (.cells #[oldV x] 95 (0, 0))]) := by
 refine Spx_of_body (fn := Try.f45) 50 Try.func45 rfl (by kernel_rfl) rfl (Nat.le_of_ble_eq_true rfl) (fun g0 Q hret hend => ?_)
 dsimp only [initL]
 refine C_seq <| C_region ?_
 refine S_box rfl rfl rfl rfl rfl rfl (fun b4 => ?_)
 refine S_run 3 rfl ?_
 refine S_nil <| C_seq <| C_region ?_
 refine S_frz (b := b4) (by repeat constructor) ?_
 refine S_pub (E := elCell) (by repeat constructor) ?_
 have hnl := searchN_le l.length (geAt l key)
 refine S_fact (f := PF True) (fun _ _ => trivial) ?_
 refine S_y rfl rfl rfl (Y_ld u79 rfl rfl rfl) ?_
 refine S_y rfl rfl rfl (Y_slen rfl rfl u79) ?_
 refine S_run 1 rfl ?_
 refine S_enter rfl rfl rfl (E_fn rfl rfl) (search_ok (f := geAt l key) (by omega) (fun i hi => put11_ok hi)) ?_
 rintro _ _ _ ⟨rfl, rfl, rfl⟩
 try dsimp only [List.cons_append, List.nil_append]
 refine S_run 1 rfl ?_
 refine S_nil <| C_seq <| C_seq ?_
 refine C_draw rfl ?_
 refine C_firstp (i := 0) (W := 8184) (by kernel_rfl) rfl rfl rfl rfl rfl ?_
 refine C_first (i := 1) (W := 8188) (by kernel_rfl) rfl rfl rfl rfl (Y_ld u79 rfl rfl rfl) ?_
 refine C_first (i := 2) (W := 8184) (by kernel_rfl) rfl rfl rfl rfl (Y_slen rfl rfl u79) ?_
 refine C_firstp (i := 3) (W := 8176) (by kernel_rfl) rfl rfl rfl rfl rfl ?_
 refine C_firstp (i := 4) (W := 8160) (by kernel_rfl) rfl rfl rfl rfl rfl ?_
 refine C_prop 17 rfl (fun h17 => ?_) (fun h17 => ?_)
 ·refine C_first (i := 5) (W := 7040) (by kernel_rfl) rfl rfl rfl rfl (Y_ld u79 rfl rfl rfl) ?_
  refine C_firstp (i := 6) (W := 7040) (by kernel_rfl) rfl rfl rfl rfl rfl ?_
  obtain ⟨y, hy⟩ : ∃ y, l[(searchN l.length (geAt l key))]? = some y := ⟨_, List.getElem?_eq_getElem (by omega)⟩
  refine C_firstx (i := 7) (W := 6912) (by kernel_rfl) rfl rfl rfl rfl (Y_ixA rfl u79 ti83 rfl rfl rfl (by repeat constructor) rfl (by omega) hy) ?_
  rintro _ _ ⟨b20, o20, rfl, rfl⟩
  refine C_firstf (i := 8) (W := 6656) (by kernel_rfl) rfl rfl rfl rfl ly83 rfl rfl rfl ?_
  refine C_first (i := 9) (W := 6144) (by kernel_rfl) rfl rfl rfl rfl (Y_ld u9 rfl rfl rfl) ?_
  refine C_first (i := 10) (W := 6144) (by kernel_rfl) rfl rfl rfl rfl (Y_ld u9 rfl rfl rfl) ?_
  refine C_first (i := 11) (W := 4096) (by kernel_rfl) rfl rfl rfl rfl (Y_streql rfl rfl rfl) ?_
  refine C_firstp (i := 12) (W := 0) (by kernel_rfl) rfl rfl rfl rfl rfl ?_
  refine C_done (by kernel_rfl) ?_
  refine C_if rfl (fun h25 => ?_) (fun h25 => ?_)
  ·refine C_seq <| C_region ?_
   have hit : hitAt l key = some y := by unfold hitAt neAt; rw [hy]; exact if_pos h25
   refine S_y rfl rfl rfl (Y_ld u79 rfl rfl rfl) ?_
   refine S_run 1 rfl ?_
   refine S_yx rfl rfl rfl (Y_ixA rfl u79 ti83 rfl rfl rfl (by repeat constructor) rfl (by omega) hy) ?_
   rintro _ _ ⟨b28, o28, rfl, rfl⟩
   refine S_st rfl rfl rfl ti95 rfl rfl rfl (by repeat constructor) (by rfl) ?_
   refine S_nil <| C_seq ?_
   refine C_draw rfl ?_
   refine C_firstp (i := 1) (W := 15876) (by kernel_rfl) rfl rfl rfl rfl rfl ?_
   refine C_firstp (i := 6) (W := 16256) (by kernel_rfl) rfl rfl rfl rfl rfl ?_
   refine C_firstb (i := 7) (W := 16128) (by kernel_rfl) rfl rfl rfl rfl (Y_addiW rfl rfl rfl (by omega) (by omega)) ?_
   refine C_first (i := 3) (W := 15888) (by kernel_rfl) rfl rfl rfl rfl (Y_ldS Try.underlying83 rfl ti83 rfl rfl) ?_
   refine C_three (i := 0) (j := 4) (l := 5) (by kernel_rfl) rfl rfl rfl ?_ ?_ ?_
   ·refine S_y rfl rfl rfl (Y_ld u79 rfl rfl rfl) ?_
    refine S_nil ?_
    refine C_firstw (i := 2) (W := 15872) (by kernel_rfl) rfl rfl rfl rfl (Y_resliceW rfl u79 ti83 rfl rfl (by repeat constructor) rfl rfl ⟨_, rfl⟩ (by decide) (by omega) (by omega)) ?_
    rintro _ _ ⟨ad31, c31, rfl, rfl⟩
    rw [show (l.drop (0 : Int).toNat).take (((searchN l.length (geAt l key)) : Int).toNat - (0 : Int).toNat) = l.take (searchN l.length (geAt l key)) by simp]
    refine C_two (i := 4) (j := 5) (by kernel_rfl) rfl rfl ?_ ?_
    ·refine S_lit elCell [cl] rfl rfl rfl rfl u79 ti83 rfl rfl rfl rfl rfl (by decide) (fun ad33 c33 => ?_)
     refine S_pub (by repeat constructor) ?_
     refine S_nil ?_
     refine C_first (i := 5) (W := 16128) (by kernel_rfl) rfl rfl rfl rfl (Y_ld u79 rfl rfl rfl) ?_
     refine C_firstx (i := 8) (W := 15872) (by kernel_rfl) rfl rfl rfl rfl (Y_reslice rfl u79 ti83 rfl rfl (by repeat constructor) rfl ⟨_, rfl⟩ rfl (by omega) (by omega) (by omega)) ?_
     rintro _ _ ⟨ad37, c37, rfl, rfl⟩
     rw [show (l.drop (((searchN l.length (geAt l key)) : Int) + 1 : Int).toNat).take ((l.length : Int).toNat - (((searchN l.length (geAt l key)) : Int) + 1 : Int).toNat) = l.drop ((searchN l.length (geAt l key)) + 1) by rw [show (((searchN l.length (geAt l key)) : Int) + 1 : Int).toNat = (searchN l.length (geAt l key)) + 1 by omega]; exact List.take_of_length_le (by simp)]
     refine C_one (i := 9) (by kernel_rfl) rfl ?_
     refine S_lit (elSl Cell) [(ad31, c31, l.take (searchN l.length (geAt l key))), (ad33, c33, [cl]), (ad37, c37, l.drop ((searchN l.length (geAt l key)) + 1))] rfl rfl rfl rfl u129 ti79 rfl rfl rfl rfl rfl (by decide) (fun ad38 c38 => ?_)
     refine S_pub (by repeat constructor) ?_
     refine S_sls0 elCell ?_
     refine S_sls (a := ad37) (c := c37) (ys := l.drop ((searchN l.length (geAt l key)) + 1)) (by repeat constructor) (xs := []) (by repeat constructor) ?_
     refine S_sls (a := ad33) (c := c33) (ys := [cl]) (by repeat constructor) (xs := [(ad37, c37, l.drop ((searchN l.length (geAt l key)) + 1))]) (by repeat constructor) ?_
     refine S_sls (a := ad31) (c := c31) (ys := l.take (searchN l.length (geAt l key))) (by repeat constructor) (xs := [(ad33, c33, [cl]), (ad37, c37, l.drop ((searchN l.length (geAt l key)) + 1))]) (by repeat constructor) ?_
     refine S_nil ?_
     refine C_one (i := 10) (by kernel_rfl) rfl ?_
     refine S_enter rfl rfl rfl (E_fn rfl rfl) (concat_ok (xs := [(ad31, c31, l.take (searchN l.length (geAt l key))), (ad33, c33, [cl]), (ad37, c37, l.drop ((searchN l.length (geAt l key)) + 1))]) (by simp) (by simp [catS]; omega)) ?_
     rintro _ _ _ ⟨adZ, cZ, rfl, rfl, rfl⟩
     try dsimp only [List.cons_append, List.nil_append]
     rw [show catS [(ad31, c31, l.take (searchN l.length (geAt l key))), (ad33, c33, [cl]), (ad37, c37, l.drop ((searchN l.length (geAt l key)) + 1))] = l.take (searchN l.length (geAt l key)) ++ ([cl] ++ l.drop ((searchN l.length (geAt l key)) + 1)) by simp [catS]]
     refine S_nil ?_
     refine C_firstp (i := 11) (W := 12288) (by kernel_rfl) rfl rfl rfl rfl rfl ?_
     refine C_firstp (i := 12) (W := 8192) (by kernel_rfl) rfl rfl rfl rfl rfl ?_
     refine C_firstp (i := 13) (W := 0) (by kernel_rfl) rfl rfl rfl rfl rfl ?_
     refine C_done (by kernel_rfl) ?_
     first
       | (have e : putE key cl l = (l.take (searchN l.length (geAt l key)) ++ ([cl] ++ l.drop ((searchN l.length (geAt l key)) + 1)), 0, 0, some y) := by unfold putE; rw [hit]; rfl
          rw [e] at hret
          exact hret (Res_tmps Try.results45 rfl rfl) ⟨adZ, cZ, some (b28, o28), rfl, rfl, rfl⟩)
       | (have hit : hitAt l key = none := by
            unfold hitAt neAt
            first | (rw [hy]; exact if_neg h25) | rw [List.getElem?_eq_none (by omega)]
          have e : putE key cl l = (l.take (searchN l.length (geAt l key)) ++ ([cl] ++ l.drop (searchN l.length (geAt l key))), 1, 0, none) := by unfold putE; rw [hit]; rfl
          rw [e] at hret
          exact hret (Res_tmps Try.results45 rfl rfl) ⟨adZ, cZ, none, rfl, rfl, rfl⟩)
    ·refine S_y rfl rfl rfl (Y_ld u79 rfl rfl rfl) ?_
     refine S_nil ?_
     refine C_firstw (i := 8) (W := 15872) (by kernel_rfl) rfl rfl rfl rfl (Y_resliceW rfl u79 ti83 rfl rfl (by repeat constructor) rfl ⟨_, rfl⟩ rfl (by omega) (by omega) (by omega)) ?_
     rintro _ _ ⟨ad37, c37, rfl, rfl⟩
     rw [show (l.drop (((searchN l.length (geAt l key)) : Int) + 1 : Int).toNat).take ((l.length : Int).toNat - (((searchN l.length (geAt l key)) : Int) + 1 : Int).toNat) = l.drop ((searchN l.length (geAt l key)) + 1) by rw [show (((searchN l.length (geAt l key)) : Int) + 1 : Int).toNat = (searchN l.length (geAt l key)) + 1 by omega]; exact List.take_of_length_le (by simp)]
     refine C_one (i := 4) (by kernel_rfl) rfl ?_
     refine S_lit elCell [cl] rfl rfl rfl rfl u79 ti83 rfl rfl rfl rfl rfl (by decide) (fun ad33 c33 => ?_)
     refine S_pub (by repeat constructor) ?_
     refine S_nil ?_
     refine C_one (i := 9) (by kernel_rfl) rfl ?_
     refine S_lit (elSl Cell) [(ad31, c31, l.take (searchN l.length (geAt l key))), (ad33, c33, [cl]), (ad37, c37, l.drop ((searchN l.length (geAt l key)) + 1))] rfl rfl rfl rfl u129 ti79 rfl rfl rfl rfl rfl (by decide) (fun ad38 c38 => ?_)
     refine S_pub (by repeat constructor) ?_
     refine S_sls0 elCell ?_
     refine S_sls (a := ad37) (c := c37) (ys := l.drop ((searchN l.length (geAt l key)) + 1)) (by repeat constructor) (xs := []) (by repeat constructor) ?_
     refine S_sls (a := ad33) (c := c33) (ys := [cl]) (by repeat constructor) (xs := [(ad37, c37, l.drop ((searchN l.length (geAt l key)) + 1))]) (by repeat constructor) ?_
     refine S_sls (a := ad31) (c := c31) (ys := l.take (searchN l.length (geAt l key))) (by repeat constructor) (xs := [(ad33, c33, [cl]), (ad37, c37, l.drop ((searchN l.length (geAt l key)) + 1))]) (by repeat constructor) ?_
     refine S_nil ?_
     refine C_one (i := 10) (by kernel_rfl) rfl ?_
     refine S_enter rfl rfl rfl (E_fn rfl rfl) (concat_ok (xs := [(ad31, c31, l.take (searchN l.length (geAt l key))), (ad33, c33, [cl]), (ad37, c37, l.drop ((searchN l.length (geAt l key)) + 1))]) (by simp) (by simp [catS]; omega)) ?_
     rintro _ _ _ ⟨adZ, cZ, rfl, rfl, rfl⟩
     try dsimp only [List.cons_append, List.nil_append]
     rw [show catS [(ad31, c31, l.take (searchN l.length (geAt l key))), (ad33, c33, [cl]), (ad37, c37, l.drop ((searchN l.length (geAt l key)) + 1))] = l.take (searchN l.length (geAt l key)) ++ ([cl] ++ l.drop ((searchN l.length (geAt l key)) + 1)) by simp [catS]]
     refine S_nil ?_
     refine C_firstp (i := 11) (W := 12288) (by kernel_rfl) rfl rfl rfl rfl rfl ?_
     refine C_firstp (i := 12) (W := 8192) (by kernel_rfl) rfl rfl rfl rfl rfl ?_
     refine C_firstp (i := 13) (W := 0) (by kernel_rfl) rfl rfl rfl rfl rfl ?_
     refine C_done (by kernel_rfl) ?_
     first
       | (have e : putE key cl l = (l.take (searchN l.length (geAt l key)) ++ ([cl] ++ l.drop ((searchN l.length (geAt l key)) + 1)), 0, 0, some y) := by unfold putE; rw [hit]; rfl
          rw [e] at hret
          exact hret (Res_tmps Try.results45 rfl rfl) ⟨adZ, cZ, some (b28, o28), rfl, rfl, rfl⟩)
       | (have hit : hitAt l key = none := by
            unfold hitAt neAt
            first | (rw [hy]; exact if_neg h25) | rw [List.getElem?_eq_none (by omega)]
          have e : putE key cl l = (l.take (searchN l.length (geAt l key)) ++ ([cl] ++ l.drop (searchN l.length (geAt l key))), 1, 0, none) := by unfold putE; rw [hit]; rfl
          rw [e] at hret
          exact hret (Res_tmps Try.results45 rfl rfl) ⟨adZ, cZ, none, rfl, rfl, rfl⟩)
   ·refine S_lit elCell [cl] rfl rfl rfl rfl u79 ti83 rfl rfl rfl rfl rfl (by decide) (fun ad33 c33 => ?_)
    refine S_pub (by repeat constructor) ?_
    refine S_nil ?_
    refine C_first (i := 0) (W := 15876) (by kernel_rfl) rfl rfl rfl rfl (Y_ld u79 rfl rfl rfl) ?_
    refine C_firstx (i := 2) (W := 15872) (by kernel_rfl) rfl rfl rfl rfl (Y_reslice rfl u79 ti83 rfl rfl (by repeat constructor) rfl rfl ⟨_, rfl⟩ (by decide) (by omega) (by omega)) ?_
    rintro _ _ ⟨ad31, c31, rfl, rfl⟩
    rw [show (l.drop (0 : Int).toNat).take (((searchN l.length (geAt l key)) : Int).toNat - (0 : Int).toNat) = l.take (searchN l.length (geAt l key)) by simp]
    refine C_first (i := 5) (W := 16128) (by kernel_rfl) rfl rfl rfl rfl (Y_ld u79 rfl rfl rfl) ?_
    refine C_firstx (i := 8) (W := 15872) (by kernel_rfl) rfl rfl rfl rfl (Y_reslice rfl u79 ti83 rfl rfl (by repeat constructor) rfl ⟨_, rfl⟩ rfl (by omega) (by omega) (by omega)) ?_
    rintro _ _ ⟨ad37, c37, rfl, rfl⟩
    rw [show (l.drop (((searchN l.length (geAt l key)) : Int) + 1 : Int).toNat).take ((l.length : Int).toNat - (((searchN l.length (geAt l key)) : Int) + 1 : Int).toNat) = l.drop ((searchN l.length (geAt l key)) + 1) by rw [show (((searchN l.length (geAt l key)) : Int) + 1 : Int).toNat = (searchN l.length (geAt l key)) + 1 by omega]; exact List.take_of_length_le (by simp)]
    refine C_one (i := 9) (by kernel_rfl) rfl ?_
    refine S_lit (elSl Cell) [(ad31, c31, l.take (searchN l.length (geAt l key))), (ad33, c33, [cl]), (ad37, c37, l.drop ((searchN l.length (geAt l key)) + 1))] rfl rfl rfl rfl u129 ti79 rfl rfl rfl rfl rfl (by decide) (fun ad38 c38 => ?_)
    refine S_pub (by repeat constructor) ?_
    refine S_sls0 elCell ?_
    refine S_sls (a := ad37) (c := c37) (ys := l.drop ((searchN l.length (geAt l key)) + 1)) (by repeat constructor) (xs := []) (by repeat constructor) ?_
    refine S_sls (a := ad33) (c := c33) (ys := [cl]) (by repeat constructor) (xs := [(ad37, c37, l.drop ((searchN l.length (geAt l key)) + 1))]) (by repeat constructor) ?_
    refine S_sls (a := ad31) (c := c31) (ys := l.take (searchN l.length (geAt l key))) (by repeat constructor) (xs := [(ad33, c33, [cl]), (ad37, c37, l.drop ((searchN l.length (geAt l key)) + 1))]) (by repeat constructor) ?_
    refine S_nil ?_
    refine C_one (i := 10) (by kernel_rfl) rfl ?_
    refine S_enter rfl rfl rfl (E_fn rfl rfl) (concat_ok (xs := [(ad31, c31, l.take (searchN l.length (geAt l key))), (ad33, c33, [cl]), (ad37, c37, l.drop ((searchN l.length (geAt l key)) + 1))]) (by simp) (by simp [catS]; omega)) ?_
    rintro _ _ _ ⟨adZ, cZ, rfl, rfl, rfl⟩
    try dsimp only [List.cons_append, List.nil_append]
    rw [show catS [(ad31, c31, l.take (searchN l.length (geAt l key))), (ad33, c33, [cl]), (ad37, c37, l.drop ((searchN l.length (geAt l key)) + 1))] = l.take (searchN l.length (geAt l key)) ++ ([cl] ++ l.drop ((searchN l.length (geAt l key)) + 1)) by simp [catS]]
    refine S_nil ?_
    refine C_firstp (i := 11) (W := 12288) (by kernel_rfl) rfl rfl rfl rfl rfl ?_
    refine C_firstp (i := 12) (W := 8192) (by kernel_rfl) rfl rfl rfl rfl rfl ?_
    refine C_firstp (i := 13) (W := 0) (by kernel_rfl) rfl rfl rfl rfl rfl ?_
    refine C_done (by kernel_rfl) ?_
    first
      | (have e : putE key cl l = (l.take (searchN l.length (geAt l key)) ++ ([cl] ++ l.drop ((searchN l.length (geAt l key)) + 1)), 0, 0, some y) := by unfold putE; rw [hit]; rfl
         rw [e] at hret
         exact hret (Res_tmps Try.results45 rfl rfl) ⟨adZ, cZ, some (b28, o28), rfl, rfl, rfl⟩)
      | (have hit : hitAt l key = none := by
           unfold hitAt neAt
           first | (rw [hy]; exact if_neg h25) | rw [List.getElem?_eq_none (by omega)]
         have e : putE key cl l = (l.take (searchN l.length (geAt l key)) ++ ([cl] ++ l.drop (searchN l.length (geAt l key))), 1, 0, none) := by unfold putE; rw [hit]; rfl
         rw [e] at hret
         exact hret (Res_tmps Try.results45 rfl rfl) ⟨adZ, cZ, none, rfl, rfl, rfl⟩)
   ·refine S_y rfl rfl rfl (Y_ld u79 rfl rfl rfl) ?_
    refine S_nil ?_
    refine C_firstw (i := 8) (W := 15872) (by kernel_rfl) rfl rfl rfl rfl (Y_resliceW rfl u79 ti83 rfl rfl (by repeat constructor) rfl ⟨_, rfl⟩ rfl (by omega) (by omega) (by omega)) ?_
    rintro _ _ ⟨ad37, c37, rfl, rfl⟩
    rw [show (l.drop (((searchN l.length (geAt l key)) : Int) + 1 : Int).toNat).take ((l.length : Int).toNat - (((searchN l.length (geAt l key)) : Int) + 1 : Int).toNat) = l.drop ((searchN l.length (geAt l key)) + 1) by rw [show (((searchN l.length (geAt l key)) : Int) + 1 : Int).toNat = (searchN l.length (geAt l key)) + 1 by omega]; exact List.take_of_length_le (by simp)]
    refine C_two (i := 0) (j := 4) (by kernel_rfl) rfl rfl ?_ ?_
    ·refine S_y rfl rfl rfl (Y_ld u79 rfl rfl rfl) ?_
     refine S_nil ?_
     refine C_firstw (i := 2) (W := 15872) (by kernel_rfl) rfl rfl rfl rfl (Y_resliceW rfl u79 ti83 rfl rfl (by repeat constructor) rfl rfl ⟨_, rfl⟩ (by decide) (by omega) (by omega)) ?_
     rintro _ _ ⟨ad31, c31, rfl, rfl⟩
     rw [show (l.drop (0 : Int).toNat).take (((searchN l.length (geAt l key)) : Int).toNat - (0 : Int).toNat) = l.take (searchN l.length (geAt l key)) by simp]
     refine C_one (i := 4) (by kernel_rfl) rfl ?_
     refine S_lit elCell [cl] rfl rfl rfl rfl u79 ti83 rfl rfl rfl rfl rfl (by decide) (fun ad33 c33 => ?_)
     refine S_pub (by repeat constructor) ?_
     refine S_nil ?_
     refine C_one (i := 9) (by kernel_rfl) rfl ?_
     refine S_lit (elSl Cell) [(ad31, c31, l.take (searchN l.length (geAt l key))), (ad33, c33, [cl]), (ad37, c37, l.drop ((searchN l.length (geAt l key)) + 1))] rfl rfl rfl rfl u129 ti79 rfl rfl rfl rfl rfl (by decide) (fun ad38 c38 => ?_)
     refine S_pub (by repeat constructor) ?_
     refine S_sls0 elCell ?_
     refine S_sls (a := ad37) (c := c37) (ys := l.drop ((searchN l.length (geAt l key)) + 1)) (by repeat constructor) (xs := []) (by repeat constructor) ?_
     refine S_sls (a := ad33) (c := c33) (ys := [cl]) (by repeat constructor) (xs := [(ad37, c37, l.drop ((searchN l.length (geAt l key)) + 1))]) (by repeat constructor) ?_
     refine S_sls (a := ad31) (c := c31) (ys := l.take (searchN l.length (geAt l key))) (by repeat constructor) (xs := [(ad33, c33, [cl]), (ad37, c37, l.drop ((searchN l.length (geAt l key)) + 1))]) (by repeat constructor) ?_
     refine S_nil ?_
     refine C_one (i := 10) (by kernel_rfl) rfl ?_
     refine S_enter rfl rfl rfl (E_fn rfl rfl) (concat_ok (xs := [(ad31, c31, l.take (searchN l.length (geAt l key))), (ad33, c33, [cl]), (ad37, c37, l.drop ((searchN l.length (geAt l key)) + 1))]) (by simp) (by simp [catS]; omega)) ?_
     rintro _ _ _ ⟨adZ, cZ, rfl, rfl, rfl⟩
     try dsimp only [List.cons_append, List.nil_append]
     rw [show catS [(ad31, c31, l.take (searchN l.length (geAt l key))), (ad33, c33, [cl]), (ad37, c37, l.drop ((searchN l.length (geAt l key)) + 1))] = l.take (searchN l.length (geAt l key)) ++ ([cl] ++ l.drop ((searchN l.length (geAt l key)) + 1)) by simp [catS]]
     refine S_nil ?_
     refine C_firstp (i := 11) (W := 12288) (by kernel_rfl) rfl rfl rfl rfl rfl ?_
     refine C_firstp (i := 12) (W := 8192) (by kernel_rfl) rfl rfl rfl rfl rfl ?_
     refine C_firstp (i := 13) (W := 0) (by kernel_rfl) rfl rfl rfl rfl rfl ?_
     refine C_done (by kernel_rfl) ?_
     first
       | (have e : putE key cl l = (l.take (searchN l.length (geAt l key)) ++ ([cl] ++ l.drop ((searchN l.length (geAt l key)) + 1)), 0, 0, some y) := by unfold putE; rw [hit]; rfl
          rw [e] at hret
          exact hret (Res_tmps Try.results45 rfl rfl) ⟨adZ, cZ, some (b28, o28), rfl, rfl, rfl⟩)
       | (have hit : hitAt l key = none := by
            unfold hitAt neAt
            first | (rw [hy]; exact if_neg h25) | rw [List.getElem?_eq_none (by omega)]
          have e : putE key cl l = (l.take (searchN l.length (geAt l key)) ++ ([cl] ++ l.drop (searchN l.length (geAt l key))), 1, 0, none) := by unfold putE; rw [hit]; rfl
          rw [e] at hret
          exact hret (Res_tmps Try.results45 rfl rfl) ⟨adZ, cZ, none, rfl, rfl, rfl⟩)
    ·refine S_lit elCell [cl] rfl rfl rfl rfl u79 ti83 rfl rfl rfl rfl rfl (by decide) (fun ad33 c33 => ?_)
     refine S_pub (by repeat constructor) ?_
     refine S_nil ?_
     refine C_first (i := 0) (W := 15876) (by kernel_rfl) rfl rfl rfl rfl (Y_ld u79 rfl rfl rfl) ?_
     refine C_firstx (i := 2) (W := 15872) (by kernel_rfl) rfl rfl rfl rfl (Y_reslice rfl u79 ti83 rfl rfl (by repeat constructor) rfl rfl ⟨_, rfl⟩ (by decide) (by omega) (by omega)) ?_
     rintro _ _ ⟨ad31, c31, rfl, rfl⟩
     rw [show (l.drop (0 : Int).toNat).take (((searchN l.length (geAt l key)) : Int).toNat - (0 : Int).toNat) = l.take (searchN l.length (geAt l key)) by simp]
     refine C_one (i := 9) (by kernel_rfl) rfl ?_
     refine S_lit (elSl Cell) [(ad31, c31, l.take (searchN l.length (geAt l key))), (ad33, c33, [cl]), (ad37, c37, l.drop ((searchN l.length (geAt l key)) + 1))] rfl rfl rfl rfl u129 ti79 rfl rfl rfl rfl rfl (by decide) (fun ad38 c38 => ?_)
     refine S_pub (by repeat constructor) ?_
     refine S_sls0 elCell ?_
     refine S_sls (a := ad37) (c := c37) (ys := l.drop ((searchN l.length (geAt l key)) + 1)) (by repeat constructor) (xs := []) (by repeat constructor) ?_
     refine S_sls (a := ad33) (c := c33) (ys := [cl]) (by repeat constructor) (xs := [(ad37, c37, l.drop ((searchN l.length (geAt l key)) + 1))]) (by repeat constructor) ?_
     refine S_sls (a := ad31) (c := c31) (ys := l.take (searchN l.length (geAt l key))) (by repeat constructor) (xs := [(ad33, c33, [cl]), (ad37, c37, l.drop ((searchN l.length (geAt l key)) + 1))]) (by repeat constructor) ?_
     refine S_nil ?_
     refine C_one (i := 10) (by kernel_rfl) rfl ?_
     refine S_enter rfl rfl rfl (E_fn rfl rfl) (concat_ok (xs := [(ad31, c31, l.take (searchN l.length (geAt l key))), (ad33, c33, [cl]), (ad37, c37, l.drop ((searchN l.length (geAt l key)) + 1))]) (by simp) (by simp [catS]; omega)) ?_
     rintro _ _ _ ⟨adZ, cZ, rfl, rfl, rfl⟩
     try dsimp only [List.cons_append, List.nil_append]
     rw [show catS [(ad31, c31, l.take (searchN l.length (geAt l key))), (ad33, c33, [cl]), (ad37, c37, l.drop ((searchN l.length (geAt l key)) + 1))] = l.take (searchN l.length (geAt l key)) ++ ([cl] ++ l.drop ((searchN l.length (geAt l key)) + 1)) by simp [catS]]
     refine S_nil ?_
     refine C_firstp (i := 11) (W := 12288) (by kernel_rfl) rfl rfl rfl rfl rfl ?_
     refine C_firstp (i := 12) (W := 8192) (by kernel_rfl) rfl rfl rfl rfl rfl ?_
     refine C_firstp (i := 13) (W := 0) (by kernel_rfl) rfl rfl rfl rfl rfl ?_
     refine C_done (by kernel_rfl) ?_
     first
       | (have e : putE key cl l = (l.take (searchN l.length (geAt l key)) ++ ([cl] ++ l.drop ((searchN l.length (geAt l key)) + 1)), 0, 0, some y) := by unfold putE; rw [hit]; rfl
          rw [e] at hret
          exact hret (Res_tmps Try.results45 rfl rfl) ⟨adZ, cZ, some (b28, o28), rfl, rfl, rfl⟩)
       | (have hit : hitAt l key = none := by
            unfold hitAt neAt
            first | (rw [hy]; exact if_neg h25) | rw [List.getElem?_eq_none (by omega)]
          have e : putE key cl l = (l.take (searchN l.length (geAt l key)) ++ ([cl] ++ l.drop (searchN l.length (geAt l key))), 1, 0, none) := by unfold putE; rw [hit]; rfl
          rw [e] at hret
          exact hret (Res_tmps Try.results45 rfl rfl) ⟨adZ, cZ, none, rfl, rfl, rfl⟩)
  ·refine C_skip <| C_seq ?_
   refine C_draw rfl ?_
   refine C_firstp (i := 1) (W := 7940) (by kernel_rfl) rfl rfl rfl rfl rfl ?_
   refine C_first (i := 3) (W := 7952) (by kernel_rfl) rfl rfl rfl rfl (Y_ldS Try.underlying83 rfl ti83 rfl rfl) ?_
   refine C_firstp (i := 6) (W := 8064) (by kernel_rfl) rfl rfl rfl rfl rfl ?_
   refine C_three (i := 0) (j := 4) (l := 5) (by kernel_rfl) rfl rfl rfl ?_ ?_ ?_
   ·refine S_y rfl rfl rfl (Y_ld u79 rfl rfl rfl) ?_
    refine S_nil ?_
    refine C_firstw (i := 2) (W := 7936) (by kernel_rfl) rfl rfl rfl rfl (Y_resliceW rfl u79 ti83 rfl rfl (by repeat constructor) rfl rfl ⟨_, rfl⟩ (by decide) (by omega) (by omega)) ?_
    rintro _ _ ⟨ad42, c42, rfl, rfl⟩
    rw [show (l.drop (0 : Int).toNat).take (((searchN l.length (geAt l key)) : Int).toNat - (0 : Int).toNat) = l.take (searchN l.length (geAt l key)) by simp]
    refine C_two (i := 4) (j := 5) (by kernel_rfl) rfl rfl ?_ ?_
    ·refine S_lit elCell [cl] rfl rfl rfl rfl u79 ti83 rfl rfl rfl rfl rfl (by decide) (fun ad44 c44 => ?_)
     refine S_pub (by repeat constructor) ?_
     refine S_nil ?_
     refine C_first (i := 5) (W := 8064) (by kernel_rfl) rfl rfl rfl rfl (Y_ld u79 rfl rfl rfl) ?_
     refine C_firstx (i := 7) (W := 7936) (by kernel_rfl) rfl rfl rfl rfl (Y_reslice rfl u79 ti83 rfl rfl (by repeat constructor) rfl ⟨_, rfl⟩ rfl (by omega) (by omega) (by omega)) ?_
     rintro _ _ ⟨ad47, c47, rfl, rfl⟩
     rw [show (l.drop (((searchN l.length (geAt l key)) : Int) : Int).toNat).take ((l.length : Int).toNat - (((searchN l.length (geAt l key)) : Int) : Int).toNat) = l.drop ((searchN l.length (geAt l key))) by rw [show (((searchN l.length (geAt l key)) : Int) : Int).toNat = (searchN l.length (geAt l key)) by omega]; exact List.take_of_length_le (by simp)]
     refine C_one (i := 8) (by kernel_rfl) rfl ?_
     refine S_lit (elSl Cell) [(ad42, c42, l.take (searchN l.length (geAt l key))), (ad44, c44, [cl]), (ad47, c47, l.drop ((searchN l.length (geAt l key))))] rfl rfl rfl rfl u129 ti79 rfl rfl rfl rfl rfl (by decide) (fun ad48 c48 => ?_)
     refine S_pub (by repeat constructor) ?_
     refine S_sls0 elCell ?_
     refine S_sls (a := ad47) (c := c47) (ys := l.drop ((searchN l.length (geAt l key)))) (by repeat constructor) (xs := []) (by repeat constructor) ?_
     refine S_sls (a := ad44) (c := c44) (ys := [cl]) (by repeat constructor) (xs := [(ad47, c47, l.drop ((searchN l.length (geAt l key))))]) (by repeat constructor) ?_
     refine S_sls (a := ad42) (c := c42) (ys := l.take (searchN l.length (geAt l key))) (by repeat constructor) (xs := [(ad44, c44, [cl]), (ad47, c47, l.drop ((searchN l.length (geAt l key))))]) (by repeat constructor) ?_
     refine S_nil ?_
     refine C_one (i := 9) (by kernel_rfl) rfl ?_
     refine S_enter rfl rfl rfl (E_fn rfl rfl) (concat_ok (xs := [(ad42, c42, l.take (searchN l.length (geAt l key))), (ad44, c44, [cl]), (ad47, c47, l.drop ((searchN l.length (geAt l key))))]) (by simp) (by simp [catS]; omega)) ?_
     rintro _ _ _ ⟨adZ, cZ, rfl, rfl, rfl⟩
     try dsimp only [List.cons_append, List.nil_append]
     rw [show catS [(ad42, c42, l.take (searchN l.length (geAt l key))), (ad44, c44, [cl]), (ad47, c47, l.drop ((searchN l.length (geAt l key))))] = l.take (searchN l.length (geAt l key)) ++ ([cl] ++ l.drop ((searchN l.length (geAt l key)))) by simp [catS]]
     refine S_nil ?_
     refine C_firstp (i := 10) (W := 6144) (by kernel_rfl) rfl rfl rfl rfl rfl ?_
     refine C_firstp (i := 11) (W := 4096) (by kernel_rfl) rfl rfl rfl rfl rfl ?_
     refine C_firstp (i := 12) (W := 0) (by kernel_rfl) rfl rfl rfl rfl rfl ?_
     refine C_done (by kernel_rfl) ?_
     first
       | (have e : putE key cl l = (l.take (searchN l.length (geAt l key)) ++ ([cl] ++ l.drop ((searchN l.length (geAt l key)) + 1)), 0, 0, some y) := by unfold putE; rw [hit]; rfl
          rw [e] at hret
          exact hret (Res_tmps Try.results45 rfl rfl) ⟨adZ, cZ, some (b28, o28), rfl, rfl, rfl⟩)
       | (have hit : hitAt l key = none := by
            unfold hitAt neAt
            first | (rw [hy]; exact if_neg h25) | rw [List.getElem?_eq_none (by omega)]
          have e : putE key cl l = (l.take (searchN l.length (geAt l key)) ++ ([cl] ++ l.drop (searchN l.length (geAt l key))), 1, 0, none) := by unfold putE; rw [hit]; rfl
          rw [e] at hret
          exact hret (Res_tmps Try.results45 rfl rfl) ⟨adZ, cZ, none, rfl, rfl, rfl⟩)
    ·refine S_y rfl rfl rfl (Y_ld u79 rfl rfl rfl) ?_
     refine S_nil ?_
     refine C_firstw (i := 7) (W := 7936) (by kernel_rfl) rfl rfl rfl rfl (Y_resliceW rfl u79 ti83 rfl rfl (by repeat constructor) rfl ⟨_, rfl⟩ rfl (by omega) (by omega) (by omega)) ?_
     rintro _ _ ⟨ad47, c47, rfl, rfl⟩
     rw [show (l.drop (((searchN l.length (geAt l key)) : Int) : Int).toNat).take ((l.length : Int).toNat - (((searchN l.length (geAt l key)) : Int) : Int).toNat) = l.drop ((searchN l.length (geAt l key))) by rw [show (((searchN l.length (geAt l key)) : Int) : Int).toNat = (searchN l.length (geAt l key)) by omega]; exact List.take_of_length_le (by simp)]
     refine C_one (i := 4) (by kernel_rfl) rfl ?_
     refine S_lit elCell [cl] rfl rfl rfl rfl u79 ti83 rfl rfl rfl rfl rfl (by decide) (fun ad44 c44 => ?_)
     refine S_pub (by repeat constructor) ?_
     refine S_nil ?_
     refine C_one (i := 8) (by kernel_rfl) rfl ?_
     refine S_lit (elSl Cell) [(ad42, c42, l.take (searchN l.length (geAt l key))), (ad44, c44, [cl]), (ad47, c47, l.drop ((searchN l.length (geAt l key))))] rfl rfl rfl rfl u129 ti79 rfl rfl rfl rfl rfl (by decide) (fun ad48 c48 => ?_)
     refine S_pub (by repeat constructor) ?_
     refine S_sls0 elCell ?_
     refine S_sls (a := ad47) (c := c47) (ys := l.drop ((searchN l.length (geAt l key)))) (by repeat constructor) (xs := []) (by repeat constructor) ?_
     refine S_sls (a := ad44) (c := c44) (ys := [cl]) (by repeat constructor) (xs := [(ad47, c47, l.drop ((searchN l.length (geAt l key))))]) (by repeat constructor) ?_
     refine S_sls (a := ad42) (c := c42) (ys := l.take (searchN l.length (geAt l key))) (by repeat constructor) (xs := [(ad44, c44, [cl]), (ad47, c47, l.drop ((searchN l.length (geAt l key))))]) (by repeat constructor) ?_
     refine S_nil ?_
     refine C_one (i := 9) (by kernel_rfl) rfl ?_
     refine S_enter rfl rfl rfl (E_fn rfl rfl) (concat_ok (xs := [(ad42, c42, l.take (searchN l.length (geAt l key))), (ad44, c44, [cl]), (ad47, c47, l.drop ((searchN l.length (geAt l key))))]) (by simp) (by simp [catS]; omega)) ?_
     rintro _ _ _ ⟨adZ, cZ, rfl, rfl, rfl⟩
     try dsimp only [List.cons_append, List.nil_append]
     rw [show catS [(ad42, c42, l.take (searchN l.length (geAt l key))), (ad44, c44, [cl]), (ad47, c47, l.drop ((searchN l.length (geAt l key))))] = l.take (searchN l.length (geAt l key)) ++ ([cl] ++ l.drop ((searchN l.length (geAt l key)))) by simp [catS]]
     refine S_nil ?_
     refine C_firstp (i := 10) (W := 6144) (by kernel_rfl) rfl rfl rfl rfl rfl ?_
     refine C_firstp (i := 11) (W := 4096) (by kernel_rfl) rfl rfl rfl rfl rfl ?_
     refine C_firstp (i := 12) (W := 0) (by kernel_rfl) rfl rfl rfl rfl rfl ?_
     refine C_done (by kernel_rfl) ?_
     first
       | (have e : putE key cl l = (l.take (searchN l.length (geAt l key)) ++ ([cl] ++ l.drop ((searchN l.length (geAt l key)) + 1)), 0, 0, some y) := by unfold putE; rw [hit]; rfl
          rw [e] at hret
          exact hret (Res_tmps Try.results45 rfl rfl) ⟨adZ, cZ, some (b28, o28), rfl, rfl, rfl⟩)
       | (have hit : hitAt l key = none := by
            unfold hitAt neAt
            first | (rw [hy]; exact if_neg h25) | rw [List.getElem?_eq_none (by omega)]
          have e : putE key cl l = (l.take (searchN l.length (geAt l key)) ++ ([cl] ++ l.drop (searchN l.length (geAt l key))), 1, 0, none) := by unfold putE; rw [hit]; rfl
          rw [e] at hret
          exact hret (Res_tmps Try.results45 rfl rfl) ⟨adZ, cZ, none, rfl, rfl, rfl⟩)
   ·refine S_lit elCell [cl] rfl rfl rfl rfl u79 ti83 rfl rfl rfl rfl rfl (by decide) (fun ad44 c44 => ?_)
    refine S_pub (by repeat constructor) ?_
    refine S_nil ?_
    refine C_first (i := 0) (W := 7940) (by kernel_rfl) rfl rfl rfl rfl (Y_ld u79 rfl rfl rfl) ?_
    refine C_firstx (i := 2) (W := 7936) (by kernel_rfl) rfl rfl rfl rfl (Y_reslice rfl u79 ti83 rfl rfl (by repeat constructor) rfl rfl ⟨_, rfl⟩ (by decide) (by omega) (by omega)) ?_
    rintro _ _ ⟨ad42, c42, rfl, rfl⟩
    rw [show (l.drop (0 : Int).toNat).take (((searchN l.length (geAt l key)) : Int).toNat - (0 : Int).toNat) = l.take (searchN l.length (geAt l key)) by simp]
    refine C_first (i := 5) (W := 8064) (by kernel_rfl) rfl rfl rfl rfl (Y_ld u79 rfl rfl rfl) ?_
    refine C_firstx (i := 7) (W := 7936) (by kernel_rfl) rfl rfl rfl rfl (Y_reslice rfl u79 ti83 rfl rfl (by repeat constructor) rfl ⟨_, rfl⟩ rfl (by omega) (by omega) (by omega)) ?_
    rintro _ _ ⟨ad47, c47, rfl, rfl⟩
    rw [show (l.drop (((searchN l.length (geAt l key)) : Int) : Int).toNat).take ((l.length : Int).toNat - (((searchN l.length (geAt l key)) : Int) : Int).toNat) = l.drop ((searchN l.length (geAt l key))) by rw [show (((searchN l.length (geAt l key)) : Int) : Int).toNat = (searchN l.length (geAt l key)) by omega]; exact List.take_of_length_le (by simp)]
    refine C_one (i := 8) (by kernel_rfl) rfl ?_
    refine S_lit (elSl Cell) [(ad42, c42, l.take (searchN l.length (geAt l key))), (ad44, c44, [cl]), (ad47, c47, l.drop ((searchN l.length (geAt l key))))] rfl rfl rfl rfl u129 ti79 rfl rfl rfl rfl rfl (by decide) (fun ad48 c48 => ?_)
    refine S_pub (by repeat constructor) ?_
    refine S_sls0 elCell ?_
    refine S_sls (a := ad47) (c := c47) (ys := l.drop ((searchN l.length (geAt l key)))) (by repeat constructor) (xs := []) (by repeat constructor) ?_
    refine S_sls (a := ad44) (c := c44) (ys := [cl]) (by repeat constructor) (xs := [(ad47, c47, l.drop ((searchN l.length (geAt l key))))]) (by repeat constructor) ?_
    refine S_sls (a := ad42) (c := c42) (ys := l.take (searchN l.length (geAt l key))) (by repeat constructor) (xs := [(ad44, c44, [cl]), (ad47, c47, l.drop ((searchN l.length (geAt l key))))]) (by repeat constructor) ?_
    refine S_nil ?_
    refine C_one (i := 9) (by kernel_rfl) rfl ?_
    refine S_enter rfl rfl rfl (E_fn rfl rfl) (concat_ok (xs := [(ad42, c42, l.take (searchN l.length (geAt l key))), (ad44, c44, [cl]), (ad47, c47, l.drop ((searchN l.length (geAt l key))))]) (by simp) (by simp [catS]; omega)) ?_
    rintro _ _ _ ⟨adZ, cZ, rfl, rfl, rfl⟩
    try dsimp only [List.cons_append, List.nil_append]
    rw [show catS [(ad42, c42, l.take (searchN l.length (geAt l key))), (ad44, c44, [cl]), (ad47, c47, l.drop ((searchN l.length (geAt l key))))] = l.take (searchN l.length (geAt l key)) ++ ([cl] ++ l.drop ((searchN l.length (geAt l key)))) by simp [catS]]
    refine S_nil ?_
    refine C_firstp (i := 10) (W := 6144) (by kernel_rfl) rfl rfl rfl rfl rfl ?_
    refine C_firstp (i := 11) (W := 4096) (by kernel_rfl) rfl rfl rfl rfl rfl ?_
    refine C_firstp (i := 12) (W := 0) (by kernel_rfl) rfl rfl rfl rfl rfl ?_
    refine C_done (by kernel_rfl) ?_
    first
      | (have e : putE key cl l = (l.take (searchN l.length (geAt l key)) ++ ([cl] ++ l.drop ((searchN l.length (geAt l key)) + 1)), 0, 0, some y) := by unfold putE; rw [hit]; rfl
         rw [e] at hret
         exact hret (Res_tmps Try.results45 rfl rfl) ⟨adZ, cZ, some (b28, o28), rfl, rfl, rfl⟩)
      | (have hit : hitAt l key = none := by
           unfold hitAt neAt
           first | (rw [hy]; exact if_neg h25) | rw [List.getElem?_eq_none (by omega)]
         have e : putE key cl l = (l.take (searchN l.length (geAt l key)) ++ ([cl] ++ l.drop (searchN l.length (geAt l key))), 1, 0, none) := by unfold putE; rw [hit]; rfl
         rw [e] at hret
         exact hret (Res_tmps Try.results45 rfl rfl) ⟨adZ, cZ, none, rfl, rfl, rfl⟩)
   ·refine S_y rfl rfl rfl (Y_ld u79 rfl rfl rfl) ?_
    refine S_nil ?_
    refine C_firstw (i := 7) (W := 7936) (by kernel_rfl) rfl rfl rfl rfl (Y_resliceW rfl u79 ti83 rfl rfl (by repeat constructor) rfl ⟨_, rfl⟩ rfl (by omega) (by omega) (by omega)) ?_
    rintro _ _ ⟨ad47, c47, rfl, rfl⟩
    rw [show (l.drop (((searchN l.length (geAt l key)) : Int) : Int).toNat).take ((l.length : Int).toNat - (((searchN l.length (geAt l key)) : Int) : Int).toNat) = l.drop ((searchN l.length (geAt l key))) by rw [show (((searchN l.length (geAt l key)) : Int) : Int).toNat = (searchN l.length (geAt l key)) by omega]; exact List.take_of_length_le (by simp)]
    refine C_two (i := 0) (j := 4) (by kernel_rfl) rfl rfl ?_ ?_
    ·refine S_y rfl rfl rfl (Y_ld u79 rfl rfl rfl) ?_
     refine S_nil ?_
     refine C_firstw (i := 2) (W := 7936) (by kernel_rfl) rfl rfl rfl rfl (Y_resliceW rfl u79 ti83 rfl rfl (by repeat constructor) rfl rfl ⟨_, rfl⟩ (by decide) (by omega) (by omega)) ?_
     rintro _ _ ⟨ad42, c42, rfl, rfl⟩
     rw [show (l.drop (0 : Int).toNat).take (((searchN l.length (geAt l key)) : Int).toNat - (0 : Int).toNat) = l.take (searchN l.length (geAt l key)) by simp]
     refine C_one (i := 4) (by kernel_rfl) rfl ?_
     refine S_lit elCell [cl] rfl rfl rfl rfl u79 ti83 rfl rfl rfl rfl rfl (by decide) (fun ad44 c44 => ?_)
     refine S_pub (by repeat constructor) ?_
     refine S_nil ?_
     refine C_one (i := 8) (by kernel_rfl) rfl ?_
     refine S_lit (elSl Cell) [(ad42, c42, l.take (searchN l.length (geAt l key))), (ad44, c44, [cl]), (ad47, c47, l.drop ((searchN l.length (geAt l key))))] rfl rfl rfl rfl u129 ti79 rfl rfl rfl rfl rfl (by decide) (fun ad48 c48 => ?_)
     refine S_pub (by repeat constructor) ?_
     refine S_sls0 elCell ?_
     refine S_sls (a := ad47) (c := c47) (ys := l.drop ((searchN l.length (geAt l key)))) (by repeat constructor) (xs := []) (by repeat constructor) ?_
     refine S_sls (a := ad44) (c := c44) (ys := [cl]) (by repeat constructor) (xs := [(ad47, c47, l.drop ((searchN l.length (geAt l key))))]) (by repeat constructor) ?_
     refine S_sls (a := ad42) (c := c42) (ys := l.take (searchN l.length (geAt l key))) (by repeat constructor) (xs := [(ad44, c44, [cl]), (ad47, c47, l.drop ((searchN l.length (geAt l key))))]) (by repeat constructor) ?_
     refine S_nil ?_
     refine C_one (i := 9) (by kernel_rfl) rfl ?_
     refine S_enter rfl rfl rfl (E_fn rfl rfl) (concat_ok (xs := [(ad42, c42, l.take (searchN l.length (geAt l key))), (ad44, c44, [cl]), (ad47, c47, l.drop ((searchN l.length (geAt l key))))]) (by simp) (by simp [catS]; omega)) ?_
     rintro _ _ _ ⟨adZ, cZ, rfl, rfl, rfl⟩
     try dsimp only [List.cons_append, List.nil_append]
     rw [show catS [(ad42, c42, l.take (searchN l.length (geAt l key))), (ad44, c44, [cl]), (ad47, c47, l.drop ((searchN l.length (geAt l key))))] = l.take (searchN l.length (geAt l key)) ++ ([cl] ++ l.drop ((searchN l.length (geAt l key)))) by simp [catS]]
     refine S_nil ?_
     refine C_firstp (i := 10) (W := 6144) (by kernel_rfl) rfl rfl rfl rfl rfl ?_
     refine C_firstp (i := 11) (W := 4096) (by kernel_rfl) rfl rfl rfl rfl rfl ?_
     refine C_firstp (i := 12) (W := 0) (by kernel_rfl) rfl rfl rfl rfl rfl ?_
     refine C_done (by kernel_rfl) ?_
     first
       | (have e : putE key cl l = (l.take (searchN l.length (geAt l key)) ++ ([cl] ++ l.drop ((searchN l.length (geAt l key)) + 1)), 0, 0, some y) := by unfold putE; rw [hit]; rfl
          rw [e] at hret
          exact hret (Res_tmps Try.results45 rfl rfl) ⟨adZ, cZ, some (b28, o28), rfl, rfl, rfl⟩)
       | (have hit : hitAt l key = none := by
            unfold hitAt neAt
            first | (rw [hy]; exact if_neg h25) | rw [List.getElem?_eq_none (by omega)]
          have e : putE key cl l = (l.take (searchN l.length (geAt l key)) ++ ([cl] ++ l.drop (searchN l.length (geAt l key))), 1, 0, none) := by unfold putE; rw [hit]; rfl
          rw [e] at hret
          exact hret (Res_tmps Try.results45 rfl rfl) ⟨adZ, cZ, none, rfl, rfl, rfl⟩)
    ·refine S_lit elCell [cl] rfl rfl rfl rfl u79 ti83 rfl rfl rfl rfl rfl (by decide) (fun ad44 c44 => ?_)
     refine S_pub (by repeat constructor) ?_
     refine S_nil ?_
     refine C_first (i := 0) (W := 7940) (by kernel_rfl) rfl rfl rfl rfl (Y_ld u79 rfl rfl rfl) ?_
     refine C_firstx (i := 2) (W := 7936) (by kernel_rfl) rfl rfl rfl rfl (Y_reslice rfl u79 ti83 rfl rfl (by repeat constructor) rfl rfl ⟨_, rfl⟩ (by decide) (by omega) (by omega)) ?_
     rintro _ _ ⟨ad42, c42, rfl, rfl⟩
     rw [show (l.drop (0 : Int).toNat).take (((searchN l.length (geAt l key)) : Int).toNat - (0 : Int).toNat) = l.take (searchN l.length (geAt l key)) by simp]
     refine C_one (i := 8) (by kernel_rfl) rfl ?_
     refine S_lit (elSl Cell) [(ad42, c42, l.take (searchN l.length (geAt l key))), (ad44, c44, [cl]), (ad47, c47, l.drop ((searchN l.length (geAt l key))))] rfl rfl rfl rfl u129 ti79 rfl rfl rfl rfl rfl (by decide) (fun ad48 c48 => ?_)
     refine S_pub (by repeat constructor) ?_
     refine S_sls0 elCell ?_
     refine S_sls (a := ad47) (c := c47) (ys := l.drop ((searchN l.length (geAt l key)))) (by repeat constructor) (xs := []) (by repeat constructor) ?_
     refine S_sls (a := ad44) (c := c44) (ys := [cl]) (by repeat constructor) (xs := [(ad47, c47, l.drop ((searchN l.length (geAt l key))))]) (by repeat constructor) ?_
     refine S_sls (a := ad42) (c := c42) (ys := l.take (searchN l.length (geAt l key))) (by repeat constructor) (xs := [(ad44, c44, [cl]), (ad47, c47, l.drop ((searchN l.length (geAt l key))))]) (by repeat constructor) ?_
     refine S_nil ?_
     refine C_one (i := 9) (by kernel_rfl) rfl ?_
     refine S_enter rfl rfl rfl (E_fn rfl rfl) (concat_ok (xs := [(ad42, c42, l.take (searchN l.length (geAt l key))), (ad44, c44, [cl]), (ad47, c47, l.drop ((searchN l.length (geAt l key))))]) (by simp) (by simp [catS]; omega)) ?_
     rintro _ _ _ ⟨adZ, cZ, rfl, rfl, rfl⟩
     try dsimp only [List.cons_append, List.nil_append]
     rw [show catS [(ad42, c42, l.take (searchN l.length (geAt l key))), (ad44, c44, [cl]), (ad47, c47, l.drop ((searchN l.length (geAt l key))))] = l.take (searchN l.length (geAt l key)) ++ ([cl] ++ l.drop ((searchN l.length (geAt l key)))) by simp [catS]]
     refine S_nil ?_
     refine C_firstp (i := 10) (W := 6144) (by kernel_rfl) rfl rfl rfl rfl rfl ?_
     refine C_firstp (i := 11) (W := 4096) (by kernel_rfl) rfl rfl rfl rfl rfl ?_
     refine C_firstp (i := 12) (W := 0) (by kernel_rfl) rfl rfl rfl rfl rfl ?_
     refine C_done (by kernel_rfl) ?_
     first
       | (have e : putE key cl l = (l.take (searchN l.length (geAt l key)) ++ ([cl] ++ l.drop ((searchN l.length (geAt l key)) + 1)), 0, 0, some y) := by unfold putE; rw [hit]; rfl
          rw [e] at hret
          exact hret (Res_tmps Try.results45 rfl rfl) ⟨adZ, cZ, some (b28, o28), rfl, rfl, rfl⟩)
       | (have hit : hitAt l key = none := by
            unfold hitAt neAt
            first | (rw [hy]; exact if_neg h25) | rw [List.getElem?_eq_none (by omega)]
          have e : putE key cl l = (l.take (searchN l.length (geAt l key)) ++ ([cl] ++ l.drop (searchN l.length (geAt l key))), 1, 0, none) := by unfold putE; rw [hit]; rfl
          rw [e] at hret
          exact hret (Res_tmps Try.results45 rfl rfl) ⟨adZ, cZ, none, rfl, rfl, rfl⟩)
 ·refine C_firstoff (i := 5) (W := 7040) (by kernel_rfl) rfl rfl rfl rfl ?_
  refine C_firstoff (i := 6) (W := 7040) (by kernel_rfl) rfl rfl rfl rfl ?_
  refine C_firstoff (i := 7) (W := 6912) (by kernel_rfl) rfl rfl rfl rfl ?_
  refine C_firstoff (i := 8) (W := 6656) (by kernel_rfl) rfl rfl rfl rfl ?_
  refine C_firstoff (i := 9) (W := 6144) (by kernel_rfl) rfl rfl rfl rfl ?_
  refine C_firstoff (i := 10) (W := 6144) (by kernel_rfl) rfl rfl rfl rfl ?_
  refine C_firstoff (i := 11) (W := 4096) (by kernel_rfl) rfl rfl rfl rfl ?_
  refine C_firstp (i := 12) (W := 0) (by kernel_rfl) rfl rfl rfl rfl rfl ?_
  refine C_done (by kernel_rfl) ?_
  refine C_cond_f rfl ?_
  refine C_skip <| C_seq ?_
  refine C_draw rfl ?_
  refine C_firstp (i := 1) (W := 7940) (by kernel_rfl) rfl rfl rfl rfl rfl ?_
  refine C_first (i := 3) (W := 7952) (by kernel_rfl) rfl rfl rfl rfl (Y_ldS Try.underlying83 rfl ti83 rfl rfl) ?_
  refine C_firstp (i := 6) (W := 8064) (by kernel_rfl) rfl rfl rfl rfl rfl ?_
  refine C_three (i := 0) (j := 4) (l := 5) (by kernel_rfl) rfl rfl rfl ?_ ?_ ?_
  ·refine S_y rfl rfl rfl (Y_ld u79 rfl rfl rfl) ?_
   refine S_nil ?_
   refine C_firstw (i := 2) (W := 7936) (by kernel_rfl) rfl rfl rfl rfl (Y_resliceW rfl u79 ti83 rfl rfl (by repeat constructor) rfl rfl ⟨_, rfl⟩ (by decide) (by omega) (by omega)) ?_
   rintro _ _ ⟨ad42, c42, rfl, rfl⟩
   rw [show (l.drop (0 : Int).toNat).take (((searchN l.length (geAt l key)) : Int).toNat - (0 : Int).toNat) = l.take (searchN l.length (geAt l key)) by simp]
   refine C_two (i := 4) (j := 5) (by kernel_rfl) rfl rfl ?_ ?_
   ·refine S_lit elCell [cl] rfl rfl rfl rfl u79 ti83 rfl rfl rfl rfl rfl (by decide) (fun ad44 c44 => ?_)
    refine S_pub (by repeat constructor) ?_
    refine S_nil ?_
    refine C_first (i := 5) (W := 8064) (by kernel_rfl) rfl rfl rfl rfl (Y_ld u79 rfl rfl rfl) ?_
    refine C_firstx (i := 7) (W := 7936) (by kernel_rfl) rfl rfl rfl rfl (Y_reslice rfl u79 ti83 rfl rfl (by repeat constructor) rfl ⟨_, rfl⟩ rfl (by omega) (by omega) (by omega)) ?_
    rintro _ _ ⟨ad47, c47, rfl, rfl⟩
    rw [show (l.drop (((searchN l.length (geAt l key)) : Int) : Int).toNat).take ((l.length : Int).toNat - (((searchN l.length (geAt l key)) : Int) : Int).toNat) = l.drop ((searchN l.length (geAt l key))) by rw [show (((searchN l.length (geAt l key)) : Int) : Int).toNat = (searchN l.length (geAt l key)) by omega]; exact List.take_of_length_le (by simp)]
    refine C_one (i := 8) (by kernel_rfl) rfl ?_
    refine S_lit (elSl Cell) [(ad42, c42, l.take (searchN l.length (geAt l key))), (ad44, c44, [cl]), (ad47, c47, l.drop ((searchN l.length (geAt l key))))] rfl rfl rfl rfl u129 ti79 rfl rfl rfl rfl rfl (by decide) (fun ad48 c48 => ?_)
    refine S_pub (by repeat constructor) ?_
    refine S_sls0 elCell ?_
    refine S_sls (a := ad47) (c := c47) (ys := l.drop ((searchN l.length (geAt l key)))) (by repeat constructor) (xs := []) (by repeat constructor) ?_
    refine S_sls (a := ad44) (c := c44) (ys := [cl]) (by repeat constructor) (xs := [(ad47, c47, l.drop ((searchN l.length (geAt l key))))]) (by repeat constructor) ?_
    refine S_sls (a := ad42) (c := c42) (ys := l.take (searchN l.length (geAt l key))) (by repeat constructor) (xs := [(ad44, c44, [cl]), (ad47, c47, l.drop ((searchN l.length (geAt l key))))]) (by repeat constructor) ?_
    refine S_nil ?_
    refine C_one (i := 9) (by kernel_rfl) rfl ?_
    refine S_enter rfl rfl rfl (E_fn rfl rfl) (concat_ok (xs := [(ad42, c42, l.take (searchN l.length (geAt l key))), (ad44, c44, [cl]), (ad47, c47, l.drop ((searchN l.length (geAt l key))))]) (by simp) (by simp [catS]; omega)) ?_
    rintro _ _ _ ⟨adZ, cZ, rfl, rfl, rfl⟩
    try dsimp only [List.cons_append, List.nil_append]
    rw [show catS [(ad42, c42, l.take (searchN l.length (geAt l key))), (ad44, c44, [cl]), (ad47, c47, l.drop ((searchN l.length (geAt l key))))] = l.take (searchN l.length (geAt l key)) ++ ([cl] ++ l.drop ((searchN l.length (geAt l key)))) by simp [catS]]
    refine S_nil ?_
    refine C_firstp (i := 10) (W := 6144) (by kernel_rfl) rfl rfl rfl rfl rfl ?_
    refine C_firstp (i := 11) (W := 4096) (by kernel_rfl) rfl rfl rfl rfl rfl ?_
    refine C_firstp (i := 12) (W := 0) (by kernel_rfl) rfl rfl rfl rfl rfl ?_
    refine C_done (by kernel_rfl) ?_
    first
      | (have e : putE key cl l = (l.take (searchN l.length (geAt l key)) ++ ([cl] ++ l.drop ((searchN l.length (geAt l key)) + 1)), 0, 0, some y) := by unfold putE; rw [hit]; rfl
         rw [e] at hret
         exact hret (Res_tmps Try.results45 rfl rfl) ⟨adZ, cZ, some (b28, o28), rfl, rfl, rfl⟩)
      | (have hit : hitAt l key = none := by
           unfold hitAt neAt
           first | (rw [hy]; exact if_neg h25) | rw [List.getElem?_eq_none (by omega)]
         have e : putE key cl l = (l.take (searchN l.length (geAt l key)) ++ ([cl] ++ l.drop (searchN l.length (geAt l key))), 1, 0, none) := by unfold putE; rw [hit]; rfl
         rw [e] at hret
         exact hret (Res_tmps Try.results45 rfl rfl) ⟨adZ, cZ, none, rfl, rfl, rfl⟩)
   ·refine S_y rfl rfl rfl (Y_ld u79 rfl rfl rfl) ?_
    refine S_nil ?_
    refine C_firstw (i := 7) (W := 7936) (by kernel_rfl) rfl rfl rfl rfl (Y_resliceW rfl u79 ti83 rfl rfl (by repeat constructor) rfl ⟨_, rfl⟩ rfl (by omega) (by omega) (by omega)) ?_
    rintro _ _ ⟨ad47, c47, rfl, rfl⟩
    rw [show (l.drop (((searchN l.length (geAt l key)) : Int) : Int).toNat).take ((l.length : Int).toNat - (((searchN l.length (geAt l key)) : Int) : Int).toNat) = l.drop ((searchN l.length (geAt l key))) by rw [show (((searchN l.length (geAt l key)) : Int) : Int).toNat = (searchN l.length (geAt l key)) by omega]; exact List.take_of_length_le (by simp)]
    refine C_one (i := 4) (by kernel_rfl) rfl ?_
    refine S_lit elCell [cl] rfl rfl rfl rfl u79 ti83 rfl rfl rfl rfl rfl (by decide) (fun ad44 c44 => ?_)
    refine S_pub (by repeat constructor) ?_
    refine S_nil ?_
    refine C_one (i := 8) (by kernel_rfl) rfl ?_
    refine S_lit (elSl Cell) [(ad42, c42, l.take (searchN l.length (geAt l key))), (ad44, c44, [cl]), (ad47, c47, l.drop ((searchN l.length (geAt l key))))] rfl rfl rfl rfl u129 ti79 rfl rfl rfl rfl rfl (by decide) (fun ad48 c48 => ?_)
    refine S_pub (by repeat constructor) ?_
    refine S_sls0 elCell ?_
    refine S_sls (a := ad47) (c := c47) (ys := l.drop ((searchN l.length (geAt l key)))) (by repeat constructor) (xs := []) (by repeat constructor) ?_
    refine S_sls (a := ad44) (c := c44) (ys := [cl]) (by repeat constructor) (xs := [(ad47, c47, l.drop ((searchN l.length (geAt l key))))]) (by repeat constructor) ?_
    refine S_sls (a := ad42) (c := c42) (ys := l.take (searchN l.length (geAt l key))) (by repeat constructor) (xs := [(ad44, c44, [cl]), (ad47, c47, l.drop ((searchN l.length (geAt l key))))]) (by repeat constructor) ?_
    refine S_nil ?_
    refine C_one (i := 9) (by kernel_rfl) rfl ?_
    refine S_enter rfl rfl rfl (E_fn rfl rfl) (concat_ok (xs := [(ad42, c42, l.take (searchN l.length (geAt l key))), (ad44, c44, [cl]), (ad47, c47, l.drop ((searchN l.length (geAt l key))))]) (by simp) (by simp [catS]; omega)) ?_
    rintro _ _ _ ⟨adZ, cZ, rfl, rfl, rfl⟩
    try dsimp only [List.cons_append, List.nil_append]
    rw [show catS [(ad42, c42, l.take (searchN l.length (geAt l key))), (ad44, c44, [cl]), (ad47, c47, l.drop ((searchN l.length (geAt l key))))] = l.take (searchN l.length (geAt l key)) ++ ([cl] ++ l.drop ((searchN l.length (geAt l key)))) by simp [catS]]
    refine S_nil ?_
    refine C_firstp (i := 10) (W := 6144) (by kernel_rfl) rfl rfl rfl rfl rfl ?_
    refine C_firstp (i := 11) (W := 4096) (by kernel_rfl) rfl rfl rfl rfl rfl ?_
    refine C_firstp (i := 12) (W := 0) (by kernel_rfl) rfl rfl rfl rfl rfl ?_
    refine C_done (by kernel_rfl) ?_
    first
      | (have e : putE key cl l = (l.take (searchN l.length (geAt l key)) ++ ([cl] ++ l.drop ((searchN l.length (geAt l key)) + 1)), 0, 0, some y) := by unfold putE; rw [hit]; rfl
         rw [e] at hret
         exact hret (Res_tmps Try.results45 rfl rfl) ⟨adZ, cZ, some (b28, o28), rfl, rfl, rfl⟩)
      | (have hit : hitAt l key = none := by
           unfold hitAt neAt
           first | (rw [hy]; exact if_neg h25) | rw [List.getElem?_eq_none (by omega)]
         have e : putE key cl l = (l.take (searchN l.length (geAt l key)) ++ ([cl] ++ l.drop (searchN l.length (geAt l key))), 1, 0, none) := by unfold putE; rw [hit]; rfl
         rw [e] at hret
         exact hret (Res_tmps Try.results45 rfl rfl) ⟨adZ, cZ, none, rfl, rfl, rfl⟩)
  ·refine S_lit elCell [cl] rfl rfl rfl rfl u79 ti83 rfl rfl rfl rfl rfl (by decide) (fun ad44 c44 => ?_)
   refine S_pub (by repeat constructor) ?_
   refine S_nil ?_
   refine C_first (i := 0) (W := 7940) (by kernel_rfl) rfl rfl rfl rfl (Y_ld u79 rfl rfl rfl) ?_
   refine C_firstx (i := 2) (W := 7936) (by kernel_rfl) rfl rfl rfl rfl (Y_reslice rfl u79 ti83 rfl rfl (by repeat constructor) rfl rfl ⟨_, rfl⟩ (by decide) (by omega) (by omega)) ?_
   rintro _ _ ⟨ad42, c42, rfl, rfl⟩
   rw [show (l.drop (0 : Int).toNat).take (((searchN l.length (geAt l key)) : Int).toNat - (0 : Int).toNat) = l.take (searchN l.length (geAt l key)) by simp]
   refine C_first (i := 5) (W := 8064) (by kernel_rfl) rfl rfl rfl rfl (Y_ld u79 rfl rfl rfl) ?_
   refine C_firstx (i := 7) (W := 7936) (by kernel_rfl) rfl rfl rfl rfl (Y_reslice rfl u79 ti83 rfl rfl (by repeat constructor) rfl ⟨_, rfl⟩ rfl (by omega) (by omega) (by omega)) ?_
   rintro _ _ ⟨ad47, c47, rfl, rfl⟩
   rw [show (l.drop (((searchN l.length (geAt l key)) : Int) : Int).toNat).take ((l.length : Int).toNat - (((searchN l.length (geAt l key)) : Int) : Int).toNat) = l.drop ((searchN l.length (geAt l key))) by rw [show (((searchN l.length (geAt l key)) : Int) : Int).toNat = (searchN l.length (geAt l key)) by omega]; exact List.take_of_length_le (by simp)]
   refine C_one (i := 8) (by kernel_rfl) rfl ?_
   refine S_lit (elSl Cell) [(ad42, c42, l.take (searchN l.length (geAt l key))), (ad44, c44, [cl]), (ad47, c47, l.drop ((searchN l.length (geAt l key))))] rfl rfl rfl rfl u129 ti79 rfl rfl rfl rfl rfl (by decide) (fun ad48 c48 => ?_)
   refine S_pub (by repeat constructor) ?_
   refine S_sls0 elCell ?_
   refine S_sls (a := ad47) (c := c47) (ys := l.drop ((searchN l.length (geAt l key)))) (by repeat constructor) (xs := []) (by repeat constructor) ?_
   refine S_sls (a := ad44) (c := c44) (ys := [cl]) (by repeat constructor) (xs := [(ad47, c47, l.drop ((searchN l.length (geAt l key))))]) (by repeat constructor) ?_
   refine S_sls (a := ad42) (c := c42) (ys := l.take (searchN l.length (geAt l key))) (by repeat constructor) (xs := [(ad44, c44, [cl]), (ad47, c47, l.drop ((searchN l.length (geAt l key))))]) (by repeat constructor) ?_
   refine S_nil ?_
   refine C_one (i := 9) (by kernel_rfl) rfl ?_
   refine S_enter rfl rfl rfl (E_fn rfl rfl) (concat_ok (xs := [(ad42, c42, l.take (searchN l.length (geAt l key))), (ad44, c44, [cl]), (ad47, c47, l.drop ((searchN l.length (geAt l key))))]) (by simp) (by simp [catS]; omega)) ?_
   rintro _ _ _ ⟨adZ, cZ, rfl, rfl, rfl⟩
   try dsimp only [List.cons_append, List.nil_append]
   rw [show catS [(ad42, c42, l.take (searchN l.length (geAt l key))), (ad44, c44, [cl]), (ad47, c47, l.drop ((searchN l.length (geAt l key))))] = l.take (searchN l.length (geAt l key)) ++ ([cl] ++ l.drop ((searchN l.length (geAt l key)))) by simp [catS]]
   refine S_nil ?_
   refine C_firstp (i := 10) (W := 6144) (by kernel_rfl) rfl rfl rfl rfl rfl ?_
   refine C_firstp (i := 11) (W := 4096) (by kernel_rfl) rfl rfl rfl rfl rfl ?_
   refine C_firstp (i := 12) (W := 0) (by kernel_rfl) rfl rfl rfl rfl rfl ?_
   refine C_done (by kernel_rfl) ?_
   first
     | (have e : putE key cl l = (l.take (searchN l.length (geAt l key)) ++ ([cl] ++ l.drop ((searchN l.length (geAt l key)) + 1)), 0, 0, some y) := by unfold putE; rw [hit]; rfl
        rw [e] at hret
        exact hret (Res_tmps Try.results45 rfl rfl) ⟨adZ, cZ, some (b28, o28), rfl, rfl, rfl⟩)
     | (have hit : hitAt l key = none := by
          unfold hitAt neAt
          first | (rw [hy]; exact if_neg h25) | rw [List.getElem?_eq_none (by omega)]
        have e : putE key cl l = (l.take (searchN l.length (geAt l key)) ++ ([cl] ++ l.drop (searchN l.length (geAt l key))), 1, 0, none) := by unfold putE; rw [hit]; rfl
        rw [e] at hret
        exact hret (Res_tmps Try.results45 rfl rfl) ⟨adZ, cZ, none, rfl, rfl, rfl⟩)
  ·refine S_y rfl rfl rfl (Y_ld u79 rfl rfl rfl) ?_
   refine S_nil ?_
   refine C_firstw (i := 7) (W := 7936) (by kernel_rfl) rfl rfl rfl rfl (Y_resliceW rfl u79 ti83 rfl rfl (by repeat constructor) rfl ⟨_, rfl⟩ rfl (by omega) (by omega) (by omega)) ?_
   rintro _ _ ⟨ad47, c47, rfl, rfl⟩
   rw [show (l.drop (((searchN l.length (geAt l key)) : Int) : Int).toNat).take ((l.length : Int).toNat - (((searchN l.length (geAt l key)) : Int) : Int).toNat) = l.drop ((searchN l.length (geAt l key))) by rw [show (((searchN l.length (geAt l key)) : Int) : Int).toNat = (searchN l.length (geAt l key)) by omega]; exact List.take_of_length_le (by simp)]
   refine C_two (i := 0) (j := 4) (by kernel_rfl) rfl rfl ?_ ?_
   ·refine S_y rfl rfl rfl (Y_ld u79 rfl rfl rfl) ?_
    refine S_nil ?_
    refine C_firstw (i := 2) (W := 7936) (by kernel_rfl) rfl rfl rfl rfl (Y_resliceW rfl u79 ti83 rfl rfl (by repeat constructor) rfl rfl ⟨_, rfl⟩ (by decide) (by omega) (by omega)) ?_
    rintro _ _ ⟨ad42, c42, rfl, rfl⟩
    rw [show (l.drop (0 : Int).toNat).take (((searchN l.length (geAt l key)) : Int).toNat - (0 : Int).toNat) = l.take (searchN l.length (geAt l key)) by simp]
    refine C_one (i := 4) (by kernel_rfl) rfl ?_
    refine S_lit elCell [cl] rfl rfl rfl rfl u79 ti83 rfl rfl rfl rfl rfl (by decide) (fun ad44 c44 => ?_)
    refine S_pub (by repeat constructor) ?_
    refine S_nil ?_
    refine C_one (i := 8) (by kernel_rfl) rfl ?_
    refine S_lit (elSl Cell) [(ad42, c42, l.take (searchN l.length (geAt l key))), (ad44, c44, [cl]), (ad47, c47, l.drop ((searchN l.length (geAt l key))))] rfl rfl rfl rfl u129 ti79 rfl rfl rfl rfl rfl (by decide) (fun ad48 c48 => ?_)
    refine S_pub (by repeat constructor) ?_
    refine S_sls0 elCell ?_
    refine S_sls (a := ad47) (c := c47) (ys := l.drop ((searchN l.length (geAt l key)))) (by repeat constructor) (xs := []) (by repeat constructor) ?_
    refine S_sls (a := ad44) (c := c44) (ys := [cl]) (by repeat constructor) (xs := [(ad47, c47, l.drop ((searchN l.length (geAt l key))))]) (by repeat constructor) ?_
    refine S_sls (a := ad42) (c := c42) (ys := l.take (searchN l.length (geAt l key))) (by repeat constructor) (xs := [(ad44, c44, [cl]), (ad47, c47, l.drop ((searchN l.length (geAt l key))))]) (by repeat constructor) ?_
    refine S_nil ?_
    refine C_one (i := 9) (by kernel_rfl) rfl ?_
    refine S_enter rfl rfl rfl (E_fn rfl rfl) (concat_ok (xs := [(ad42, c42, l.take (searchN l.length (geAt l key))), (ad44, c44, [cl]), (ad47, c47, l.drop ((searchN l.length (geAt l key))))]) (by simp) (by simp [catS]; omega)) ?_
    rintro _ _ _ ⟨adZ, cZ, rfl, rfl, rfl⟩
    try dsimp only [List.cons_append, List.nil_append]
    rw [show catS [(ad42, c42, l.take (searchN l.length (geAt l key))), (ad44, c44, [cl]), (ad47, c47, l.drop ((searchN l.length (geAt l key))))] = l.take (searchN l.length (geAt l key)) ++ ([cl] ++ l.drop ((searchN l.length (geAt l key)))) by simp [catS]]
    refine S_nil ?_
    refine C_firstp (i := 10) (W := 6144) (by kernel_rfl) rfl rfl rfl rfl rfl ?_
    refine C_firstp (i := 11) (W := 4096) (by kernel_rfl) rfl rfl rfl rfl rfl ?_
    refine C_firstp (i := 12) (W := 0) (by kernel_rfl) rfl rfl rfl rfl rfl ?_
    refine C_done (by kernel_rfl) ?_
    first
      | (have e : putE key cl l = (l.take (searchN l.length (geAt l key)) ++ ([cl] ++ l.drop ((searchN l.length (geAt l key)) + 1)), 0, 0, some y) := by unfold putE; rw [hit]; rfl
         rw [e] at hret
         exact hret (Res_tmps Try.results45 rfl rfl) ⟨adZ, cZ, some (b28, o28), rfl, rfl, rfl⟩)
      | (have hit : hitAt l key = none := by
           unfold hitAt neAt
           first | (rw [hy]; exact if_neg h25) | rw [List.getElem?_eq_none (by omega)]
         have e : putE key cl l = (l.take (searchN l.length (geAt l key)) ++ ([cl] ++ l.drop (searchN l.length (geAt l key))), 1, 0, none) := by unfold putE; rw [hit]; rfl
         rw [e] at hret
         exact hret (Res_tmps Try.results45 rfl rfl) ⟨adZ, cZ, none, rfl, rfl, rfl⟩)
   ·refine S_lit elCell [cl] rfl rfl rfl rfl u79 ti83 rfl rfl rfl rfl rfl (by decide) (fun ad44 c44 => ?_)
    refine S_pub (by repeat constructor) ?_
    refine S_nil ?_
    refine C_first (i := 0) (W := 7940) (by kernel_rfl) rfl rfl rfl rfl (Y_ld u79 rfl rfl rfl) ?_
    refine C_firstx (i := 2) (W := 7936) (by kernel_rfl) rfl rfl rfl rfl (Y_reslice rfl u79 ti83 rfl rfl (by repeat constructor) rfl rfl ⟨_, rfl⟩ (by decide) (by omega) (by omega)) ?_
    rintro _ _ ⟨ad42, c42, rfl, rfl⟩
    rw [show (l.drop (0 : Int).toNat).take (((searchN l.length (geAt l key)) : Int).toNat - (0 : Int).toNat) = l.take (searchN l.length (geAt l key)) by simp]
    refine C_one (i := 8) (by kernel_rfl) rfl ?_
    refine S_lit (elSl Cell) [(ad42, c42, l.take (searchN l.length (geAt l key))), (ad44, c44, [cl]), (ad47, c47, l.drop ((searchN l.length (geAt l key))))] rfl rfl rfl rfl u129 ti79 rfl rfl rfl rfl rfl (by decide) (fun ad48 c48 => ?_)
    refine S_pub (by repeat constructor) ?_
    refine S_sls0 elCell ?_
    refine S_sls (a := ad47) (c := c47) (ys := l.drop ((searchN l.length (geAt l key)))) (by repeat constructor) (xs := []) (by repeat constructor) ?_
    refine S_sls (a := ad44) (c := c44) (ys := [cl]) (by repeat constructor) (xs := [(ad47, c47, l.drop ((searchN l.length (geAt l key))))]) (by repeat constructor) ?_
    refine S_sls (a := ad42) (c := c42) (ys := l.take (searchN l.length (geAt l key))) (by repeat constructor) (xs := [(ad44, c44, [cl]), (ad47, c47, l.drop ((searchN l.length (geAt l key))))]) (by repeat constructor) ?_
    refine S_nil ?_
    refine C_one (i := 9) (by kernel_rfl) rfl ?_
    refine S_enter rfl rfl rfl (E_fn rfl rfl) (concat_ok (xs := [(ad42, c42, l.take (searchN l.length (geAt l key))), (ad44, c44, [cl]), (ad47, c47, l.drop ((searchN l.length (geAt l key))))]) (by simp) (by simp [catS]; omega)) ?_
    rintro _ _ _ ⟨adZ, cZ, rfl, rfl, rfl⟩
    try dsimp only [List.cons_append, List.nil_append]
    rw [show catS [(ad42, c42, l.take (searchN l.length (geAt l key))), (ad44, c44, [cl]), (ad47, c47, l.drop ((searchN l.length (geAt l key))))] = l.take (searchN l.length (geAt l key)) ++ ([cl] ++ l.drop ((searchN l.length (geAt l key)))) by simp [catS]]
    refine S_nil ?_
    refine C_firstp (i := 10) (W := 6144) (by kernel_rfl) rfl rfl rfl rfl rfl ?_
    refine C_firstp (i := 11) (W := 4096) (by kernel_rfl) rfl rfl rfl rfl rfl ?_
    refine C_firstp (i := 12) (W := 0) (by kernel_rfl) rfl rfl rfl rfl rfl ?_
    refine C_done (by kernel_rfl) ?_
    first
      | (have e : putE key cl l = (l.take (searchN l.length (geAt l key)) ++ ([cl] ++ l.drop ((searchN l.length (geAt l key)) + 1)), 0, 0, some y) := by unfold putE; rw [hit]; rfl
         rw [e] at hret
         exact hret (Res_tmps Try.results45 rfl rfl) ⟨adZ, cZ, some (b28, o28), rfl, rfl, rfl⟩)
      | (have hit : hitAt l key = none := by
           unfold hitAt neAt
           first | (rw [hy]; exact if_neg h25) | rw [List.getElem?_eq_none (by omega)]
         have e : putE key cl l = (l.take (searchN l.length (geAt l key)) ++ ([cl] ++ l.drop (searchN l.length (geAt l key))), 1, 0, none) := by unfold putE; rw [hit]; rfl
         rw [e] at hret
         exact hret (Res_tmps Try.results45 rfl rfl) ⟨adZ, cZ, none, rfl, rfl, rfl⟩)
end Go.Proofs.Ytlgbhceifnjdnaa
