/- Walks: WC. -/
import Derived.Test.YtlgbhceifnjdnaaPX
import Derived.Test.YtlgbhceifnjdnaaWB
import Derived.Test.YtlgbhceifnjdnaaBY
import Derived.Test.YtlgbhceifnjdnaaProg
import Derived.KernelRfl
namespace Go.Proofs.Ytlgbhceifnjdnaa
open Go.KX
namespace TWC
theorem u3 : Try.prog.underlying 3 = some (.int .i64) := Try.underlying3
theorem u5 : Try.prog.underlying 5 = some (.int .u8) := Try.underlying5
theorem u9 : Try.prog.underlying 9 = some (.string) := Try.underlying9
theorem u34 : Try.prog.underlying 34 = some (.int .i64) := Try.underlying34
theorem u68 : Try.prog.underlying 68 = some (.slice 5) := Try.underlying68
theorem u109 : Try.prog.underlying 109 = some (.pointer 134) := Try.underlying109
theorem u121 : Try.prog.underlying 121 = some (.int .u64) := Try.underlying121
theorem ti3 : TI Try.prog 3 1 8 (.int .i64 0) := TI_of (by kernel_rfl)
theorem ti5 : TI Try.prog 5 1 1 (.int .u8 0) := TI_of (by kernel_rfl)
theorem ti9 : TI Try.prog 9 1 16 (str []) := TI_of (by kernel_rfl)
theorem ti34 : TI Try.prog 34 1 8 (.int .i64 0) := TI_of (by kernel_rfl)
theorem ti68 : TI Try.prog 68 1 24 (.slice none 0 0) := TI_of (by kernel_rfl)
theorem ti134 : TI Try.prog 134 4 48 (.agg #[.slice none 0 0, .int .i64 0, .int .i64 0, .int .i64 0]) := TI_of (by kernel_rfl)
theorem ti137 : TI Try.prog 137 3 40 (.agg #[.int .u64 0, .slice none 0 0, .int .i64 0]) := TI_of (by kernel_rfl)
theorem ly134 : LY Try.prog 134 [(0, 1, false), (1, 1, false), (2, 1, false), (3, 1, false)] := LY_of Try.underlying134 (by kernel_rfl)
theorem ly137 : LY Try.prog 137 [(0, 1, false), (1, 1, false), (2, 1, false)] := LY_of Try.underlying137 (by kernel_rfl)
theorem bt134 : BT Try.prog 134 [(0, 1), (1, 1), (2, 1), (3, 1)] [.slice none 0 0, .int .i64 0, .int .i64 0, .int .i64 0] := BT_of (pl := [(0, 1, false), (1, 1, false), (2, 1, false), (3, 1, false)]) Try.underlying134 (by kernel_rfl) ti134
end TWC
open TWC
set_option maxRecDepth 100000 in
theorem sbad_ok {b : Nat} {s : Strip} {ad : Option Addr} {c : Nat} : Spx Try.prog 61 #[.pointer (some ⟨b, 0, none⟩)] [] [Res.blk b (.cells (stripC s ad c) 134 (0, 0))] (fun v fs' own' => v = .tuple #[.int .i64 s.bad, .int .i64 s.spot] ∧ fs' = [] ∧ own' = [Res.blk b (.cells (stripC s ad c) 134 (0, 0))]) := by
 refine Spx_of_body (fn := Try.f61) 14 Try.func61 rfl (by kernel_rfl) rfl (Nat.le_of_ble_eq_true rfl) (fun g0 Q hret hend => ?_)
 dsimp only [initL]
 refine C_seq <| C_region ?_
 refine S_run 2 rfl ?_
 refine S_nil <| C_seq <| C_seq <| C_region ?_
 refine S_run 1 rfl ?_
 refine S_y rfl rfl rfl (Y_eql1 rfl rfl rfl u109 (by rfl) (fun _ => rfl) rfl) ?_
 refine S_nil ?_
 refine C_cond_f rfl ?_
 refine C_skip <| C_seq ?_
 refine C_draw rfl ?_
 refine C_firstp (i := 0) (W := 782) (by kernel_rfl) rfl rfl rfl rfl rfl ?_
 refine C_firstp (i := 1) (W := 780) (by kernel_rfl) rfl rfl rfl rfl rfl ?_
 refine C_firstf (i := 2) (W := 776) (by kernel_rfl) rfl rfl rfl rfl ly134 rfl rfl rfl ?_
 refine C_firstp (i := 4) (W := 736) (by kernel_rfl) rfl rfl rfl rfl rfl ?_
 refine C_firstp (i := 5) (W := 704) (by kernel_rfl) rfl rfl rfl rfl rfl ?_
 refine C_first (i := 3) (W := 768) (by kernel_rfl) rfl rfl rfl rfl (Y_ld u34 rfl rfl rfl) ?_
 refine C_firstf (i := 6) (W := 640) (by kernel_rfl) rfl rfl rfl rfl ly134 rfl rfl rfl ?_
 refine C_first (i := 7) (W := 512) (by kernel_rfl) rfl rfl rfl rfl (Y_ld u3 rfl rfl rfl) ?_
 refine C_firstp (i := 8) (W := 512) (by kernel_rfl) rfl rfl rfl rfl rfl ?_
 refine C_firstp (i := 9) (W := 0) (by kernel_rfl) rfl rfl rfl rfl rfl ?_
 refine C_done (by kernel_rfl) ?_
 exact hret (Res_tmps Try.results61 rfl rfl) ⟨rfl, rfl, rfl⟩
set_option maxRecDepth 100000 in
theorem smore_ok {b : Nat} {s : Strip} {ad : Option Addr} {c : Nat} : Spx Try.prog 58 #[.pointer (some ⟨b, 0, none⟩)] [] [Res.blk b (.cells (stripC s ad c) 134 (0, 0))] (fun v fs' own' => v = .int .i64 s.left.length ∧ fs' = [] ∧ own' = [Res.blk b (.cells (stripC s ad c) 134 (0, 0))]) := by
 refine Spx_of_body (fn := Try.f58) 10 Try.func58 rfl (by kernel_rfl) rfl (Nat.le_of_ble_eq_true rfl) (fun g0 Q hret hend => ?_)
 dsimp only [initL]
 refine C_seq <| C_region ?_
 refine S_run 1 rfl ?_
 refine S_nil <| C_seq <| C_seq <| C_region ?_
 refine S_run 1 rfl ?_
 refine S_y rfl rfl rfl (Y_eql1 rfl rfl rfl u109 (by rfl) (fun _ => rfl) rfl) ?_
 refine S_nil ?_
 refine C_cond_f rfl ?_
 refine C_skip <| C_seq <| C_region ?_
 refine S_run 2 rfl ?_
 refine S_y rfl rfl rfl (Y_fa ly134 rfl rfl rfl) ?_
 refine S_y rfl rfl rfl (Y_ld u68 rfl rfl rfl) ?_
 refine S_y rfl rfl rfl (Y_slen rfl rfl u68) ?_
 refine S_run 1 rfl ?_
 refine S_nil ?_
 exact hret (Res_tmps Try.results58 rfl rfl) ⟨rfl, rfl, rfl⟩
set_option maxRecDepth 100000 in
theorem swhere_ok {b : Nat} {s : Strip} {ad : Option Addr} {c : Nat} (hs : s.left.length ≤ s.size) (hm : s.size ≤ 9223372036854775807) : Spx Try.prog 64 #[.pointer (some ⟨b, 0, none⟩)] [] [Res.blk b (.cells (stripC s ad c) 134 (0, 0))] (fun v fs' own' => v = .int .i64 ((s.size - s.left.length : Nat) : Int) ∧ fs' = [] ∧ own' = [Res.blk b (.cells (stripC s ad c) 134 (0, 0))]) := by
 refine Spx_of_body (fn := Try.f64) 15 Try.func64 rfl (by kernel_rfl) rfl (Nat.le_of_ble_eq_true rfl) (fun g0 Q hret hend => ?_)
 dsimp only [initL]
 refine C_seq <| C_region ?_
 refine S_run 1 rfl ?_
 refine S_nil <| C_seq <| C_seq <| C_region ?_
 refine S_run 1 rfl ?_
 refine S_y rfl rfl rfl (Y_eql1 rfl rfl rfl u109 (by rfl) (fun _ => rfl) rfl) ?_
 refine S_nil ?_
 refine C_cond_f rfl ?_
 refine C_skip <| C_seq ?_
 refine C_draw rfl ?_
 refine C_firstp (i := 0) (W := 1550) (by kernel_rfl) rfl rfl rfl rfl rfl ?_
 refine C_firstp (i := 1) (W := 1548) (by kernel_rfl) rfl rfl rfl rfl rfl ?_
 refine C_firstf (i := 2) (W := 1544) (by kernel_rfl) rfl rfl rfl rfl ly134 rfl rfl rfl ?_
 refine C_firstp (i := 4) (W := 2016) (by kernel_rfl) rfl rfl rfl rfl rfl ?_
 refine C_firstp (i := 5) (W := 1984) (by kernel_rfl) rfl rfl rfl rfl rfl ?_
 refine C_first (i := 3) (W := 1536) (by kernel_rfl) rfl rfl rfl rfl (Y_ld u3 rfl rfl rfl) ?_
 refine C_firstf (i := 6) (W := 1920) (by kernel_rfl) rfl rfl rfl rfl ly134 rfl rfl rfl ?_
 refine C_first (i := 7) (W := 1792) (by kernel_rfl) rfl rfl rfl rfl (Y_ld u68 rfl rfl rfl) ?_
 refine C_first (i := 8) (W := 1536) (by kernel_rfl) rfl rfl rfl rfl (Y_slen rfl rfl u68) ?_
 refine C_first (i := 9) (W := 1024) (by kernel_rfl) rfl rfl rfl rfl ((Y_subi rfl rfl rfl (by omega) (by omega)).as (v' := .int .i64 ((s.size - s.left.length : Nat) : Int)) (by congr 1; omega)) ?_
 refine C_firstp (i := 10) (W := 0) (by kernel_rfl) rfl rfl rfl rfl rfl ?_
 refine C_done (by kernel_rfl) ?_
 exact hret (Res_tmps Try.results64 rfl rfl) ⟨rfl, rfl, rfl⟩
set_option maxRecDepth 100000 in
theorem readN_ok {b : Nat} {s : Strip} {ad : Option Addr} {c : Nat} (hs : s.left.length ≤ s.size) (hm : s.size ≤ 9223372036854775807)  : Spx Try.prog 74 #[.pointer (some ⟨b, 0, none⟩), .func (.func 76) #[] #[]] [SlM elB ad c s.left] [Res.blk b (.cells (stripC s ad c) 134 (0, 0))] (fun v fs' own' => ∃ ad' c', v = .int .u64 (readS s (numR true 0 s.left)).2 ∧ fs' = [SlM elB ad' c' (readS s (numR true 0 s.left)).1.left] ∧ own' = [Res.blk b (.cells (stripC (readS s (numR true 0 s.left)).1 ad' c') 134 (0, 0))]) := by
 refine Spx_of_body (fn := Try.f74) 41 Try.func74 rfl (by kernel_rfl) rfl (Nat.le_of_ble_eq_true rfl) (fun g0 Q hret hend => ?_)
 dsimp only [initL]
 refine C_seq <| C_region ?_
 refine S_run 1 rfl ?_
 refine S_nil <| C_seq <| C_seq <| C_region ?_
 refine S_run 1 rfl ?_
 refine S_y rfl rfl rfl (Y_eql1 rfl rfl rfl u109 (by rfl) (fun _ => rfl) rfl) ?_
 refine S_run 3 rfl ?_
 refine S_y rfl rfl rfl (Y_fa ly134 rfl rfl rfl) ?_
 refine S_y rfl rfl rfl (Y_ld u34 rfl rfl rfl) ?_
 refine S_run 2 rfl ?_
 refine S_nil ?_
 refine C_if rfl (fun h14 => ?_) (fun h14 => ?_)
 ·have e : readS s (numR true 0 s.left) = (s, 0) := by unfold readS; rw [if_pos (by omega)]
  refine C_seq <| C_region ?_
  refine S_run 1 rfl ?_
  refine S_nil ?_
  rw [e] at hret
  first
    | exact hret (Res_tmps Try.results74 rfl rfl) ⟨ad, c, rfl, rfl, rfl⟩
    | exact hret (Res_tmps Try.results74 rfl rfl) ⟨ad20, c20, rfl, rfl, rfl⟩
 ·refine C_skip <| C_seq <| C_region ?_
  refine S_run 3 rfl ?_
  refine S_y rfl rfl rfl (Y_fa ly134 rfl rfl rfl) ?_
  refine S_y rfl rfl rfl (Y_ld u68 rfl rfl rfl) ?_
  refine S_enter rfl rfl rfl (E_val rfl rfl rfl rfl) rnum_ok ?_
  rintro _ _ _ ⟨ad20, c20, rfl, rfl, rfl⟩
  try dsimp only [List.cons_append, List.nil_append]
  refine S_alloc rfl rfl rfl rfl ti137 rfl (fun b5 => ?_)
  refine S_stS rfl rfl rfl ti137 rfl rfl rfl rfl (by repeat constructor) (by rfl) ?_
  refine S_nil <| C_seq <| C_seq <| C_region ?_
  refine S_y rfl rfl rfl (Y_fa ly137 rfl rfl rfl) ?_
  refine S_y rfl rfl rfl (Y_ld u34 rfl rfl rfl) ?_
  refine S_run 1 rfl ?_
  refine S_nil ?_
  refine C_if rfl (fun h23 => ?_) (fun h23 => ?_)
  ·have e : readS s (numR true 0 s.left) = ({ s with bad := (numR true 0 s.left).e, spot := s.size - s.left.length }, 0) := by unfold readS; rw [if_neg (by omega), if_pos (by omega)]
   refine C_seq ?_
   refine C_draw rfl ?_
   refine C_firstp (i := 0) (W := 4032) (by kernel_rfl) rfl rfl rfl rfl rfl ?_
   refine C_firstp (i := 1) (W := 3584) (by kernel_rfl) rfl rfl rfl rfl rfl ?_
   refine C_firstf (i := 2) (W := 4040) (by kernel_rfl) rfl rfl rfl rfl ly137 rfl rfl rfl ?_
   refine C_firstp (i := 4) (W := 4064) (by kernel_rfl) rfl rfl rfl rfl rfl ?_
   refine C_two (i := 3) (j := 5) (by kernel_rfl) rfl rfl ?_ ?_
   ·refine S_y rfl rfl rfl (Y_ld u34 rfl rfl rfl) ?_
    refine S_nil ?_
    refine C_one (i := 5) (by kernel_rfl) rfl ?_
    refine S_enter rfl rfl rfl (E_fn rfl rfl) (swhere_ok hs hm) ?_
    rintro _ _ _ ⟨rfl, rfl, rfl⟩
    try dsimp only [List.cons_append, List.nil_append]
    refine S_nil ?_
    refine C_firstp (i := 6) (W := 3968) (by kernel_rfl) rfl rfl rfl rfl rfl ?_
    refine C_firstf (i := 7) (W := 3840) (by kernel_rfl) rfl rfl rfl rfl ly134 rfl rfl rfl ?_
    refine C_one (i := 8) (by kernel_rfl) rfl ?_
    refine S_st rfl rfl rfl ti34 rfl rfl rfl (by repeat constructor) (by rfl) ?_
    refine S_nil ?_
    refine C_firstp (i := 9) (W := 3072) (by kernel_rfl) rfl rfl rfl rfl rfl ?_
    refine C_firstf (i := 10) (W := 2048) (by kernel_rfl) rfl rfl rfl rfl ly134 rfl rfl rfl ?_
    refine C_one (i := 11) (by kernel_rfl) rfl ?_
    refine S_st rfl rfl rfl ti3 rfl rfl rfl (by repeat constructor) (by rfl) ?_
    refine S_nil ?_
    refine C_done (by kernel_rfl) ?_
    refine C_seq <| C_region ?_
    refine S_run 1 rfl ?_
    refine S_nil ?_
    rw [e] at hret
    first
      | exact hret (Res_tmps Try.results74 rfl rfl) ⟨ad, c, rfl, rfl, rfl⟩
      | exact hret (Res_tmps Try.results74 rfl rfl) ⟨ad20, c20, rfl, rfl, rfl⟩
   ·refine S_enter rfl rfl rfl (E_fn rfl rfl) (swhere_ok hs hm) ?_
    rintro _ _ _ ⟨rfl, rfl, rfl⟩
    try dsimp only [List.cons_append, List.nil_append]
    refine S_nil ?_
    refine C_first (i := 3) (W := 4032) (by kernel_rfl) rfl rfl rfl rfl (Y_ld u34 rfl rfl rfl) ?_
    refine C_firstp (i := 6) (W := 3968) (by kernel_rfl) rfl rfl rfl rfl rfl ?_
    refine C_firstf (i := 7) (W := 3840) (by kernel_rfl) rfl rfl rfl rfl ly134 rfl rfl rfl ?_
    refine C_one (i := 8) (by kernel_rfl) rfl ?_
    refine S_st rfl rfl rfl ti34 rfl rfl rfl (by repeat constructor) (by rfl) ?_
    refine S_nil ?_
    refine C_firstp (i := 9) (W := 3072) (by kernel_rfl) rfl rfl rfl rfl rfl ?_
    refine C_firstf (i := 10) (W := 2048) (by kernel_rfl) rfl rfl rfl rfl ly134 rfl rfl rfl ?_
    refine C_one (i := 11) (by kernel_rfl) rfl ?_
    refine S_st rfl rfl rfl ti3 rfl rfl rfl (by repeat constructor) (by rfl) ?_
    refine S_nil ?_
    refine C_done (by kernel_rfl) ?_
    refine C_seq <| C_region ?_
    refine S_run 1 rfl ?_
    refine S_nil ?_
    rw [e] at hret
    first
      | exact hret (Res_tmps Try.results74 rfl rfl) ⟨ad, c, rfl, rfl, rfl⟩
      | exact hret (Res_tmps Try.results74 rfl rfl) ⟨ad20, c20, rfl, rfl, rfl⟩
  ·have e : readS s (numR true 0 s.left) = ({ s with left := (numR true 0 s.left).left }, (numR true 0 s.left).n) := by unfold readS; rw [if_neg (by omega), if_neg (by omega)]
   refine C_skip <| C_seq <| C_region ?_
   refine S_run 1 rfl ?_
   refine S_y rfl rfl rfl (Y_fa ly137 rfl rfl rfl) ?_
   refine S_y rfl rfl rfl (Y_ld u68 rfl rfl rfl) ?_
   refine S_run 1 rfl ?_
   refine S_y rfl rfl rfl (Y_fa ly134 rfl rfl rfl) ?_
   refine S_st rfl rfl rfl ti68 rfl rfl rfl (by repeat constructor) (by rfl) ?_
   refine S_nil <| C_seq <| C_region ?_
   refine S_y rfl rfl rfl (Y_fa ly137 rfl rfl rfl) ?_
   refine S_y rfl rfl rfl (Y_ld u121 rfl rfl rfl) ?_
   refine S_run 1 rfl ?_
   refine S_nil ?_
   rw [e] at hret
   first
     | exact hret (Res_tmps Try.results74 rfl rfl) ⟨ad, c, rfl, rfl, rfl⟩
     | exact hret (Res_tmps Try.results74 rfl rfl) ⟨ad20, c20, rfl, rfl, rfl⟩
set_option maxRecDepth 100000 in
theorem snum_ok {b : Nat} {s : Strip} {ad : Option Addr} {c : Nat} (hs : s.left.length ≤ s.size) (hm : s.size ≤ 9223372036854775807) : Spx Try.prog 77 #[.pointer (some ⟨b, 0, none⟩)] [SlM elB ad c s.left] [Res.blk b (.cells (stripC s ad c) 134 (0, 0))] (fun v fs' own' => ∃ ad' c', v = .int .u64 (readS s (numR true 0 s.left)).2 ∧ fs' = [SlM elB ad' c' (readS s (numR true 0 s.left)).1.left] ∧ own' = [Res.blk b (.cells (stripC (readS s (numR true 0 s.left)).1 ad' c') 134 (0, 0))]) := by
 refine Spx_of_body (fn := Try.f77) 5 Try.func77 rfl (by kernel_rfl) rfl (Nat.le_of_ble_eq_true rfl) (fun g0 Q hret hend => ?_)
 dsimp only [initL]
 refine C_seq <| C_region ?_
 refine S_run 1 rfl ?_
 refine S_nil <| C_seq <| C_region ?_
 refine S_run 1 rfl ?_
 refine S_enter rfl rfl rfl (E_fn rfl rfl) (readN_ok hs hm) ?_
 rintro _ _ _ ⟨ad1, c1, rfl, rfl, rfl⟩
 try dsimp only [List.cons_append, List.nil_append]
 refine S_run 1 rfl ?_
 refine S_nil ?_
 exact hret (Res_tmps Try.results77 rfl rfl) ⟨ad1, c1, rfl, rfl, rfl⟩
set_option maxRecDepth 100000 in
theorem text1_ok {bm bo : Nat} {ad : Option Addr} {c : Nat} {p : Bytes} {most : Nat} (hmo : most ≤ 9223372036854775807) : Spx Try.prog 75 #[.slice ad p.length c, .pointer (some ⟨bm, 0, none⟩), .pointer (some ⟨bo, 0, none⟩)] [SlM elB ad c p] [Res.blk bm (.cells #[.int .i64 (most : Int)] 3 (0, 0)), Res.blk bo (.cells #[str []] 9 (0, 0))] (fun v fs' own' => ∃ ad' c', v = pcV (txtR most p).1 ad' c' ∧ fs' = [SlM elB ad' c' (txtR most p).1.left] ∧ own' = [Res.blk bm (.cells #[.int .i64 (most : Int)] 3 (0, 0)), Res.blk bo (.cells #[str (txtR most p).2] 9 (0, 0))]) := by
 refine Spx_of_body (fn := Try.f75) 42 Try.func75 rfl (by kernel_rfl) rfl (Nat.le_of_ble_eq_true rfl) (fun g0 Q hret hend => ?_)
 dsimp only [initL]
 refine C_pure (f := SlM elB ad c p) (by repeat constructor) SlM.le (fun hls => ?_)
 have hnl := numR_lt p true 0
 have hnf := numR_left p true 0
 refine C_seq <| C_region ?_
 refine S_alloc rfl rfl rfl rfl ti137 rfl (fun b4 => ?_)
 refine S_nil <| C_seq <| C_region ?_
 refine S_run 1 rfl ?_
 refine S_enter rfl rfl rfl (E_fn rfl rfl) rnum_ok ?_
 rintro _ _ _ ⟨ad7, c7, rfl, rfl, rfl⟩
 try dsimp only [List.cons_append, List.nil_append]
 refine S_alloc rfl rfl rfl rfl ti137 rfl (fun b5 => ?_)
 refine S_stS rfl rfl rfl ti137 rfl rfl rfl rfl (by repeat constructor) (by rfl) ?_
 refine S_nil <| C_seq <| C_block <| C_seq <| C_region ?_
 refine S_y rfl rfl rfl (Y_fa ly137 rfl rfl rfl) ?_
 refine S_y rfl rfl rfl (Y_ld u34 rfl rfl rfl) ?_
 refine S_run 2 rfl ?_
 refine S_nil ?_
 refine C_if rfl (fun h20 => ?_) (fun h20 => ?_)
 ·have e : txtR most p = ((numR true 0 p), []) := by unfold txtR; rw [if_pos (by omega)]
  rw [e] at hret
  dsimp only at hret
  refine C_skip <| C_blk <| C_seq <| C_region ?_
  refine S_y rfl rfl rfl (Y_ldS Try.underlying137 rfl ti137 rfl rfl) ?_
  refine S_stS rfl rfl rfl ti137 rfl rfl rfl rfl (by repeat constructor) (by rfl) ?_
  refine S_nil ?_
  first
    | exact hret (Res_cellS Try.results75 Try.underlying137 rfl ti137 rfl (by repeat constructor) rfl) ⟨ad18, c18, rfl, rfl, rfl⟩
    | exact hret (Res_cellS Try.results75 Try.underlying137 rfl ti137 rfl (by repeat constructor) rfl) ⟨ad7, c7, rfl, rfl, rfl⟩
 ·refine C_seq <| C_region ?_
  refine S_y rfl rfl rfl (Y_fa ly137 rfl rfl rfl) ?_
  refine S_y rfl rfl rfl (Y_ld u121 rfl rfl rfl) ?_
  refine S_y rfl rfl rfl (Y_ld u3 rfl rfl rfl) ?_
  refine S_y rfl rfl rfl ((Y_max rfl rfl rfl).as (v' := .int .i64 (most : Int)) (by congr 1; omega)) ?_
  refine S_y rfl rfl rfl ((Y_conv rfl rfl u3 u121).as (v' := .int .u64 (most : Int)) (by rw [wrap_u64 (by omega) (by omega)])) ?_
  refine S_run 2 rfl ?_
  refine S_nil ?_
  refine C_if rfl (fun h24 => ?_) (fun h24 => ?_)
  ·have e : txtR most p = ({ (numR true 0 p) with e := 1 }, []) := by unfold txtR; rw [if_neg (by omega), if_pos (by omega)]
   rw [e] at hret
   dsimp only at hret
   refine C_region ?_
   refine S_y rfl rfl rfl (Y_fa ly137 rfl rfl rfl) ?_
   refine S_st rfl rfl rfl ti34 rfl rfl rfl (by repeat constructor) (by rfl) ?_
   refine S_nil <| C_blk <| C_seq <| C_region ?_
   refine S_y rfl rfl rfl (Y_ldS Try.underlying137 rfl ti137 rfl rfl) ?_
   refine S_stS rfl rfl rfl ti137 rfl rfl rfl rfl (by repeat constructor) (by rfl) ?_
   refine S_nil ?_
   first
     | exact hret (Res_cellS Try.results75 Try.underlying137 rfl ti137 rfl (by repeat constructor) rfl) ⟨ad18, c18, rfl, rfl, rfl⟩
     | exact hret (Res_cellS Try.results75 Try.underlying137 rfl ti137 rfl (by repeat constructor) rfl) ⟨ad7, c7, rfl, rfl, rfl⟩
  ·refine C_seq <| C_region ?_
   refine S_y rfl rfl rfl (Y_fa ly137 rfl rfl rfl) ?_
   refine S_y rfl rfl rfl (Y_ld u121 rfl rfl rfl) ?_
   refine S_y rfl rfl rfl (Y_fa ly137 rfl rfl rfl) ?_
   refine S_y rfl rfl rfl (Y_ld u68 rfl rfl rfl) ?_
   refine S_y rfl rfl rfl (Y_slen rfl rfl u68) ?_
   refine S_y rfl rfl rfl ((Y_conv rfl rfl u3 u121).as (v' := .int .u64 ((numR true 0 p).left.length : Int)) (by rw [wrap_u64 (by omega) (by omega)])) ?_
   refine S_run 2 rfl ?_
   refine S_nil ?_
   refine C_if rfl (fun h32 => ?_) (fun h32 => ?_)
   ·have e : txtR most p = ({ (numR true 0 p) with e := 3 }, []) := by unfold txtR; rw [if_neg (by omega), if_neg (by omega), if_pos (by omega)]
    rw [e] at hret
    dsimp only at hret
    refine C_region ?_
    refine S_y rfl rfl rfl (Y_fa ly137 rfl rfl rfl) ?_
    refine S_st rfl rfl rfl ti34 rfl rfl rfl (by repeat constructor) (by rfl) ?_
    refine S_nil <| C_blk <| C_seq <| C_region ?_
    refine S_y rfl rfl rfl (Y_ldS Try.underlying137 rfl ti137 rfl rfl) ?_
    refine S_stS rfl rfl rfl ti137 rfl rfl rfl rfl (by repeat constructor) (by rfl) ?_
    refine S_nil ?_
    first
      | exact hret (Res_cellS Try.results75 Try.underlying137 rfl ti137 rfl (by repeat constructor) rfl) ⟨ad18, c18, rfl, rfl, rfl⟩
      | exact hret (Res_cellS Try.results75 Try.underlying137 rfl ti137 rfl (by repeat constructor) rfl) ⟨ad7, c7, rfl, rfl, rfl⟩
   ·have e : txtR most p = ({ (numR true 0 p) with left := (numR true 0 p).left.drop (numR true 0 p).n }, (numR true 0 p).left.take (numR true 0 p).n) := by unfold txtR; rw [if_neg (by omega), if_neg (by omega), if_neg (by omega)]
    rw [e] at hret
    dsimp only at hret
    refine C_draw rfl ?_
    refine C_firstf (i := 0) (W := 14386) (by kernel_rfl) rfl rfl rfl rfl ly137 rfl rfl rfl ?_
    refine C_first (i := 1) (W := 14384) (by kernel_rfl) rfl rfl rfl rfl (Y_ld u68 rfl rfl rfl) ?_
    refine C_firstf (i := 2) (W := 14392) (by kernel_rfl) rfl rfl rfl rfl ly137 rfl rfl rfl ?_
    refine C_first (i := 3) (W := 14384) (by kernel_rfl) rfl rfl rfl rfl (Y_ld u121 rfl rfl rfl) ?_
    refine C_firstx (i := 4) (W := 14368) (by kernel_rfl) rfl rfl rfl rfl (Y_reslice rfl u68 ti5 rfl rfl (by repeat constructor) rfl rfl ⟨_, rfl⟩ (by omega) (by omega) (by omega)) ?_
    rintro _ _ ⟨ad12, c12, rfl, rfl⟩
    rw [show ((numR true 0 p).left.drop (0 : Int).toNat).take (((numR true 0 p).n : Int).toNat - (0 : Int).toNat) = (numR true 0 p).left.take (numR true 0 p).n by simp]
    refine C_first (i := 5) (W := 14336) (by kernel_rfl) rfl rfl rfl rfl (Y_b2s rfl rfl rfl (by repeat constructor) u68 u5 u9) ?_
    refine C_firstf (i := 6) (W := 13440) (by kernel_rfl) rfl rfl rfl rfl ly137 rfl rfl rfl ?_
    refine C_firstf (i := 8) (W := 13824) (by kernel_rfl) rfl rfl rfl rfl ly137 rfl rfl rfl ?_
    refine C_three (i := 7) (j := 9) (l := 11) (by kernel_rfl) rfl rfl rfl ?_ ?_ ?_
    ·refine S_y rfl rfl rfl (Y_ld u68 rfl rfl rfl) ?_
     refine S_nil ?_
     refine C_two (i := 9) (j := 11) (by kernel_rfl) rfl rfl ?_ ?_
     ·refine S_y rfl rfl rfl (Y_ld u121 rfl rfl rfl) ?_
      refine S_nil ?_
      refine C_firstw (i := 10) (W := 12288) (by kernel_rfl) rfl rfl rfl rfl (Y_resliceW rfl u68 ti5 rfl rfl (by repeat constructor) rfl ⟨_, rfl⟩ rfl (by omega) (by omega) (by omega)) ?_
      rintro _ _ ⟨ad18, c18, rfl, rfl⟩
      rw [show ((numR true 0 p).left.drop ((numR true 0 p).n : Int).toNat).take (((numR true 0 p).left.length : Int).toNat - ((numR true 0 p).n : Int).toNat) = (numR true 0 p).left.drop (numR true 0 p).n by rw [show ((numR true 0 p).n : Int).toNat = (numR true 0 p).n by omega]; exact List.take_of_length_le (by simp)]
      refine C_one (i := 11) (by kernel_rfl) rfl ?_
      refine S_st rfl rfl rfl ti9 rfl rfl rfl (by repeat constructor) (by rfl) ?_
      refine S_nil ?_
      refine C_firstf (i := 12) (W := 8192) (by kernel_rfl) rfl rfl rfl rfl ly137 rfl rfl rfl ?_
      refine C_one (i := 13) (by kernel_rfl) rfl ?_
      refine S_st rfl rfl rfl ti68 rfl rfl rfl (by repeat constructor) (by rfl) ?_
      refine S_nil ?_
      refine C_done (by kernel_rfl) ?_
      refine C_blk <| C_seq <| C_region ?_
      refine S_y rfl rfl rfl (Y_ldS Try.underlying137 rfl ti137 rfl rfl) ?_
      refine S_stS rfl rfl rfl ti137 rfl rfl rfl rfl (by repeat constructor) (by rfl) ?_
      refine S_nil ?_
      first
        | exact hret (Res_cellS Try.results75 Try.underlying137 rfl ti137 rfl (by repeat constructor) rfl) ⟨ad18, c18, rfl, rfl, rfl⟩
        | exact hret (Res_cellS Try.results75 Try.underlying137 rfl ti137 rfl (by repeat constructor) rfl) ⟨ad7, c7, rfl, rfl, rfl⟩
     ·refine S_st rfl rfl rfl ti9 rfl rfl rfl (by repeat constructor) (by rfl) ?_
      refine S_nil ?_
      refine C_first (i := 9) (W := 13312) (by kernel_rfl) rfl rfl rfl rfl (Y_ld u121 rfl rfl rfl) ?_
      refine C_firstx (i := 10) (W := 12288) (by kernel_rfl) rfl rfl rfl rfl (Y_reslice rfl u68 ti5 rfl rfl (by repeat constructor) rfl ⟨_, rfl⟩ rfl (by omega) (by omega) (by omega)) ?_
      rintro _ _ ⟨ad18, c18, rfl, rfl⟩
      rw [show ((numR true 0 p).left.drop ((numR true 0 p).n : Int).toNat).take (((numR true 0 p).left.length : Int).toNat - ((numR true 0 p).n : Int).toNat) = (numR true 0 p).left.drop (numR true 0 p).n by rw [show ((numR true 0 p).n : Int).toNat = (numR true 0 p).n by omega]; exact List.take_of_length_le (by simp)]
      refine C_firstf (i := 12) (W := 8192) (by kernel_rfl) rfl rfl rfl rfl ly137 rfl rfl rfl ?_
      refine C_one (i := 13) (by kernel_rfl) rfl ?_
      refine S_st rfl rfl rfl ti68 rfl rfl rfl (by repeat constructor) (by rfl) ?_
      refine S_nil ?_
      refine C_done (by kernel_rfl) ?_
      refine C_blk <| C_seq <| C_region ?_
      refine S_y rfl rfl rfl (Y_ldS Try.underlying137 rfl ti137 rfl rfl) ?_
      refine S_stS rfl rfl rfl ti137 rfl rfl rfl rfl (by repeat constructor) (by rfl) ?_
      refine S_nil ?_
      first
        | exact hret (Res_cellS Try.results75 Try.underlying137 rfl ti137 rfl (by repeat constructor) rfl) ⟨ad18, c18, rfl, rfl, rfl⟩
        | exact hret (Res_cellS Try.results75 Try.underlying137 rfl ti137 rfl (by repeat constructor) rfl) ⟨ad7, c7, rfl, rfl, rfl⟩
    ·refine S_y rfl rfl rfl (Y_ld u121 rfl rfl rfl) ?_
     refine S_nil ?_
     refine C_two (i := 7) (j := 11) (by kernel_rfl) rfl rfl ?_ ?_
     ·refine S_y rfl rfl rfl (Y_ld u68 rfl rfl rfl) ?_
      refine S_nil ?_
      refine C_firstw (i := 10) (W := 12288) (by kernel_rfl) rfl rfl rfl rfl (Y_resliceW rfl u68 ti5 rfl rfl (by repeat constructor) rfl ⟨_, rfl⟩ rfl (by omega) (by omega) (by omega)) ?_
      rintro _ _ ⟨ad18, c18, rfl, rfl⟩
      rw [show ((numR true 0 p).left.drop ((numR true 0 p).n : Int).toNat).take (((numR true 0 p).left.length : Int).toNat - ((numR true 0 p).n : Int).toNat) = (numR true 0 p).left.drop (numR true 0 p).n by rw [show ((numR true 0 p).n : Int).toNat = (numR true 0 p).n by omega]; exact List.take_of_length_le (by simp)]
      refine C_one (i := 11) (by kernel_rfl) rfl ?_
      refine S_st rfl rfl rfl ti9 rfl rfl rfl (by repeat constructor) (by rfl) ?_
      refine S_nil ?_
      refine C_firstf (i := 12) (W := 8192) (by kernel_rfl) rfl rfl rfl rfl ly137 rfl rfl rfl ?_
      refine C_one (i := 13) (by kernel_rfl) rfl ?_
      refine S_st rfl rfl rfl ti68 rfl rfl rfl (by repeat constructor) (by rfl) ?_
      refine S_nil ?_
      refine C_done (by kernel_rfl) ?_
      refine C_blk <| C_seq <| C_region ?_
      refine S_y rfl rfl rfl (Y_ldS Try.underlying137 rfl ti137 rfl rfl) ?_
      refine S_stS rfl rfl rfl ti137 rfl rfl rfl rfl (by repeat constructor) (by rfl) ?_
      refine S_nil ?_
      first
        | exact hret (Res_cellS Try.results75 Try.underlying137 rfl ti137 rfl (by repeat constructor) rfl) ⟨ad18, c18, rfl, rfl, rfl⟩
        | exact hret (Res_cellS Try.results75 Try.underlying137 rfl ti137 rfl (by repeat constructor) rfl) ⟨ad7, c7, rfl, rfl, rfl⟩
     ·refine S_st rfl rfl rfl ti9 rfl rfl rfl (by repeat constructor) (by rfl) ?_
      refine S_nil ?_
      refine C_first (i := 7) (W := 13312) (by kernel_rfl) rfl rfl rfl rfl (Y_ld u68 rfl rfl rfl) ?_
      refine C_firstx (i := 10) (W := 12288) (by kernel_rfl) rfl rfl rfl rfl (Y_reslice rfl u68 ti5 rfl rfl (by repeat constructor) rfl ⟨_, rfl⟩ rfl (by omega) (by omega) (by omega)) ?_
      rintro _ _ ⟨ad18, c18, rfl, rfl⟩
      rw [show ((numR true 0 p).left.drop ((numR true 0 p).n : Int).toNat).take (((numR true 0 p).left.length : Int).toNat - ((numR true 0 p).n : Int).toNat) = (numR true 0 p).left.drop (numR true 0 p).n by rw [show ((numR true 0 p).n : Int).toNat = (numR true 0 p).n by omega]; exact List.take_of_length_le (by simp)]
      refine C_firstf (i := 12) (W := 8192) (by kernel_rfl) rfl rfl rfl rfl ly137 rfl rfl rfl ?_
      refine C_one (i := 13) (by kernel_rfl) rfl ?_
      refine S_st rfl rfl rfl ti68 rfl rfl rfl (by repeat constructor) (by rfl) ?_
      refine S_nil ?_
      refine C_done (by kernel_rfl) ?_
      refine C_blk <| C_seq <| C_region ?_
      refine S_y rfl rfl rfl (Y_ldS Try.underlying137 rfl ti137 rfl rfl) ?_
      refine S_stS rfl rfl rfl ti137 rfl rfl rfl rfl (by repeat constructor) (by rfl) ?_
      refine S_nil ?_
      first
        | exact hret (Res_cellS Try.results75 Try.underlying137 rfl ti137 rfl (by repeat constructor) rfl) ⟨ad18, c18, rfl, rfl, rfl⟩
        | exact hret (Res_cellS Try.results75 Try.underlying137 rfl ti137 rfl (by repeat constructor) rfl) ⟨ad7, c7, rfl, rfl, rfl⟩
    ·refine S_st rfl rfl rfl ti9 rfl rfl rfl (by repeat constructor) (by rfl) ?_
     refine S_nil ?_
     refine C_first (i := 7) (W := 13312) (by kernel_rfl) rfl rfl rfl rfl (Y_ld u68 rfl rfl rfl) ?_
     refine C_first (i := 9) (W := 13312) (by kernel_rfl) rfl rfl rfl rfl (Y_ld u121 rfl rfl rfl) ?_
     refine C_firstx (i := 10) (W := 12288) (by kernel_rfl) rfl rfl rfl rfl (Y_reslice rfl u68 ti5 rfl rfl (by repeat constructor) rfl ⟨_, rfl⟩ rfl (by omega) (by omega) (by omega)) ?_
     rintro _ _ ⟨ad18, c18, rfl, rfl⟩
     rw [show ((numR true 0 p).left.drop ((numR true 0 p).n : Int).toNat).take (((numR true 0 p).left.length : Int).toNat - ((numR true 0 p).n : Int).toNat) = (numR true 0 p).left.drop (numR true 0 p).n by rw [show ((numR true 0 p).n : Int).toNat = (numR true 0 p).n by omega]; exact List.take_of_length_le (by simp)]
     refine C_firstf (i := 12) (W := 8192) (by kernel_rfl) rfl rfl rfl rfl ly137 rfl rfl rfl ?_
     refine C_one (i := 13) (by kernel_rfl) rfl ?_
     refine S_st rfl rfl rfl ti68 rfl rfl rfl (by repeat constructor) (by rfl) ?_
     refine S_nil ?_
     refine C_done (by kernel_rfl) ?_
     refine C_blk <| C_seq <| C_region ?_
     refine S_y rfl rfl rfl (Y_ldS Try.underlying137 rfl ti137 rfl rfl) ?_
     refine S_stS rfl rfl rfl ti137 rfl rfl rfl rfl (by repeat constructor) (by rfl) ?_
     refine S_nil ?_
     first
       | exact hret (Res_cellS Try.results75 Try.underlying137 rfl ti137 rfl (by repeat constructor) rfl) ⟨ad18, c18, rfl, rfl, rfl⟩
       | exact hret (Res_cellS Try.results75 Try.underlying137 rfl ti137 rfl (by repeat constructor) rfl) ⟨ad7, c7, rfl, rfl, rfl⟩
set_option maxRecDepth 100000 in
theorem readT_ok {b : Nat} {s : Strip} {ad : Option Addr} {c : Nat} (hs : s.left.length ≤ s.size) (hm : s.size ≤ 9223372036854775807) {bm bo : Nat} {most : Nat} (hmo : most ≤ 9223372036854775807) : Spx Try.prog 74 #[.pointer (some ⟨b, 0, none⟩), .func (.func 75) #[] #[.pointer (some ⟨bm, 0, none⟩), .pointer (some ⟨bo, 0, none⟩)]] [SlM elB ad c s.left] [Res.blk b (.cells (stripC s ad c) 134 (0, 0)), Res.blk bm (.cells #[.int .i64 (most : Int)] 3 (0, 0)), Res.blk bo (.cells #[str []] 9 (0, 0))] (fun v fs' own' => ∃ ad' c' n, v = .int .u64 n ∧ fs' = [SlM elB ad' c' (readT s most).1.left] ∧ own' = [Res.blk b (.cells (stripC (readT s most).1 ad' c') 134 (0, 0)), Res.blk bm (.cells #[.int .i64 (most : Int)] 3 (0, 0)), Res.blk bo (.cells #[str (readT s most).2] 9 (0, 0))]) := by
 refine Spx_of_body (fn := Try.f74) 41 Try.func74 rfl (by kernel_rfl) rfl (Nat.le_of_ble_eq_true rfl) (fun g0 Q hret hend => ?_)
 dsimp only [initL]
 refine C_seq <| C_region ?_
 refine S_run 1 rfl ?_
 refine S_nil <| C_seq <| C_seq <| C_region ?_
 refine S_run 1 rfl ?_
 refine S_y rfl rfl rfl (Y_eql1 rfl rfl rfl u109 (by rfl) (fun _ => rfl) rfl) ?_
 refine S_run 3 rfl ?_
 refine S_y rfl rfl rfl (Y_fa ly134 rfl rfl rfl) ?_
 refine S_y rfl rfl rfl (Y_ld u34 rfl rfl rfl) ?_
 refine S_run 2 rfl ?_
 refine S_nil ?_
 refine C_if rfl (fun h14 => ?_) (fun h14 => ?_)
 ·have e : readT s most = (s, []) := by unfold readT; rw [if_pos (by omega)]
  refine C_seq <| C_region ?_
  refine S_run 1 rfl ?_
  refine S_nil ?_
  rw [e] at hret
  first
    | exact hret (Res_tmps Try.results74 rfl rfl) ⟨ad, c, _, rfl, rfl, rfl⟩
    | exact hret (Res_tmps Try.results74 rfl rfl) ⟨ad20, c20, _, rfl, rfl, rfl⟩
 ·refine C_skip <| C_seq <| C_region ?_
  refine S_run 3 rfl ?_
  refine S_y rfl rfl rfl (Y_fa ly134 rfl rfl rfl) ?_
  refine S_y rfl rfl rfl (Y_ld u68 rfl rfl rfl) ?_
  refine S_enter rfl rfl rfl (E_val rfl rfl rfl rfl) (text1_ok hmo) ?_
  rintro _ _ _ ⟨ad20, c20, rfl, rfl, rfl⟩
  try dsimp only [List.cons_append, List.nil_append]
  refine S_alloc rfl rfl rfl rfl ti137 rfl (fun b5 => ?_)
  refine S_stS rfl rfl rfl ti137 rfl rfl rfl rfl (by repeat constructor) (by rfl) ?_
  refine S_nil <| C_seq <| C_seq <| C_region ?_
  refine S_y rfl rfl rfl (Y_fa ly137 rfl rfl rfl) ?_
  refine S_y rfl rfl rfl (Y_ld u34 rfl rfl rfl) ?_
  refine S_run 1 rfl ?_
  refine S_nil ?_
  refine C_if rfl (fun h23 => ?_) (fun h23 => ?_)
  ·have e : readT s most = ({ s with bad := (txtR most s.left).1.e, spot := s.size - s.left.length }, (txtR most s.left).2) := by unfold readT; rw [if_neg (by omega)]; unfold readS; rw [if_neg (by omega), if_pos (by omega)]
   refine C_seq ?_
   refine C_draw rfl ?_
   refine C_firstp (i := 0) (W := 4032) (by kernel_rfl) rfl rfl rfl rfl rfl ?_
   refine C_firstp (i := 1) (W := 3584) (by kernel_rfl) rfl rfl rfl rfl rfl ?_
   refine C_firstf (i := 2) (W := 4040) (by kernel_rfl) rfl rfl rfl rfl ly137 rfl rfl rfl ?_
   refine C_firstp (i := 4) (W := 4064) (by kernel_rfl) rfl rfl rfl rfl rfl ?_
   refine C_two (i := 3) (j := 5) (by kernel_rfl) rfl rfl ?_ ?_
   ·refine S_y rfl rfl rfl (Y_ld u34 rfl rfl rfl) ?_
    refine S_nil ?_
    refine C_one (i := 5) (by kernel_rfl) rfl ?_
    refine S_enter rfl rfl rfl (E_fn rfl rfl) (swhere_ok hs hm) ?_
    rintro _ _ _ ⟨rfl, rfl, rfl⟩
    try dsimp only [List.cons_append, List.nil_append]
    refine S_nil ?_
    refine C_firstp (i := 6) (W := 3968) (by kernel_rfl) rfl rfl rfl rfl rfl ?_
    refine C_firstf (i := 7) (W := 3840) (by kernel_rfl) rfl rfl rfl rfl ly134 rfl rfl rfl ?_
    refine C_one (i := 8) (by kernel_rfl) rfl ?_
    refine S_st rfl rfl rfl ti34 rfl rfl rfl (by repeat constructor) (by rfl) ?_
    refine S_nil ?_
    refine C_firstp (i := 9) (W := 3072) (by kernel_rfl) rfl rfl rfl rfl rfl ?_
    refine C_firstf (i := 10) (W := 2048) (by kernel_rfl) rfl rfl rfl rfl ly134 rfl rfl rfl ?_
    refine C_one (i := 11) (by kernel_rfl) rfl ?_
    refine S_st rfl rfl rfl ti3 rfl rfl rfl (by repeat constructor) (by rfl) ?_
    refine S_nil ?_
    refine C_done (by kernel_rfl) ?_
    refine C_seq <| C_region ?_
    refine S_run 1 rfl ?_
    refine S_nil ?_
    rw [e] at hret
    first
      | exact hret (Res_tmps Try.results74 rfl rfl) ⟨ad, c, _, rfl, rfl, rfl⟩
      | exact hret (Res_tmps Try.results74 rfl rfl) ⟨ad20, c20, _, rfl, rfl, rfl⟩
   ·refine S_enter rfl rfl rfl (E_fn rfl rfl) (swhere_ok hs hm) ?_
    rintro _ _ _ ⟨rfl, rfl, rfl⟩
    try dsimp only [List.cons_append, List.nil_append]
    refine S_nil ?_
    refine C_first (i := 3) (W := 4032) (by kernel_rfl) rfl rfl rfl rfl (Y_ld u34 rfl rfl rfl) ?_
    refine C_firstp (i := 6) (W := 3968) (by kernel_rfl) rfl rfl rfl rfl rfl ?_
    refine C_firstf (i := 7) (W := 3840) (by kernel_rfl) rfl rfl rfl rfl ly134 rfl rfl rfl ?_
    refine C_one (i := 8) (by kernel_rfl) rfl ?_
    refine S_st rfl rfl rfl ti34 rfl rfl rfl (by repeat constructor) (by rfl) ?_
    refine S_nil ?_
    refine C_firstp (i := 9) (W := 3072) (by kernel_rfl) rfl rfl rfl rfl rfl ?_
    refine C_firstf (i := 10) (W := 2048) (by kernel_rfl) rfl rfl rfl rfl ly134 rfl rfl rfl ?_
    refine C_one (i := 11) (by kernel_rfl) rfl ?_
    refine S_st rfl rfl rfl ti3 rfl rfl rfl (by repeat constructor) (by rfl) ?_
    refine S_nil ?_
    refine C_done (by kernel_rfl) ?_
    refine C_seq <| C_region ?_
    refine S_run 1 rfl ?_
    refine S_nil ?_
    rw [e] at hret
    first
      | exact hret (Res_tmps Try.results74 rfl rfl) ⟨ad, c, _, rfl, rfl, rfl⟩
      | exact hret (Res_tmps Try.results74 rfl rfl) ⟨ad20, c20, _, rfl, rfl, rfl⟩
  ·have e : readT s most = ({ s with left := (txtR most s.left).1.left }, (txtR most s.left).2) := by unfold readT; rw [if_neg (by omega)]; unfold readS; rw [if_neg (by omega), if_neg (by omega)]
   refine C_skip <| C_seq <| C_region ?_
   refine S_run 1 rfl ?_
   refine S_y rfl rfl rfl (Y_fa ly137 rfl rfl rfl) ?_
   refine S_y rfl rfl rfl (Y_ld u68 rfl rfl rfl) ?_
   refine S_run 1 rfl ?_
   refine S_y rfl rfl rfl (Y_fa ly134 rfl rfl rfl) ?_
   refine S_st rfl rfl rfl ti68 rfl rfl rfl (by repeat constructor) (by rfl) ?_
   refine S_nil <| C_seq <| C_region ?_
   refine S_y rfl rfl rfl (Y_fa ly137 rfl rfl rfl) ?_
   refine S_y rfl rfl rfl (Y_ld u121 rfl rfl rfl) ?_
   refine S_run 1 rfl ?_
   refine S_nil ?_
   rw [e] at hret
   first
     | exact hret (Res_tmps Try.results74 rfl rfl) ⟨ad, c, _, rfl, rfl, rfl⟩
     | exact hret (Res_tmps Try.results74 rfl rfl) ⟨ad20, c20, _, rfl, rfl, rfl⟩
set_option maxRecDepth 100000 in
theorem stext_ok {b : Nat} {s : Strip} {ad : Option Addr} {c : Nat} {most : Nat} (hs : s.left.length ≤ s.size) (hm : s.size ≤ 9223372036854775807) (hmo : most ≤ 9223372036854775807) : Spx Try.prog 59 #[.pointer (some ⟨b, 0, none⟩), .int .i64 (most : Int)] [SlM elB ad c s.left] [Res.blk b (.cells (stripC s ad c) 134 (0, 0))] (fun v fs' own' => ∃ ad' c', v = str (readT s most).2 ∧ fs' = [SlM elB ad' c' (readT s most).1.left] ∧ own' = [Res.blk b (.cells (stripC (readT s most).1 ad' c') 134 (0, 0))]) := by
 refine Spx_of_body (fn := Try.f59) 9 Try.func59 rfl (by kernel_rfl) rfl (Nat.le_of_ble_eq_true rfl) (fun g0 Q hret hend => ?_)
 dsimp only [initL]
 refine C_seq <| C_region ?_
 refine S_box rfl rfl rfl rfl rfl rfl (fun b3 => ?_)
 refine S_alloc rfl rfl rfl rfl ti9 rfl (fun b4 => ?_)
 refine S_nil <| C_seq <| C_region ?_
 refine S_run 2 rfl ?_
 refine S_enter rfl rfl rfl (E_fn rfl rfl) (readT_ok hs hm hmo) ?_
 rintro _ _ _ ⟨ad1, c1, n1, rfl, rfl, rfl⟩
 try dsimp only [List.cons_append, List.nil_append]
 refine S_nil <| C_seq <| C_region ?_
 refine S_y rfl rfl rfl (Y_ld u9 rfl rfl rfl) ?_
 refine S_st rfl rfl rfl ti9 rfl rfl rfl (by repeat constructor) (by rfl) ?_
 refine S_nil ?_
 exact hret (Res_cell1 Try.results59 u9 rfl rfl (by repeat constructor) rfl) ⟨ad1, c1, rfl, rfl, rfl⟩
set_option maxRecDepth 100000 in
theorem cloneB_ok {ad : Option Addr} {c : Nat} {p : Bytes} (hb : p.length ≤ 140737488355328) : Spx Try.prog 78 #[.slice ad p.length c] [SlM elB ad c p] [] (fun v fs' own' => ∃ ad' c', v = .slice ad' p.length c' ∧ fs' = [SlM elB ad' c' p] ∧ own' = []) := by
 refine Spx_of_body (fn := Try.f78) 8 Try.func78 rfl (by kernel_rfl) rfl (Nat.le_of_ble_eq_true rfl) (fun g0 Q hret hend => ?_)
 dsimp only [initL]
 refine C_pure (f := SlM elB ad c p) (by repeat constructor) (φ := ad.isNone = true → p = []) (fun g h hn => Classical.byContradiction fun hp => by obtain ⟨b, o, e, _⟩ := h.2.2 hp; subst e; cases hn) (fun hnil => ?_)
 refine C_seq <| C_region ?_
 refine S_run 1 rfl ?_
 refine S_nil <| C_seq <| C_seq <| C_region ?_
 refine S_run 1 rfl ?_
 refine S_y rfl rfl rfl (Y_eql1 rfl rfl rfl u68 (by rfl) (fun _ => rfl) (show eq1 _ _ _ = some ad.isNone by cases ad <;> rfl)) ?_
 refine S_nil ?_
 refine C_cond rfl (fun h4 => ?_) (fun h4 => ?_)
 ·have hp0 := hnil h4
  subst hp0
  refine C_fact (f := SlM elB none 0 []) (fun g _ => SlM.nil _ _ _ g) ?_
  refine C_seq <| C_region ?_
  refine S_run 1 rfl ?_
  refine S_nil ?_
  first
    | exact hret (Res_tmps Try.results78 rfl rfl) ⟨ad7, c7, rfl, rfl, rfl⟩
    | exact hret (Res_tmps Try.results78 rfl rfl) ⟨none, 0, rfl, rfl, rfl⟩
 ·refine C_skip <| C_seq <| C_region ?_
  refine S_lit elB [] (parts := []) (vs := []) rfl rfl rfl rfl u68 ti5 rfl rfl rfl rfl rfl (by decide) (fun ad5 c5 => ?_)
  refine S_run 1 rfl ?_
  refine S_app rfl rfl rfl rfl u68 ti5 rfl rfl rfl rfl rfl rfl (by repeat constructor) (by repeat constructor) (by simp only [List.length_nil]; omega) (by simp only [List.length_nil]; omega) (fun ad7 c7 => ?_)
  refine S_pub (by repeat constructor) ?_
  refine S_run 1 rfl ?_
  refine S_nil ?_
  first
    | exact hret (Res_tmps Try.results78 rfl rfl) ⟨ad7, c7, rfl, rfl, rfl⟩
    | exact hret (Res_tmps Try.results78 rfl rfl) ⟨none, 0, rfl, rfl, rfl⟩
set_option maxRecDepth 100000 in
theorem unroll_ok {ad : Option Addr} {c : Nat} {p : Bytes} (hb : p.length ≤ 140737488355328) : Spx Try.prog 63 #[.slice ad p.length c] [SlM elB ad c p] [] (fun v fs' own' => ∃ b ad' c', v = .pointer (some ⟨b, 0, none⟩) ∧ fs' = [SlM elB ad' c' p] ∧ own' = [Res.blk b (.cells (stripC ⟨p, p.length, 0, 0⟩ ad' c') 134 (0, 0))]) := by
 refine Spx_of_body (fn := Try.f63) 9 Try.func63 rfl (by kernel_rfl) rfl (Nat.le_of_ble_eq_true rfl) (fun g0 Q hret hend => ?_)
 dsimp only [initL]
 refine C_seq <| C_region ?_
 refine S_run 1 rfl ?_
 refine S_nil <| C_seq <| C_region ?_
 refine S_run 1 rfl ?_
 refine S_enter rfl rfl rfl (E_fn rfl rfl) (cloneB_ok hb) ?_
 rintro _ _ _ ⟨ad4, c4, rfl, rfl, rfl⟩
 try dsimp only [List.cons_append, List.nil_append]
 refine S_run 1 rfl ?_
 refine S_y rfl rfl rfl (Y_slen rfl rfl u68) ?_
 refine S_y rfl rfl rfl (Y_build [.const (.int .i64 0), .const (.int .i64 0), .tmp 6, .tmp 4] bt134 rfl rfl rfl rfl) ?_
 refine S_box rfl rfl rfl rfl rfl rfl (fun b8 => ?_)
 refine S_run 1 rfl ?_
 refine S_nil ?_
 exact hret (Res_tmps Try.results63 rfl rfl) ⟨b8, ad4, c4, rfl, rfl, rfl⟩
set_option maxRecDepth 100000 in
theorem small_ok {b : Nat} {s : Strip} {ad : Option Addr} {c : Nat} {most : Nat} (hs : s.left.length ≤ s.size) (hm : s.size ≤ 9223372036854775807) (hmo : most ≤ 9223372036854775807) : Spx Try.prog 60 #[.pointer (some ⟨b, 0, none⟩), .int .i64 (most : Int)] [SlM elB ad c s.left] [Res.blk b (.cells (stripC s ad c) 134 (0, 0))] (fun v fs' own' => ∃ ad' c', v = .tuple #[.int .i64 ((min (readS s (numR true 0 s.left)).2 most : Nat) : Int), .bool (decide (((readS s (numR true 0 s.left)).2 : Int) ≤ (most : Int)))] ∧ fs' = [SlM elB ad' c' (readS s (numR true 0 s.left)).1.left] ∧ own' = [Res.blk b (.cells (stripC (readS s (numR true 0 s.left)).1 ad' c') 134 (0, 0))]) := by
 refine Spx_of_body (fn := Try.f60) 18 Try.func60 rfl (by kernel_rfl) rfl (Nat.le_of_ble_eq_true rfl) (fun g0 Q hret hend => ?_)
 dsimp only [initL]
 refine C_seq <| C_region ?_
 refine S_run 2 rfl ?_
 refine S_nil <| C_seq <| C_region ?_
 refine S_run 1 rfl ?_
 refine S_enter rfl rfl rfl (E_fn rfl rfl) (snum_ok hs hm) ?_
 rintro _ _ _ ⟨ad1, c1, rfl, rfl, rfl⟩
 try dsimp only [List.cons_append, List.nil_append]
 refine S_run 1 rfl ?_
 refine S_nil <| C_seq <| C_region ?_
 refine S_run 2 rfl ?_
 refine S_y rfl rfl rfl ((Y_conv rfl rfl u3 u121).as (v' := .int .u64 (most : Int)) (by rw [wrap_u64 (by omega) (by omega)])) ?_
 refine S_y rfl rfl rfl ((Y_min rfl rfl rfl).as (v' := .int .u64 ((min (readS s (numR true 0 s.left)).2 most : Nat) : Int)) (by congr 1; omega)) ?_
 refine S_y rfl rfl rfl ((Y_conv rfl rfl u121 u3).as (v' := .int .i64 ((min (readS s (numR true 0 s.left)).2 most : Nat) : Int)) (by rw [wrap_i64 (by omega) (by omega)])) ?_
 refine S_run 2 rfl ?_
 refine S_y rfl rfl rfl ((Y_conv rfl rfl u3 u121).as (v' := .int .u64 (most : Int)) (by rw [wrap_u64 (by omega) (by omega)])) ?_
 refine S_run 3 rfl ?_
 refine S_nil ?_
 exact hret (Res_tmps Try.results60 rfl rfl) ⟨ad1, c1, rfl, rfl, rfl⟩
end Go.Proofs.Ytlgbhceifnjdnaa
