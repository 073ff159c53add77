/- Walks: WD. -/
import Derived.Test.YtlgbhceifnjdnaaPX
import Derived.Test.YtlgbhceifnjdnaaWC
import Derived.Test.YtlgbhceifnjdnaaBY
import Derived.Test.YtlgbhceifnjdnaaProg
import Derived.KernelRfl
namespace Go.Proofs.Ytlgbhceifnjdnaa
open Go.KX
namespace TWD
theorem u3 : Try.prog.underlying 3 = some (.int .i64) := Try.underlying3
theorem u5 : Try.prog.underlying 5 = some (.int .u8) := Try.underlying5
theorem u9 : Try.prog.underlying 9 = some (.string) := Try.underlying9
theorem u27 : Try.prog.underlying 27 = some (.slice 9) := Try.underlying27
theorem u68 : Try.prog.underlying 68 = some (.slice 5) := Try.underlying68
theorem ti9 : TI Try.prog 9 1 16 (str []) := TI_of (by kernel_rfl)
theorem ti27 : TI Try.prog 27 1 24 (.slice none 0 0) := TI_of (by kernel_rfl)
theorem ly29 : LY Try.prog 29 [(0, 1, false), (1, 1, false), (2, 1, false)] := LY_of Try.underlying29 (by kernel_rfl)
end TWD
open TWD
set_option maxRecDepth 100000 in
theorem mroom_ok {bm : Nat} {m : Mem} {adP : Option Addr} {cP : Nat} : Spx Try.prog 124 #[.pointer (some ⟨bm, 0, none⟩)] [] [Res.blk bm (.cells (memC m adP cP) 29 (0, 0)), Res.arr elS 9 adP cP (m).pages] (fun v fs' own' => v = .int .i64 m.size ∧ fs' = [] ∧ own' = [Res.blk bm (.cells (memC m adP cP) 29 (0, 0)), Res.arr elS 9 adP cP (m).pages]) := by
 refine Spx_of_body (fn := Try.f124) 7 Try.func124 rfl (by kernel_rfl) rfl (Nat.le_of_ble_eq_true rfl) (fun g0 Q hret hend => ?_); dsimp only [initL]; refine C_seq <| C_region <| S_run 1 rfl <| S_nil <| C_seq <| C_region <| S_run 2 rfl ?_; refine S_y rfl rfl rfl (Y_fa ly29 rfl rfl rfl) ?_; refine S_y rfl rfl rfl (Y_ld u3 rfl rfl rfl) ?_; refine S_run 1 rfl <| S_nil ?_; exact hret (Res_tmps Try.results124 rfl rfl) ⟨rfl, rfl, rfl⟩
set_option maxRecDepth 100000 in
theorem mload_ok {bm : Nat} {m : Mem} {adP : Option Addr} {cP : Nat} (hm : MOK m) {n : Int} : Spx Try.prog 123 #[.pointer (some ⟨bm, 0, none⟩), .int .i64 n] [] [Res.blk bm (.cells (memC m adP cP) 29 (0, 0)), Res.arr elS 9 adP cP (m).pages] (fun v fs' own' => ∃ ad c, v = .tuple #[.slice ad (loadM m n).2.length c, .int .i64 (loadM m n).1] ∧ fs' = [SlM elB ad c (loadM m n).2] ∧ own' = [Res.blk bm (.cells (memC m adP cP) 29 (0, 0)), Res.arr elS 9 adP cP (m).pages]) := by
 refine Spx_of_body (fn := Try.f123) 26 Try.func123 rfl (by kernel_rfl) rfl (Nat.le_of_ble_eq_true rfl) (fun g0 Q hret hend => ?_); dsimp only [initL]; have hfew := hm.few; refine C_seq <| C_region <| S_run 2 rfl <| S_nil <| C_seq <| C_seq <| C_region <| S_run 3 rfl ?_; refine S_prop 8 rfl (fun h8 => ?_) (fun h8 => ?_)
 ·refine S_run 8 rfl <| S_nil ?_; refine C_cond_t rfl ?_; refine C_seq <| C_region ?_; have e : loadM m n = (30, []) := by unfold loadM; rw [if_pos (by omega)]
  refine S_fact (f := SlM elB none 0 []) (fun g _ => SlM.nil _ _ _ g) ?_; refine S_run 2 rfl <| S_nil ?_; rw [e] at hret
  first
    | exact hret (Res_tmps Try.results123 rfl rfl) ⟨ad25, c25, rfl, rfl, rfl⟩
    | exact hret (Res_tmps Try.results123 rfl rfl) ⟨none, 0, rfl, rfl, rfl⟩
 ·refine S_run 3 rfl ?_; refine S_y rfl rfl rfl (Y_fa ly29 rfl rfl rfl) ?_; refine S_y rfl rfl rfl (Y_ld u27 rfl rfl rfl) ?_; refine S_y rfl rfl rfl (Y_slen rfl rfl u27) ?_; refine S_run 2 rfl <| S_nil ?_; refine C_if rfl (fun h16 => ?_) (fun h16 => ?_)
  ·refine C_seq <| C_region ?_; have e : loadM m n = (30, []) := by unfold loadM; rw [if_pos (by omega)]
   refine S_fact (f := SlM elB none 0 []) (fun g _ => SlM.nil _ _ _ g) ?_; refine S_run 2 rfl <| S_nil ?_; rw [e] at hret
   first
     | exact hret (Res_tmps Try.results123 rfl rfl) ⟨ad25, c25, rfl, rfl, rfl⟩
     | exact hret (Res_tmps Try.results123 rfl rfl) ⟨none, 0, rfl, rfl, rfl⟩
  ·refine C_skip <| C_seq <| C_region ?_; obtain ⟨y, hy⟩ : ∃ y, m.pages[(n - 1).toNat]? = some y := ⟨_, List.getElem?_eq_getElem (by omega)⟩; have e : loadM m n = (0, y) := by unfold loadM; rw [if_neg (by omega), hy]; rfl
   have hyl := hm.small y (List.mem_of_getElem? hy); refine S_run 2 rfl ?_; refine S_y rfl rfl rfl (Y_fa ly29 rfl rfl rfl) ?_; refine S_y rfl rfl rfl (Y_ld u27 rfl rfl rfl) ?_; refine S_run 1 rfl ?_; refine S_y rfl rfl rfl (Y_subi rfl rfl rfl (by omega) (by omega)) ?_; refine S_yx rfl rfl rfl (Y_ixO rfl u27 ti9 rfl rfl rfl (by repeat constructor) rfl (by omega) (by omega)) ?_; rintro _ _ ⟨b23, rfl, rfl⟩; refine S_y rfl rfl rfl (Y_ldA (i := (n - 1).toNat) (j := 0) u9 rfl rfl rfl (by repeat constructor) (by repeat constructor) rfl hy rfl) ?_; refine S_s2b rfl rfl rfl rfl rfl u9 u68 u5 (by omega) (fun ad25 c25 => ?_); refine S_run 2 rfl <| S_nil ?_; rw [e] at hret
   first
     | exact hret (Res_tmps Try.results123 rfl rfl) ⟨ad25, c25, rfl, rfl, rfl⟩
     | exact hret (Res_tmps Try.results123 rfl rfl) ⟨none, 0, rfl, rfl, rfl⟩
set_option maxRecDepth 100000 in
theorem mlay_ok {bm : Nat} {m : Mem} {adP : Option Addr} {cP : Nat} {ad : Option Addr} {c : Nat} {p : Bytes} (hm : MOK m) : Spx Try.prog 122 #[.pointer (some ⟨bm, 0, none⟩), .slice ad p.length c] [SlM elB ad c p] [Res.blk bm (.cells (memC m adP cP) 29 (0, 0)), Res.arr elS 9 adP cP (m).pages] (fun v fs' own' => ∃ adP' cP', v = .tuple #[.int .i64 (layM m p).2.1, .int .i64 (layM m p).2.2] ∧ fs' = [] ∧ own' = [Res.blk bm (.cells (memC (layM m p).1 adP' cP') 29 (0, 0)), Res.arr elS 9 adP' cP' ((layM m p).1).pages]) := by
 refine Spx_of_body (fn := Try.f122) 39 Try.func122 rfl (by kernel_rfl) rfl (Nat.le_of_ble_eq_true rfl) (fun g0 Q hret hend => ?_); dsimp only [initL]; have hfew := hm.few; refine C_seq <| C_region <| S_run 2 rfl <| S_nil <| C_seq <| C_seq <| C_region <| S_run 1 rfl ?_; refine S_y rfl rfl rfl (Y_slen rfl rfl u68) ?_; refine S_run 2 rfl ?_; refine S_y rfl rfl rfl (Y_fa ly29 rfl rfl rfl) ?_; refine S_y rfl rfl rfl (Y_ld u3 rfl rfl rfl) ?_; refine S_run 1 rfl <| S_nil ?_; refine C_if rfl (fun h12 => ?_) (fun h12 => ?_)
 ·have e : layM m p = (m, 0, 1) := by unfold layM; rw [if_pos (by omega)]
  refine C_seq <| C_region <| S_run 2 rfl <| S_nil ?_; rw [e] at hret
  first
    | exact hret (Res_tmps Try.results122 rfl rfl) ⟨ad31, c31, rfl, rfl, rfl⟩
    | exact hret (Res_tmps Try.results122 rfl rfl) ⟨adP, cP, rfl, rfl, rfl⟩
 ·refine C_skip <| C_seq <| C_seq ?_; refine C_draw rfl ?_; refine c_p 0 542 ?_; refine c_p 1 540 ?_; refine c_f 2 536 ly29 ?_; refine c_p 5 960 ?_; refine c_p 6 896 ?_; refine c_r 3 528 (by kernel_rfl) rfl rfl rfl rfl (Y_ld u27 rfl rfl rfl) ?_; refine c_r 4 512 (by kernel_rfl) rfl rfl rfl rfl (Y_slen rfl rfl u27) ?_; refine c_f 7 768 ly29 ?_; refine c_r 8 512 (by kernel_rfl) rfl rfl rfl rfl (Y_ld u3 rfl rfl rfl) ?_; refine c_p 9 0 ?_; refine c_d ?_; refine C_if rfl (fun h22 => ?_) (fun h22 => ?_)
  ·have e : layM m p = (m, 0, 5) := by unfold layM; rw [if_neg (by omega), if_pos (by omega)]
   refine C_seq <| C_region <| S_run 2 rfl <| S_nil ?_; rw [e] at hret
   first
     | exact hret (Res_tmps Try.results122 rfl rfl) ⟨ad31, c31, rfl, rfl, rfl⟩
     | exact hret (Res_tmps Try.results122 rfl rfl) ⟨adP, cP, rfl, rfl, rfl⟩
  ·have e : layM m p = ({ m with pages := m.pages ++ [p] }, m.pages.length + 1, 0) := by unfold layM; rw [if_neg (by omega), if_neg (by omega)]
   refine C_skip <| C_seq ?_; refine C_draw rfl ?_; refine c_p 0 3584 ?_; refine c_p 1 3868 ?_; refine c_p 2 3864 ?_; refine c_f 3 3856 ly29 ?_; refine c_p 5 4032 ?_; refine c_r 6 3968 (by kernel_rfl) rfl rfl rfl rfl (Y_b2s rfl rfl rfl (by repeat constructor) u68 u5 u9) ?_; refine C_two (i := 4) (j := 7) (by kernel_rfl) rfl rfl ?_ ?_
   ·refine S_y rfl rfl rfl (Y_ld u27 rfl rfl rfl) ?_; refine S_nil ?_; refine C_one (i := 7) (by kernel_rfl) rfl ?_; refine S_lit1 elS (fun s => rfl) rfl rfl rfl rfl u27 ti9 rfl rfl rfl rfl (fun ad30 c30 => ?_); refine S_pub (by repeat constructor) ?_; refine S_nil ?_; refine C_one (i := 8) (by kernel_rfl) rfl ?_; refine S_app (ys := m.pages) (zs := [p]) rfl rfl rfl rfl u27 ti9 rfl rfl rfl rfl rfl rfl (by repeat constructor) (by repeat constructor) (by simp only [List.length_cons, List.length_nil]; omega) (by simp only [List.length_cons, List.length_nil]; omega) (fun ad31 c31 => ?_); refine S_nil ?_; refine c_p 9 3072 ?_; refine c_f 10 2048 ly29 ?_; refine C_one (i := 11) (by kernel_rfl) rfl ?_; refine S_st rfl rfl rfl ti27 rfl rfl rfl (by repeat constructor) (by rfl) ?_; refine S_nil <| c_d <| C_seq <| C_region <| S_run 2 rfl ?_; refine S_y rfl rfl rfl (Y_fa ly29 rfl rfl rfl) ?_; refine S_y rfl rfl rfl (Y_ld u27 rfl rfl rfl) ?_; refine S_y rfl rfl rfl ((Y_slen rfl rfl u27).as (v' := .int .i64 ((m.pages.length + 1 : Nat) : Int)) (by simp)) ?_; refine S_run 2 rfl <| S_nil ?_; rw [e] at hret
    first
      | exact hret (Res_tmps Try.results122 rfl rfl) ⟨ad31, c31, rfl, rfl, rfl⟩
      | exact hret (Res_tmps Try.results122 rfl rfl) ⟨adP, cP, rfl, rfl, rfl⟩
   ·refine S_lit1 elS (fun s => rfl) rfl rfl rfl rfl u27 ti9 rfl rfl rfl rfl (fun ad30 c30 => ?_); refine S_pub (by repeat constructor) ?_; refine S_nil ?_; refine c_r 4 3840 (by kernel_rfl) rfl rfl rfl rfl (Y_ld u27 rfl rfl rfl) ?_; refine C_one (i := 8) (by kernel_rfl) rfl ?_; refine S_app (ys := m.pages) (zs := [p]) rfl rfl rfl rfl u27 ti9 rfl rfl rfl rfl rfl rfl (by repeat constructor) (by repeat constructor) (by simp only [List.length_cons, List.length_nil]; omega) (by simp only [List.length_cons, List.length_nil]; omega) (fun ad31 c31 => ?_); refine S_nil ?_; refine c_p 9 3072 ?_; refine c_f 10 2048 ly29 ?_; refine C_one (i := 11) (by kernel_rfl) rfl ?_; refine S_st rfl rfl rfl ti27 rfl rfl rfl (by repeat constructor) (by rfl) ?_; refine S_nil <| c_d <| C_seq <| C_region <| S_run 2 rfl ?_; refine S_y rfl rfl rfl (Y_fa ly29 rfl rfl rfl) ?_; refine S_y rfl rfl rfl (Y_ld u27 rfl rfl rfl) ?_; refine S_y rfl rfl rfl ((Y_slen rfl rfl u27).as (v' := .int .i64 ((m.pages.length + 1 : Nat) : Int)) (by simp)) ?_; refine S_run 2 rfl <| S_nil ?_; rw [e] at hret
    first
      | exact hret (Res_tmps Try.results122 rfl rfl) ⟨ad31, c31, rfl, rfl, rfl⟩
      | exact hret (Res_tmps Try.results122 rfl rfl) ⟨adP, cP, rfl, rfl, rfl⟩
end Go.Proofs.Ytlgbhceifnjdnaa
