/- Walks: WV. -/
import Derived.Test.YtlgbhceifnjdnaaPY
import Derived.Test.YtlgbhceifnjdnaaWU
import Derived.Test.YtlgbhceifnjdnaaWQ
import Derived.Test.YtlgbhceifnjdnaaWL
import Derived.Test.YtlgbhceifnjdnaaProg
import Derived.KernelRfl
namespace Go.Proofs.Ytlgbhceifnjdnaa
open Go.KX
namespace TWV
theorem u3 : Try.prog.underlying 3 = some (.int .i64) := Try.underlying3
theorem u9 : Try.prog.underlying 9 = some (.string) := Try.underlying9
theorem u26 : Try.prog.underlying 26 = some (.pointer 29) := Try.underlying26
theorem u32 : Try.prog.underlying 32 = some (.slice 56) := Try.underlying32
theorem u33 : Try.prog.underlying 33 = some (.slice 3) := Try.underlying33
theorem ti29 : TI Try.prog 29 3 40 (.agg #[.slice none 0 0, .int .i64 0, .int .i64 0]) := TI_of (by kernel_rfl)
theorem ti31 : TI Try.prog 31 3 24 (.agg #[.int .i64 0, .int .i64 0, .int .i64 0]) := TI_of (by kernel_rfl)
theorem ti32 : TI Try.prog 32 1 24 (.slice none 0 0) := TI_of (by kernel_rfl)
theorem ti56 : TI Try.prog 56 2 32 (.agg #[str [], str []]) := TI_of (by kernel_rfl)
theorem ti74 : TI Try.prog 74 1 8 (.pointer none) := TI_of (by kernel_rfl)
theorem ti95 : TI Try.prog 95 1 8 (.pointer none) := TI_of (by kernel_rfl)
theorem ly29 : LY Try.prog 29 [(0, 1, false), (1, 1, false), (2, 1, false)] := LY_of Try.underlying29 (by kernel_rfl)
theorem ly31 : LY Try.prog 31 [(0, 1, false), (1, 1, false), (2, 1, false)] := LY_of Try.underlying31 (by kernel_rfl)
theorem ly56 : LY Try.prog 56 [(0, 1, false), (1, 1, false)] := LY_of Try.underlying56 (by kernel_rfl)
theorem bt29 : BT Try.prog 29 [(0, 1), (1, 1), (2, 1)] [.slice none 0 0, .int .i64 0, .int .i64 0] := BT_of (pl := [(0, 1, false), (1, 1, false), (2, 1, false)]) Try.underlying29 (by kernel_rfl) ti29
theorem bt31 : BT Try.prog 31 [(0, 1), (1, 1), (2, 1)] [.int .i64 0, .int .i64 0, .int .i64 0] := BT_of (pl := [(0, 1, false), (1, 1, false), (2, 1, false)]) Try.underlying31 (by kernel_rfl) ti31
theorem bt56 : BT Try.prog 56 [(0, 1), (1, 1)] [str [], str []] := BT_of (pl := [(0, 1, false), (1, 1, false)]) Try.underlying56 (by kernel_rfl) ti56
end TWV
open TWV
set_option maxRecDepth 100000 in
theorem getNil_ok {t : Tree} {key : Bytes} : Spx Try.prog 17 #[.nilIface, .agg (treeC t), str key] [] [] (fun v fs' own' => v = .tuple #[str [], .bool false, .int .i64 7] ∧ fs' = [] ∧ own' = []) := by
 refine Spx_of_body (fn := Try.f17) 91 Try.func17 rfl (by kernel_rfl) rfl (Nat.le_of_ble_eq_true rfl) (fun g0 Q hret hend => ?_)
 dsimp only [initL]
 refine C_seq <| C_region ?_
 refine S_box rfl rfl rfl rfl rfl rfl (fun b4 => ?_)
 refine S_run 3 rfl ?_
 refine S_nil <| C_seq <| C_region ?_
 refine S_run 1 rfl ?_
 refine S_enter rfl rfl rfl (E_fn rfl rfl) beginNil_ok ?_
 rintro _ _ _ ⟨rfl, rfl, rfl⟩
 try dsimp only [List.cons_append, List.nil_append]
 refine S_run 5 rfl ?_
 refine S_nil <| C_seq <| C_block <| C_seq <| C_region ?_
 refine S_run 3 rfl ?_
 refine S_nil ?_
 refine C_if rfl (fun h22 => ?_) (fun h22 => ?_)
 ·refine C_seq <| C_region ?_
  refine S_run 4 rfl ?_
  refine S_nil ?_
  exact hret (Res_tmps Try.results17 rfl rfl) ⟨rfl, rfl, rfl⟩
 ·omega
set_option maxRecDepth 100000 in
theorem putNil_ok {t : Tree} {key value : Bytes} : Spx Try.prog 23 #[.nilIface, .agg (treeC t), str key, str value] [] [] (fun v fs' own' => v = .tuple #[.agg (treeC tree0), .slice none 0 0, .int .i64 7] ∧ fs' = [] ∧ own' = []) := by
 refine Spx_of_body (fn := Try.f23) 85 Try.func23 rfl (by kernel_rfl) rfl (Nat.le_of_ble_eq_true rfl) (fun g0 Q hret hend => ?_)
 dsimp only [initL]
 refine C_seq <| C_region ?_
 refine S_box rfl rfl rfl rfl rfl rfl (fun b5 => ?_)
 refine S_box rfl rfl rfl rfl rfl rfl (fun b6 => ?_)
 refine S_alloc rfl rfl rfl rfl ti31 rfl (fun b8 => ?_)
 refine S_run 2 rfl ?_
 refine S_nil <| C_seq <| C_region ?_
 refine S_run 1 rfl ?_
 refine S_enter rfl rfl rfl (E_fn rfl rfl) beginNil_ok ?_
 rintro _ _ _ ⟨rfl, rfl, rfl⟩
 try dsimp only [List.cons_append, List.nil_append]
 refine S_run 5 rfl ?_
 refine S_nil <| C_seq <| C_block <| C_seq <| C_region ?_
 refine S_run 3 rfl ?_
 refine S_nil ?_
 refine C_if rfl (fun h22 => ?_) (fun h22 => ?_)
 ·refine C_seq <| C_region ?_
  refine S_y rfl rfl rfl (Y_build [.const (.int .i64 0), .const (.int .i64 0), .const (.int .i64 0)] bt31 rfl rfl rfl rfl) ?_
  refine S_run 1 rfl ?_
  refine S_stS rfl rfl rfl ti31 rfl rfl rfl rfl (by repeat constructor) (by rfl) ?_
  refine S_run 2 rfl ?_
  refine S_nil ?_
  exact hret (Res_c3 Try.results23 rfl (LdV_S Try.underlying31 rfl ti31 (by repeat constructor) rfl) rfl rfl) ⟨rfl, rfl, rfl⟩
 ·omega
set_option maxRecDepth 100000 in
theorem turnNil_ok {t : Tree} {key : Bytes} {f : Value} {r : Res} : Spx Try.prog 44 #[.nilIface, .agg (treeC t), str key, f] [] [r] (fun v fs' own' => v = .tuple #[.agg (treeC tree0), .slice none 0 0, .int .i64 7] ∧ fs' = [] ∧ own' = [r]) := by
 refine Spx_of_body (fn := Try.f44) 116 Try.func44 rfl (by kernel_rfl) rfl (Nat.le_of_ble_eq_true rfl) (fun g0 Q hret hend => ?_)
 dsimp only [initL]
 refine C_seq <| C_region ?_
 refine S_box rfl rfl rfl rfl rfl rfl (fun b5 => ?_)
 refine S_alloc rfl rfl rfl rfl ti31 rfl (fun b8 => ?_)
 refine S_run 2 rfl ?_
 refine S_nil <| C_seq <| C_region ?_
 refine S_run 1 rfl ?_
 refine S_enter rfl rfl rfl (E_fn rfl rfl) beginNil_ok ?_
 rintro _ _ _ ⟨rfl, rfl, rfl⟩
 try dsimp only [List.cons_append, List.nil_append]
 refine S_run 5 rfl ?_
 refine S_nil <| C_seq <| C_block <| C_seq <| C_region ?_
 refine S_run 3 rfl ?_
 refine S_nil ?_
 refine C_if rfl (fun h21 => ?_) (fun h21 => ?_)
 ·refine C_seq <| C_region ?_
  refine S_y rfl rfl rfl (Y_build [.const (.int .i64 0), .const (.int .i64 0), .const (.int .i64 0)] bt31 rfl rfl rfl rfl) ?_
  refine S_run 1 rfl ?_
  refine S_stS rfl rfl rfl ti31 rfl rfl rfl rfl (by repeat constructor) (by rfl) ?_
  refine S_run 2 rfl ?_
  refine S_nil ?_
  exact hret (Res_c3 Try.results44 rfl (LdV_S Try.underlying31 rfl ti31 (by repeat constructor) rfl) rfl rfl) ⟨rfl, rfl, rfl⟩
 ·omega
set_option maxRecDepth 100000 in
theorem delNil_ok {t : Tree} {key : Bytes} : Spx Try.prog 24 #[.nilIface, .agg (treeC t), str key] [] [] (fun v fs' own' => v = .tuple #[.agg (treeC tree0), .slice none 0 0, .int .i64 7] ∧ fs' = [] ∧ own' = []) := by
 refine Spx_of_body (fn := Try.f24) 47 Try.func24 rfl (by kernel_rfl) rfl (Nat.le_of_ble_eq_true rfl) (fun g0 Q hret hend => ?_)
 dsimp only [initL]
 refine C_seq <| C_region ?_
 refine S_box rfl rfl rfl rfl rfl rfl (fun b4 => ?_)
 refine S_box rfl rfl rfl rfl rfl rfl (fun b5 => ?_)
 refine S_alloc rfl rfl rfl rfl ti31 rfl (fun b6 => ?_)
 refine S_run 2 rfl ?_
 refine S_nil <| C_seq <| C_region ?_
 refine S_alloc rfl rfl rfl rfl ti95 rfl (fun b9 => ?_)
 refine S_nil <| C_seq <| C_region ?_
 refine S_run 1 rfl ?_
 refine S_y rfl rfl rfl (Y_ldS Try.underlying31 rfl ti31 rfl rfl) ?_
 refine S_y rfl rfl rfl (Y_ld u9 rfl rfl rfl) ?_
 refine S_run 1 rfl ?_
 refine S_enter rfl rfl rfl (E_fn rfl rfl) (turnNil_ok (r := Res.blk b9 (.cells #[.pointer none] 95 (0, 0)))) ?_
 rintro _ _ _ ⟨rfl, rfl, rfl⟩
 try dsimp only [List.cons_append, List.nil_append]
 refine S_run 4 rfl ?_
 refine S_alloc rfl rfl rfl rfl ti31 rfl (fun b10 => ?_)
 refine S_stS rfl rfl rfl ti31 rfl rfl rfl rfl (by repeat constructor) (by rfl) ?_
 refine S_run 2 rfl ?_
 refine S_nil <| C_seq <| C_seq <| C_region ?_
 refine S_run 3 rfl ?_
 refine S_prop 26 rfl (fun h26 => ?_) (fun h26 => ?_)
 ·skip
  refine S_run 3 rfl ?_
  refine S_nil ?_
  refine C_cond_t rfl ?_
  refine C_seq <| C_region ?_
  refine S_y rfl rfl rfl (Y_ldS Try.underlying31 rfl ti31 rfl rfl) ?_
  refine S_run 2 rfl ?_
  refine S_stS rfl rfl rfl ti31 rfl rfl rfl rfl (by repeat constructor) (by rfl) ?_
  refine S_run 2 rfl ?_
  refine S_nil ?_
  exact hret (Res_c3 Try.results24 rfl (LdV_S Try.underlying31 rfl ti31 (by repeat constructor) rfl) rfl rfl) ⟨rfl, rfl, rfl⟩
 ·omega
set_option maxRecDepth 100000 in
theorem scanNil_ok {t : Tree} {fr to_ : Bytes} : Spx Try.prog 19 #[.nilIface, .agg (treeC t), str fr, str to_] [] [] (fun v fs' own' => v = .tuple #[.slice none 0 0, .int .i64 7] ∧ fs' = [] ∧ own' = []) := by
 refine Spx_of_body (fn := Try.f19) 41 Try.func19 rfl (by kernel_rfl) rfl (Nat.le_of_ble_eq_true rfl) (fun g0 Q hret hend => ?_)
 dsimp only [initL]
 refine C_seq <| C_region ?_
 refine S_box rfl rfl rfl rfl rfl rfl (fun b5 => ?_)
 refine S_alloc rfl rfl rfl rfl ti32 rfl (fun b8 => ?_)
 refine S_run 1 rfl ?_
 refine S_nil <| C_seq <| C_region ?_
 refine S_run 1 rfl ?_
 refine S_enter rfl rfl rfl (E_fn rfl rfl) beginNil_ok ?_
 rintro _ _ _ ⟨rfl, rfl, rfl⟩
 try dsimp only [List.cons_append, List.nil_append]
 refine S_run 3 rfl ?_
 refine S_alloc rfl rfl rfl rfl ti74 rfl (fun b10 => ?_)
 refine S_st rfl rfl rfl ti74 rfl rfl rfl (by repeat constructor) (by rfl) ?_
 refine S_run 1 rfl ?_
 refine S_nil <| C_seq <| C_block <| C_seq <| C_region ?_
 refine S_run 3 rfl ?_
 refine S_nil ?_
 refine C_if rfl (fun h16 => ?_) (fun h16 => ?_)
 ·refine C_seq <| C_region ?_
  refine S_run 1 rfl ?_
  refine S_st rfl rfl rfl ti32 rfl rfl rfl (by repeat constructor) (by rfl) ?_
  refine S_run 1 rfl ?_
  refine S_nil ?_
  exact hret (Res_c2 Try.results19 rfl (LdV_1 u32 rfl (by repeat constructor) rfl) rfl) ⟨rfl, rfl, rfl⟩
 ·omega
set_option maxRecDepth 100000 in
theorem pagesNil_ok {t : Tree} : Spx Try.prog 26 #[.nilIface, .agg (treeC t)] [] [] (fun v fs' own' => v = .tuple #[.slice none 0 0, .int .i64 7] ∧ fs' = [] ∧ own' = []) := by
 refine Spx_of_body (fn := Try.f26) 50 Try.func26 rfl (by kernel_rfl) rfl (Nat.le_of_ble_eq_true rfl) (fun g0 Q hret hend => ?_)
 dsimp only [initL]
 refine C_seq <| C_region ?_
 refine S_box rfl rfl rfl rfl rfl rfl (fun b3 => ?_)
 refine S_run 2 rfl ?_
 refine S_nil <| C_seq <| C_region ?_
 refine S_run 1 rfl ?_
 refine S_enter rfl rfl rfl (E_fn rfl rfl) beginNil_ok ?_
 rintro _ _ _ ⟨rfl, rfl, rfl⟩
 try dsimp only [List.cons_append, List.nil_append]
 refine S_run 3 rfl ?_
 refine S_alloc rfl rfl rfl rfl ti74 rfl (fun b6 => ?_)
 refine S_st rfl rfl rfl ti74 rfl rfl rfl (by repeat constructor) (by rfl) ?_
 refine S_run 1 rfl ?_
 refine S_nil <| C_seq <| C_block <| C_seq <| C_region ?_
 refine S_run 3 rfl ?_
 refine S_nil ?_
 refine C_if rfl (fun h14 => ?_) (fun h14 => ?_)
 ·refine C_seq <| C_region ?_
  refine S_run 3 rfl ?_
  refine S_nil ?_
  exact hret (Res_tmps Try.results26 rfl rfl) ⟨rfl, rfl, rfl⟩
 ·omega
set_option maxRecDepth 100000 in
theorem num_ok {z : Int} : Spx Try.prog 15 #[.int .i64 z] [] [] (fun v fs' own' => v = .int .i64 z ∧ fs' = [] ∧ own' = []) := by
 refine Spx_of_body (fn := Try.f15) 4 Try.func15 rfl (by kernel_rfl) rfl (Nat.le_of_ble_eq_true rfl) (fun g0 Q hret hend => ?_)
 dsimp only [initL]
 refine C_seq <| C_region ?_
 refine S_run 1 rfl ?_
 refine S_nil <| C_seq <| C_region ?_
 refine S_run 2 rfl ?_
 refine S_nil ?_
 exact hret (Res_tmps Try.results15 rfl rfl) ⟨rfl, rfl, rfl⟩
set_option maxRecDepth 100000 in
set_option maxHeartbeats 4000000 in
theorem live_ok  : Spx Try.prog 12 #[] [] [] (fun v fs' own' => v = .bool true ∧ fs' = [] ∧ own' = []) := by
 refine Spx_of_body (fn := Try.f12) 122 Try.func12 rfl (by kernel_rfl) rfl (Nat.le_of_ble_eq_true rfl) (fun g0 Q hret hend => ?_)
 dsimp only [initL]
 have hlv := lv_ok
 refine C_seq <| C_region ?_
 refine S_run 1 rfl ?_
 refine S_nil <| C_seq <| C_region ?_
 refine S_y rfl rfl rfl (Y_build [.const (.int .i64 480), .const (.int .i64 100), .const (.slice none 0 0)] bt29 rfl rfl rfl rfl) ?_
 refine S_box rfl rfl rfl rfl rfl rfl (fun b23 => ?_)
 refine S_run 1 rfl ?_
 refine S_nil <| C_seq <| C_region ?_
 refine S_nilarr elS 9 ?_
 refine S_run 1 rfl ?_
 refine S_y rfl rfl rfl (Y_mkI rfl rfl u26 (fun _ h => by cases h)) ?_
 refine S_y rfl rfl rfl (Y_build [.const (.int .i64 0), .const (.int .i64 0), .const (.int .i64 0)] bt31 rfl rfl rfl rfl) ?_
 refine S_enter rfl rfl rfl (E_fn rfl rfl) (bput_ok (bm := b23) (m := lvM) (adP := none) (cP := 0) (t := tree0) (key := [98]) (value := [50]) lvM_ok) ?_
 rintro _ _ _ ⟨adA, cA, adP1, cP1, rfl, rfl, rfl⟩
 try dsimp only [List.cons_append, List.nil_append]
 rw [show putN lvM tree0 [98] [50] = lvA from rfl]
 refine S_run 4 rfl ?_
 refine S_alloc rfl rfl rfl rfl ti31 rfl (fun b2 => ?_)
 refine S_stS rfl rfl rfl ti31 rfl rfl rfl rfl (by repeat constructor) (by rfl) ?_
 refine S_run 2 rfl ?_
 refine S_nil <| C_seq <| C_region ?_
 refine S_run 1 rfl ?_
 refine S_y rfl rfl rfl (Y_mkI rfl rfl u26 (fun _ h => by cases h)) ?_
 refine S_y rfl rfl rfl (Y_ldS Try.underlying31 rfl ti31 rfl rfl) ?_
 refine S_enter rfl rfl rfl (E_fn rfl rfl) (bput_ok (bm := b23) (m := lvA.m) (t := lvA.t) (key := [97]) (value := [49]) lvA_ok) ?_
 rintro _ _ _ ⟨adB, cB, adP2, cP2, rfl, rfl, rfl⟩
 try dsimp only [List.cons_append, List.nil_append]
 rw [show putN lvA.m lvA.t [97] [49] = lvB from rfl]
 refine S_run 4 rfl ?_
 refine S_alloc rfl rfl rfl rfl ti31 rfl (fun b5 => ?_)
 refine S_stS rfl rfl rfl ti31 rfl rfl rfl rfl (by repeat constructor) (by rfl) ?_
 refine S_run 2 rfl ?_
 refine S_nil <| C_seq <| C_region ?_
 refine S_run 1 rfl ?_
 refine S_y rfl rfl rfl (Y_mkI rfl rfl u26 (fun _ h => by cases h)) ?_
 refine S_y rfl rfl rfl (Y_ldS Try.underlying31 rfl ti31 rfl rfl) ?_
 refine S_enter rfl rfl rfl (E_fn rfl rfl) (scan_ok (bm := b23) (m := lvB.m) (t := lvB.t) (fr := []) (to_ := []) lvB_ok.ok hlv.p) ?_
 rintro _ _ _ ⟨adL, cL, rfl, rfl, rfl⟩
 try dsimp only [List.cons_append, List.nil_append]
 rw [show scanN lvB.m lvB.t [] [] = lvL from rfl]
 refine S_run 5 rfl ?_
 refine S_nil <| C_seq <| C_region ?_
 refine S_run 1 rfl ?_
 refine S_y rfl rfl rfl (Y_mkI rfl rfl u26 (fun _ h => by cases h)) ?_
 refine S_y rfl rfl rfl (Y_ldS Try.underlying31 rfl ti31 rfl rfl) ?_
 refine S_enter rfl rfl rfl (E_fn rfl rfl) (get_ok (bm := b23) (m := lvB.m) (t := lvB.t) (key := [97]) lvB_ok.ok) ?_
 rintro _ _ _ ⟨rfl, rfl, rfl⟩
 try dsimp only [List.cons_append, List.nil_append]
 rw [show getN lvB.m lvB.t [97] = lvG from rfl]
 refine S_run 7 rfl ?_
 refine S_nil <| C_seq <| C_region ?_
 refine S_run 1 rfl ?_
 refine S_y rfl rfl rfl (Y_mkI rfl rfl u26 (fun _ h => by cases h)) ?_
 refine S_y rfl rfl rfl (Y_ldS Try.underlying31 rfl ti31 rfl rfl) ?_
 refine S_enter rfl rfl rfl (E_fn rfl rfl) (bdel_ok (bm := b23) (m := lvB.m) (t := lvB.t) (key := [97]) lvB_ok) ?_
 rintro _ _ _ ⟨adC, cC, adP3, cP3, rfl, rfl, rfl⟩
 try dsimp only [List.cons_append, List.nil_append]
 rw [show delN lvB.m lvB.t [97] = lvC from rfl]
 refine S_run 4 rfl ?_
 refine S_alloc rfl rfl rfl rfl ti31 rfl (fun b13 => ?_)
 refine S_stS rfl rfl rfl ti31 rfl rfl rfl rfl (by repeat constructor) (by rfl) ?_
 refine S_run 2 rfl ?_
 refine S_nil <| C_seq <| C_region ?_
 refine S_run 1 rfl ?_
 refine S_y rfl rfl rfl (Y_mkI rfl rfl u26 (fun _ h => by cases h)) ?_
 refine S_y rfl rfl rfl (Y_ldS Try.underlying31 rfl ti31 rfl rfl) ?_
 refine S_enter rfl rfl rfl (E_fn rfl rfl) (bdel_ok (bm := b23) (m := lvC.m) (t := lvC.t) (key := [98]) lvC_ok) ?_
 rintro _ _ _ ⟨adD, cD, adP4, cP4, rfl, rfl, rfl⟩
 try dsimp only [List.cons_append, List.nil_append]
 rw [show delN lvC.m lvC.t [98] = lvD from rfl]
 refine S_run 4 rfl ?_
 refine S_alloc rfl rfl rfl rfl ti31 rfl (fun b16 => ?_)
 refine S_stS rfl rfl rfl ti31 rfl rfl rfl rfl (by repeat constructor) (by rfl) ?_
 refine S_run 2 rfl ?_
 refine S_nil <| C_seq <| C_region ?_
 refine S_run 1 rfl ?_
 refine S_y rfl rfl rfl (Y_mkI rfl rfl u26 (fun _ h => by cases h)) ?_
 refine S_y rfl rfl rfl (Y_ldS Try.underlying31 rfl ti31 rfl rfl) ?_
 refine S_enter rfl rfl rfl (E_fn rfl rfl) (bput_ok (bm := b23) (m := lvD.m) (t := lvB.t) (key := []) (value := []) lvD_ok) ?_
 rintro _ _ _ ⟨adH, cH, adP5, cP5, rfl, rfl, rfl⟩
 try dsimp only [List.cons_append, List.nil_append]
 rw [show putN lvD.m lvB.t [] [] = lvH from rfl]
 refine S_run 4 rfl ?_
 refine S_alloc rfl rfl rfl rfl ti31 rfl (fun b19 => ?_)
 refine S_stS rfl rfl rfl ti31 rfl rfl rfl rfl (by repeat constructor) (by rfl) ?_
 refine S_run 2 rfl ?_
 refine S_nil <| C_seq <| C_region ?_
 rw [hlv.l, hlv.g]
 dsimp only
 refine S_as 4 rfl (show Value.int .i64 lvA.e = .int .i64 0 from congrArg _ hlv.a) ?_
 refine S_as 7 rfl (show Value.int .i64 lvB.e = .int .i64 0 from congrArg _ hlv.b) ?_
 refine S_as 21 rfl (show Value.int .i64 lvH.e = .int .i64 50 from congrArg _ hlv.h) ?_
 refine S_run 1 rfl ?_
 refine S_enter rfl rfl rfl (E_fn rfl rfl) num_ok ?_
 rintro _ _ _ ⟨rfl, rfl, rfl⟩
 try dsimp only [List.cons_append, List.nil_append]
 refine S_run 1 rfl ?_
 refine S_enter rfl rfl rfl (E_fn rfl rfl) num_ok ?_
 rintro _ _ _ ⟨rfl, rfl, rfl⟩
 try dsimp only [List.cons_append, List.nil_append]
 refine S_y rfl rfl rfl (Y_addi rfl rfl rfl (by omega) (by omega)) ?_
 refine S_run 1 rfl ?_
 refine S_enter rfl rfl rfl (E_fn rfl rfl) num_ok ?_
 rintro _ _ _ ⟨rfl, rfl, rfl⟩
 try dsimp only [List.cons_append, List.nil_append]
 refine S_y rfl rfl rfl (Y_addi rfl rfl rfl (by omega) (by omega)) ?_
 refine S_y rfl rfl rfl (Y_pure (v := .bool true) (by rfl)) ?_
 refine S_run 1 rfl ?_
 refine S_y rfl rfl rfl (Y_fa ly31 rfl rfl rfl) ?_
 refine S_y rfl rfl rfl (Y_ld u3 rfl rfl rfl) ?_
 refine S_y rfl rfl rfl ((Y_pure rfl).as (v' := .bool true) (congrArg Value.bool (decide_eq_true hlv.k))) ?_
 refine S_run 3 rfl ?_
 refine S_y rfl rfl rfl (Y_build [.const (str [49]), .const (str [97])] bt56 rfl rfl rfl rfl) ?_
 refine S_y rfl rfl rfl (Y_build [.const (str [50]), .const (str [98])] bt56 rfl rfl rfl rfl) ?_
 refine S_lit elKV [⟨[97], [49]⟩, ⟨[98], [50]⟩] rfl rfl rfl rfl u32 ti56 rfl rfl rfl rfl rfl (by decide) (fun ad97 c97 => ?_)
 refine S_pub (by repeat constructor) ?_
 refine S_enter rfl rfl rfl (E_fn rfl rfl) (same_ok (a := [⟨[97], [49]⟩, ⟨[98], [50]⟩]) (b := [⟨[97], [49]⟩, ⟨[98], [50]⟩])) ?_
 rintro _ _ _ ⟨rfl, rfl, rfl⟩
 try dsimp only [List.cons_append, List.nil_append]
 refine S_as 98 rfl (show Value.bool (decide _) = .bool true from congrArg Value.bool (decide_eq_true rfl)) ?_
 refine S_run 3 rfl ?_
 refine S_y rfl rfl rfl ((Y_streql (p := [49]) (q := [49]) rfl rfl rfl).as (v' := .bool true) rfl) ?_
 refine S_run 2 rfl ?_
 refine S_run 1 rfl ?_
 refine S_run 2 rfl ?_
 refine S_y rfl rfl rfl (Y_ldS Try.underlying31 rfl ti31 rfl rfl) ?_
 refine S_y rfl rfl rfl (Y_build [.const (.int .i64 0), .const (.int .i64 0), .const (.int .i64 0)] bt31 rfl rfl rfl rfl) ?_
 refine S_y rfl rfl rfl ((Y_eqlS (fl := Try.prog.fieldsOf 31) rfl rfl rfl (by kernel_rfl) (by kernel_rfl) (fun w => by kernel_rfl) (fun w => tree_eq _ _ _ _ _ _)).as (v' := .bool true) (congrArg Value.bool (decide_eq_true (by rw [hlv.d]; exact ⟨rfl, rfl, rfl⟩)))) ?_
 refine S_run 3 rfl ?_
 refine S_y rfl rfl rfl (Y_slen rfl rfl u33) ?_
 refine S_y rfl rfl rfl ((Y_pure rfl).as (v' := .bool true) (congrArg Value.bool (decide_eq_true (by have := hlv.f; omega)))) ?_
 refine S_run 3 rfl ?_
 refine S_enter rfl rfl rfl (E_fn rfl rfl) num_ok ?_
 rintro _ _ _ ⟨rfl, rfl, rfl⟩
 try dsimp only [List.cons_append, List.nil_append]
 refine S_y rfl rfl rfl (Y_pure (v := .bool true) (by rfl)) ?_
 refine S_run 2 rfl ?_
 refine S_nil ?_
 exact hret (Res_tmps Try.results12 rfl rfl) ⟨rfl, rfl, rfl⟩
end Go.Proofs.Ytlgbhceifnjdnaa
