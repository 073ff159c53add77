/- Walks: WW. -/
import Derived.Test.YtlgbhceifnjdnaaWV
import Derived.Test.YtlgbhceifnjdnaaProg
import Derived.KernelRfl
namespace Go.Proofs.Ytlgbhceifnjdnaa
open Go.KX
namespace TWW
theorem u9 : Try.prog.underlying 9 = some (.string) := Try.underlying9
theorem u26 : Try.prog.underlying 26 = some (.pointer 29) := Try.underlying26
theorem ti29 : TI Try.prog 29 3 40 (.agg #[.slice none 0 0, .int .i64 0, .int .i64 0]) := TI_of (by kernel_rfl)
theorem ti31 : TI Try.prog 31 3 24 (.agg #[.int .i64 0, .int .i64 0, .int .i64 0]) := TI_of (by kernel_rfl)
theorem ly29 : LY Try.prog 29 [(0, 1, false), (1, 1, false), (2, 1, false)] := LY_of Try.underlying29 (by kernel_rfl)
theorem bt29 : BT Try.prog 29 [(0, 1), (1, 1), (2, 1)] [.slice none 0 0, .int .i64 0, .int .i64 0] := BT_of (pl := [(0, 1, false), (1, 1, false), (2, 1, false)]) Try.underlying29 (by kernel_rfl) ti29
end TWW
open TWW
set_option maxRecDepth 100000 in
set_option maxHeartbeats 4000000 in
theorem args_ok {room : Int} {t : Tree} {key : Bytes} (hk : key.length ≤ 9223372036854775807) : Spx Try.prog 9 #[.int .i64 room, .agg (treeC t), str key] [] [] (fun v fs' own' => v = .bool true ∧ fs' = [] ∧ own' = []) := by
 refine Spx_of_body (fn := Try.f9) 147 Try.func9 rfl (by kernel_rfl) rfl (Nat.le_of_ble_eq_true rfl) (fun g0 Q hret hend => ?_)
 dsimp only [initL]
 refine C_seq <| C_region ?_
 refine S_box rfl rfl rfl rfl rfl rfl (fun b4 => ?_)
 refine S_run 1 rfl ?_
 refine S_nil <| C_seq <| C_seq <| C_region ?_
 refine S_run 1 rfl ?_
 refine S_y rfl rfl rfl (Y_strlen rfl rfl u9) ?_
 refine S_run 2 rfl ?_
 refine S_prop 34 rfl (fun h34 => ?_) (fun h34 => ?_)
 ·refine S_run 3 rfl ?_
  refine S_nil ?_
  refine C_cond_t rfl ?_
  refine C_seq <| C_region ?_
  refine S_enter rfl rfl rfl (E_fn rfl rfl) live_ok ?_
  rintro _ _ _ ⟨rfl, rfl, rfl⟩
  try dsimp only [List.cons_append, List.nil_append]
  refine S_run 1 rfl ?_
  refine S_nil ?_
  exact hret (Res_tmps Try.results9 rfl rfl) ⟨rfl, rfl, rfl⟩
 ·refine S_run 3 rfl ?_
  refine S_nil ?_
  refine C_if rfl (fun h37 => ?_) (fun h37 => ?_)
  ·refine C_seq <| C_region ?_
   refine S_enter rfl rfl rfl (E_fn rfl rfl) live_ok ?_
   rintro _ _ _ ⟨rfl, rfl, rfl⟩
   try dsimp only [List.cons_append, List.nil_append]
   refine S_run 1 rfl ?_
   refine S_nil ?_
   exact hret (Res_tmps Try.results9 rfl rfl) ⟨rfl, rfl, rfl⟩
  ·refine C_skip <| C_seq <| C_region ?_
   refine S_run 1 rfl ?_
   refine S_y rfl rfl rfl (Y_build [.tmp 39, .const (.int .i64 10), .const (.slice none 0 0)] bt29 rfl rfl rfl rfl) ?_
   refine S_box rfl rfl rfl rfl rfl rfl (fun b41 => ?_)
   refine S_run 1 rfl ?_
   refine S_nil <| C_seq <| C_region ?_
   have hr : room < 480 := by omega
   have hmol : MOL (⟨[], 10, room⟩ : Mem) := ⟨⟨Nat.zero_le _, fun p hp => by cases hp⟩, by dsimp only; omega, by dsimp only; omega⟩
   have hp0 : ((⟨[], 10, room⟩ : Mem)).pages.length ≤ 3900000 := Nat.zero_le _
   refine S_nilarr elS 9 ?_
   refine S_y rfl rfl rfl (Y_ldS Try.underlying31 rfl ti31 rfl rfl) ?_
   refine S_run 1 rfl ?_
   refine S_enter rfl rfl rfl (E_fn rfl rfl) getNil_ok ?_
   rintro _ _ _ ⟨rfl, rfl, rfl⟩
   try dsimp only [List.cons_append, List.nil_append]
   refine S_run 7 rfl ?_
   refine S_nil <| C_seq <| C_region ?_
   refine S_y rfl rfl rfl (Y_ldS Try.underlying31 rfl ti31 rfl rfl) ?_
   refine S_run 1 rfl ?_
   refine S_enter rfl rfl rfl (E_fn rfl rfl) putNil_ok ?_
   rintro _ _ _ ⟨rfl, rfl, rfl⟩
   try dsimp only [List.cons_append, List.nil_append]
   refine S_run 4 rfl ?_
   refine S_alloc rfl rfl rfl rfl ti31 rfl (fun b11 => ?_)
   refine S_stS rfl rfl rfl ti31 rfl rfl rfl rfl (by repeat constructor) (by rfl) ?_
   refine S_run 2 rfl ?_
   refine S_nil <| C_seq <| C_region ?_
   refine S_y rfl rfl rfl (Y_ldS Try.underlying31 rfl ti31 rfl rfl) ?_
   refine S_run 1 rfl ?_
   refine S_enter rfl rfl rfl (E_fn rfl rfl) delNil_ok ?_
   rintro _ _ _ ⟨rfl, rfl, rfl⟩
   try dsimp only [List.cons_append, List.nil_append]
   refine S_run 4 rfl ?_
   refine S_alloc rfl rfl rfl rfl ti31 rfl (fun b14 => ?_)
   refine S_stS rfl rfl rfl ti31 rfl rfl rfl rfl (by repeat constructor) (by rfl) ?_
   refine S_run 2 rfl ?_
   refine S_nil <| C_seq <| C_region ?_
   refine S_y rfl rfl rfl (Y_ldS Try.underlying31 rfl ti31 rfl rfl) ?_
   refine S_enter rfl rfl rfl (E_fn rfl rfl) scanNil_ok ?_
   rintro _ _ _ ⟨rfl, rfl, rfl⟩
   try dsimp only [List.cons_append, List.nil_append]
   refine S_run 5 rfl ?_
   refine S_nil <| C_seq <| C_region ?_
   refine S_y rfl rfl rfl (Y_ldS Try.underlying31 rfl ti31 rfl rfl) ?_
   refine S_enter rfl rfl rfl (E_fn rfl rfl) pagesNil_ok ?_
   rintro _ _ _ ⟨rfl, rfl, rfl⟩
   try dsimp only [List.cons_append, List.nil_append]
   refine S_run 5 rfl ?_
   refine S_nil <| C_seq <| C_region ?_
   refine S_run 1 rfl ?_
   refine S_y rfl rfl rfl (Y_mkI rfl rfl u26 (fun _ h => by cases h)) ?_
   refine S_y rfl rfl rfl (Y_ldS Try.underlying31 rfl ti31 rfl rfl) ?_
   refine S_run 1 rfl ?_
   refine S_enter rfl rfl rfl (E_fn rfl rfl) (get_ok (bm := b41) (m := (⟨[], 10, room⟩ : Mem)) (adP := none) (cP := 0) (t := t) (key := key) hmol.ok) ?_
   rintro _ _ _ ⟨rfl, rfl, rfl⟩
   try dsimp only [List.cons_append, List.nil_append]
   rw [show getN (⟨[], 10, room⟩ : Mem) t key = ([], false, 2) by unfold getN; exact if_pos hr]
   dsimp only
   refine S_run 7 rfl ?_
   refine S_nil <| C_seq <| C_region ?_
   refine S_run 1 rfl ?_
   refine S_y rfl rfl rfl (Y_mkI rfl rfl u26 (fun _ h => by cases h)) ?_
   refine S_y rfl rfl rfl (Y_ldS Try.underlying31 rfl ti31 rfl rfl) ?_
   refine S_run 1 rfl ?_
   refine S_enter rfl rfl rfl (E_fn rfl rfl) (bput_ok (bm := b41) (m := (⟨[], 10, room⟩ : Mem)) (adP := none) (cP := 0) (t := t) (key := key) (value := []) hmol) ?_
   rintro _ _ _ ⟨adB, cB, adP1, cP1, rfl, rfl, rfl⟩
   try dsimp only [List.cons_append, List.nil_append]
   rw [show putN (⟨[], 10, room⟩ : Mem) t key [] = ⟨(⟨[], 10, room⟩ : Mem), tree0, [], 2⟩ by unfold putN; exact if_pos hr]
   dsimp only
   refine S_run 4 rfl ?_
   refine S_alloc rfl rfl rfl rfl ti31 rfl (fun b24 => ?_)
   refine S_stS rfl rfl rfl ti31 rfl rfl rfl rfl (by repeat constructor) (by rfl) ?_
   refine S_run 2 rfl ?_
   refine S_nil <| C_seq <| C_region ?_
   refine S_run 1 rfl ?_
   refine S_y rfl rfl rfl (Y_mkI rfl rfl u26 (fun _ h => by cases h)) ?_
   refine S_y rfl rfl rfl (Y_ldS Try.underlying31 rfl ti31 rfl rfl) ?_
   refine S_enter rfl rfl rfl (E_fn rfl rfl) (pages_ok (bm := b41) (m := (⟨[], 10, room⟩ : Mem)) (t := t) hmol.ok hp0) ?_
   rintro _ _ _ ⟨adC, cC, rfl, rfl, rfl⟩
   try dsimp only [List.cons_append, List.nil_append]
   rw [show pagesN (⟨[], 10, room⟩ : Mem) t = ([], 2) by unfold pagesN; exact if_pos hr]
   dsimp only
   refine S_run 5 rfl ?_
   refine S_nil <| C_seq <| C_region ?_
   refine S_run 2 rfl ?_
   refine S_nil <| C_seq <| C_region ?_
   refine S_run 1 rfl ?_
   refine S_enter rfl rfl rfl (E_fn rfl rfl) num_ok ?_
   rintro _ _ _ ⟨rfl, rfl, rfl⟩
   try dsimp only [List.cons_append, List.nil_append]
   refine S_run 1 rfl ?_
   refine S_y rfl rfl rfl (Y_pure (v := .bool true) (by rfl)) ?_
   refine S_run 2 rfl ?_
   refine S_enter rfl rfl rfl (E_fn rfl rfl) num_ok ?_
   rintro _ _ _ ⟨rfl, rfl, rfl⟩
   try dsimp only [List.cons_append, List.nil_append]
   refine S_run 1 rfl ?_
   refine S_y rfl rfl rfl (Y_pure (v := .bool true) (by rfl)) ?_
   refine S_run 3 rfl ?_
   refine S_enter rfl rfl rfl (E_fn rfl rfl) num_ok ?_
   rintro _ _ _ ⟨rfl, rfl, rfl⟩
   try dsimp only [List.cons_append, List.nil_append]
   refine S_run 1 rfl ?_
   refine S_y rfl rfl rfl (Y_pure (v := .bool true) (by rfl)) ?_
   refine S_run 3 rfl ?_
   refine S_enter rfl rfl rfl (E_fn rfl rfl) num_ok ?_
   rintro _ _ _ ⟨rfl, rfl, rfl⟩
   try dsimp only [List.cons_append, List.nil_append]
   refine S_run 1 rfl ?_
   refine S_y rfl rfl rfl (Y_pure (v := .bool true) (by rfl)) ?_
   refine S_run 3 rfl ?_
   refine S_enter rfl rfl rfl (E_fn rfl rfl) num_ok ?_
   rintro _ _ _ ⟨rfl, rfl, rfl⟩
   try dsimp only [List.cons_append, List.nil_append]
   refine S_run 1 rfl ?_
   refine S_y rfl rfl rfl (Y_pure (v := .bool true) (by rfl)) ?_
   refine S_run 3 rfl ?_
   refine S_enter rfl rfl rfl (E_fn rfl rfl) num_ok ?_
   rintro _ _ _ ⟨rfl, rfl, rfl⟩
   try dsimp only [List.cons_append, List.nil_append]
   refine S_run 1 rfl ?_
   refine S_y rfl rfl rfl (Y_pure (v := .bool true) (by rfl)) ?_
   refine S_run 3 rfl ?_
   refine S_enter rfl rfl rfl (E_fn rfl rfl) num_ok ?_
   rintro _ _ _ ⟨rfl, rfl, rfl⟩
   try dsimp only [List.cons_append, List.nil_append]
   refine S_run 1 rfl ?_
   refine S_y rfl rfl rfl (Y_pure (v := .bool true) (by rfl)) ?_
   refine S_run 3 rfl ?_
   refine S_enter rfl rfl rfl (E_fn rfl rfl) num_ok ?_
   rintro _ _ _ ⟨rfl, rfl, rfl⟩
   try dsimp only [List.cons_append, List.nil_append]
   refine S_run 1 rfl ?_
   refine S_y rfl rfl rfl (Y_pure (v := .bool true) (by rfl)) ?_
   refine S_run 2 rfl ?_
   refine S_enter rfl rfl rfl (E_fn rfl rfl) live_ok ?_
   rintro _ _ _ ⟨rfl, rfl, rfl⟩
   try dsimp only [List.cons_append, List.nil_append]
   refine S_run 2 rfl ?_
   refine S_nil ?_
   exact hret (Res_tmps Try.results9 rfl rfl) ⟨rfl, rfl, rfl⟩
end Go.Proofs.Ytlgbhceifnjdnaa
