/- Walks: WS. -/
import Derived.Test.YtlgbhceifnjdnaaSK
import Derived.Test.YtlgbhceifnjdnaaWH
import Derived.Test.YtlgbhceifnjdnaaBY
import Derived.Test.YtlgbhceifnjdnaaProg
import Derived.KernelRfl
namespace Go.Proofs.Ytlgbhceifnjdnaa
open Go.KX
namespace TWS
theorem u33 : Try.prog.underlying 33 = some (.slice 3) := Try.underlying33
theorem u95 : Try.prog.underlying 95 = some (.pointer 83) := Try.underlying95
theorem u106 : Try.prog.underlying 106 = some (.map 3 4) := Try.underlying106
theorem ti3 : TI Try.prog 3 1 8 (.int .i64 0) := TI_of (by kernel_rfl)
theorem ti31 : TI Try.prog 31 3 24 (.agg #[.int .i64 0, .int .i64 0, .int .i64 0]) := TI_of (by kernel_rfl)
theorem ti83 : TI Try.prog 83 4 48 (.agg #[str [], str [], .int .i64 0, .int .i64 0]) := TI_of (by kernel_rfl)
theorem ly31 : LY Try.prog 31 [(0, 1, false), (1, 1, false), (2, 1, false)] := LY_of Try.underlying31 (by kernel_rfl)
theorem ly108 : LY Try.prog 108 [(0, 1, false), (1, 1, false)] := LY_of Try.underlying108 (by kernel_rfl)
theorem bt31 : BT Try.prog 31 [(0, 1), (1, 1), (2, 1)] [.int .i64 0, .int .i64 0, .int .i64 0] := BT_of (pl := [(0, 1, false), (1, 1, false), (2, 1, false)]) Try.underlying31 (by kernel_rfl) ti31
end TWS
open TWS
set_option maxRecDepth 100000 in
theorem keys_ok {bg : Nat} {g : Gone} : Spx Try.prog 55 #[.map (some bg)] [] [Res.mp (fun n : Int => Value.int .i64 n) (fun _ : Unit => Value.bool true) bg g] (fun v fs' own' => ∃ bk, v = .func (.func 73) #[] #[.pointer (some ⟨bk, 0, none⟩)] ∧ fs' = [PtM bk 0 [.map (some bg)]] ∧ own' = [Res.mp (fun n : Int => Value.int .i64 n) (fun _ : Unit => Value.bool true) bg g]) := by
 refine Spx_of_body (fn := Try.f55) 4 Try.func55 rfl (by kernel_rfl) rfl (Nat.le_of_ble_eq_true rfl) (fun g0 Q hret hend => ?_); dsimp only [initL]; refine C_seq <| C_region ?_; refine S_box rfl rfl rfl rfl rfl rfl (fun b1 => ?_); refine S_run 1 rfl <| S_nil <| C_seq <| C_region ?_; refine S_frz (b := b1) (by repeat constructor) ?_; refine S_run 2 rfl <| S_nil ?_; exact hret (Res_tmps Try.results55 rfl rfl) ⟨b1, rfl, rfl, rfl⟩
set_option maxRecDepth 100000 in
set_option maxHeartbeats 2000000 in
theorem withoutZ_ok {bm : Nat} {m : Mem} {adP : Option Addr} {cP : Nat} {bw bg c : Nat} {ad : Option Addr} {t : Tree} {gone : List Int} {e : Int} (_hm : MOK m) (hgl : gone.length ≤ 10000000000) : Spx Try.prog 49 #[.pointer (some ⟨bw, 0, none⟩), .agg (treeC t), .slice ad gone.length c, .int .i64 e, .pointer none] [PtM bw 0 [.iface 26 (.pointer (some ⟨bm, 0, none⟩)), .map (some bg)]] [Res.mp (fun n : Int => Value.int .i64 n) (fun _ : Unit => Value.bool true) bg [], Res.blk bm (.cells (memC m adP cP) 29 (0, 0)), Res.arr elS 9 adP cP (m).pages, Res.arr (elI .i64) 3 ad c gone] (fun v fs' own' => ∃ ad' c', v = .tuple #[.agg (treeC (withoutN m t gone e none).1), .slice ad' (withoutN m t gone e none).2.1.length c', .int .i64 (withoutN m t gone e none).2.2] ∧ fs' = [] ∧ own' = [Res.blk bm (.cells (memC m adP cP) 29 (0, 0)), Res.arr elS 9 adP cP (m).pages, Res.arr (elI .i64) 3 ad' c' (withoutN m t gone e none).2.1]) := by
 refine Spx_of_body (fn := Try.f49) 47 Try.func49 rfl (by kernel_rfl) rfl (Nat.le_of_ble_eq_true rfl) (fun g0 Q hret hend => ?_); dsimp only [initL]; refine C_seq <| C_region ?_; refine S_box rfl rfl rfl rfl rfl rfl (fun b6 => ?_); refine S_alloc rfl rfl rfl rfl ti31 rfl (fun b10 => ?_); refine S_run 2 rfl <| S_nil <| C_seq <| C_seq <| C_region <| S_run 3 rfl ?_; refine S_prop 16 rfl (fun h16 => ?_) (fun h16 => ?_)
 ·refine S_run 1 rfl ?_; refine S_y rfl rfl rfl (Y_neq1 rfl rfl rfl u95 (by rfl) (fun _ => rfl) rfl) ?_; refine S_run 1 rfl <| S_nil ?_; refine C_cond_f rfl ?_; refine C_skip <| C_seq <| C_seq <| C_region <| S_run 2 rfl <| S_nil ?_; refine C_if rfl (fun h26 => ?_) (fun h26 => ?_)
  ·refine C_seq <| C_region ?_; have e : (withoutN m t gone e none) = (tree0, [], e) := by unfold withoutN; exact if_pos (by omega)
   refine S_nilarr (elI .i64) 3 ?_; refine S_y rfl rfl rfl (Y_build [.const (.int .i64 0), .const (.int .i64 0), .const (.int .i64 0)] bt31 rfl rfl rfl rfl) ?_; refine S_run 1 rfl ?_; refine S_stS rfl rfl rfl ti31 rfl rfl rfl rfl (by repeat constructor) (by rfl) ?_; refine S_run 2 rfl <| S_nil ?_
   first
     | (rw [e] at hret
        exact hret (Res_c3 Try.results49 rfl (LdV_S Try.underlying31 rfl ti31 (by repeat constructor) rfl) rfl rfl) ⟨none, 0, rfl, rfl, rfl⟩)
     | (have e : (withoutN m t gone e none) = (t, cmpI (sortI acc), 0) := by
          rw [hks]; unfold withoutN; rw [if_neg (by omega)]; simp [keysG]
        rw [e] at hret; exact hret (Res_c3 Try.results49 rfl (LdV_S Try.underlying31 rfl ti31 (by repeat constructor) rfl) rfl rfl) ⟨adA, cA, rfl, rfl, rfl⟩)
  ·refine C_skip <| C_seq <| C_seq <| C_region ?_; have hg0 : ([] : Gone).length = 0 := rfl; refine S_run 2 rfl ?_; refine S_y rfl rfl rfl (Y_fa ly108 rfl rfl rfl) ?_; refine S_y rfl rfl rfl (Y_ld u106 rfl rfl rfl) ?_; refine S_range (K := fun n : Int => Value.int .i64 n) (V := fun _ : Unit => Value.bool true) rfl rfl rfl rfl rfl u106 (by repeat constructor) (fun b33 => ?_); refine S_nil <| C_block ?_
   refine C_loop (σ := List Nat × List Int × (Option Addr × Nat)) (fun s => s.1.Nodup ∧ (∀ j ∈ s.1, j < ([] : Gone).length) ∧ s.2.1 = gone ++ s.1.map (keyG ([] : Gone))) (fun s => ([] : Gone).length - s.1.length)
     (fun s => [(2, .slice s.2.2.1 s.2.1.length s.2.2.2), (6, .pointer (some ⟨b6, 0, none⟩)), (10, .pointer (some ⟨b10, 0, none⟩)), (33, .pointer (some ⟨b33, 0, none⟩))])
     (fun s => []) (fun s => [Res.it (fun n : Int => Value.int .i64 n) (fun _ : Unit => Value.bool true) bg b33 ([] : Gone) s.1, Res.arr (elI .i64) 3 s.2.2.1 s.2.2.2 s.2.1, Res.blk b6 (.cells (treeC t) 31 (0, 0)), Res.blk b10 (.cells #[.int .i64 0, .int .i64 0, .int .i64 0] 31 (0, 0)), Res.blk bm (.cells (memC m adP cP) 29 (0, 0)), Res.arr elS 9 adP cP (m).pages]) ([], gone, (ad, c)) ?_ (by repeat (first | exact trivial | refine ⟨rfl, ?_⟩ | refine ⟨intE (by omega), ?_⟩)) (by repeat constructor) (by repeat constructor) ?_
   ·exact ⟨List.nodup_nil, (fun j hj => by cases hj), by simp⟩
   ·rintro J ⟨js, acc, ⟨adA, cA⟩⟩ ⟨hnd, hjl, hac⟩ hJ; dsimp only at hnd hjl hac ⊢; have hjn2 := nodup_ltN _ js hnd hjl; refine C_seq <| C_region ?_; refine S_next (K := fun n : Int => Value.int .i64 n) (V := fun _ : Unit => Value.bool true) (m := ([] : Gone)) rfl rfl rfl rfl rfl (by repeat constructor) (fun hpm => ?_) (fun j y hjn hy => ?_)
    ·skip
     refine S_run 1 rfl <| S_nil <| C_seq ?_; refine C_cond_f rfl ?_; refine C_exit rfl <| C_seq <| C_region ?_; refine S_itend (K := fun n : Int => Value.int .i64 n) (V := fun _ : Unit => Value.bool true) (by repeat constructor) ?_; have hks : sortI acc = sortI (gone ++ keysG ([] : Gone)) := by rw [hac]; exact sortI_eq (List.Perm.append_left _ ((hpm.map _).trans (by rw [map_keyG])))
     have hjl2 : acc.length ≤ 100000000000 := by rw [hac, List.length_append, List.length_map]; omega
     have hsl2 : (sortI acc).length ≤ 100000000000 := by rw [sortI_length]; omega
     refine S_run 1 rfl ?_; refine S_enter rfl rfl rfl (E_fn rfl rfl) (sort_ok (ys := acc) hjl2) ?_; rintro _ _ _ ⟨rfl, rfl⟩; (try dsimp only [c_a, n_a]); rw [← sortI_length acc]; refine S_nil <| C_seq ?_; refine C_draw rfl ?_; refine c_p 1 60 ?_; refine C_two (i := 0) (j := 2) (by kernel_rfl) rfl rfl ?_ ?_
     ·refine S_y rfl rfl rfl (Y_ldS Try.underlying31 rfl ti31 rfl rfl) ?_; refine S_nil ?_; refine C_one (i := 2) (by kernel_rfl) rfl ?_; refine S_enter rfl rfl rfl (E_fn rfl rfl) (comp_ok hsl2) ?_; rintro _ _ _ ⟨rfl, rfl, rfl⟩; (try dsimp only [c_a, n_a]); refine S_nil ?_; refine C_one (i := 3) (by kernel_rfl) rfl ?_; refine S_stS rfl rfl rfl ti31 rfl rfl rfl rfl (by repeat constructor) (by rfl) ?_; refine S_nil ?_; refine c_p 4 32 ?_; refine c_p 5 0 ?_; refine c_d ?_
      first
        | (rw [e] at hret
           exact hret (Res_c3 Try.results49 rfl (LdV_S Try.underlying31 rfl ti31 (by repeat constructor) rfl) rfl rfl) ⟨none, 0, rfl, rfl, rfl⟩)
        | (have e : (withoutN m t gone e none) = (t, cmpI (sortI acc), 0) := by
             rw [hks]; unfold withoutN; rw [if_neg (by omega)]; simp [keysG]
           rw [e] at hret; exact hret (Res_c3 Try.results49 rfl (LdV_S Try.underlying31 rfl ti31 (by repeat constructor) rfl) rfl rfl) ⟨adA, cA, rfl, rfl, rfl⟩)
     ·refine S_enter rfl rfl rfl (E_fn rfl rfl) (comp_ok hsl2) ?_; rintro _ _ _ ⟨rfl, rfl, rfl⟩; (try dsimp only [c_a, n_a]); refine S_nil ?_; refine c_r 0 56 (by kernel_rfl) rfl rfl rfl rfl (Y_ldS Try.underlying31 rfl ti31 rfl rfl) ?_; refine C_one (i := 3) (by kernel_rfl) rfl ?_; refine S_stS rfl rfl rfl ti31 rfl rfl rfl rfl (by repeat constructor) (by rfl) ?_; refine S_nil ?_; refine c_p 4 32 ?_; refine c_p 5 0 ?_; refine c_d ?_
      first
        | (rw [e] at hret
           exact hret (Res_c3 Try.results49 rfl (LdV_S Try.underlying31 rfl ti31 (by repeat constructor) rfl) rfl rfl) ⟨none, 0, rfl, rfl, rfl⟩)
        | (have e : (withoutN m t gone e none) = (t, cmpI (sortI acc), 0) := by
             rw [hks]; unfold withoutN; rw [if_neg (by omega)]; simp [keysG]
           rw [e] at hret; exact hret (Res_c3 Try.results49 rfl (LdV_S Try.underlying31 rfl ti31 (by repeat constructor) rfl) rfl rfl) ⟨adA, cA, rfl, rfl, rfl⟩)
    ·have hjlt : j < ([] : Gone).length := (List.getElem?_eq_some_iff.1 hy).1; have hjn3 := nodup_ltN _ (js ++ [j]) (List.nodup_append.2 ⟨hnd, by simp, fun x hx y hy e => by simp at hy; subst hy; exact hjn (e ▸ hx)⟩) (fun i hi => by rcases List.mem_append.1 hi with h | h; exact hjl i h; simp at h; omega); rw [List.length_append] at hjn3; simp only [List.length_cons, List.length_nil] at hjn3; refine S_run 1 rfl <| S_nil <| C_seq ?_; refine C_cond_t rfl ?_; refine C_skip <| C_block <| C_seq <| C_region ?_; refine S_y rfl rfl rfl (Y_entry (K := fun n : Int => Value.int .i64 n) (V := fun _ : Unit => Value.bool true) rfl rfl (by repeat constructor) hy) ?_; refine S_run 2 rfl <| S_nil <| C_region <| S_run 2 rfl ?_; refine S_lit (elI .i64) [y.1] rfl rfl rfl rfl u33 ti3 rfl rfl rfl rfl rfl (by decide) (fun ad40 c40 => ?_); refine S_pub (by repeat constructor) ?_; have hal : acc.length = gone.length + js.length := by rw [hac]; simp
     refine S_app (ys := acc) rfl rfl rfl rfl u33 ti3 rfl rfl rfl rfl rfl rfl (by repeat constructor) (by repeat constructor) (by simp <;> omega) (by simp <;> omega) (fun ad41 c41 => ?_)
     refine S_run 1 rfl <| S_nil <| C_blk ?_; exact hJ (js ++ [j], acc ++ [y.1], (_, _)) ⟨List.nodup_append.2 ⟨hnd, by simp, fun x hx y hy e => by simp at hy; subst hy; exact hjn (e ▸ hx)⟩, fun i hi => by rcases List.mem_append.1 hi with h | h; exact hjl i h; simp at h; omega, by show acc ++ [y.1] = _; rw [hac, List.map_append, List.append_assoc]; simp [keyG_of hy]⟩ (by show ([] : Gone).length - (js ++ [j]).length < ([] : Gone).length - js.length; rw [List.length_append]; simp only [List.length_cons, List.length_nil]; omega)
 ·refine S_run 3 rfl <| S_nil ?_; refine C_cond_f rfl ?_; refine C_skip <| C_seq <| C_seq <| C_region <| S_run 2 rfl <| S_nil ?_; refine C_if rfl (fun h26 => ?_) (fun h26 => ?_)
  ·refine C_seq <| C_region ?_; have e : (withoutN m t gone e none) = (tree0, [], e) := by unfold withoutN; exact if_pos (by omega)
   refine S_nilarr (elI .i64) 3 ?_; refine S_y rfl rfl rfl (Y_build [.const (.int .i64 0), .const (.int .i64 0), .const (.int .i64 0)] bt31 rfl rfl rfl rfl) ?_; refine S_run 1 rfl ?_; refine S_stS rfl rfl rfl ti31 rfl rfl rfl rfl (by repeat constructor) (by rfl) ?_; refine S_run 2 rfl <| S_nil ?_
   first
     | (rw [e] at hret
        exact hret (Res_c3 Try.results49 rfl (LdV_S Try.underlying31 rfl ti31 (by repeat constructor) rfl) rfl rfl) ⟨none, 0, rfl, rfl, rfl⟩)
     | (have e : (withoutN m t gone e none) = (t, cmpI (sortI acc), 0) := by
          rw [hks]; unfold withoutN; rw [if_neg (by omega)]; simp [keysG]
        rw [e] at hret; exact hret (Res_c3 Try.results49 rfl (LdV_S Try.underlying31 rfl ti31 (by repeat constructor) rfl) rfl rfl) ⟨adA, cA, rfl, rfl, rfl⟩)
  ·omega
set_option maxRecDepth 100000 in
set_option maxHeartbeats 2000000 in
theorem withoutS_ok {bm : Nat} {m : Mem} {adP : Option Addr} {cP : Nat} {bw bg c bq oq : Nat} {ad : Option Addr} {t : Tree} {gone : List Int} {e : Int} {cl : Cell} (hm : MOK m) (hco : CellOK cl) (hgl : gone.length ≤ 10000000000) : Spx Try.prog 49 #[.pointer (some ⟨bw, 0, none⟩), .agg (treeC t), .slice ad gone.length c, .int .i64 e, .pointer (some ⟨bq, oq, none⟩)] [PtM bw 0 [.iface 26 (.pointer (some ⟨bm, 0, none⟩)), .map (some bg)], PtM bq oq (encCell cl)] [Res.mp (fun n : Int => Value.int .i64 n) (fun _ : Unit => Value.bool true) bg [], Res.blk bm (.cells (memC m adP cP) 29 (0, 0)), Res.arr elS 9 adP cP (m).pages, Res.arr (elI .i64) 3 ad c gone] (fun v fs' own' => ∃ ad' c', v = .tuple #[.agg (treeC (withoutN m t gone e (some cl)).1), .slice ad' (withoutN m t gone e (some cl)).2.1.length c', .int .i64 (withoutN m t gone e (some cl)).2.2] ∧ fs' = [] ∧ own' = [Res.blk bm (.cells (memC m adP cP) 29 (0, 0)), Res.arr elS 9 adP cP (m).pages, Res.arr (elI .i64) 3 ad' c' (withoutN m t gone e (some cl)).2.1]) := by
 refine Spx_of_body (fn := Try.f49) 47 Try.func49 rfl (by kernel_rfl) rfl (Nat.le_of_ble_eq_true rfl) (fun g0 Q hret hend => ?_); dsimp only [initL]; refine C_seq <| C_region ?_; refine S_box rfl rfl rfl rfl rfl rfl (fun b6 => ?_); refine S_alloc rfl rfl rfl rfl ti31 rfl (fun b10 => ?_); refine S_run 2 rfl <| S_nil <| C_seq <| C_seq <| C_region <| S_run 3 rfl ?_; refine S_prop 16 rfl (fun h16 => ?_) (fun h16 => ?_)
 ·refine S_run 1 rfl ?_; refine S_y rfl rfl rfl (Y_neq1 rfl rfl rfl u95 (by rfl) (fun _ => rfl) rfl) ?_; refine S_run 1 rfl <| S_nil ?_; refine C_cond_t rfl ?_; refine C_region <| S_run 3 rfl ?_; refine S_y rfl rfl rfl (Y_ldS Try.underlying83 rfl ti83 rfl rfl) ?_; refine S_enter rfl rfl rfl (E_fn rfl rfl) (drop_ok hm hco) ?_; rintro _ _ _ ⟨rfl, rfl, rfl⟩; (try dsimp only [c_a, n_a]); refine S_run 1 rfl <| S_nil <| C_seq <| C_seq <| C_region <| S_run 2 rfl <| S_nil ?_; refine C_if rfl (fun h26 => ?_) (fun h26 => ?_)
  ·refine C_seq <| C_region ?_; refine S_nilarr (elI .i64) 3 ?_; refine S_y rfl rfl rfl (Y_build [.const (.int .i64 0), .const (.int .i64 0), .const (.int .i64 0)] bt31 rfl rfl rfl rfl) ?_; refine S_run 1 rfl ?_; refine S_stS rfl rfl rfl ti31 rfl rfl rfl rfl (by repeat constructor) (by rfl) ?_; refine S_run 2 rfl <| S_nil ?_
   first
     | (have e : (withoutN m t gone e (some cl)) = (tree0, [], e) := by unfold withoutN; exact if_pos (by omega)
        rw [e] at hret; exact hret (Res_c3 Try.results49 rfl (LdV_S Try.underlying31 rfl ti31 (by repeat constructor) rfl) rfl rfl) ⟨none, 0, rfl, rfl, rfl⟩)
     | (have e : (withoutN m t gone e (some cl)) = (tree0, [], ((tellN dropF m [] cl).2.1 : Int)) := by unfold withoutN; rw [if_neg (by omega)]; exact if_pos (by omega)
        rw [e] at hret; exact hret (Res_c3 Try.results49 rfl (LdV_S Try.underlying31 rfl ti31 (by repeat constructor) rfl) rfl rfl) ⟨none, 0, rfl, rfl, rfl⟩)
     | (have e : (withoutN m t gone e (some cl)) = (t, cmpI (sortI acc), 0) := by
          rw [hks]; unfold withoutN; rw [if_neg (by omega)]; exact if_neg (by omega)
        rw [e] at hret; exact hret (Res_c3 Try.results49 rfl (LdV_S Try.underlying31 rfl ti31 (by repeat constructor) rfl) rfl rfl) ⟨adA, cA, rfl, rfl, rfl⟩)
  ·refine C_skip <| C_seq <| C_seq <| C_region ?_; have htl := (tellN_drop (show (tellN dropF m [] cl).2.1 = 0 by omega)).len; have hfew := hm.few; refine S_run 2 rfl ?_; refine S_y rfl rfl rfl (Y_fa ly108 rfl rfl rfl) ?_; refine S_y rfl rfl rfl (Y_ld u106 rfl rfl rfl) ?_; refine S_range (K := fun n : Int => Value.int .i64 n) (V := fun _ : Unit => Value.bool true) rfl rfl rfl rfl rfl u106 (by repeat constructor) (fun b33 => ?_); refine S_nil <| C_block ?_
   refine C_loop (σ := List Nat × List Int × (Option Addr × Nat)) (fun s => s.1.Nodup ∧ (∀ j ∈ s.1, j < (tellN dropF m [] cl).1.length) ∧ s.2.1 = gone ++ s.1.map (keyG (tellN dropF m [] cl).1)) (fun s => (tellN dropF m [] cl).1.length - s.1.length)
     (fun s => [(2, .slice s.2.2.1 s.2.1.length s.2.2.2), (6, .pointer (some ⟨b6, 0, none⟩)), (10, .pointer (some ⟨b10, 0, none⟩)), (33, .pointer (some ⟨b33, 0, none⟩))])
     (fun s => []) (fun s => [Res.it (fun n : Int => Value.int .i64 n) (fun _ : Unit => Value.bool true) bg b33 (tellN dropF m [] cl).1 s.1, Res.arr (elI .i64) 3 s.2.2.1 s.2.2.2 s.2.1, Res.blk b6 (.cells (treeC t) 31 (0, 0)), Res.blk b10 (.cells #[.int .i64 0, .int .i64 0, .int .i64 0] 31 (0, 0)), Res.blk bm (.cells (memC m adP cP) 29 (0, 0)), Res.arr elS 9 adP cP (m).pages]) ([], gone, (ad, c)) ?_ (by repeat (first | exact trivial | refine ⟨rfl, ?_⟩ | refine ⟨intE (by omega), ?_⟩)) (by repeat constructor) (by repeat constructor) ?_
   ·exact ⟨List.nodup_nil, (fun j hj => by cases hj), by simp⟩
   ·rintro J ⟨js, acc, ⟨adA, cA⟩⟩ ⟨hnd, hjl, hac⟩ hJ; dsimp only at hnd hjl hac ⊢; have hjn2 := nodup_ltN _ js hnd hjl; refine C_seq <| C_region ?_; refine S_next (K := fun n : Int => Value.int .i64 n) (V := fun _ : Unit => Value.bool true) (m := (tellN dropF m [] cl).1) rfl rfl rfl rfl rfl (by repeat constructor) (fun hpm => ?_) (fun j y hjn hy => ?_)
    ·skip
     refine S_run 1 rfl <| S_nil <| C_seq ?_; refine C_cond_f rfl ?_; refine C_exit rfl <| C_seq <| C_region ?_; refine S_itend (K := fun n : Int => Value.int .i64 n) (V := fun _ : Unit => Value.bool true) (by repeat constructor) ?_; have hks : sortI acc = sortI (gone ++ keysG (tellN dropF m [] cl).1) := by rw [hac]; exact sortI_eq (List.Perm.append_left _ ((hpm.map _).trans (by rw [map_keyG])))
     have hjl2 : acc.length ≤ 100000000000 := by rw [hac, List.length_append, List.length_map]; omega
     have hsl2 : (sortI acc).length ≤ 100000000000 := by rw [sortI_length]; omega
     refine S_run 1 rfl ?_; refine S_enter rfl rfl rfl (E_fn rfl rfl) (sort_ok (ys := acc) hjl2) ?_; rintro _ _ _ ⟨rfl, rfl⟩; (try dsimp only [c_a, n_a]); rw [← sortI_length acc]; refine S_nil <| C_seq ?_; refine C_draw rfl ?_; refine c_p 1 60 ?_; refine C_two (i := 0) (j := 2) (by kernel_rfl) rfl rfl ?_ ?_
     ·refine S_y rfl rfl rfl (Y_ldS Try.underlying31 rfl ti31 rfl rfl) ?_; refine S_nil ?_; refine C_one (i := 2) (by kernel_rfl) rfl ?_; refine S_enter rfl rfl rfl (E_fn rfl rfl) (comp_ok hsl2) ?_; rintro _ _ _ ⟨rfl, rfl, rfl⟩; (try dsimp only [c_a, n_a]); refine S_nil ?_; refine C_one (i := 3) (by kernel_rfl) rfl ?_; refine S_stS rfl rfl rfl ti31 rfl rfl rfl rfl (by repeat constructor) (by rfl) ?_; refine S_nil ?_; refine c_p 4 32 ?_; refine c_p 5 0 ?_; refine c_d ?_
      first
        | (have e : (withoutN m t gone e (some cl)) = (tree0, [], e) := by unfold withoutN; exact if_pos (by omega)
           rw [e] at hret; exact hret (Res_c3 Try.results49 rfl (LdV_S Try.underlying31 rfl ti31 (by repeat constructor) rfl) rfl rfl) ⟨none, 0, rfl, rfl, rfl⟩)
        | (have e : (withoutN m t gone e (some cl)) = (tree0, [], ((tellN dropF m [] cl).2.1 : Int)) := by unfold withoutN; rw [if_neg (by omega)]; exact if_pos (by omega)
           rw [e] at hret; exact hret (Res_c3 Try.results49 rfl (LdV_S Try.underlying31 rfl ti31 (by repeat constructor) rfl) rfl rfl) ⟨none, 0, rfl, rfl, rfl⟩)
        | (have e : (withoutN m t gone e (some cl)) = (t, cmpI (sortI acc), 0) := by
             rw [hks]; unfold withoutN; rw [if_neg (by omega)]; exact if_neg (by omega)
           rw [e] at hret; exact hret (Res_c3 Try.results49 rfl (LdV_S Try.underlying31 rfl ti31 (by repeat constructor) rfl) rfl rfl) ⟨adA, cA, rfl, rfl, rfl⟩)
     ·refine S_enter rfl rfl rfl (E_fn rfl rfl) (comp_ok hsl2) ?_; rintro _ _ _ ⟨rfl, rfl, rfl⟩; (try dsimp only [c_a, n_a]); refine S_nil ?_; refine c_r 0 56 (by kernel_rfl) rfl rfl rfl rfl (Y_ldS Try.underlying31 rfl ti31 rfl rfl) ?_; refine C_one (i := 3) (by kernel_rfl) rfl ?_; refine S_stS rfl rfl rfl ti31 rfl rfl rfl rfl (by repeat constructor) (by rfl) ?_; refine S_nil ?_; refine c_p 4 32 ?_; refine c_p 5 0 ?_; refine c_d ?_
      first
        | (have e : (withoutN m t gone e (some cl)) = (tree0, [], e) := by unfold withoutN; exact if_pos (by omega)
           rw [e] at hret; exact hret (Res_c3 Try.results49 rfl (LdV_S Try.underlying31 rfl ti31 (by repeat constructor) rfl) rfl rfl) ⟨none, 0, rfl, rfl, rfl⟩)
        | (have e : (withoutN m t gone e (some cl)) = (tree0, [], ((tellN dropF m [] cl).2.1 : Int)) := by unfold withoutN; rw [if_neg (by omega)]; exact if_pos (by omega)
           rw [e] at hret; exact hret (Res_c3 Try.results49 rfl (LdV_S Try.underlying31 rfl ti31 (by repeat constructor) rfl) rfl rfl) ⟨none, 0, rfl, rfl, rfl⟩)
        | (have e : (withoutN m t gone e (some cl)) = (t, cmpI (sortI acc), 0) := by
             rw [hks]; unfold withoutN; rw [if_neg (by omega)]; exact if_neg (by omega)
           rw [e] at hret; exact hret (Res_c3 Try.results49 rfl (LdV_S Try.underlying31 rfl ti31 (by repeat constructor) rfl) rfl rfl) ⟨adA, cA, rfl, rfl, rfl⟩)
    ·have hjlt : j < (tellN dropF m [] cl).1.length := (List.getElem?_eq_some_iff.1 hy).1; have hjn3 := nodup_ltN _ (js ++ [j]) (List.nodup_append.2 ⟨hnd, by simp, fun x hx y hy e => by simp at hy; subst hy; exact hjn (e ▸ hx)⟩) (fun i hi => by rcases List.mem_append.1 hi with h | h; exact hjl i h; simp at h; omega); rw [List.length_append] at hjn3; simp only [List.length_cons, List.length_nil] at hjn3; refine S_run 1 rfl <| S_nil <| C_seq ?_; refine C_cond_t rfl ?_; refine C_skip <| C_block <| C_seq <| C_region ?_; refine S_y rfl rfl rfl (Y_entry (K := fun n : Int => Value.int .i64 n) (V := fun _ : Unit => Value.bool true) rfl rfl (by repeat constructor) hy) ?_; refine S_run 2 rfl <| S_nil <| C_region <| S_run 2 rfl ?_; refine S_lit (elI .i64) [y.1] rfl rfl rfl rfl u33 ti3 rfl rfl rfl rfl rfl (by decide) (fun ad40 c40 => ?_); refine S_pub (by repeat constructor) ?_; have hal : acc.length = gone.length + js.length := by rw [hac]; simp
     refine S_app (ys := acc) rfl rfl rfl rfl u33 ti3 rfl rfl rfl rfl rfl rfl (by repeat constructor) (by repeat constructor) (by simp <;> omega) (by simp <;> omega) (fun ad41 c41 => ?_)
     refine S_run 1 rfl <| S_nil <| C_blk ?_; exact hJ (js ++ [j], acc ++ [y.1], (_, _)) ⟨List.nodup_append.2 ⟨hnd, by simp, fun x hx y hy e => by simp at hy; subst hy; exact hjn (e ▸ hx)⟩, fun i hi => by rcases List.mem_append.1 hi with h | h; exact hjl i h; simp at h; omega, by show acc ++ [y.1] = _; rw [hac, List.map_append, List.append_assoc]; simp [keyG_of hy]⟩ (by show (tellN dropF m [] cl).1.length - (js ++ [j]).length < (tellN dropF m [] cl).1.length - js.length; rw [List.length_append]; simp only [List.length_cons, List.length_nil]; omega)
 ·refine S_run 3 rfl <| S_nil ?_; refine C_cond_f rfl ?_; refine C_skip <| C_seq <| C_seq <| C_region <| S_run 2 rfl <| S_nil ?_; refine C_if rfl (fun h26 => ?_) (fun h26 => ?_)
  ·refine C_seq <| C_region ?_; refine S_nilarr (elI .i64) 3 ?_; refine S_y rfl rfl rfl (Y_build [.const (.int .i64 0), .const (.int .i64 0), .const (.int .i64 0)] bt31 rfl rfl rfl rfl) ?_; refine S_run 1 rfl ?_; refine S_stS rfl rfl rfl ti31 rfl rfl rfl rfl (by repeat constructor) (by rfl) ?_; refine S_run 2 rfl <| S_nil ?_
   first
     | (have e : (withoutN m t gone e (some cl)) = (tree0, [], e) := by unfold withoutN; exact if_pos (by omega)
        rw [e] at hret; exact hret (Res_c3 Try.results49 rfl (LdV_S Try.underlying31 rfl ti31 (by repeat constructor) rfl) rfl rfl) ⟨none, 0, rfl, rfl, rfl⟩)
     | (have e : (withoutN m t gone e (some cl)) = (tree0, [], ((tellN dropF m [] cl).2.1 : Int)) := by unfold withoutN; rw [if_neg (by omega)]; exact if_pos (by omega)
        rw [e] at hret; exact hret (Res_c3 Try.results49 rfl (LdV_S Try.underlying31 rfl ti31 (by repeat constructor) rfl) rfl rfl) ⟨none, 0, rfl, rfl, rfl⟩)
     | (have e : (withoutN m t gone e (some cl)) = (t, cmpI (sortI acc), 0) := by
          rw [hks]; unfold withoutN; rw [if_neg (by omega)]; exact if_neg (by omega)
        rw [e] at hret; exact hret (Res_c3 Try.results49 rfl (LdV_S Try.underlying31 rfl ti31 (by repeat constructor) rfl) rfl rfl) ⟨adA, cA, rfl, rfl, rfl⟩)
  ·omega
end Go.Proofs.Ytlgbhceifnjdnaa
