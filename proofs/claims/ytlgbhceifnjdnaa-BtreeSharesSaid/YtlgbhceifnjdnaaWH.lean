/- Walks: WH. -/
import Derived.Test.YtlgbhceifnjdnaaPX
import Derived.Test.YtlgbhceifnjdnaaWG
import Derived.Test.YtlgbhceifnjdnaaProg
import Derived.KernelRfl
namespace Go.Proofs.Ytlgbhceifnjdnaa
open Go.KX
namespace TWH
theorem u3 : Try.prog.underlying 3 = some (.int .i64) := Try.underlying3
theorem u9 : Try.prog.underlying 9 = some (.string) := Try.underlying9
theorem u68 : Try.prog.underlying 68 = some (.slice 5) := Try.underlying68
theorem u74 : Try.prog.underlying 74 = some (.pointer 108) := Try.underlying74
theorem u106 : Try.prog.underlying 106 = some (.map 3 4) := Try.underlying106
theorem u121 : Try.prog.underlying 121 = some (.int .u64) := Try.underlying121
theorem u141 : Try.prog.underlying 141 = some (.slice 121) := Try.underlying141
theorem ti4 : TI Try.prog 4 1 1 (.bool false) := TI_of (by kernel_rfl)
theorem ti5 : TI Try.prog 5 1 1 (.int .u8 0) := TI_of (by kernel_rfl)
theorem ti83 : TI Try.prog 83 4 48 (.agg #[str [], str [], .int .i64 0, .int .i64 0]) := TI_of (by kernel_rfl)
theorem ti121 : TI Try.prog 121 1 8 (.int .u64 0) := TI_of (by kernel_rfl)
theorem ly108 : LY Try.prog 108 [(0, 1, false), (1, 1, false)] := LY_of Try.underlying108 (by kernel_rfl)
end TWH
open TWH
set_option maxRecDepth 100000 in
theorem met_ok {bw bg bm n : Nat} {g : Gone} : Spx Try.prog 42 #[.pointer (some ⟨bw, 0, none⟩), .int .i64 (n : Int)] [PtM bw 0 [.iface 26 (.pointer (some ⟨bm, 0, none⟩)), .map (some bg)]] [Res.mp (fun n : Int => Value.int .i64 n) (fun _ : Unit => Value.bool true) bg g] (fun v fs' own' => v = .int .i64 ((metF g n).1 : Int) ∧ fs' = [] ∧ own' = [Res.mp (fun n : Int => Value.int .i64 n) (fun _ : Unit => Value.bool true) bg (metF g n).2]) := by
 refine Spx_of_body (fn := Try.f42) 16 Try.func42 rfl (by kernel_rfl) rfl (Nat.le_of_ble_eq_true rfl) (fun g0 Q hret hend => ?_); dsimp only [initL]; refine C_seq <| C_region <| S_run 1 rfl <| S_nil <| C_seq <| C_seq <| C_region <| S_run 2 rfl ?_; refine S_y rfl rfl rfl (Y_fa ly108 rfl rfl rfl) ?_; refine S_y rfl rfl rfl (Y_ld u106 rfl rfl rfl) ?_; refine S_run 1 rfl ?_; refine S_y rfl rfl rfl ((Y_lk (K := fun n : Int => Value.int .i64 n) (V := fun _ : Unit => Value.bool true) (q := (n : Int)) rfl rfl rfl u106 (keyInt u3) ti4 (by repeat constructor)).as (v' := .bool (mget g (n : Int)).isSome) (by cases mget g (n : Int) <;> rfl)) ?_
 refine S_nil ?_; refine C_cond rfl (fun h10 => ?_) (fun h10 => ?_)
 ·refine C_seq <| C_region ?_; have e : metF g n = (51, g) := if_pos h10; refine S_run 1 rfl <| S_nil ?_; rw [e] at hret; exact hret (Res_tmps Try.results42 rfl rfl) ⟨rfl, rfl, rfl⟩
 ·refine C_skip <| C_seq <| C_region <| S_run 2 rfl ?_; refine S_y rfl rfl rfl (Y_fa ly108 rfl rfl rfl) ?_; refine S_y rfl rfl rfl (Y_ld u106 rfl rfl rfl) ?_; refine S_run 1 rfl ?_; refine S_mset (K := fun n : Int => Value.int .i64 n) (V := fun _ : Unit => Value.bool true) (q := (n : Int)) (v := ()) rfl rfl rfl rfl rfl rfl u106 (keyInt u3) (by repeat constructor) ?_; refine S_nil <| C_seq <| C_region ?_; have e : metF g n = (0, mset g (n : Int) ()) := if_neg (by rw [h10]; decide); refine S_run 1 rfl <| S_nil ?_; rw [e] at hret; exact hret (Res_tmps Try.results42 rfl rfl) ⟨rfl, rfl, rfl⟩
set_option maxRecDepth 100000 in
theorem get1_ok {bg n : Nat} {f : MF} {g : Gone} : Spx Try.prog 38 #[.int .i64 (n : Int)] [f] [Res.mp (fun n : Int => Value.int .i64 n) (fun _ : Unit => Value.bool true) bg g] (fun v fs' own' => v = .int .i64 ((getF g n).1 : Int) ∧ fs' = [] ∧ own' = [Res.mp (fun n : Int => Value.int .i64 n) (fun _ : Unit => Value.bool true) bg (getF g n).2]) := by
 refine Spx_of_body (fn := Try.f38) 3 Try.func38 rfl (by kernel_rfl) rfl (Nat.le_of_ble_eq_true rfl) (fun g0 Q hret hend => ?_); dsimp only [initL]; refine C_seq <| C_region <| S_run 1 rfl <| S_nil <| C_seq <| C_region <| S_run 1 rfl <| S_nil ?_; exact hret (Res_tmps Try.results38 rfl rfl) ⟨rfl, rfl, rfl⟩
set_option maxRecDepth 100000 in
theorem drop1_ok {bx bw bg bm n : Nat} {g : Gone} : Spx Try.prog 82 #[.int .i64 (n : Int), .pointer (some ⟨bx, 0, none⟩)] [MF2 (PtM bx 0 [.pointer (some ⟨bw, 0, none⟩)]) (PtM bw 0 [.iface 26 (.pointer (some ⟨bm, 0, none⟩)), .map (some bg)])] [Res.mp (fun n : Int => Value.int .i64 n) (fun _ : Unit => Value.bool true) bg g] (fun v fs' own' => v = .int .i64 ((dropF g n).1 : Int) ∧ fs' = [] ∧ own' = [Res.mp (fun n : Int => Value.int .i64 n) (fun _ : Unit => Value.bool true) bg (dropF g n).2]) := by
 refine Spx_of_body (fn := Try.f82) 9 Try.func82 rfl (by kernel_rfl) rfl (Nat.le_of_ble_eq_true rfl) (fun g0 Q hret hend => ?_); dsimp only [initL]; refine C_both (by repeat constructor) ?_; refine C_seq <| C_region <| S_run 1 rfl <| S_nil <| C_seq <| C_region ?_; refine S_y rfl rfl rfl (Y_ld u74 rfl rfl rfl) ?_; refine S_run 1 rfl ?_; refine S_y rfl rfl rfl (Y_fa ly108 rfl rfl rfl) ?_; refine S_y rfl rfl rfl (Y_ld u106 rfl rfl rfl) ?_; refine S_run 1 rfl ?_; refine S_mset (K := fun n : Int => Value.int .i64 n) (V := fun _ : Unit => Value.bool true) (q := (n : Int)) (v := ()) rfl rfl rfl rfl rfl rfl u106 (keyInt u3) (by repeat constructor) ?_; refine S_nil <| C_seq <| C_region <| S_run 1 rfl <| S_nil ?_; exact hret (Res_tmps Try.results82 rfl rfl) ⟨rfl, rfl, rfl⟩
set_option maxRecDepth 100000 in
theorem drop_ok {bm : Nat} {m : Mem} {adP : Option Addr} {cP : Nat} {bw bg : Nat} {gone : Gone} {cl : Cell} (hm : MOK m) (hco : CellOK cl) : Spx Try.prog 69 #[.pointer (some ⟨bw, 0, none⟩), .agg (encCell cl).toArray] [PtM bw 0 [.iface 26 (.pointer (some ⟨bm, 0, none⟩)), .map (some bg)]] [Res.mp (fun n : Int => Value.int .i64 n) (fun _ : Unit => Value.bool true) bg gone, Res.blk bm (.cells (memC m adP cP) 29 (0, 0)), Res.arr elS 9 adP cP (m).pages] (fun v fs' own' => v = .int .i64 ((tellN dropF m gone cl).2.1 : Int) ∧ fs' = [] ∧ own' = [Res.mp (fun n : Int => Value.int .i64 n) (fun _ : Unit => Value.bool true) bg (tellN dropF m gone cl).1, Res.blk bm (.cells (memC m adP cP) 29 (0, 0)), Res.arr elS 9 adP cP (m).pages]) := by
 refine Spx_of_body (fn := Try.f69) 15 Try.func69 rfl (by kernel_rfl) rfl (Nat.le_of_ble_eq_true rfl) (fun g0 Q hret hend => ?_); dsimp only [initL]; refine C_seq <| C_region ?_; refine S_box rfl rfl rfl rfl rfl rfl (fun b2 => ?_); refine S_box rfl rfl rfl rfl rfl rfl (fun b3 => ?_); refine S_run 1 rfl <| S_nil <| C_seq <| C_region ?_; refine S_y rfl rfl rfl (Y_ld u74 rfl rfl rfl) ?_; refine S_y rfl rfl rfl (Y_ldS Try.underlying83 rfl ti83 rfl rfl) ?_; refine S_frz (b := b2) (by repeat constructor) ?_; refine S_both (f := PtM b2 0 [.pointer (some ⟨bw, 0, none⟩)]) (f2 := PtM bw 0 [.iface 26 (.pointer (some ⟨bm, 0, none⟩)), .map (some bg)]) (by repeat constructor) (by repeat constructor) ?_; refine S_run 1 rfl ?_; refine S_enter rfl rfl rfl (E_fn rfl rfl) (tell_ok (fi := #[]) (mt := dropF) hm hco (fun g n => drop1_ok)) ?_; rintro _ _ _ ⟨rfl, rfl, rfl⟩; (try dsimp only [c_a, n_a]); refine S_run 5 rfl <| S_nil <| C_seq <| C_region <| S_run 2 rfl <| S_nil ?_; exact hret (Res_tmps Try.results69 rfl rfl) ⟨rfl, rfl, rfl⟩
set_option maxRecDepth 100000 in
set_option maxHeartbeats 4000000 in
theorem long_ok {bm : Nat} {m : Mem} {adP : Option Addr} {cP : Nat} {bw bg : Nat} {value : Bytes} (hm : MOL m) (hsz : 480 ≤ m.size) (hv : value.length ≤ 1000000) (hv1 : 1 ≤ value.length) : Spx Try.prog 43 #[.pointer (some ⟨bw, 0, none⟩), str value] [PtM bw 0 [.iface 26 (.pointer (some ⟨bm, 0, none⟩)), .map (some bg)]] [Res.blk bm (.cells (memC m adP cP) 29 (0, 0)), Res.arr elS 9 adP cP (m).pages] (fun v fs' own' => ∃ adP' cP', v = .tuple #[.int .i64 ((longN m value).2.1 : Int), .int .i64 ((longN m value).2.2 : Int)] ∧ fs' = [] ∧ own' = [Res.blk bm (.cells (memC (longN m value).1 adP' cP') 29 (0, 0)), Res.arr elS 9 adP' cP' ((longN m value).1).pages]) := by
 refine Spx_of_body (fn := Try.f43) 56 Try.func43 rfl (by kernel_rfl) rfl (Nat.le_of_ble_eq_true rfl) (fun g0 Q hret hend => ?_); dsimp only [initL]; refine C_seq <| C_region <| S_run 2 rfl <| S_nil <| C_seq <| C_region <| S_run 2 rfl ?_; refine S_y rfl rfl rfl (Y_fa ly108 rfl rfl rfl) ?_; refine S_y rfl rfl rfl (Y_ld Try.underlying73 rfl rfl rfl) ?_; refine S_enter rfl rfl rfl (E_inv rfl rfl rfl (by intro w; kernel_rfl)) mroom_ok ?_; rintro _ _ _ ⟨rfl, rfl, rfl⟩; (try dsimp only [c_a, n_a]); have hs1 := hm.size; have hq0 : 0 ≤ ((value.length : Int) - 1).tdiv (m.size - 8) := Int.tdiv_nonneg (by omega) (by omega); have hq1 : ((value.length : Int) - 1).tdiv (m.size - 8) ≤ (value.length : Int) - 1 := by rw [Int.tdiv_eq_ediv_of_nonneg (by omega)]; exact Int.ediv_le_self _ (by omega)
 have hq2 : ((value.length : Int) - 1).tdiv (m.size - 8) * (m.size - 8) ≤ (value.length : Int) - 1 := by rw [Int.tdiv_eq_ediv_of_nonneg (by omega)]; exact Int.ediv_mul_le _ (by omega)
 have hq3 : 0 ≤ ((value.length : Int) - 1).tdiv (m.size - 8) * (m.size - 8) := Int.mul_nonneg hq0 (by omega); refine S_y rfl rfl rfl (Y_subi rfl rfl rfl (by omega) (by omega)) ?_; refine S_run 1 rfl <| S_nil <| C_seq <| C_seq <| C_region <| S_run 1 rfl ?_; refine S_y rfl rfl rfl (Y_strlen rfl rfl u9) ?_; refine S_y rfl rfl rfl (Y_subi rfl rfl rfl (by omega) (by omega)) ?_; refine S_run 1 rfl ?_; refine S_y rfl rfl rfl ((Y_quo rfl rfl rfl (by omega)).as (v' := .int .i64 (((value.length : Int) - 1).tdiv (m.size - 8))) (by rw [wrap_i64 (by omega) (by omega)])) ?_; refine S_run 1 rfl ?_; refine S_y rfl rfl rfl (Y_muli rfl rfl rfl (by omega) (by omega)) ?_; refine S_run 1 rfl <| S_nil <| C_block ?_
 refine C_loop (σ := Nat × Mem × Nat × Int × (Option Addr × Nat)) (fun s => MOL s.2.1 ∧ s.2.1.size = m.size ∧ s.2.2.1 ≤ 1000000000 ∧ s.2.2.2.1 < s.1 ∧ s.2.2.2.1 ≤ value.length ∧ -1000000 ≤ s.2.2.2.1 ∧ longL (m.size - 8) value s.1 s.2.1 s.2.2.1 s.2.2.2.1 = longN m value) (fun s => s.1)
   (fun s => [(0, .pointer (some ⟨bw, 0, none⟩)), (1, str value), (4, .int .i64 (s.2.2.1 : Int)), (6, .int .i64 (m.size - 8)), (7, .int .i64 s.2.2.2.1)])
   (fun s => [PtM bw 0 [.iface 26 (.pointer (some ⟨bm, 0, none⟩)), .map (some bg)]]) (fun s => [Res.blk bm (.cells (memC s.2.1 s.2.2.2.2.1 s.2.2.2.2.2) 29 (0, 0)), Res.arr elS 9 s.2.2.2.2.1 s.2.2.2.2.2 (s.2.1).pages]) (value.length + 1, m, 0, (((value.length : Int) - 1).tdiv (m.size - 8) * (m.size - 8)), (adP, cP)) ?_ (by repeat (first | exact trivial | refine ⟨rfl, ?_⟩ | refine ⟨intE (by omega), ?_⟩)) (by repeat constructor) (by repeat constructor) ?_
 ·exact ⟨hm, rfl, Nat.zero_le _, by dsimp only; omega, by dsimp only; omega, by dsimp only; omega, rfl⟩
 ·rintro J ⟨fu, m2, first, at_, ⟨adQ, cQ⟩⟩ ⟨hm2, hse, hfi, hfu, hat, hat2, hr⟩ hJ
  clear hq0 hq1 hq2 hq3
  dsimp only at hm2 hse hfi hfu hat hat2 hr ⊢; refine C_seq <| C_seq <| C_region <| S_run 2 rfl <| S_nil ?_; refine C_if rfl (fun h23 => ?_) (fun h23 => ?_)
  ·refine C_skip <| C_seq <| C_block <| C_seq <| C_region ?_; obtain ⟨fu, rfl⟩ : ∃ k, fu = k + 1 := ⟨fu - 1, by omega⟩; have hdf := dg_len first; refine S_lit elB [3] rfl rfl rfl rfl u68 ti5 rfl rfl rfl rfl rfl (by decide) (fun ad27 c27 => ?_); refine S_run 1 rfl ?_; refine S_y rfl rfl rfl ((Y_conv rfl rfl u3 u121).as (v' := .int .u64 (first : Int)) (by rw [wrap_u64 (by omega) (by omega)])) ?_; refine S_lit1 (elN .u64) (fun s => rfl) rfl rfl rfl rfl u141 ti121 rfl rfl rfl rfl (fun ad30 c30 => ?_); refine S_pub (by repeat constructor) ?_; refine S_enter rfl rfl rfl (E_fn rfl rfl) (number_ok (xs := [3]) (ls := [first]) (by simp; omega) (by simp)) ?_; rintro _ _ _ ⟨ad31, c31, rfl, rfl, rfl⟩; (try dsimp only [c_a, n_a]); refine S_run 1 rfl <| S_nil <| C_seq <| C_region <| S_run 5 rfl ?_; refine S_y rfl rfl rfl (Y_addi rfl rfl rfl (by omega) (by omega)) ?_; refine S_run 1 rfl ?_; refine S_y rfl rfl rfl (Y_strlen rfl rfl u9) ?_; refine S_y rfl rfl rfl (Y_min rfl rfl rfl) ?_; refine S_y rfl rfl rfl ((Y_strslice (s := value) (zl := at_) (zh := min (at_ + (m.size - 8)) (value.length : Int)) rfl rfl u9 (by exact ⟨_, rfl⟩) (by exact ⟨_, rfl⟩) (by omega) (by omega) (by omega)).as (v' := str ((value.drop at_.toNat).take (m.size - 8).toNat)) (by congr 1; rw [List.take_eq_take_iff, List.length_drop]; omega)) ?_; have htl : ((value.drop at_.toNat).take (m.size - 8).toNat).length ≤ 1000000 := by simp only [List.length_take, List.length_drop]; omega
   refine S_appS rfl rfl rfl rfl u68 u9 ti5 rfl rfl rfl (by repeat constructor) (by simp <;> omega) (fun ad42 c42 => ?_)
   refine S_run 1 rfl <| S_nil <| C_seq <| C_region ?_; refine S_pub (E := elB) (by repeat constructor) ?_; refine S_run 2 rfl ?_; refine S_y rfl rfl rfl (Y_fa ly108 rfl rfl rfl) ?_; refine S_y rfl rfl rfl (Y_ld Try.underlying73 rfl rfl rfl) ?_; refine S_run 1 rfl ?_; refine S_enter rfl rfl rfl (E_inv rfl rfl rfl (by intro w; kernel_rfl)) (mlay_ok hm2.ok) ?_; rintro _ _ _ ⟨adR, cR, rfl, rfl, rfl⟩; (try dsimp only [c_a, n_a]); refine S_run 5 rfl <| S_nil <| C_seq <| C_region <| S_run 2 rfl <| S_nil ?_; refine C_if rfl (fun h53 => ?_) (fun h53 => ?_)
   ·refine C_seq <| C_region ?_
    have e : longN m value = ((layM m2 (3 :: ([first].flatMap dg ++ (value.drop at_.toNat).take (m.size - 8).toNat))).1, 0, (layM m2 (3 :: ([first].flatMap dg ++ (value.drop at_.toNat).take (m.size - 8).toNat))).2.2) := by
      rw [← hr, longL, if_neg (by omega)]; exact if_pos (by omega)
    refine S_run 3 rfl <| S_nil ?_; rw [e] at hret
    first
      | exact hret (Res_tmps Try.results43 rfl rfl) ⟨adQ, cQ, rfl, rfl, rfl⟩
      | exact hret (Res_tmps Try.results43 rfl rfl) ⟨adR, cR, rfl, rfl, rfl⟩
   ·refine C_skip <| C_blk <| C_region <| S_run 2 rfl ?_; refine S_y rfl rfl rfl (Y_subi rfl rfl rfl (by omega) (by omega)) ?_; refine S_run 1 rfl <| S_nil ?_; rw [longL, if_neg (by omega)] at hr; dsimp only at hr; rw [if_neg (by omega)] at hr; exact hJ (fu, _, _, at_ - (m.size - 8), (_, _)) ⟨layM_ok hm2 _, (layM_same _ _).2.trans hse, layM_few hm2 _, by dsimp only; omega, by dsimp only; omega, by dsimp only; omega, hr⟩ (by show fu < fu + 1; omega)
  ·refine C_exit rfl <| C_seq <| C_region ?_
   have e : longN m value = (m2, first, 0) := by
     rw [← hr]; cases fu with
     | zero => rfl
     | succ k => rw [longL, if_pos (by omega)]
   refine S_run 3 rfl <| S_nil ?_; rw [e] at hret
   first
     | exact hret (Res_tmps Try.results43 rfl rfl) ⟨adQ, cQ, rfl, rfl, rfl⟩
     | exact hret (Res_tmps Try.results43 rfl rfl) ⟨adR, cR, rfl, rfl, rfl⟩
end Go.Proofs.Ytlgbhceifnjdnaa
