/- Walks: WR. -/
import Derived.Test.YtlgbhceifnjdnaaBY
import Derived.Test.YtlgbhceifnjdnaaWP
import Derived.Test.YtlgbhceifnjdnaaWG
import Derived.Test.YtlgbhceifnjdnaaWE
import Derived.Test.YtlgbhceifnjdnaaProg
import Derived.KernelRfl
namespace Go.Proofs.Ytlgbhceifnjdnaa
open Go.KX
namespace TWR
theorem u3 : Try.prog.underlying 3 = some (.int .i64) := Try.underlying3
theorem u9 : Try.prog.underlying 9 = some (.string) := Try.underlying9
theorem u32 : Try.prog.underlying 32 = some (.slice 56) := Try.underlying32
theorem u74 : Try.prog.underlying 74 = some (.pointer 108) := Try.underlying74
theorem ti3 : TI Try.prog 3 1 8 (.int .i64 0) := TI_of (by kernel_rfl)
theorem ti31 : TI Try.prog 31 3 24 (.agg #[.int .i64 0, .int .i64 0, .int .i64 0]) := TI_of (by kernel_rfl)
theorem ti32 : TI Try.prog 32 1 24 (.slice none 0 0) := TI_of (by kernel_rfl)
theorem ti56 : TI Try.prog 56 2 32 (.agg #[str [], str []]) := TI_of (by kernel_rfl)
theorem ti74 : TI Try.prog 74 1 8 (.pointer none) := TI_of (by kernel_rfl)
theorem ti83 : TI Try.prog 83 4 48 (.agg #[str [], str [], .int .i64 0, .int .i64 0]) := TI_of (by kernel_rfl)
theorem ly31 : LY Try.prog 31 [(0, 1, false), (1, 1, false), (2, 1, false)] := LY_of Try.underlying31 (by kernel_rfl)
theorem ly56 : LY Try.prog 56 [(0, 1, false), (1, 1, false)] := LY_of Try.underlying56 (by kernel_rfl)
theorem ly83 : LY Try.prog 83 [(0, 1, false), (1, 1, false), (2, 1, false), (3, 1, false)] := LY_of Try.underlying83 (by kernel_rfl)
theorem bt56 : BT Try.prog 56 [(0, 1), (1, 1)] [str [], str []] := BT_of (pl := [(0, 1, false), (1, 1, false)]) Try.underlying56 (by kernel_rfl) ti56
end TWR
open TWR
set_option maxRecDepth 100000 in
set_option maxHeartbeats 2000000 in
theorem scan1_ok {bm : Nat} {m : Mem} {adP : Option Addr} {cP : Nat} {bx bw bg bo : Nat} {g : Gone} {out : List KV} {a : Option Addr × Nat} {cl : Cell} (hm : MOK m) (hco : CellOK cl) (hn : out.length ≤ 3900000000000) : Spx Try.prog 41 #[.agg (encCell cl).toArray, .pointer (some ⟨bx, 0, none⟩), .pointer (some ⟨bo, 0, none⟩)] [MF2 (PtM bx 0 [.pointer (some ⟨bw, 0, none⟩)]) (PtM bw 0 [.iface 26 (.pointer (some ⟨bm, 0, none⟩)), .map (some bg)])] [Res.mp (fun n : Int => Value.int .i64 n) (fun _ : Unit => Value.bool true) bg g, Res.blk bm (.cells (memC m adP cP) 29 (0, 0)), Res.arr elS 9 adP cP (m).pages, Res.blk bo (.cells #[.slice a.1 out.length a.2] 32 (0, 0)), Res.arr elKV 56 a.1 a.2 out] (fun v fs' own' => ∃ a' : Option Addr × Nat, v = .int .i64 ((scanF m g out cl).e : Int) ∧ fs' = [] ∧ own' = [Res.mp (fun n : Int => Value.int .i64 n) (fun _ : Unit => Value.bool true) bg (scanF m g out cl).g, Res.blk bm (.cells (memC m adP cP) 29 (0, 0)), Res.arr elS 9 adP cP (m).pages, Res.blk bo (.cells #[.slice a'.1 (scanF m g out cl).t.length a'.2] 32 (0, 0)), Res.arr elKV 56 a'.1 a'.2 (scanF m g out cl).t]) := by
 refine Spx_of_body (fn := Try.f41) 42 Try.func41 rfl (by kernel_rfl) rfl (Nat.le_of_ble_eq_true rfl) (fun g0 Q hret hend => ?_); dsimp only [initL]; refine C_both (by repeat constructor) ?_; refine C_seq <| C_region ?_; refine S_box rfl rfl rfl rfl rfl rfl (fun b3 => ?_); refine S_run 1 rfl <| S_nil <| C_seq <| C_region ?_; refine S_y rfl rfl rfl (Y_ld u74 rfl rfl rfl) ?_; refine S_y rfl rfl rfl (Y_ldS Try.underlying83 rfl ti83 rfl rfl) ?_; refine S_y rfl rfl rfl (Y_ld u74 rfl rfl rfl) ?_; refine S_run 1 rfl ?_; refine S_enter rfl rfl rfl (E_fn rfl rfl) (tell_ok (fi := #[.pointer (some ⟨bw, 0, none⟩)]) (ca := #[]) (fA := PtM bw 0 [.iface 26 (.pointer (some ⟨bm, 0, none⟩)), .map (some bg)]) (mt := metF) hm hco (fun g n => met_ok)) ?_; rintro _ _ _ ⟨rfl, rfl, rfl⟩; (try dsimp only [c_a, n_a]); refine S_run 5 rfl <| S_nil <| C_seq <| C_seq ?_; refine C_draw rfl ?_; refine c_p 0 524286 ?_; refine c_p 1 524284 ?_; refine c_p 2 524280 ?_; refine C_prop 17 rfl (fun h17 => ?_) (fun h17 => ?_)
 ·refine c_r 3 524272 (by kernel_rfl) rfl rfl rfl rfl (Y_ld u32 rfl rfl rfl) ?_; refine c_r 4 524256 (by kernel_rfl) rfl rfl rfl rfl (Y_slen rfl rfl u32) ?_; refine c_p 5 524224 ?_; refine c_p 6 524160 ?_; refine c_p 7 524032 ?_; refine C_prop 22 rfl (fun h22 => ?_) (fun h22 => ?_)
  ·obtain ⟨y, hy⟩ : ∃ y, out[(((out.length : Int) - 1).toNat)]? = some y := ⟨_, List.getElem?_eq_getElem (by omega)⟩; have hy2 : out[out.length - 1]? = some y := by rw [← hy]; congr 1; omega
   refine c_r 9 424960 (by kernel_rfl) rfl rfl rfl rfl (Y_ld u32 rfl rfl rfl) ?_; refine c_r 10 423936 (by kernel_rfl) rfl rfl rfl rfl (Y_slen rfl rfl u32) ?_; refine c_r 11 421888 (by kernel_rfl) rfl rfl rfl rfl (Y_subi rfl rfl rfl (by omega) (by omega)) ?_; refine c_r 8 421888 (by kernel_rfl) rfl rfl rfl rfl (Y_ld u32 rfl rfl rfl) ?_; refine C_firstx (i := 12) (W := 417792) (by kernel_rfl) rfl rfl rfl rfl (Y_ixO (ys := out) rfl u32 ti56 rfl rfl rfl (by repeat constructor) rfl (by omega) (by omega)) ?_; rintro _ _ ⟨b27, rfl, rfl⟩; refine c_f 13 409600 ly56 ?_; refine c_r 14 393216 (by kernel_rfl) rfl rfl rfl rfl (Y_ldA (i := (((out.length : Int) - 1).toNat)) (j := 0) u9 rfl rfl rfl (by repeat constructor) (by repeat constructor) rfl hy rfl) ?_; refine c_f 15 458752 ly83 ?_; refine c_r 16 393216 (by kernel_rfl) rfl rfl rfl rfl (Y_ld u9 rfl rfl rfl) ?_; refine c_r 17 262144 (by kernel_rfl) rfl rfl rfl rfl (Y_strgeq rfl rfl rfl) ?_; refine c_p 18 0 ?_; refine c_d ?_; refine C_cond rfl (fun h33 => ?_) (fun h33 => ?_)
   ·refine C_region <| S_run 1 rfl <| S_nil <| C_seq <| C_region ?_; refine S_y rfl rfl rfl (Y_ld u32 rfl rfl rfl) ?_; refine S_y rfl rfl rfl (Y_fa ly83 rfl rfl rfl) ?_; refine S_y rfl rfl rfl (Y_ld u9 rfl rfl rfl) ?_; refine S_run 1 rfl ?_; refine S_y rfl rfl rfl (Y_build [.tmp 37, .tmp 36] bt56 rfl rfl rfl rfl) ?_; refine S_lit elKV [⟨cl.key, (tellN metF m g cl).2.2⟩] rfl rfl rfl rfl u32 ti56 rfl rfl rfl rfl rfl (by decide) (fun ad39 c39 => ?_); refine S_pub (by repeat constructor) ?_; refine S_app (ys := out) rfl rfl rfl rfl u32 ti56 rfl rfl rfl rfl rfl rfl (by repeat constructor) (by repeat constructor) (by simp only [List.length_cons, List.length_nil]; omega) (by simp only [List.length_cons, List.length_nil]; omega) (fun ad40 c40 => ?_); refine S_st rfl rfl rfl ti32 rfl rfl rfl (by repeat constructor) (by rfl) ?_; refine S_nil <| C_seq <| C_region <| S_run 2 rfl <| S_nil ?_
    first
      | (have e2 : (scanF m g out cl) = ⟨(tellN metF m g cl).1, out ++ [⟨cl.key, (tellN metF m g cl).2.2⟩], 51⟩ := by
           unfold scanF; rw [if_pos ⟨by omega, by omega, by unfold lastK; rw [hy2]; simpa using h33⟩]
         rw [e2] at hret; exact hret (Res_tmps Try.results41 rfl rfl) ⟨(ad40, c40), rfl, rfl, rfl⟩)
      | (have e2 : (scanF m g out cl) = ⟨(tellN metF m g cl).1, out ++ [⟨cl.key, (tellN metF m g cl).2.2⟩], (tellN metF m g cl).2.1⟩ := by
           unfold scanF; rw [if_neg (by
             rintro ⟨q1, q2, q3⟩
             first | omega | (unfold lastK at q3; rw [hy2] at q3; simp_all))]
         rw [e2] at hret; exact hret (Res_tmps Try.results41 rfl rfl) ⟨(ad40, c40), rfl, rfl, rfl⟩)
   ·refine C_skip <| C_seq <| C_region ?_; refine S_y rfl rfl rfl (Y_ld u32 rfl rfl rfl) ?_; refine S_y rfl rfl rfl (Y_fa ly83 rfl rfl rfl) ?_; refine S_y rfl rfl rfl (Y_ld u9 rfl rfl rfl) ?_; refine S_run 1 rfl ?_; refine S_y rfl rfl rfl (Y_build [.tmp 37, .tmp 36] bt56 rfl rfl rfl rfl) ?_; refine S_lit elKV [⟨cl.key, (tellN metF m g cl).2.2⟩] rfl rfl rfl rfl u32 ti56 rfl rfl rfl rfl rfl (by decide) (fun ad39 c39 => ?_); refine S_pub (by repeat constructor) ?_; refine S_app (ys := out) rfl rfl rfl rfl u32 ti56 rfl rfl rfl rfl rfl rfl (by repeat constructor) (by repeat constructor) (by simp only [List.length_cons, List.length_nil]; omega) (by simp only [List.length_cons, List.length_nil]; omega) (fun ad40 c40 => ?_); refine S_st rfl rfl rfl ti32 rfl rfl rfl (by repeat constructor) (by rfl) ?_; refine S_nil <| C_seq <| C_region <| S_run 2 rfl <| S_nil ?_
    first
      | (have e2 : (scanF m g out cl) = ⟨(tellN metF m g cl).1, out ++ [⟨cl.key, (tellN metF m g cl).2.2⟩], 51⟩ := by
           unfold scanF; rw [if_pos ⟨by omega, by omega, by unfold lastK; rw [hy2]; simpa using h33⟩]
         rw [e2] at hret; exact hret (Res_tmps Try.results41 rfl rfl) ⟨(ad40, c40), rfl, rfl, rfl⟩)
      | (have e2 : (scanF m g out cl) = ⟨(tellN metF m g cl).1, out ++ [⟨cl.key, (tellN metF m g cl).2.2⟩], (tellN metF m g cl).2.1⟩ := by
           unfold scanF; rw [if_neg (by
             rintro ⟨q1, q2, q3⟩
             first | omega | (unfold lastK at q3; rw [hy2] at q3; simp_all))]
         rw [e2] at hret; exact hret (Res_tmps Try.results41 rfl rfl) ⟨(ad40, c40), rfl, rfl, rfl⟩)
  ·refine C_firstoff (i := 8) (W := 421888) (by kernel_rfl) rfl rfl rfl rfl ?_; refine C_firstoff (i := 9) (W := 424960) (by kernel_rfl) rfl rfl rfl rfl ?_; refine C_firstoff (i := 10) (W := 423936) (by kernel_rfl) rfl rfl rfl rfl ?_; refine C_firstoff (i := 11) (W := 421888) (by kernel_rfl) rfl rfl rfl rfl ?_; refine C_firstoff (i := 12) (W := 417792) (by kernel_rfl) rfl rfl rfl rfl ?_; refine C_firstoff (i := 13) (W := 409600) (by kernel_rfl) rfl rfl rfl rfl ?_; refine C_firstoff (i := 14) (W := 393216) (by kernel_rfl) rfl rfl rfl rfl ?_; refine C_firstoff (i := 15) (W := 458752) (by kernel_rfl) rfl rfl rfl rfl ?_; refine C_firstoff (i := 16) (W := 393216) (by kernel_rfl) rfl rfl rfl rfl ?_; refine C_firstoff (i := 17) (W := 262144) (by kernel_rfl) rfl rfl rfl rfl ?_; refine c_p 18 0 ?_; refine c_d ?_; refine C_cond_f rfl ?_; refine C_skip <| C_seq <| C_region ?_; refine S_y rfl rfl rfl (Y_ld u32 rfl rfl rfl) ?_; refine S_y rfl rfl rfl (Y_fa ly83 rfl rfl rfl) ?_; refine S_y rfl rfl rfl (Y_ld u9 rfl rfl rfl) ?_; refine S_run 1 rfl ?_; refine S_y rfl rfl rfl (Y_build [.tmp 37, .tmp 36] bt56 rfl rfl rfl rfl) ?_; refine S_lit elKV [⟨cl.key, (tellN metF m g cl).2.2⟩] rfl rfl rfl rfl u32 ti56 rfl rfl rfl rfl rfl (by decide) (fun ad39 c39 => ?_); refine S_pub (by repeat constructor) ?_; refine S_app (ys := out) rfl rfl rfl rfl u32 ti56 rfl rfl rfl rfl rfl rfl (by repeat constructor) (by repeat constructor) (by simp only [List.length_cons, List.length_nil]; omega) (by simp only [List.length_cons, List.length_nil]; omega) (fun ad40 c40 => ?_); refine S_st rfl rfl rfl ti32 rfl rfl rfl (by repeat constructor) (by rfl) ?_; refine S_nil <| C_seq <| C_region <| S_run 2 rfl <| S_nil ?_
   first
     | (have e2 : (scanF m g out cl) = ⟨(tellN metF m g cl).1, out ++ [⟨cl.key, (tellN metF m g cl).2.2⟩], 51⟩ := by
          unfold scanF; rw [if_pos ⟨by omega, by omega, by unfold lastK; rw [hy2]; simpa using h33⟩]
        rw [e2] at hret; exact hret (Res_tmps Try.results41 rfl rfl) ⟨(ad40, c40), rfl, rfl, rfl⟩)
     | (have e2 : (scanF m g out cl) = ⟨(tellN metF m g cl).1, out ++ [⟨cl.key, (tellN metF m g cl).2.2⟩], (tellN metF m g cl).2.1⟩ := by
          unfold scanF; rw [if_neg (by
            rintro ⟨q1, q2, q3⟩
            first | omega | (unfold lastK at q3; rw [hy2] at q3; simp_all))]
        rw [e2] at hret; exact hret (Res_tmps Try.results41 rfl rfl) ⟨(ad40, c40), rfl, rfl, rfl⟩)
 ·refine C_firstoff (i := 3) (W := 524272) (by kernel_rfl) rfl rfl rfl rfl ?_; refine C_firstoff (i := 4) (W := 524256) (by kernel_rfl) rfl rfl rfl rfl ?_; refine C_firstoff (i := 5) (W := 524224) (by kernel_rfl) rfl rfl rfl rfl ?_; refine c_p 6 524160 ?_; refine c_p 7 524032 ?_; refine C_firstoff (i := 8) (W := 421888) (by kernel_rfl) rfl rfl rfl rfl ?_; refine C_firstoff (i := 9) (W := 424960) (by kernel_rfl) rfl rfl rfl rfl ?_; refine C_firstoff (i := 10) (W := 423936) (by kernel_rfl) rfl rfl rfl rfl ?_; refine C_firstoff (i := 11) (W := 421888) (by kernel_rfl) rfl rfl rfl rfl ?_; refine C_firstoff (i := 12) (W := 417792) (by kernel_rfl) rfl rfl rfl rfl ?_; refine C_firstoff (i := 13) (W := 409600) (by kernel_rfl) rfl rfl rfl rfl ?_; refine C_firstoff (i := 14) (W := 393216) (by kernel_rfl) rfl rfl rfl rfl ?_; refine C_firstoff (i := 15) (W := 458752) (by kernel_rfl) rfl rfl rfl rfl ?_; refine C_firstoff (i := 16) (W := 393216) (by kernel_rfl) rfl rfl rfl rfl ?_; refine C_firstoff (i := 17) (W := 262144) (by kernel_rfl) rfl rfl rfl rfl ?_; refine c_p 18 0 ?_; refine c_d ?_; refine C_cond_f rfl ?_; refine C_skip <| C_seq <| C_region ?_; refine S_y rfl rfl rfl (Y_ld u32 rfl rfl rfl) ?_; refine S_y rfl rfl rfl (Y_fa ly83 rfl rfl rfl) ?_; refine S_y rfl rfl rfl (Y_ld u9 rfl rfl rfl) ?_; refine S_run 1 rfl ?_; refine S_y rfl rfl rfl (Y_build [.tmp 37, .tmp 36] bt56 rfl rfl rfl rfl) ?_; refine S_lit elKV [⟨cl.key, (tellN metF m g cl).2.2⟩] rfl rfl rfl rfl u32 ti56 rfl rfl rfl rfl rfl (by decide) (fun ad39 c39 => ?_); refine S_pub (by repeat constructor) ?_; refine S_app (ys := out) rfl rfl rfl rfl u32 ti56 rfl rfl rfl rfl rfl rfl (by repeat constructor) (by repeat constructor) (by simp only [List.length_cons, List.length_nil]; omega) (by simp only [List.length_cons, List.length_nil]; omega) (fun ad40 c40 => ?_); refine S_st rfl rfl rfl ti32 rfl rfl rfl (by repeat constructor) (by rfl) ?_; refine S_nil <| C_seq <| C_region <| S_run 2 rfl <| S_nil ?_
  first
    | (have e2 : (scanF m g out cl) = ⟨(tellN metF m g cl).1, out ++ [⟨cl.key, (tellN metF m g cl).2.2⟩], 51⟩ := by
         unfold scanF; rw [if_pos ⟨by omega, by omega, by unfold lastK; rw [hy2]; simpa using h33⟩]
       rw [e2] at hret; exact hret (Res_tmps Try.results41 rfl rfl) ⟨(ad40, c40), rfl, rfl, rfl⟩)
    | (have e2 : (scanF m g out cl) = ⟨(tellN metF m g cl).1, out ++ [⟨cl.key, (tellN metF m g cl).2.2⟩], (tellN metF m g cl).2.1⟩ := by
         unfold scanF; rw [if_neg (by
           rintro ⟨q1, q2, q3⟩
           first | omega | (unfold lastK at q3; rw [hy2] at q3; simp_all))]
       rw [e2] at hret; exact hret (Res_tmps Try.results41 rfl rfl) ⟨(ad40, c40), rfl, rfl, rfl⟩)
set_option maxRecDepth 100000 in
set_option maxHeartbeats 1000000 in
theorem pages1_ok {bm : Nat} {m : Mem} {adP : Option Addr} {cP : Nat} {bx bw bg bk : Nat} {g : Gone} {n : Nat} {_a : Unit} {cl : Cell} (hm : MOK m) (hco : CellOK cl) (hn : n ≤ 3900000000000) : Spx Try.prog 53 #[.agg (encCell cl).toArray, .pointer (some ⟨bk, 0, none⟩), .pointer (some ⟨bx, 0, none⟩)] [MF2 (PtM bx 0 [.pointer (some ⟨bw, 0, none⟩)]) (PtM bw 0 [.iface 26 (.pointer (some ⟨bm, 0, none⟩)), .map (some bg)])] [Res.mp (fun n : Int => Value.int .i64 n) (fun _ : Unit => Value.bool true) bg g, Res.blk bm (.cells (memC m adP cP) 29 (0, 0)), Res.arr elS 9 adP cP (m).pages, Res.blk bk (.cells #[.int .i64 ((n : Nat) : Int)] 3 (0, 0)), Res.arr elB 5 none 0 []] (fun v fs' own' => ∃ _a' : Unit, v = .int .i64 ((pagesF m g n cl).e : Int) ∧ fs' = [] ∧ own' = [Res.mp (fun n : Int => Value.int .i64 n) (fun _ : Unit => Value.bool true) bg (pagesF m g n cl).g, Res.blk bm (.cells (memC m adP cP) 29 (0, 0)), Res.arr elS 9 adP cP (m).pages, Res.blk bk (.cells #[.int .i64 (((pagesF m g n cl).t : Nat) : Int)] 3 (0, 0)), Res.arr elB 5 none 0 []]) := by
 refine Spx_of_body (fn := Try.f53) 18 Try.func53 rfl (by kernel_rfl) rfl (Nat.le_of_ble_eq_true rfl) (fun g0 Q hret hend => ?_); dsimp only [initL]; refine C_both (by repeat constructor) ?_; refine C_seq <| C_region ?_; refine S_box rfl rfl rfl rfl rfl rfl (fun b3 => ?_); refine S_run 1 rfl <| S_nil <| C_seq <| C_region ?_; refine S_y rfl rfl rfl (Y_ld u3 rfl rfl rfl) ?_; refine S_y rfl rfl rfl ((Y_addi rfl rfl rfl (by omega) (by omega)).as (v' := .int .i64 ((n + 1 : Nat) : Int)) rfl) ?_; refine S_st rfl rfl rfl ti3 rfl rfl rfl (by repeat constructor) (by rfl) ?_; refine S_nil <| C_seq <| C_region ?_; refine S_y rfl rfl rfl (Y_ld u74 rfl rfl rfl) ?_; refine S_y rfl rfl rfl (Y_ldS Try.underlying83 rfl ti83 rfl rfl) ?_; refine S_y rfl rfl rfl (Y_ld u74 rfl rfl rfl) ?_; refine S_run 1 rfl ?_; refine S_enter rfl rfl rfl (E_fn rfl rfl) (tell_ok (fi := #[.pointer (some ⟨bw, 0, none⟩)]) (ca := #[]) (fA := PtM bw 0 [.iface 26 (.pointer (some ⟨bm, 0, none⟩)), .map (some bg)]) (mt := metF) hm hco (fun g n => met_ok)) ?_; rintro _ _ _ ⟨rfl, rfl, rfl⟩; (try dsimp only [c_a, n_a]); refine S_run 5 rfl <| S_nil <| C_seq <| C_region <| S_run 2 rfl <| S_nil ?_; exact hret (Res_tmps Try.results53 rfl rfl) ⟨(), rfl, rfl, rfl⟩
set_option maxRecDepth 100000 in
set_option maxHeartbeats 2000000 in
theorem scan_ok {bm : Nat} {m : Mem} {adP : Option Addr} {cP : Nat} {t : Tree} {fr to_ : Bytes} (hm : MOK m) (hmp : m.pages.length ≤ 3900000) : Spx Try.prog 19 #[.iface 26 (.pointer (some ⟨bm, 0, none⟩)), .agg (treeC t), str fr, str to_] [] [Res.blk bm (.cells (memC m adP cP) 29 (0, 0)), Res.arr elS 9 adP cP (m).pages] (fun v fs' own' => ∃ ad c, v = .tuple #[.slice ad (scanN m t fr to_).1.length c, .int .i64 ((scanN m t fr to_).2 : Int)] ∧ fs' = [SlM elKV ad c (scanN m t fr to_).1] ∧ own' = [Res.blk bm (.cells (memC m adP cP) 29 (0, 0)), Res.arr elS 9 adP cP (m).pages]) := by
 refine Spx_of_body (fn := Try.f19) 41 Try.func19 rfl (by kernel_rfl) rfl (Nat.le_of_ble_eq_true rfl) (fun g0 Q hret hend => ?_); dsimp only [initL]; refine C_seq <| C_region ?_; refine S_box rfl rfl rfl rfl rfl rfl (fun b5 => ?_); refine S_alloc rfl rfl rfl rfl ti32 rfl (fun b8 => ?_); refine S_run 1 rfl <| S_nil <| C_seq <| C_region <| S_run 1 rfl ?_; refine S_enter rfl rfl rfl (E_fn rfl rfl) begin_ok ?_; rintro _ _ _ (⟨hsz, rfl, rfl, rfl⟩ | ⟨hsz, bw, bg, rfl, rfl, rfl⟩)
 ·try dsimp only [c_a, n_a]
  refine S_run 3 rfl ?_; refine S_alloc rfl rfl rfl rfl ti74 rfl (fun b10 => ?_); refine S_st rfl rfl rfl ti74 rfl rfl rfl (by repeat constructor) (by rfl) ?_; refine S_run 1 rfl <| S_nil <| C_seq <| C_block <| C_seq <| C_region <| S_run 3 rfl <| S_nil ?_; refine C_if rfl (fun h16 => ?_) (fun h16 => ?_)
  ·refine C_seq <| C_region ?_; have e : (scanN m t fr to_) = ([], 2) := by unfold scanN; exact if_pos hsz
   refine S_fact (f := SlM elKV none 0 []) (fun g _ => SlM.nil _ _ _ g) ?_; refine S_run 1 rfl ?_; refine S_st rfl rfl rfl ti32 rfl rfl rfl (by repeat constructor) (by rfl) ?_; refine S_run 1 rfl <| S_nil ?_; rw [e] at hret
   first
     | exact hret (Res_c2 Try.results19 rfl (LdV_1 u32 rfl (by repeat constructor) rfl) rfl) ⟨none, 0, rfl, rfl, rfl⟩
     | exact hret (Res_c2 Try.results19 rfl (LdV_1 u32 rfl (by repeat constructor) rfl) rfl) ⟨a8.1, a8.2, rfl, rfl, rfl⟩
  ·omega
 ·try dsimp only [c_a, n_a]
  refine S_run 3 rfl ?_; refine S_alloc rfl rfl rfl rfl ti74 rfl (fun b10 => ?_); refine S_st rfl rfl rfl ti74 rfl rfl rfl (by repeat constructor) (by rfl) ?_; refine S_run 1 rfl <| S_nil <| C_seq <| C_block <| C_seq <| C_region <| S_run 3 rfl <| S_nil ?_; refine C_if rfl (fun h16 => ?_) (fun h16 => ?_)
  ·omega
  ·refine C_seq <| C_region ?_; refine S_y rfl rfl rfl (Y_ldS Try.underlying31 rfl ti31 rfl rfl) ?_; refine S_enter rfl rfl rfl (E_fn rfl rfl) (right_ok (t := t)) ?_; rintro _ _ _ ⟨rfl, rfl, rfl⟩; (try dsimp only [c_a, n_a]); refine S_run 2 rfl <| S_nil ?_; refine C_cond rfl (fun h20 => ?_) (fun h20 => ?_)
   ·refine C_seq <| C_region ?_
    have e : (scanN m t fr to_) = ([], 51) := by
      unfold scanN; rw [if_neg (by omega)]; exact if_pos (by cases hq : rightT t with | false => rfl | true => (rw [hq] at h20; cases h20))
    refine S_fact (f := SlM elKV none 0 []) (fun g _ => SlM.nil _ _ _ g) ?_; refine S_st rfl rfl rfl ti32 rfl rfl rfl (by repeat constructor) (by rfl) ?_; refine S_run 1 rfl <| S_nil ?_; rw [e] at hret
    first
      | exact hret (Res_c2 Try.results19 rfl (LdV_1 u32 rfl (by repeat constructor) rfl) rfl) ⟨none, 0, rfl, rfl, rfl⟩
      | exact hret (Res_c2 Try.results19 rfl (LdV_1 u32 rfl (by repeat constructor) rfl) rfl) ⟨a8.1, a8.2, rfl, rfl, rfl⟩
   ·have hright : rightT t = true := by cases hq : rightT t with | true => rfl | false => (rw [hq] at h20; cases h20)
    refine C_seq <| C_region ?_; refine S_y rfl rfl rfl (Y_fa ly31 rfl rfl rfl) ?_; refine S_y rfl rfl rfl (Y_ld u3 rfl rfl rfl) ?_; refine S_run 2 rfl <| S_nil ?_; refine C_if rfl (fun h24 => ?_) (fun h24 => ?_)
    ·refine C_seq <| C_region ?_
     have e : (scanN m t fr to_) = ([], 0) := by
       unfold scanN; rw [if_neg (by omega)]; rw [if_neg (by rw [hright]; decide)]; exact if_pos (by omega)
     refine S_fact (f := SlM elKV none 0 []) (fun g _ => SlM.nil _ _ _ g) ?_; refine S_st rfl rfl rfl ti32 rfl rfl rfl (by repeat constructor) (by rfl) ?_; refine S_run 1 rfl <| S_nil ?_; rw [e] at hret
     first
       | exact hret (Res_c2 Try.results19 rfl (LdV_1 u32 rfl (by repeat constructor) rfl) rfl) ⟨none, 0, rfl, rfl, rfl⟩
       | exact hret (Res_c2 Try.results19 rfl (LdV_1 u32 rfl (by repeat constructor) rfl) rfl) ⟨a8.1, a8.2, rfl, rfl, rfl⟩
    ·refine C_skip <| C_blk <| C_seq <| C_region ?_; have hr0 := of_decide_eq_true hright; obtain ⟨rt, hrt⟩ : ∃ n : Nat, (n : Int) = t.root := ⟨t.root.toNat, by omega⟩; obtain ⟨dp, hdp⟩ : ∃ n : Nat, ((n + 1 : Nat) : Int) = t.deep := ⟨(t.deep - 1).toNat, by omega⟩; have hdp2 : (t.deep - 1).toNat = dp := by omega
     have e0 : (scanN m t fr to_) = if (eachN (scanF m) m fr to_ dp [] [] (rt : Int)).e ≠ 0 then ([], (eachN (scanF m) m fr to_ dp [] [] (rt : Int)).e) else ((eachN (scanF m) m fr to_ dp [] [] (rt : Int)).t, 0) := by
       unfold scanN; rw [if_neg (by omega)]; rw [if_neg (by rw [hright]; decide)]; rw [if_neg (by omega), hdp2, hrt]
     refine S_frz (b := b10) (by repeat constructor) ?_; refine S_both (f := PtM b10 0 [.pointer (some ⟨bw, 0, none⟩)]) (f2 := PtM bw 0 [.iface 26 (.pointer (some ⟨bm, 0, none⟩)), .map (some bg)]) (by repeat constructor) (by repeat constructor) ?_; refine S_nilarr elKV 56 ?_; refine S_y rfl rfl rfl (Y_ld u74 rfl rfl rfl) ?_; refine S_y rfl rfl rfl (Y_fa ly31 rfl rfl rfl) ?_; refine S_y rfl rfl rfl (Y_ld u3 rfl rfl rfl) ?_; refine S_y rfl rfl rfl (Y_fa ly31 rfl rfl rfl) ?_; refine S_y rfl rfl rfl (Y_ld u3 rfl rfl rfl) ?_; refine S_run 2 rfl ?_; refine S_as 30 rfl (show Value.int .i64 t.root = .int .i64 (rt : Int) by rw [hrt]) ?_; refine S_as 32 rfl (show Value.int .i64 t.deep = .int .i64 ((dp + 1 : Nat) : Int) by rw [hdp]) ?_; refine S_run 1 rfl ?_; refine S_enter rfl rfl rfl (E_fn rfl rfl) (each_ok (τ := List KV) (A := Option Addr × Nat) (r1 := fun out a => Res.blk b8 (.cells #[.slice a.1 out.length a.2] 32 (0, 0))) (r2 := fun out a => Res.arr elKV 56 a.1 a.2 out) (F := scanF m) (cnt := List.length) (fi := #[]) (ca := #[.pointer (some ⟨b10, 0, none⟩), .pointer (some ⟨b8, 0, none⟩)]) (fA := MF2 (PtM b10 0 [.pointer (some ⟨bw, 0, none⟩)]) (PtM bw 0 [.iface 26 (.pointer (some ⟨bm, 0, none⟩)), .map (some bg)])) hm hmp (scanF_ok m) (fun g t a c hc hn => scan1_ok hm hc hn) dp (by omega) [] [] (none, 0) rt ⟨GI.nil m, by simp⟩) ?_; rintro _ _ _ ⟨a8, rfl, rfl, rfl⟩; (try dsimp only [c_a, n_a]); refine S_run 1 rfl <| S_nil <| C_seq <| C_seq <| C_region <| S_run 2 rfl <| S_nil ?_; refine C_if rfl (fun h38 => ?_) (fun h38 => ?_)
     ·refine C_seq <| C_region ?_; have e := e0; rw [if_pos (by omega)] at e; refine S_fact (f := SlM elKV none 0 []) (fun g _ => SlM.nil _ _ _ g) ?_; refine S_run 1 rfl ?_; refine S_st rfl rfl rfl ti32 rfl rfl rfl (by repeat constructor) (by rfl) ?_; refine S_run 1 rfl <| S_nil ?_; rw [e] at hret
      first
        | exact hret (Res_c2 Try.results19 rfl (LdV_1 u32 rfl (by repeat constructor) rfl) rfl) ⟨none, 0, rfl, rfl, rfl⟩
        | exact hret (Res_c2 Try.results19 rfl (LdV_1 u32 rfl (by repeat constructor) rfl) rfl) ⟨a8.1, a8.2, rfl, rfl, rfl⟩
     ·refine C_skip <| C_seq <| C_region ?_; have e := e0; rw [if_neg (by omega)] at e; refine S_pub (E := elKV) (by repeat constructor) ?_; refine S_y rfl rfl rfl (Y_ld u32 rfl rfl rfl) ?_; refine S_st rfl rfl rfl ti32 rfl rfl rfl (by repeat constructor) (by rfl) ?_; refine S_run 1 rfl <| S_nil ?_; rw [e] at hret
      first
        | exact hret (Res_c2 Try.results19 rfl (LdV_1 u32 rfl (by repeat constructor) rfl) rfl) ⟨none, 0, rfl, rfl, rfl⟩
        | exact hret (Res_c2 Try.results19 rfl (LdV_1 u32 rfl (by repeat constructor) rfl) rfl) ⟨a8.1, a8.2, rfl, rfl, rfl⟩
end Go.Proofs.Ytlgbhceifnjdnaa
