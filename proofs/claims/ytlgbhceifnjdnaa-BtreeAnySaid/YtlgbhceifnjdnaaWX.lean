/- Walks: WX. -/
import Derived.Test.YtlgbhceifnjdnaaWV
import Derived.Test.YtlgbhceifnjdnaaPY
import Derived.Test.YtlgbhceifnjdnaaBZ
import Derived.Test.YtlgbhceifnjdnaaPX
import Derived.Test.YtlgbhceifnjdnaaProg
import Derived.KernelRfl
namespace Go.Proofs.Ytlgbhceifnjdnaa
open Go.KX
namespace TWX
theorem u5 : Try.prog.underlying 5 = some (.int .u8) := Try.underlying5
theorem u9 : Try.prog.underlying 9 = some (.string) := Try.underlying9
theorem u26 : Try.prog.underlying 26 = some (.pointer 29) := Try.underlying26
theorem u27 : Try.prog.underlying 27 = some (.slice 9) := Try.underlying27
theorem u32 : Try.prog.underlying 32 = some (.slice 56) := Try.underlying32
theorem u67 : Try.prog.underlying 67 = some (.slice 68) := Try.underlying67
theorem u68 : Try.prog.underlying 68 = some (.slice 5) := Try.underlying68
theorem ti9 : TI Try.prog 9 1 16 (str []) := TI_of (by kernel_rfl)
theorem ti27 : TI Try.prog 27 1 24 (.slice none 0 0) := TI_of (by kernel_rfl)
theorem ti29 : TI Try.prog 29 3 40 (.agg #[.slice none 0 0, .int .i64 0, .int .i64 0]) := TI_of (by kernel_rfl)
theorem ti31 : TI Try.prog 31 3 24 (.agg #[.int .i64 0, .int .i64 0, .int .i64 0]) := TI_of (by kernel_rfl)
theorem ti56 : TI Try.prog 56 2 32 (.agg #[str [], str []]) := TI_of (by kernel_rfl)
theorem ti68 : TI Try.prog 68 1 24 (.slice none 0 0) := TI_of (by kernel_rfl)
theorem ly29 : LY Try.prog 29 [(0, 1, false), (1, 1, false), (2, 1, false)] := LY_of Try.underlying29 (by kernel_rfl)
theorem ly56 : LY Try.prog 56 [(0, 1, false), (1, 1, false)] := LY_of Try.underlying56 (by kernel_rfl)
theorem bt29 : BT Try.prog 29 [(0, 1), (1, 1), (2, 1)] [.slice none 0 0, .int .i64 0, .int .i64 0] := BT_of (pl := [(0, 1, false), (1, 1, false), (2, 1, false)]) Try.underlying29 (by kernel_rfl) ti29
end TWX
open TWX
set_option maxRecDepth 100000 in
theorem sized_ok {room : Int} : Spx Try.prog 11 #[.int .i64 room] [] [] (fun v fs' own' => v = .bool (decide (480 ≤ room ∧ room ≤ 4000)) ∧ fs' = [] ∧ own' = []) := by
 refine Spx_of_body (fn := Try.f11) 9 Try.func11 rfl (by kernel_rfl) rfl (Nat.le_of_ble_eq_true rfl) (fun g0 Q hret hend => ?_)
 dsimp only [initL]
 refine C_seq <| C_region ?_
 refine S_run 1 rfl ?_
 refine S_nil <| C_seq <| C_region ?_
 refine S_run 3 rfl ?_
 refine S_prop 5 rfl (fun h5 => ?_) (fun h5 => ?_)
 ·refine S_run 4 rfl ?_
  refine S_nil ?_
  exact hret (Res_tmps Try.results11 rfl rfl) ⟨by first | exact congrArg Value.bool (decide_eq_decide.2 ⟨fun h => by omega, fun h => by omega⟩) | exact congrArg Value.bool (decide_eq_false (by omega)).symm, rfl, rfl⟩
 ·refine S_run 4 rfl ?_
  refine S_nil ?_
  exact hret (Res_tmps Try.results11 rfl rfl) ⟨by first | exact congrArg Value.bool (decide_eq_decide.2 ⟨fun h => by omega, fun h => by omega⟩) | exact congrArg Value.bool (decide_eq_false (by omega)).symm, rfl, rfl⟩
set_option maxRecDepth 100000 in
set_option maxHeartbeats 4000000 in
theorem any_ok {room : Int} {xs : List (SlE UInt8)} {ad : Option Addr} {c : Nat} {t : Tree} {key value : Bytes} (hxs : xs.length ≤ 140737488355328) (hxl : ∀ x ∈ xs, x.2.2.length ≤ 140737488355328) (hkl : key.length ≤ 140737488355328) (hvl : value.length ≤ 140737488355328) : Spx Try.prog 8 #[.int .i64 room, .slice ad xs.length c, .agg (treeC t), str key, str value] [SlM (elSl UInt8) ad c xs, AllSl elB xs] [] (fun v fs' own' => v = .bool true ∧ fs' = [] ∧ own' = []) := by
 refine Spx_of_body (fn := Try.f8) 152 Try.func8 rfl (by kernel_rfl) rfl (Nat.le_of_ble_eq_true rfl) (fun g0 Q hret hend => ?_)
 dsimp only [initL]
 refine C_seq <| C_region ?_
 refine S_box rfl rfl rfl rfl rfl rfl (fun b7 => ?_)
 refine S_run 1 rfl ?_
 refine S_nil <| C_seq <| C_region ?_
 refine S_run 1 rfl ?_
 refine S_nil <| C_seq <| C_seq <| C_region ?_
 refine S_run 1 rfl ?_
 refine S_nil <| C_block ?_
 refine C_loop (σ := Nat × Nat) (fun s => s.1 ≤ xs.length ∧ s.1 ≤ 151 ∧ s.2 = ((xs.take s.1).map (fun x : SlE UInt8 => x.2.2.length)).sum ∧ s.2 ≤ s.1 * 140737488355328) (fun s => xs.length - s.1)
   (fun s => [(0, .int .i64 room), (1, .slice ad xs.length c), (3, str key), (4, str value), (7, .pointer (some ⟨b7, 0, none⟩)), (11, .int .i64 (s.2 : Int)), (12, .int .i64 (s.1 : Int))])
   (fun s => [SlM (elSl UInt8) ad c xs, AllSl elB xs]) (fun s => [Res.blk b7 (.cells (treeC t) 31 (0, 0))]) (0, 0) ?_ (by repeat (first | exact trivial | refine ⟨rfl, ?_⟩ | refine ⟨intE (by omega), ?_⟩)) (by repeat constructor) (by repeat constructor) ?_
 ·exact ⟨Nat.zero_le _, Nat.zero_le _, rfl, Nat.zero_le _⟩
 ·rintro J ⟨i, n⟩ ⟨hi, hi2, hn, hnb⟩ hJ
  dsimp only at hi hi2 hn hnb ⊢
  refine C_seq <| C_seq <| C_region ?_
  refine S_run 2 rfl ?_
  refine S_y rfl rfl rfl (Y_slen rfl rfl u67) ?_
  refine S_run 2 rfl ?_
  refine S_prop 22 rfl (fun h22 => ?_) (fun h22 => ?_)
  ·refine S_run 3 rfl ?_
   refine S_nil ?_
   refine C_if rfl (fun h25 => ?_) (fun h25 => ?_)
   ·refine C_skip <| C_seq <| C_block <| C_region ?_
    obtain ⟨y, hy⟩ : ∃ y, xs[i]? = some y := ⟨_, List.getElem?_eq_getElem (by omega)⟩
    have hyl := hxl y (List.mem_of_getElem? hy)
    refine S_run 3 rfl ?_
    refine S_yx rfl rfl rfl (Y_ixA rfl u67 ti68 rfl rfl rfl (by repeat constructor) rfl (by omega) hy) ?_
    rintro _ _ ⟨b31, o31, rfl, rfl⟩
    refine S_y rfl rfl rfl (Y_ld u68 rfl rfl rfl) ?_
    refine S_y rfl rfl rfl (Y_slen rfl rfl u68) ?_
    refine S_y rfl rfl rfl (Y_addi rfl rfl rfl (by omega) (by omega)) ?_
    refine S_run 1 rfl ?_
    refine S_nil <| C_blk <| C_region ?_
    refine S_run 1 rfl ?_
    refine S_y rfl rfl rfl (Y_addi rfl rfl rfl (by omega) (by omega)) ?_
    refine S_run 1 rfl ?_
    refine S_nil ?_
    exact hJ (i + 1, n + y.2.2.length) _ _ _ _ ⟨by show i + 1 ≤ _; omega, by show i + 1 ≤ _; omega, by show n + _ = _; rw [sum_take (fun x : SlE UInt8 => x.2.2.length) hy, hn], by show n + _ ≤ (i + 1) * _; omega⟩ (by show xs.length - (i + 1) < xs.length - i; omega) (by repeat (first | exact trivial | refine ⟨rfl, ?_⟩ | refine ⟨intE (by omega), ?_⟩)) (by repeat constructor) (by repeat constructor)
   ·refine C_exit rfl <| C_seq <| C_seq <| C_region ?_
    refine S_run 1 rfl ?_
    refine S_y rfl rfl rfl (Y_slen rfl rfl u67) ?_
    refine S_run 2 rfl ?_
    refine S_prop 38 rfl (fun h38 => ?_) (fun h38 => ?_)
    ·refine S_run 16 rfl ?_
     refine S_nil ?_
     refine C_cond_t rfl ?_
     refine C_seq <| C_region ?_
     refine S_enter rfl rfl rfl (E_fn rfl rfl) live_ok ?_
     rintro _ _ _ ⟨rfl, rfl, rfl⟩
     try dsimp only [List.cons_append, List.nil_append]
     refine S_run 1 rfl ?_
     refine S_nil ?_
     exact hret (Res_tmps Try.results8 rfl rfl) ⟨rfl, rfl, rfl⟩
    ·omega
  ·refine S_run 3 rfl ?_
   refine S_nil ?_
   refine C_cond_f rfl ?_
   refine C_exit rfl <| C_seq <| C_seq <| C_region ?_
   refine S_run 1 rfl ?_
   refine S_y rfl rfl rfl (Y_slen rfl rfl u67) ?_
   refine S_run 2 rfl ?_
   refine S_prop 38 rfl (fun h38 => ?_) (fun h38 => ?_)
   ·refine S_run 16 rfl ?_
    refine S_nil ?_
    refine C_cond_t rfl ?_
    refine C_seq <| C_region ?_
    refine S_enter rfl rfl rfl (E_fn rfl rfl) live_ok ?_
    rintro _ _ _ ⟨rfl, rfl, rfl⟩
    try dsimp only [List.cons_append, List.nil_append]
    refine S_run 1 rfl ?_
    refine S_nil ?_
    exact hret (Res_tmps Try.results8 rfl rfl) ⟨rfl, rfl, rfl⟩
   ·refine S_run 4 rfl ?_
    refine S_prop 42 rfl (fun h42 => ?_) (fun h42 => ?_)
    ·refine S_run 12 rfl ?_
     refine S_nil ?_
     refine C_cond_t rfl ?_
     refine C_seq <| C_region ?_
     refine S_enter rfl rfl rfl (E_fn rfl rfl) live_ok ?_
     rintro _ _ _ ⟨rfl, rfl, rfl⟩
     try dsimp only [List.cons_append, List.nil_append]
     refine S_run 1 rfl ?_
     refine S_nil ?_
     exact hret (Res_tmps Try.results8 rfl rfl) ⟨rfl, rfl, rfl⟩
    ·refine S_run 1 rfl ?_
     refine S_enter rfl rfl rfl (E_fn rfl rfl) sized_ok ?_
     rintro _ _ _ ⟨rfl, rfl, rfl⟩
     try dsimp only [List.cons_append, List.nil_append]
     refine S_run 3 rfl ?_
     refine S_bool 47 rfl (fun h47 => ?_) (fun h47 => ?_)
     ·refine S_run 7 rfl ?_
      refine S_nil ?_
      refine C_cond_t rfl ?_
      refine C_seq <| C_region ?_
      refine S_enter rfl rfl rfl (E_fn rfl rfl) live_ok ?_
      rintro _ _ _ ⟨rfl, rfl, rfl⟩
      try dsimp only [List.cons_append, List.nil_append]
      refine S_run 1 rfl ?_
      refine S_nil ?_
      exact hret (Res_tmps Try.results8 rfl rfl) ⟨rfl, rfl, rfl⟩
     ·refine S_run 1 rfl ?_
      refine S_y rfl rfl rfl (Y_strlen rfl rfl u9) ?_
      refine S_run 1 rfl ?_
      refine S_y rfl rfl rfl (Y_strlen rfl rfl u9) ?_
      refine S_y rfl rfl rfl (Y_addi rfl rfl rfl (by omega) (by omega)) ?_
      refine S_run 2 rfl ?_
      refine S_nil ?_
      refine C_if rfl (fun h54 => ?_) (fun h54 => ?_)
      ·refine C_seq <| C_region ?_
       refine S_enter rfl rfl rfl (E_fn rfl rfl) live_ok ?_
       rintro _ _ _ ⟨rfl, rfl, rfl⟩
       try dsimp only [List.cons_append, List.nil_append]
       refine S_run 1 rfl ?_
       refine S_nil ?_
       exact hret (Res_tmps Try.results8 rfl rfl) ⟨rfl, rfl, rfl⟩
      ·refine C_skip <| C_seq <| C_region ?_
       have hxn : i = xs.length := by omega
       subst hxn
       rw [List.take_length] at hn
       have hsz : 480 ≤ room ∧ room ≤ 4000 := Decidable.byContradiction fun hp => by rw [decide_eq_false hp] at h47; cases h47
       have hmol : MOL (⟨xs.map (fun x => x.2.2), 1048576, room⟩ : Mem) := ⟨⟨by show (xs.map _).length ≤ _; rw [List.length_map]; omega, fun p hp => by
         obtain ⟨x, hx, rfl⟩ := List.mem_map.1 hp
         have := mem_sum (fun x : SlE UInt8 => x.2.2.length) hx
         omega⟩, by dsimp only; omega, by dsimp only; omega⟩
       have hle : LE (⟨xs.map (fun x => x.2.2), 1048576, room⟩ : Mem) := by show ((xs.map _).length : Int) ≤ 1048576; rw [List.length_map]; omega
       obtain ⟨r1, hr1⟩ : ∃ q, q = putN (⟨xs.map (fun x => x.2.2), 1048576, room⟩ : Mem) t key value := ⟨_, rfl⟩
       have hm1 := putN_ok hmol t key value
       have hl1 := putN_LE (t := t) (key := key) (value := value) hle
       rw [← hr1] at hm1 hl1
       obtain ⟨r2, hr2⟩ : ∃ q, q = delN r1.m t key := ⟨_, rfl⟩
       have hm2 := delN_ok hm1.1 t key
       have hl2 := delN_LE (t := t) (key := key) hl1
       rw [← hr2] at hm2 hl2
       have hmp : r2.m.pages.length ≤ 3900000 := by
         have h1 : (r2.m.pages.length : Int) ≤ r2.m.most := hl2
         rw [hm2.2.2.1, hm1.2.2.1] at h1
         dsimp only at h1; omega
       obtain ⟨sc, hsc⟩ : ∃ q, q = scanN r2.m t [] [] := ⟨_, rfl⟩
       have hri := scanN_rise r2.m t [] []
       rw [← hsc] at hri
       refine S_run 1 rfl ?_
       refine S_y rfl rfl rfl (Y_build [.tmp 56, .const (.int .i64 1048576), .const (.slice none 0 0)] bt29 rfl rfl rfl rfl) ?_
       refine S_box rfl rfl rfl rfl rfl rfl (fun b58 => ?_)
       refine S_run 1 rfl ?_
       refine S_nil <| C_seq <| C_seq <| C_region ?_
       refine S_nilarr elS 9 ?_
       refine S_run 1 rfl ?_
       refine S_nil <| C_block ?_
       refine C_loop (σ := Nat × (Option Addr × Nat)) (fun s => s.1 ≤ xs.length) (fun s => xs.length - s.1)
         (fun s => [(0, .int .i64 room), (1, .slice ad xs.length c), (3, str key), (4, str value), (7, .pointer (some ⟨b7, 0, none⟩)), (13, .pointer (some ⟨b58, 0, none⟩)), (14, .int .i64 (s.1 : Int))])
         (fun s => [SlM (elSl UInt8) ad c xs, AllSl elB xs]) (fun s => [Res.blk b7 (.cells (treeC t) 31 (0, 0)), Res.blk b58 (.cells (memC (⟨(xs.take s.1).map (fun x => x.2.2), 1048576, room⟩ : Mem) s.2.1 s.2.2) 29 (0, 0)), Res.arr elS 9 s.2.1 s.2.2 ((⟨(xs.take s.1).map (fun x => x.2.2), 1048576, room⟩ : Mem)).pages]) (0, (none, 0)) ?_ (by repeat (first | exact trivial | refine ⟨rfl, ?_⟩ | refine ⟨intE (by omega), ?_⟩)) (by repeat constructor) (by repeat constructor) ?_
       ·exact Nat.zero_le _
       ·rintro J ⟨i, ⟨adP, cP⟩⟩ hi hK
        dsimp only at hi ⊢
        refine C_seq <| C_seq <| C_region ?_
        refine S_run 2 rfl ?_
        refine S_y rfl rfl rfl (Y_slen rfl rfl u67) ?_
        refine S_run 1 rfl ?_
        refine S_nil ?_
        refine C_if rfl (fun h62 => ?_) (fun h62 => ?_)
        ·refine C_skip <| C_seq <| C_block ?_
         refine C_draw rfl ?_
         refine C_firstp (i := 0) (W := 28672) (by kernel_rfl) rfl rfl rfl rfl rfl ?_
         refine C_firstp (i := 1) (W := 30748) (by kernel_rfl) rfl rfl rfl rfl rfl ?_
         refine C_firstp (i := 2) (W := 30744) (by kernel_rfl) rfl rfl rfl rfl rfl ?_
         refine C_firstf (i := 3) (W := 30736) (by kernel_rfl) rfl rfl rfl rfl ly29 rfl rfl rfl ?_
         refine C_firstp (i := 5) (W := 32640) (by kernel_rfl) rfl rfl rfl rfl rfl ?_
         refine C_firstp (i := 6) (W := 32640) (by kernel_rfl) rfl rfl rfl rfl rfl ?_
         obtain ⟨y, hy⟩ : ∃ y, xs[i]? = some y := ⟨_, List.getElem?_eq_getElem (by omega)⟩
         refine C_sl (E := elB) (by repeat constructor) hy ?_
         refine C_firstx (i := 7) (W := 32512) (by kernel_rfl) rfl rfl rfl rfl (Y_ixA rfl u67 ti68 rfl rfl rfl (by repeat constructor) rfl (by omega) hy) ?_
         rintro _ _ ⟨b72, o72, rfl, rfl⟩
         refine C_first (i := 8) (W := 32256) (by kernel_rfl) rfl rfl rfl rfl (Y_ld u68 rfl rfl rfl) ?_
         refine C_first (i := 9) (W := 31744) (by kernel_rfl) rfl rfl rfl rfl (Y_b2s rfl rfl rfl (by repeat constructor) u68 u5 u9) ?_
         refine C_two (i := 4) (j := 10) (by kernel_rfl) rfl rfl ?_ ?_
         ·refine S_y rfl rfl rfl (Y_ld u27 rfl rfl rfl) ?_
          refine S_nil ?_
          refine C_one (i := 10) (by kernel_rfl) rfl ?_
          refine S_lit1 elS (fun s => rfl) rfl rfl rfl rfl u27 ti9 rfl rfl rfl rfl (fun ad75 c75 => ?_)
          refine S_pub (by repeat constructor) ?_
          refine S_nil ?_
          refine C_one (i := 11) (by kernel_rfl) rfl ?_
          refine S_app (ys := (xs.take i).map (fun x => x.2.2)) rfl rfl rfl rfl u27 ti9 rfl rfl rfl rfl rfl rfl (by repeat constructor) (by repeat constructor) (by simp only [List.length_map, List.length_take, List.length_cons, List.length_nil]; omega) (by simp only [List.length_map, List.length_take, List.length_cons, List.length_nil]; omega) (fun ad76 c76 => ?_)
          rw [show (xs.take i).map (fun x => x.2.2) ++ [y.2.2] = (xs.take (i + 1)).map (fun x => x.2.2) by rw [take_succ_snoc hy, List.map_append]; rfl]
          refine S_nil ?_
          refine C_firstp (i := 12) (W := 24576) (by kernel_rfl) rfl rfl rfl rfl rfl ?_
          refine C_firstf (i := 13) (W := 16384) (by kernel_rfl) rfl rfl rfl rfl ly29 rfl rfl rfl ?_
          refine C_one (i := 14) (by kernel_rfl) rfl ?_
          refine S_st rfl rfl rfl ti27 rfl rfl rfl (by repeat constructor) (by rfl) ?_
          refine S_nil ?_
          refine C_done (by kernel_rfl) ?_
          refine C_blk <| C_region ?_
          refine S_run 1 rfl ?_
          refine S_y rfl rfl rfl (Y_addi rfl rfl rfl (by omega) (by omega)) ?_
          refine S_run 1 rfl ?_
          refine S_nil ?_
          exact hK (i + 1, (ad76, c76)) _ _ _ _ (by show i + 1 ≤ _; omega) (by show xs.length - (i + 1) < xs.length - i; omega) (by repeat (first | exact trivial | refine ⟨rfl, ?_⟩ | refine ⟨intE (by omega), ?_⟩)) (by repeat constructor) (by repeat constructor)
         ·refine S_lit1 elS (fun s => rfl) rfl rfl rfl rfl u27 ti9 rfl rfl rfl rfl (fun ad75 c75 => ?_)
          refine S_pub (by repeat constructor) ?_
          refine S_nil ?_
          refine C_first (i := 4) (W := 30720) (by kernel_rfl) rfl rfl rfl rfl (Y_ld u27 rfl rfl rfl) ?_
          refine C_one (i := 11) (by kernel_rfl) rfl ?_
          refine S_app (ys := (xs.take i).map (fun x => x.2.2)) rfl rfl rfl rfl u27 ti9 rfl rfl rfl rfl rfl rfl (by repeat constructor) (by repeat constructor) (by simp only [List.length_map, List.length_take, List.length_cons, List.length_nil]; omega) (by simp only [List.length_map, List.length_take, List.length_cons, List.length_nil]; omega) (fun ad76 c76 => ?_)
          rw [show (xs.take i).map (fun x => x.2.2) ++ [y.2.2] = (xs.take (i + 1)).map (fun x => x.2.2) by rw [take_succ_snoc hy, List.map_append]; rfl]
          refine S_nil ?_
          refine C_firstp (i := 12) (W := 24576) (by kernel_rfl) rfl rfl rfl rfl rfl ?_
          refine C_firstf (i := 13) (W := 16384) (by kernel_rfl) rfl rfl rfl rfl ly29 rfl rfl rfl ?_
          refine C_one (i := 14) (by kernel_rfl) rfl ?_
          refine S_st rfl rfl rfl ti27 rfl rfl rfl (by repeat constructor) (by rfl) ?_
          refine S_nil ?_
          refine C_done (by kernel_rfl) ?_
          refine C_blk <| C_region ?_
          refine S_run 1 rfl ?_
          refine S_y rfl rfl rfl (Y_addi rfl rfl rfl (by omega) (by omega)) ?_
          refine S_run 1 rfl ?_
          refine S_nil ?_
          exact hK (i + 1, (ad76, c76)) _ _ _ _ (by show i + 1 ≤ _; omega) (by show xs.length - (i + 1) < xs.length - i; omega) (by repeat (first | exact trivial | refine ⟨rfl, ?_⟩ | refine ⟨intE (by omega), ?_⟩)) (by repeat constructor) (by repeat constructor)
        ·refine C_exit rfl <| C_seq <| C_region ?_
         have hi2 : i = xs.length := by omega
         subst hi2
         rw [List.take_length]
         refine S_run 1 rfl ?_
         refine S_y rfl rfl rfl (Y_mkI rfl rfl u26 (fun _ h => by cases h)) ?_
         refine S_y rfl rfl rfl (Y_ldS Try.underlying31 rfl ti31 rfl rfl) ?_
         refine S_run 1 rfl ?_
         refine S_enter rfl rfl rfl (E_fn rfl rfl) (get_ok (bm := b58) (m := (⟨xs.map (fun x => x.2.2), 1048576, room⟩ : Mem)) (adP := adP) (cP := cP) (t := t) (key := key) hmol.ok) ?_
         rintro _ _ _ ⟨rfl, rfl, rfl⟩
         try dsimp only [List.cons_append, List.nil_append]
         refine S_nil <| C_seq <| C_region ?_
         refine S_run 1 rfl ?_
         refine S_y rfl rfl rfl (Y_mkI rfl rfl u26 (fun _ h => by cases h)) ?_
         refine S_y rfl rfl rfl (Y_ldS Try.underlying31 rfl ti31 rfl rfl) ?_
         refine S_run 2 rfl ?_
         refine S_enter rfl rfl rfl (E_fn rfl rfl) (bput_ok (bm := b58) (m := (⟨xs.map (fun x => x.2.2), 1048576, room⟩ : Mem)) (adP := adP) (cP := cP) (t := t) (key := key) (value := value) hmol) ?_
         rintro _ _ _ ⟨adB, cB, adP1, cP1, rfl, rfl, rfl⟩
         try dsimp only [List.cons_append, List.nil_append]
         rw [← hr1]
         refine S_nil <| C_seq <| C_region ?_
         refine S_run 1 rfl ?_
         refine S_y rfl rfl rfl (Y_mkI rfl rfl u26 (fun _ h => by cases h)) ?_
         refine S_y rfl rfl rfl (Y_ldS Try.underlying31 rfl ti31 rfl rfl) ?_
         refine S_run 1 rfl ?_
         refine S_enter rfl rfl rfl (E_fn rfl rfl) (bdel_ok (bm := b58) (m := r1.m) (t := t) (key := key) hm1.1) ?_
         rintro _ _ _ ⟨adD, cD, adP2, cP2, rfl, rfl, rfl⟩
         try dsimp only [List.cons_append, List.nil_append]
         rw [← hr2]
         refine S_nil <| C_seq <| C_region ?_
         refine S_run 1 rfl ?_
         refine S_y rfl rfl rfl (Y_mkI rfl rfl u26 (fun _ h => by cases h)) ?_
         refine S_y rfl rfl rfl (Y_ldS Try.underlying31 rfl ti31 rfl rfl) ?_
         refine S_enter rfl rfl rfl (E_fn rfl rfl) (pages_ok (bm := b58) (m := r2.m) (t := t) hm2.1.ok hmp) ?_
         rintro _ _ _ ⟨adQ, cQ, rfl, rfl, rfl⟩
         try dsimp only [List.cons_append, List.nil_append]
         refine S_nil <| C_seq <| C_region ?_
         refine S_run 1 rfl ?_
         refine S_y rfl rfl rfl (Y_mkI rfl rfl u26 (fun _ h => by cases h)) ?_
         refine S_y rfl rfl rfl (Y_ldS Try.underlying31 rfl ti31 rfl rfl) ?_
         refine S_enter rfl rfl rfl (E_fn rfl rfl) (scan_ok (bm := b58) (m := r2.m) (t := t) (fr := []) (to_ := []) hm2.1.ok hmp) ?_
         rintro _ _ _ ⟨adS, cS, rfl, rfl, rfl⟩
         try dsimp only [List.cons_append, List.nil_append]
         rw [← hsc]
         refine S_run 5 rfl ?_
         refine S_nil <| C_seq <| C_seq <| C_region ?_
         refine S_run 1 rfl ?_
         refine S_enter rfl rfl rfl (E_fn rfl rfl) num_ok ?_
         rintro _ _ _ ⟨rfl, rfl, rfl⟩
         try dsimp only [List.cons_append, List.nil_append]
         refine S_run 1 rfl ?_
         refine S_nil ?_
         refine C_if rfl (fun h108 => ?_) (fun h108 => ?_)
         ·refine C_seq <| C_region ?_
          refine S_run 1 rfl ?_
          refine S_y rfl rfl rfl (Y_slen rfl rfl u32) ?_
          refine S_y rfl rfl rfl ((Y_pure rfl).as (v' := .bool true) (congrArg Value.bool (decide_eq_true (by rw [hri.1 (by omega)]; rfl)))) ?_
          refine S_run 1 rfl ?_
          refine S_enter rfl rfl rfl (E_fn rfl rfl) live_ok ?_
          rintro _ _ _ ⟨rfl, rfl, rfl⟩
          try dsimp only [List.cons_append, List.nil_append]
          refine S_run 2 rfl ?_
          refine S_nil ?_
          exact hret (Res_tmps Try.results8 rfl rfl) ⟨rfl, rfl, rfl⟩
         ·refine C_skip <| C_seq <| C_seq <| C_region ?_
          refine S_run 1 rfl ?_
          refine S_nil <| C_block ?_
          refine C_pure (f := SlM elKV adS cS sc.1) (by repeat constructor) SlM.le (fun hls => ?_)
          refine C_loop (σ := Nat) (fun i => i ≤ sc.1.length) (fun i => sc.1.length - i)
            (fun i => [(15, .slice adS sc.1.length cS), (17, .int .i64 (i : Int))])
            (fun i => [SlM elKV adS cS sc.1]) (fun i => []) 0 ?_ (by repeat (first | exact trivial | refine ⟨rfl, ?_⟩ | refine ⟨intE (by omega), ?_⟩)) (by repeat constructor) (by repeat constructor) ?_
          ·exact Nat.zero_le _
          ·rintro J i hi hM
           refine C_seq <| C_seq <| C_region ?_
           refine S_run 2 rfl ?_
           refine S_y rfl rfl rfl (Y_slen rfl rfl u32) ?_
           refine S_run 1 rfl ?_
           refine S_nil ?_
           refine C_if rfl (fun h118 => ?_) (fun h118 => ?_)
           ·obtain ⟨y, hy⟩ : ∃ y, sc.1[i]? = some y := ⟨_, List.getElem?_eq_getElem (by omega)⟩
            refine C_skip <| C_seq <| C_block <| C_seq ?_
            refine C_draw rfl ?_
            refine C_firstp (i := 0) (W := 1073741822) (by kernel_rfl) rfl rfl rfl rfl rfl ?_
            refine C_firstp (i := 1) (W := 1073741820) (by kernel_rfl) rfl rfl rfl rfl rfl ?_
            refine C_firstp (i := 2) (W := 1073741816) (by kernel_rfl) rfl rfl rfl rfl rfl ?_
            refine C_prop 123 rfl (fun h123 => ?_) (fun h123 => ?_)
            ·obtain ⟨z, hz⟩ : ∃ z, sc.1[((i : Int) - 1).toNat]? = some z := ⟨_, List.getElem?_eq_getElem (by omega)⟩
             have hz2 : sc.1[i - 1]? = some z := by rw [← hz]; congr 1; omega
             have hup := hri.2.up (i - 1) z y hz2 (by rw [show i - 1 + 1 = i by omega]; exact hy)
             refine C_firstp (i := 3) (W := 1073725664) (by kernel_rfl) rfl rfl rfl rfl rfl ?_
             refine C_firstp (i := 4) (W := 1073725664) (by kernel_rfl) rfl rfl rfl rfl rfl ?_
             refine C_firstw (i := 5) (W := 1073725632) (by kernel_rfl) rfl rfl rfl rfl (Y_ixAW rfl u32 ti56 rfl rfl rfl (by repeat constructor) rfl (by omega) hy) ?_
             rintro _ _ ⟨b126, o126, rfl, rfl⟩
             refine C_firstf (i := 6) (W := 1073725568) (by kernel_rfl) rfl rfl rfl rfl ly56 rfl rfl rfl ?_
             refine C_firstp (i := 8) (W := 1073739776) (by kernel_rfl) rfl rfl rfl rfl rfl ?_
             refine C_firstp (i := 9) (W := 1073740800) (by kernel_rfl) rfl rfl rfl rfl rfl ?_
             refine C_first (i := 10) (W := 1073739776) (by kernel_rfl) rfl rfl rfl rfl (Y_subi rfl rfl rfl (by omega) (by omega)) ?_
             refine C_first (i := 7) (W := 1073725440) (by kernel_rfl) rfl rfl rfl rfl (Y_ld u9 rfl rfl rfl) ?_
             refine C_firstx (i := 11) (W := 1073737728) (by kernel_rfl) rfl rfl rfl rfl (Y_ixA rfl u32 ti56 rfl rfl rfl (by repeat constructor) rfl (by omega) hz) ?_
             rintro _ _ ⟨b132, o132, rfl, rfl⟩
             refine C_firstf (i := 12) (W := 1073733632) (by kernel_rfl) rfl rfl rfl rfl ly56 rfl rfl rfl ?_
             refine C_first (i := 13) (W := 1073725440) (by kernel_rfl) rfl rfl rfl rfl (Y_ld u9 rfl rfl rfl) ?_
             refine C_first (i := 14) (W := 1073709056) (by kernel_rfl) rfl rfl rfl rfl ((Y_strleq rfl rfl rfl).as (v' := .bool false) (by rw [blt_asymm hup, decide_eq_false (fun e => blt_ne hup e.symm)]; rfl)) ?_
             refine C_firstp (i := 15) (W := 1073676288) (by kernel_rfl) rfl rfl rfl rfl rfl ?_
             refine C_firstp (i := 16) (W := 1073610752) (by kernel_rfl) rfl rfl rfl rfl rfl ?_
             refine C_firstp (i := 17) (W := 943194112) (by kernel_rfl) rfl rfl rfl rfl rfl ?_
             refine C_firstp (i := 18) (W := 943194112) (by kernel_rfl) rfl rfl rfl rfl rfl ?_
             refine C_firstx (i := 19) (W := 942669824) (by kernel_rfl) rfl rfl rfl rfl (Y_ixA rfl u32 ti56 rfl rfl rfl (by repeat constructor) rfl (by omega) hy) ?_
             rintro _ _ ⟨b140, o140, rfl, rfl⟩
             refine C_firstf (i := 20) (W := 941621248) (by kernel_rfl) rfl rfl rfl rfl ly56 rfl rfl rfl ?_
             refine C_first (i := 21) (W := 939524096) (by kernel_rfl) rfl rfl rfl rfl (Y_ld u9 rfl rfl rfl) ?_
             refine C_firstp (i := 22) (W := 1056964608) (by kernel_rfl) rfl rfl rfl rfl rfl ?_
             refine C_firstp (i := 23) (W := 1056964608) (by kernel_rfl) rfl rfl rfl rfl rfl ?_
             refine C_firstx (i := 24) (W := 1040187392) (by kernel_rfl) rfl rfl rfl rfl (Y_ixA rfl u32 ti56 rfl rfl rfl (by repeat constructor) rfl (by omega) hy) ?_
             rintro _ _ ⟨b145, o145, rfl, rfl⟩
             refine C_firstf (i := 25) (W := 1006632960) (by kernel_rfl) rfl rfl rfl rfl ly56 rfl rfl rfl ?_
             refine C_first (i := 26) (W := 939524096) (by kernel_rfl) rfl rfl rfl rfl (Y_ld u9 rfl rfl rfl) ?_
             refine C_one (i := 27) (by kernel_rfl) rfl ?_
             refine S_enter rfl rfl rfl (E_fn rfl rfl) rright_ok ?_
             rintro _ _ _ ⟨rfl, rfl, rfl⟩
             try dsimp only [List.cons_append, List.nil_append]
             refine S_as 148 rfl (show Value.bool (rightKV y.key y.value) = .bool true by rw [hri.2.ok y (List.mem_of_getElem? hy)]) ?_
             refine S_nil ?_
             refine C_firstp (i := 28) (W := 536870912) (by kernel_rfl) rfl rfl rfl rfl rfl ?_
             refine C_firstp (i := 29) (W := 0) (by kernel_rfl) rfl rfl rfl rfl rfl ?_
             refine C_done (by kernel_rfl) ?_
             refine C_cond_f rfl ?_
             refine C_skip <| C_blk <| C_region ?_
             refine S_run 1 rfl ?_
             refine S_y rfl rfl rfl (Y_addi rfl rfl rfl (by omega) (by omega)) ?_
             refine S_run 1 rfl ?_
             refine S_nil ?_
             exact hM (i + 1) _ _ _ _ (by omega) (by show sc.1.length - (i + 1) < sc.1.length - i; omega) (by repeat (first | exact trivial | refine ⟨rfl, ?_⟩ | refine ⟨intE (by omega), ?_⟩)) (by repeat constructor) (by repeat constructor)
            ·refine C_firstoff (i := 3) (W := 1073725664) (by kernel_rfl) rfl rfl rfl rfl ?_
             refine C_firstoff (i := 4) (W := 1073725664) (by kernel_rfl) rfl rfl rfl rfl ?_
             refine C_firstoff (i := 5) (W := 1073725632) (by kernel_rfl) rfl rfl rfl rfl ?_
             refine C_firstoff (i := 6) (W := 1073725568) (by kernel_rfl) rfl rfl rfl rfl ?_
             refine C_firstoff (i := 7) (W := 1073725440) (by kernel_rfl) rfl rfl rfl rfl ?_
             refine C_firstoff (i := 8) (W := 1073739776) (by kernel_rfl) rfl rfl rfl rfl ?_
             refine C_firstoff (i := 9) (W := 1073740800) (by kernel_rfl) rfl rfl rfl rfl ?_
             refine C_firstoff (i := 10) (W := 1073739776) (by kernel_rfl) rfl rfl rfl rfl ?_
             refine C_firstoff (i := 11) (W := 1073737728) (by kernel_rfl) rfl rfl rfl rfl ?_
             refine C_firstoff (i := 12) (W := 1073733632) (by kernel_rfl) rfl rfl rfl rfl ?_
             refine C_firstoff (i := 13) (W := 1073725440) (by kernel_rfl) rfl rfl rfl rfl ?_
             refine C_firstoff (i := 14) (W := 1073709056) (by kernel_rfl) rfl rfl rfl rfl ?_
             refine C_firstp (i := 15) (W := 1073676288) (by kernel_rfl) rfl rfl rfl rfl rfl ?_
             refine C_firstp (i := 16) (W := 1073610752) (by kernel_rfl) rfl rfl rfl rfl rfl ?_
             refine C_firstp (i := 17) (W := 943194112) (by kernel_rfl) rfl rfl rfl rfl rfl ?_
             refine C_firstp (i := 18) (W := 943194112) (by kernel_rfl) rfl rfl rfl rfl rfl ?_
             refine C_firstx (i := 19) (W := 942669824) (by kernel_rfl) rfl rfl rfl rfl (Y_ixA rfl u32 ti56 rfl rfl rfl (by repeat constructor) rfl (by omega) hy) ?_
             rintro _ _ ⟨b140, o140, rfl, rfl⟩
             refine C_firstf (i := 20) (W := 941621248) (by kernel_rfl) rfl rfl rfl rfl ly56 rfl rfl rfl ?_
             refine C_first (i := 21) (W := 939524096) (by kernel_rfl) rfl rfl rfl rfl (Y_ld u9 rfl rfl rfl) ?_
             refine C_firstp (i := 22) (W := 1056964608) (by kernel_rfl) rfl rfl rfl rfl rfl ?_
             refine C_firstp (i := 23) (W := 1056964608) (by kernel_rfl) rfl rfl rfl rfl rfl ?_
             refine C_firstx (i := 24) (W := 1040187392) (by kernel_rfl) rfl rfl rfl rfl (Y_ixA rfl u32 ti56 rfl rfl rfl (by repeat constructor) rfl (by omega) hy) ?_
             rintro _ _ ⟨b145, o145, rfl, rfl⟩
             refine C_firstf (i := 25) (W := 1006632960) (by kernel_rfl) rfl rfl rfl rfl ly56 rfl rfl rfl ?_
             refine C_first (i := 26) (W := 939524096) (by kernel_rfl) rfl rfl rfl rfl (Y_ld u9 rfl rfl rfl) ?_
             refine C_one (i := 27) (by kernel_rfl) rfl ?_
             refine S_enter rfl rfl rfl (E_fn rfl rfl) rright_ok ?_
             rintro _ _ _ ⟨rfl, rfl, rfl⟩
             try dsimp only [List.cons_append, List.nil_append]
             refine S_as 148 rfl (show Value.bool (rightKV y.key y.value) = .bool true by rw [hri.2.ok y (List.mem_of_getElem? hy)]) ?_
             refine S_nil ?_
             refine C_firstp (i := 28) (W := 536870912) (by kernel_rfl) rfl rfl rfl rfl rfl ?_
             refine C_firstp (i := 29) (W := 0) (by kernel_rfl) rfl rfl rfl rfl rfl ?_
             refine C_done (by kernel_rfl) ?_
             refine C_cond_f rfl ?_
             refine C_skip <| C_blk <| C_region ?_
             refine S_run 1 rfl ?_
             refine S_y rfl rfl rfl (Y_addi rfl rfl rfl (by omega) (by omega)) ?_
             refine S_run 1 rfl ?_
             refine S_nil ?_
             exact hM (i + 1) _ _ _ _ (by omega) (by show sc.1.length - (i + 1) < sc.1.length - i; omega) (by repeat (first | exact trivial | refine ⟨rfl, ?_⟩ | refine ⟨intE (by omega), ?_⟩)) (by repeat constructor) (by repeat constructor)
           ·refine C_exit rfl <| C_seq <| C_region ?_
            refine S_enter rfl rfl rfl (E_fn rfl rfl) live_ok ?_
            rintro _ _ _ ⟨rfl, rfl, rfl⟩
            try dsimp only [List.cons_append, List.nil_append]
            refine S_run 1 rfl ?_
            refine S_nil ?_
            exact hret (Res_tmps Try.results8 rfl rfl) ⟨rfl, rfl, rfl⟩
end Go.Proofs.Ytlgbhceifnjdnaa
