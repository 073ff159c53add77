/- Walks: WO. -/
import Derived.Test.YtlgbhceifnjdnaaPX
import Derived.Test.YtlgbhceifnjdnaaWN
import Derived.Test.YtlgbhceifnjdnaaWJ
import Derived.Test.YtlgbhceifnjdnaaWF
import Derived.Test.YtlgbhceifnjdnaaProg
import Derived.KernelRfl
namespace Go.Proofs.Ytlgbhceifnjdnaa
open Go.KX
namespace TWO
theorem u3 : Try.prog.underlying 3 = some (.int .i64) := Try.underlying3
theorem u79 : Try.prog.underlying 79 = some (.slice 83) := Try.underlying79
theorem u106 : Try.prog.underlying 106 = some (.map 3 4) := Try.underlying106
theorem u129 : Try.prog.underlying 129 = some (.slice 79) := Try.underlying129
theorem ti4 : TI Try.prog 4 1 1 (.bool false) := TI_of (by kernel_rfl)
theorem ti79 : TI Try.prog 79 1 24 (.slice none 0 0) := TI_of (by kernel_rfl)
theorem ti83 : TI Try.prog 83 4 48 (.agg #[str [], str [], .int .i64 0, .int .i64 0]) := TI_of (by kernel_rfl)
theorem ly83 : LY Try.prog 83 [(0, 1, false), (1, 1, false), (2, 1, false), (3, 1, false)] := LY_of Try.underlying83 (by kernel_rfl)
theorem ly108 : LY Try.prog 108 [(0, 1, false), (1, 1, false)] := LY_of Try.underlying108 (by kernel_rfl)
end TWO
open TWO
set_option maxRecDepth 100000 in
set_option maxHeartbeats 2000000 in
theorem change0_ok {bm : Nat} {m : Mem} {adP : Option Addr} {cP : Nat} {bw bg bo fn : Nat} {fi ca : Array Value} {fA fB : MF} {g : Gone} {key : Bytes} {E : Edit} (hm : MOL m) (hsz : 480 ≤ m.size) (hf : ∀ (ad : Option Addr) (c : Nat) (l : List Cell), (∀ x ∈ l, CellOK x) → l.length ≤ 1000000 → Spx Try.prog fn (fi ++ #[.slice ad l.length c] ++ ca) [fA, fB] [Res.arr elCell 83 ad c l, Res.blk bo (.cells #[oldV none] 95 (0, 0))] (fun v fs' own' => ∃ ad' c' x, v = .tuple #[.slice ad' (E l).1.length c', .int .i64 (E l).2.1, .int .i64 (E l).2.2.1] ∧ fs' = [OldF x (E l).2.2.2] ∧ own' = [Res.arr elCell 83 ad' c' (E l).1, Res.blk bo (.cells #[oldV x] 95 (0, 0))])) {at_ : Int} : Spx Try.prog 66 #[.pointer (some ⟨bw, 0, none⟩), .int .i64 at_, .int .i64 1, str key, .func (.func fn) fi ca] [PtM bw 0 [.iface 26 (.pointer (some ⟨bm, 0, none⟩)), .map (some bg)], fA, fB] [Res.mp (fun n : Int => Value.int .i64 n) (fun _ : Unit => Value.bool true) bg g, Res.blk bm (.cells (memC m adP cP) 29 (0, 0)), Res.arr elS 9 adP cP (m).pages, Res.blk bo (.cells #[oldV none] 95 (0, 0))] (fun v fs' own' => ∃ ad' c' adP' cP' x, v = .tuple #[.slice ad' (changeN E key 0 m g at_).l.length c', .int .i64 (changeN E key 0 m g at_).more, .int .i64 (changeN E key 0 m g at_).e] ∧ fs' = [OldF x (changeN E key 0 m g at_).old] ∧ own' = [Res.arr elCell 83 ad' c' (changeN E key 0 m g at_).l, Res.mp (fun n : Int => Value.int .i64 n) (fun _ : Unit => Value.bool true) bg (changeN E key 0 m g at_).g, Res.blk bm (.cells (memC (changeN E key 0 m g at_).m adP' cP') 29 (0, 0)), Res.arr elS 9 adP' cP' ((changeN E key 0 m g at_).m).pages, Res.blk bo (.cells #[oldV x] 95 (0, 0))]) := by
 refine Spx_of_body (fn := Try.f66) 166 Try.func66 rfl (by kernel_rfl) rfl (Nat.le_of_ble_eq_true rfl) (fun g0 Q hret hend => ?_)
 dsimp only [initL]
 refine C_seq <| C_region ?_
 refine S_run 3 rfl ?_
 refine S_nil <| C_seq <| C_seq <| C_region ?_
 refine S_run 2 rfl ?_
 refine S_y rfl rfl rfl (Y_fa ly108 rfl rfl rfl) ?_
 refine S_y rfl rfl rfl (Y_ld u106 rfl rfl rfl) ?_
 refine S_run 1 rfl ?_
 refine S_y rfl rfl rfl ((Y_lk (K := fun n : Int => Value.int .i64 n) (V := fun _ : Unit => Value.bool true) (q := at_) rfl rfl rfl u106 (keyInt u3) ti4 (by repeat constructor)).as (v' := .bool (mget g at_).isSome) (by cases mget g at_ <;> rfl)) ?_
 refine S_nil ?_
 refine C_cond rfl (fun h27 => ?_) (fun h27 => ?_)
 ·refine C_seq <| C_region ?_
  refine S_nilarr elCell 83 ?_
  refine S_fact (f := PF True) (fun _ _ => trivial) ?_
  have e : (changeN E key 0 m g at_) = ⟨m, g, [], 0, 51, none⟩ := by unfold changeN; exact if_pos h27
  refine S_run 3 rfl ?_
  refine S_nil ?_
  rw [e] at hret
  first
    | exact hret (Res_tmps Try.results66 rfl rfl) ⟨adO, cO, adP, cP, xO, rfl, rfl, rfl⟩
    | exact hret (Res_tmps Try.results66 rfl rfl) ⟨none, 0, adP, cP, none, rfl, rfl, rfl⟩
 ·refine C_skip <| C_seq <| C_region ?_
  refine S_run 4 rfl ?_
  have hld := loadN_ok hm.ok at_ true
  refine S_enter rfl rfl rfl (E_fn rfl rfl) (loadT_ok hm.ok) ?_
  rintro _ _ _ (⟨hle, rfl, rfl, rfl⟩ | ⟨hle, adL, cL, rfl, rfl, rfl⟩)
  ·try dsimp only [List.cons_append, List.nil_append]
   refine S_run 5 rfl ?_
   refine S_nil <| C_seq <| C_seq <| C_region ?_
   refine S_run 2 rfl ?_
   refine S_nil ?_
   refine C_if rfl (fun h37 => ?_) (fun h37 => ?_)
   ·refine C_seq <| C_region ?_
    refine S_nilarr elCell 83 ?_
    refine S_fact (f := PF True) (fun _ _ => trivial) ?_
    have e : (changeN E key 0 m g at_) = ⟨m, g, [], 0, (loadN m at_ true).1, none⟩ := by unfold changeN; rw [if_neg (by rw [h27]; decide)]; exact if_pos hle
    refine S_run 4 rfl ?_
    refine S_nil ?_
    rw [e] at hret
    first
      | exact hret (Res_tmps Try.results66 rfl rfl) ⟨adO, cO, adP, cP, xO, rfl, rfl, rfl⟩
      | exact hret (Res_tmps Try.results66 rfl rfl) ⟨none, 0, adP, cP, none, rfl, rfl, rfl⟩
   ·omega
  ·try dsimp only [List.cons_append, List.nil_append]
   refine S_run 5 rfl ?_
   refine S_nil <| C_seq <| C_seq <| C_region ?_
   refine S_run 2 rfl ?_
   refine S_nil ?_
   refine C_if rfl (fun h37 => ?_) (fun h37 => ?_)
   ·omega
   ·refine C_skip <| C_seq <| C_region ?_
    refine S_run 2 rfl ?_
    refine S_y rfl rfl rfl (Y_fa ly108 rfl rfl rfl) ?_
    refine S_y rfl rfl rfl (Y_ld u106 rfl rfl rfl) ?_
    refine S_run 1 rfl ?_
    refine S_mset (K := fun n : Int => Value.int .i64 n) (V := fun _ : Unit => Value.bool true) (q := at_) (v := ()) rfl rfl rfl rfl rfl rfl u106 (keyInt u3) (by repeat constructor) ?_
    refine S_nil <| C_seq <| C_seq <| C_region ?_
    refine S_run 2 rfl ?_
    refine S_nil ?_
    refine C_if rfl (fun h45 => ?_) (fun h45 => ?_)
    ·refine C_seq <| C_region ?_
     refine S_run 2 rfl ?_
     refine S_enter rfl rfl rfl (E_val rfl rfl rfl rfl) (hf adL cL _ hld.1 hld.2) ?_
     rintro _ _ _ ⟨adO, cO, xO, rfl, rfl, rfl⟩
     try dsimp only [List.cons_append, List.nil_append]
     have e : (changeN E key 0 m g at_) = ⟨m, mset g at_ (), (E (loadN m at_ true).2).1, (E (loadN m at_ true).2).2.1, (E (loadN m at_ true).2).2.2.1, (E (loadN m at_ true).2).2.2.2⟩ := by unfold changeN; rw [if_neg (by rw [h27]; decide)]; exact if_neg (by omega)
     refine S_run 6 rfl ?_
     refine S_nil ?_
     rw [e] at hret
     first
       | exact hret (Res_tmps Try.results66 rfl rfl) ⟨adO, cO, adP, cP, xO, rfl, rfl, rfl⟩
       | exact hret (Res_tmps Try.results66 rfl rfl) ⟨none, 0, adP, cP, none, rfl, rfl, rfl⟩
    ·omega
theorem load_ok {bm : Nat} {m : Mem} {adP : Option Addr} {cP : Nat} {bw bg : Nat} (hm : MOK m) {n : Int} {leaf : Bool} : Spx Try.prog 35 #[.pointer (some ⟨bw, 0, none⟩), .int .i64 n, .bool leaf] [PtM bw 0 [.iface 26 (.pointer (some ⟨bm, 0, none⟩)), .map (some bg)]] [Res.blk bm (.cells (memC m adP cP) 29 (0, 0)), Res.arr elS 9 adP cP (m).pages]
    (fun v fs' own' => ((loadN m n leaf).1 ≠ 0 ∧ v = .tuple #[.slice none 0 0, .int .i64 (loadN m n leaf).1] ∧ fs' = [] ∧ own' = [Res.blk bm (.cells (memC m adP cP) 29 (0, 0)), Res.arr elS 9 adP cP (m).pages]) ∨ ((loadN m n leaf).1 = 0 ∧ ∃ ad c, v = .tuple #[.slice ad (loadN m n leaf).2.length c, .int .i64 0] ∧ fs' = [] ∧ own' = [Res.arr elCell 83 ad c (loadN m n leaf).2, Res.blk bm (.cells (memC m adP cP) 29 (0, 0)), Res.arr elS 9 adP cP (m).pages])) := by
  cases leaf
  · exact loadF_ok hm
  · exact loadT_ok hm
set_option maxRecDepth 100000 in
set_option maxHeartbeats 8000000 in
theorem changeS_ok {bm : Nat} {m : Mem} {adP : Option Addr} {cP : Nat} {bw bg bo fn d : Nat} {fi ca : Array Value} {fA fB : MF} {g : Gone} {key : Bytes} {E : Edit} (hm : MOL m) (hsz : 480 ≤ m.size) (hE : EditOK E) (hd : d ≤ 100) (ih : ∀ (g' : Gone) (at' : Int), Spx Try.prog 66 #[.pointer (some ⟨bw, 0, none⟩), .int .i64 at', .int .i64 ((d + 1 : Nat) : Int), str key, .func (.func fn) fi ca] [PtM bw 0 [.iface 26 (.pointer (some ⟨bm, 0, none⟩)), .map (some bg)], fA, fB] [Res.mp (fun n : Int => Value.int .i64 n) (fun _ : Unit => Value.bool true) bg g', Res.blk bm (.cells (memC m adP cP) 29 (0, 0)), Res.arr elS 9 adP cP (m).pages, Res.blk bo (.cells #[oldV none] 95 (0, 0))] (fun v fs' own' => ∃ ad' c' adP' cP' x, v = .tuple #[.slice ad' (changeN E key d m g' at').l.length c', .int .i64 (changeN E key d m g' at').more, .int .i64 (changeN E key d m g' at').e] ∧ fs' = [OldF x (changeN E key d m g' at').old] ∧ own' = [Res.arr elCell 83 ad' c' (changeN E key d m g' at').l, Res.mp (fun n : Int => Value.int .i64 n) (fun _ : Unit => Value.bool true) bg (changeN E key d m g' at').g, Res.blk bm (.cells (memC (changeN E key d m g' at').m adP' cP') 29 (0, 0)), Res.arr elS 9 adP' cP' ((changeN E key d m g' at').m).pages, Res.blk bo (.cells #[oldV x] 95 (0, 0))])) {at_ : Int} : Spx Try.prog 66 #[.pointer (some ⟨bw, 0, none⟩), .int .i64 at_, .int .i64 ((d + 2 : Nat) : Int), str key, .func (.func fn) fi ca] [PtM bw 0 [.iface 26 (.pointer (some ⟨bm, 0, none⟩)), .map (some bg)], fA, fB] [Res.mp (fun n : Int => Value.int .i64 n) (fun _ : Unit => Value.bool true) bg g, Res.blk bm (.cells (memC m adP cP) 29 (0, 0)), Res.arr elS 9 adP cP (m).pages, Res.blk bo (.cells #[oldV none] 95 (0, 0))] (fun v fs' own' => ∃ ad' c' adP' cP' x, v = .tuple #[.slice ad' (changeN E key (d + 1) m g at_).l.length c', .int .i64 (changeN E key (d + 1) m g at_).more, .int .i64 (changeN E key (d + 1) m g at_).e] ∧ fs' = [OldF x (changeN E key (d + 1) m g at_).old] ∧ own' = [Res.arr elCell 83 ad' c' (changeN E key (d + 1) m g at_).l, Res.mp (fun n : Int => Value.int .i64 n) (fun _ : Unit => Value.bool true) bg (changeN E key (d + 1) m g at_).g, Res.blk bm (.cells (memC (changeN E key (d + 1) m g at_).m adP' cP') 29 (0, 0)), Res.arr elS 9 adP' cP' ((changeN E key (d + 1) m g at_).m).pages, Res.blk bo (.cells #[oldV x] 95 (0, 0))]) := by
 refine Spx_of_body (fn := Try.f66) 166 Try.func66 rfl (by kernel_rfl) rfl (Nat.le_of_ble_eq_true rfl) (fun g0 Q hret hend => ?_)
 dsimp only [initL]
 refine C_seq <| C_region ?_
 refine S_run 3 rfl ?_
 refine S_nil <| C_seq <| C_seq <| C_region ?_
 refine S_run 2 rfl ?_
 refine S_y rfl rfl rfl (Y_fa ly108 rfl rfl rfl) ?_
 refine S_y rfl rfl rfl (Y_ld u106 rfl rfl rfl) ?_
 refine S_run 1 rfl ?_
 refine S_y rfl rfl rfl ((Y_lk (K := fun n : Int => Value.int .i64 n) (V := fun _ : Unit => Value.bool true) (q := at_) rfl rfl rfl u106 (keyInt u3) ti4 (by repeat constructor)).as (v' := .bool (mget g at_).isSome) (by cases mget g at_ <;> rfl)) ?_
 refine S_nil ?_
 refine C_cond rfl (fun h27 => ?_) (fun h27 => ?_)
 ·refine C_seq <| C_region ?_
  refine S_nilarr elCell 83 ?_
  refine S_fact (f := PF True) (fun _ _ => trivial) ?_
  have e : (changeN E key (d + 1) m g at_) = ⟨m, g, [], 0, 51, none⟩ := by unfold changeN; exact if_pos h27
  refine S_run 3 rfl ?_
  refine S_nil ?_
  rw [e] at hret
  first
    | exact hret (Res_tmps Try.results66 rfl rfl) ⟨adZ, cZ, adR, cR, xS, rfl, rfl, rfl⟩
    | exact hret (Res_tmps Try.results66 rfl rfl) ⟨none, 0, adR, cR, xS, rfl, rfl, rfl⟩
    | exact hret (Res_tmps Try.results66 rfl rfl) ⟨adO, cO, adP, cP, xO, rfl, rfl, rfl⟩
    | exact hret (Res_tmps Try.results66 rfl rfl) ⟨none, 0, adP, cP, none, rfl, rfl, rfl⟩
    | exact hret (Res_tmps Try.results66 rfl rfl) ⟨none, 0, adQ, cQ, xS, rfl, rfl, rfl⟩
 ·refine C_skip <| C_seq <| C_region ?_
  refine S_run 4 rfl ?_
  have hld := loadN_ok hm.ok at_ false
  refine S_as 32 rfl (show Value.bool (decide (((d + 2 : Nat) : Int) = 1)) = .bool false from congrArg Value.bool (decide_eq_false (by omega))) ?_
  refine S_enter rfl rfl rfl (E_fn rfl rfl) (loadF_ok hm.ok) ?_
  rintro _ _ _ (⟨hle, rfl, rfl, rfl⟩ | ⟨hle, adL, cL, rfl, rfl, rfl⟩)
  ·try dsimp only [List.cons_append, List.nil_append]
   refine S_run 5 rfl ?_
   refine S_nil <| C_seq <| C_seq <| C_region ?_
   refine S_run 2 rfl ?_
   refine S_nil ?_
   refine C_if rfl (fun h37 => ?_) (fun h37 => ?_)
   ·refine C_seq <| C_region ?_
    refine S_nilarr elCell 83 ?_
    refine S_fact (f := PF True) (fun _ _ => trivial) ?_
    have e : (changeN E key (d + 1) m g at_) = ⟨m, g, [], 0, (loadN m at_ false).1, none⟩ := by rw [changeN, if_neg (by rw [h27]; decide)]; exact if_pos hle
    refine S_run 4 rfl ?_
    refine S_nil ?_
    rw [e] at hret
    first
      | exact hret (Res_tmps Try.results66 rfl rfl) ⟨adZ, cZ, adR, cR, xS, rfl, rfl, rfl⟩
      | exact hret (Res_tmps Try.results66 rfl rfl) ⟨none, 0, adR, cR, xS, rfl, rfl, rfl⟩
      | exact hret (Res_tmps Try.results66 rfl rfl) ⟨adO, cO, adP, cP, xO, rfl, rfl, rfl⟩
      | exact hret (Res_tmps Try.results66 rfl rfl) ⟨none, 0, adP, cP, none, rfl, rfl, rfl⟩
      | exact hret (Res_tmps Try.results66 rfl rfl) ⟨none, 0, adQ, cQ, xS, rfl, rfl, rfl⟩
   ·omega
  ·try dsimp only [List.cons_append, List.nil_append]
   refine S_run 5 rfl ?_
   refine S_nil <| C_seq <| C_seq <| C_region ?_
   refine S_run 2 rfl ?_
   refine S_nil ?_
   refine C_if rfl (fun h37 => ?_) (fun h37 => ?_)
   ·omega
   ·refine C_skip <| C_seq <| C_region ?_
    refine S_run 2 rfl ?_
    refine S_y rfl rfl rfl (Y_fa ly108 rfl rfl rfl) ?_
    refine S_y rfl rfl rfl (Y_ld u106 rfl rfl rfl) ?_
    refine S_run 1 rfl ?_
    refine S_mset (K := fun n : Int => Value.int .i64 n) (V := fun _ : Unit => Value.bool true) (q := at_) (v := ()) rfl rfl rfl rfl rfl rfl u106 (keyInt u3) (by repeat constructor) ?_
    refine S_nil <| C_seq <| C_seq <| C_region ?_
    refine S_run 2 rfl ?_
    refine S_nil ?_
    refine C_if rfl (fun h45 => ?_) (fun h45 => ?_)
    ·omega
    ·refine C_skip <| C_seq <| C_region ?_
     refine S_pub (E := elCell) (by repeat constructor) ?_
     obtain ⟨y, hy⟩ : ∃ y, (loadN m at_ false).2[(childI (loadN m at_ false).2 key)]? = some y := ⟨_, List.getElem?_eq_getElem (childI_lt key (loadN_pos hle))⟩
     have hil := childI_lt key (loadN_pos hle)
     have hll := hld.2
     refine S_run 2 rfl ?_
     refine S_enter rfl rfl rfl (E_fn rfl rfl) (child_ok (by omega)) ?_
     rintro _ _ _ ⟨rfl, rfl, rfl⟩
     try dsimp only [List.cons_append, List.nil_append]
     refine S_run 1 rfl ?_
     refine S_nil <| C_seq <| C_region ?_
     refine S_run 3 rfl ?_
     refine S_yx rfl rfl rfl (Y_ixA rfl u79 ti83 rfl rfl rfl (by repeat constructor) rfl (by omega) hy) ?_
     rintro _ _ ⟨b59, o59, rfl, rfl⟩
     refine S_y rfl rfl rfl (Y_fa ly83 rfl rfl rfl) ?_
     refine S_y rfl rfl rfl (Y_ld u3 rfl rfl rfl) ?_
     refine S_run 1 rfl ?_
     refine S_y rfl rfl rfl ((Y_subi rfl rfl rfl (by omega) (by omega)).as (v' := .int .i64 ((d + 1 : Nat) : Int)) (by congr 1; omega)) ?_
     refine S_run 2 rfl ?_
     refine S_enter rfl rfl rfl (E_fn rfl rfl) (ih (mset g at_ ()) (y.page : Int)) ?_
     rintro _ _ _ ⟨adS, cS, adQ, cQ, xS, rfl, rfl, rfl⟩
     try dsimp only [List.cons_append, List.nil_append]
     have hsu := changeN_ok hE key d m (mset g at_ ()) (y.page : Int) hm
     have hup : (changeN E key (d + 1) m g at_) = upN (loadN m at_ false).2 (childI (loadN m at_ false).2 key) (decide (d = 0)) (changeN E key d m (mset g at_ ()) (y.page : Int)) := by
       rw [changeN, if_neg (by rw [h27]; decide)]; rw [if_neg (by omega), pageAt_of hy]
     refine S_run 7 rfl ?_
     refine S_nil <| C_seq <| C_seq <| C_region ?_
     refine S_run 2 rfl ?_
     refine S_nil ?_
     refine C_if rfl (fun h71 => ?_) (fun h71 => ?_)
     ·refine C_seq <| C_region ?_
      refine S_nilarr elCell 83 ?_
      have e : (changeN E key (d + 1) m g at_) = ⟨(changeN E key d m (mset g at_ ()) (y.page : Int)).m, (changeN E key d m (mset g at_ ()) (y.page : Int)).g, [], 0, (changeN E key d m (mset g at_ ()) (y.page : Int)).e, (changeN E key d m (mset g at_ ()) (y.page : Int)).old⟩ := by rw [hup]; unfold upN; exact if_pos h71
      refine S_run 4 rfl ?_
      refine S_nil ?_
      rw [e] at hret
      first
        | exact hret (Res_tmps Try.results66 rfl rfl) ⟨adZ, cZ, adR, cR, xS, rfl, rfl, rfl⟩
        | exact hret (Res_tmps Try.results66 rfl rfl) ⟨none, 0, adR, cR, xS, rfl, rfl, rfl⟩
        | exact hret (Res_tmps Try.results66 rfl rfl) ⟨adO, cO, adP, cP, xO, rfl, rfl, rfl⟩
        | exact hret (Res_tmps Try.results66 rfl rfl) ⟨none, 0, adP, cP, none, rfl, rfl, rfl⟩
        | exact hret (Res_tmps Try.results66 rfl rfl) ⟨none, 0, adQ, cQ, xS, rfl, rfl, rfl⟩
     ·refine C_skip <| C_seq <| C_region ?_
      refine S_run 2 rfl ?_
      refine S_y rfl rfl rfl (Y_addi rfl rfl rfl (by omega) (by omega)) ?_
      refine S_run 2 rfl ?_
      refine S_nil <| C_seq <| C_region ?_
      have hse : (changeN E key d m (mset g at_ ()) (y.page : Int)).m.size = m.size := hsu.size
      have hsl := hsu.len
      have hs1 := hm.size
      have hq0 : 0 ≤ (changeN E key d m (mset g at_ ()) (y.page : Int)).m.size.tdiv 4 := Int.tdiv_nonneg (by omega) (by omega)
      have hq1 : (changeN E key d m (mset g at_ ()) (y.page : Int)).m.size.tdiv 4 ≤ (changeN E key d m (mset g at_ ()) (y.page : Int)).m.size := Int.tdiv_le_self _ (by omega)
      refine S_run 2 rfl ?_
      refine S_as 77 rfl (show Value.bool (decide (((d + 2 : Nat) : Int) = 2)) = .bool (decide (d = 0)) from congrArg Value.bool (decide_eq_decide.2 ⟨fun h => by omega, fun h => by omega⟩)) ?_
      refine S_run 1 rfl ?_
      refine S_nil <| C_seq <| C_seq ?_
      refine C_draw rfl ?_
      refine C_firstp (i := 0) (W := 32644) (by kernel_rfl) rfl rfl rfl rfl rfl ?_
      refine C_firstp (i := 1) (W := 32644) (by kernel_rfl) rfl rfl rfl rfl rfl ?_
      refine C_firstp (i := 3) (W := 32752) (by kernel_rfl) rfl rfl rfl rfl rfl ?_
      refine C_firstp (i := 4) (W := 32736) (by kernel_rfl) rfl rfl rfl rfl rfl ?_
      refine C_firstf (i := 5) (W := 32704) (by kernel_rfl) rfl rfl rfl rfl ly108 rfl rfl rfl ?_
      refine C_two (i := 2) (j := 6) (by kernel_rfl) rfl rfl ?_ ?_
      ·refine S_enter rfl rfl rfl (E_fn rfl rfl) (sumO_ok (leaf := (decide (d = 0))) hsu.cells (by omega)) ?_
       rintro _ _ _ ⟨rfl, rfl, rfl⟩
       try dsimp only [List.cons_append, List.nil_append]
       refine S_nil ?_
       refine C_first (i := 6) (W := 32640) (by kernel_rfl) rfl rfl rfl rfl (Y_ld Try.underlying73 rfl rfl rfl) ?_
       refine C_one (i := 7) (by kernel_rfl) rfl ?_
       refine S_enter rfl rfl rfl (E_inv rfl rfl rfl (by intro w; kernel_rfl)) mroom_ok ?_
       rintro _ _ _ ⟨rfl, rfl, rfl⟩
       try dsimp only [List.cons_append, List.nil_append]
       refine S_nil ?_
       refine C_first (i := 8) (W := 32256) (by kernel_rfl) rfl rfl rfl rfl ((Y_quo rfl rfl rfl (by decide)).as (v' := .int .i64 ((changeN E key d m (mset g at_ ()) (y.page : Int)).m.size.tdiv 4)) (by rw [wrap_i64 (by omega) (by omega)])) ?_
       refine C_firstp (i := 9) (W := 31744) (by kernel_rfl) rfl rfl rfl rfl rfl ?_
       refine C_firstp (i := 10) (W := 30720) (by kernel_rfl) rfl rfl rfl rfl rfl ?_
       refine C_prop 88 rfl (fun h88 => ?_) (fun h88 => ?_)
       ·refine C_firstp (i := 11) (W := 28672) (by kernel_rfl) rfl rfl rfl rfl rfl ?_
        refine C_first (i := 12) (W := 24576) (by kernel_rfl) rfl rfl rfl rfl (Y_slen rfl rfl u79) ?_
        refine C_firstp (i := 13) (W := 16384) (by kernel_rfl) rfl rfl rfl rfl rfl ?_
        refine C_firstp (i := 14) (W := 0) (by kernel_rfl) rfl rfl rfl rfl rfl ?_
        refine C_done (by kernel_rfl) ?_
        refine C_if rfl (fun h92 => ?_) (fun h92 => ?_)
        ·refine C_seq <| C_region ?_
         refine S_run 1 rfl ?_
         refine S_y rfl rfl rfl (Y_addi rfl rfl rfl (by omega) (by omega)) ?_
         refine S_run 1 rfl ?_
         refine S_nil <| C_seq <| C_seq <| C_region ?_
         refine S_run 2 rfl ?_
         refine S_y rfl rfl rfl (Y_slen rfl rfl u79) ?_
         refine S_run 1 rfl ?_
         refine S_nil ?_
         refine C_if rfl (fun h98 => ?_) (fun h98 => ?_)
         ·refine C_region ?_
          refine S_run 1 rfl ?_
          refine S_y rfl rfl rfl ((Y_subi rfl rfl rfl (by omega) (by omega)).as (v' := .int .i64 ((joinK (loadN m at_ false).2 (childI (loadN m at_ false).2 key) : Nat) : Int)) (by congr 1; unfold joinK; rw [if_pos (by omega)]; omega)) ?_
          refine S_run 1 rfl ?_
          refine S_nil <| C_seq <| C_region ?_
          refine S_run 3 rfl ?_
          have hjk : joinK (loadN m at_ false).2 (childI (loadN m at_ false).2 key) < (loadN m at_ false).2.length := by unfold joinK; split <;> omega
          obtain ⟨z, hz⟩ : ∃ z, (loadN m at_ false).2[joinK (loadN m at_ false).2 (childI (loadN m at_ false).2 key)]? = some z := ⟨_, List.getElem?_eq_getElem hjk⟩
          have hnx := loadN_ok hsu.mol.ok (z.page : Int) (decide (d = 0))
          refine S_yx rfl rfl rfl (Y_ixA rfl u79 ti83 rfl rfl rfl (by repeat constructor) rfl (by omega) hz) ?_
          rintro _ _ ⟨b105, o105, rfl, rfl⟩
          refine S_y rfl rfl rfl (Y_fa ly83 rfl rfl rfl) ?_
          refine S_y rfl rfl rfl (Y_ld u3 rfl rfl rfl) ?_
          refine S_run 1 rfl ?_
          refine S_enter rfl rfl rfl (E_fn rfl rfl) (load_ok (leaf := (decide (d = 0))) hsu.mol.ok) ?_
          rintro _ _ _ (⟨hle2, rfl, rfl, rfl⟩ | ⟨hle2, adN, cN, rfl, rfl, rfl⟩)
          ·try dsimp only [List.cons_append, List.nil_append]
           refine S_run 5 rfl ?_
           refine S_nil <| C_seq <| C_seq <| C_region ?_
           refine S_run 2 rfl ?_
           refine S_nil ?_
           refine C_if rfl (fun h113 => ?_) (fun h113 => ?_)
           ·refine C_seq <| C_region ?_
            refine S_nilarr elCell 83 ?_
            have hz2 := pageAt_of hz
            have hj : joinN (changeN E key d m (mset g at_ ()) (y.page : Int)).m (changeN E key d m (mset g at_ ()) (y.page : Int)).g (loadN m at_ false).2 (childI (loadN m at_ false).2 key) (changeN E key d m (mset g at_ ()) (y.page : Int)).l (decide (d = 0)) = ⟨((loadN (changeN E key d m (mset g at_ ()) (y.page : Int)).m (z.page : Int) (decide (d = 0))).1 : Int), (changeN E key d m (mset g at_ ()) (y.page : Int)).g, [], 0, 0⟩ := by unfold joinN; rw [if_pos ⟨by omega, by omega⟩, hz2]; exact if_pos hle2
            have e : (changeN E key (d + 1) m g at_) = ⟨(changeN E key d m (mset g at_ ()) (y.page : Int)).m, (changeN E key d m (mset g at_ ()) (y.page : Int)).g, [], 0, ((loadN (changeN E key d m (mset g at_ ()) (y.page : Int)).m (z.page : Int) (decide (d = 0))).1 : Int), (changeN E key d m (mset g at_ ()) (y.page : Int)).old⟩ := by rw [hup]; unfold upN; rw [if_neg (by omega)]; dsimp only; rw [hj]; exact if_pos (by dsimp only; omega)
            refine S_run 4 rfl ?_
            refine S_nil ?_
            rw [e] at hret
            first
              | exact hret (Res_tmps Try.results66 rfl rfl) ⟨adZ, cZ, adR, cR, xS, rfl, rfl, rfl⟩
              | exact hret (Res_tmps Try.results66 rfl rfl) ⟨none, 0, adR, cR, xS, rfl, rfl, rfl⟩
              | exact hret (Res_tmps Try.results66 rfl rfl) ⟨adO, cO, adP, cP, xO, rfl, rfl, rfl⟩
              | exact hret (Res_tmps Try.results66 rfl rfl) ⟨none, 0, adP, cP, none, rfl, rfl, rfl⟩
              | exact hret (Res_tmps Try.results66 rfl rfl) ⟨none, 0, adQ, cQ, xS, rfl, rfl, rfl⟩
           ·omega
          ·try dsimp only [List.cons_append, List.nil_append]
           refine S_run 5 rfl ?_
           refine S_nil <| C_seq <| C_seq <| C_region ?_
           refine S_run 2 rfl ?_
           refine S_nil ?_
           refine C_if rfl (fun h113 => ?_) (fun h113 => ?_)
           ·omega
           ·refine C_skip <| C_seq <| C_seq ?_
            refine C_draw rfl ?_
            refine C_firstp (i := 0) (W := 526) (by kernel_rfl) rfl rfl rfl rfl rfl ?_
            refine C_firstp (i := 1) (W := 524) (by kernel_rfl) rfl rfl rfl rfl rfl ?_
            refine C_firstf (i := 2) (W := 520) (by kernel_rfl) rfl rfl rfl rfl ly108 rfl rfl rfl ?_
            refine C_first (i := 3) (W := 512) (by kernel_rfl) rfl rfl rfl rfl (Y_ld u106 rfl rfl rfl) ?_
            refine C_firstp (i := 4) (W := 960) (by kernel_rfl) rfl rfl rfl rfl rfl ?_
            refine C_firstp (i := 5) (W := 960) (by kernel_rfl) rfl rfl rfl rfl rfl ?_
            refine C_firstx (i := 6) (W := 896) (by kernel_rfl) rfl rfl rfl rfl (Y_ixA rfl u79 ti83 rfl rfl rfl (by repeat constructor) rfl (by omega) hz) ?_
            rintro _ _ ⟨b121, o121, rfl, rfl⟩
            refine C_firstf (i := 7) (W := 768) (by kernel_rfl) rfl rfl rfl rfl ly83 rfl rfl rfl ?_
            refine C_first (i := 8) (W := 512) (by kernel_rfl) rfl rfl rfl rfl (Y_ld u3 rfl rfl rfl) ?_
            refine C_one (i := 9) (by kernel_rfl) rfl ?_
            refine S_y rfl rfl rfl ((Y_lk (K := fun n : Int => Value.int .i64 n) (V := fun _ : Unit => Value.bool true) (q := (z.page : Int)) rfl rfl rfl u106 (keyInt u3) ti4 (by repeat constructor)).as (v' := .bool (mget (changeN E key d m (mset g at_ ()) (y.page : Int)).g (z.page : Int)).isSome) (by cases mget (changeN E key d m (mset g at_ ()) (y.page : Int)).g (z.page : Int) <;> rfl)) ?_
            refine S_nil ?_
            refine C_done (by kernel_rfl) ?_
            refine C_cond rfl (fun h124 => ?_) (fun h124 => ?_)
            ·refine C_seq <| C_region ?_
             refine S_nilarr elCell 83 ?_
             have hz2 := pageAt_of hz
             have hj : joinN (changeN E key d m (mset g at_ ()) (y.page : Int)).m (changeN E key d m (mset g at_ ()) (y.page : Int)).g (loadN m at_ false).2 (childI (loadN m at_ false).2 key) (changeN E key d m (mset g at_ ()) (y.page : Int)).l (decide (d = 0)) = ⟨51, (changeN E key d m (mset g at_ ()) (y.page : Int)).g, [], 0, 0⟩ := by unfold joinN; rw [if_pos ⟨by omega, by omega⟩, hz2, if_neg (by omega)]; exact if_pos h124
             have e : (changeN E key (d + 1) m g at_) = ⟨(changeN E key d m (mset g at_ ()) (y.page : Int)).m, (changeN E key d m (mset g at_ ()) (y.page : Int)).g, [], 0, 51, (changeN E key d m (mset g at_ ()) (y.page : Int)).old⟩ := by rw [hup]; unfold upN; rw [if_neg (by omega)]; dsimp only; rw [hj]; exact if_pos (by dsimp only; omega)
             refine S_run 3 rfl ?_
             refine S_nil ?_
             rw [e] at hret
             first
               | exact hret (Res_tmps Try.results66 rfl rfl) ⟨adZ, cZ, adR, cR, xS, rfl, rfl, rfl⟩
               | exact hret (Res_tmps Try.results66 rfl rfl) ⟨none, 0, adR, cR, xS, rfl, rfl, rfl⟩
               | exact hret (Res_tmps Try.results66 rfl rfl) ⟨adO, cO, adP, cP, xO, rfl, rfl, rfl⟩
               | exact hret (Res_tmps Try.results66 rfl rfl) ⟨none, 0, adP, cP, none, rfl, rfl, rfl⟩
               | exact hret (Res_tmps Try.results66 rfl rfl) ⟨none, 0, adQ, cQ, xS, rfl, rfl, rfl⟩
            ·refine C_skip <| C_seq ?_
             refine C_draw rfl ?_
             refine C_firstp (i := 0) (W := 526) (by kernel_rfl) rfl rfl rfl rfl rfl ?_
             refine C_firstp (i := 1) (W := 524) (by kernel_rfl) rfl rfl rfl rfl rfl ?_
             refine C_firstf (i := 2) (W := 520) (by kernel_rfl) rfl rfl rfl rfl ly108 rfl rfl rfl ?_
             refine C_first (i := 3) (W := 512) (by kernel_rfl) rfl rfl rfl rfl (Y_ld u106 rfl rfl rfl) ?_
             refine C_firstp (i := 4) (W := 960) (by kernel_rfl) rfl rfl rfl rfl rfl ?_
             refine C_firstp (i := 5) (W := 960) (by kernel_rfl) rfl rfl rfl rfl rfl ?_
             refine C_firstx (i := 6) (W := 896) (by kernel_rfl) rfl rfl rfl rfl (Y_ixA rfl u79 ti83 rfl rfl rfl (by repeat constructor) rfl (by omega) hz) ?_
             rintro _ _ ⟨b131, o131, rfl, rfl⟩
             refine C_firstf (i := 7) (W := 768) (by kernel_rfl) rfl rfl rfl rfl ly83 rfl rfl rfl ?_
             refine C_first (i := 8) (W := 512) (by kernel_rfl) rfl rfl rfl rfl (Y_ld u3 rfl rfl rfl) ?_
             refine C_one (i := 9) (by kernel_rfl) rfl ?_
             refine S_mset (K := fun n : Int => Value.int .i64 n) (V := fun _ : Unit => Value.bool true) (q := (z.page : Int)) (v := ()) rfl rfl rfl rfl rfl rfl u106 (keyInt u3) (by repeat constructor) ?_
             refine S_nil ?_
             refine C_done (by kernel_rfl) ?_
             refine C_seq <| C_region ?_
             have hz2 := pageAt_of hz
             have hnl := hnx.2
             refine S_run 3 rfl ?_
             refine S_nil ?_
             refine C_if rfl (fun h136 => ?_) (fun h136 => ?_)
             ·refine C_region ?_
              refine S_run 2 rfl ?_
              refine S_pub (E := elCell) (ad := adN) (c := cN) (by repeat constructor) ?_
              refine S_app rfl rfl rfl rfl u79 ti83 rfl rfl rfl rfl rfl rfl (by repeat constructor) (by repeat constructor) (by omega) (by omega) (fun ad139 c139 => ?_)
              refine S_run 1 rfl ?_
              refine S_y rfl rfl rfl (Y_addi rfl rfl rfl (by omega) (by omega)) ?_
              refine S_run 2 rfl ?_
              refine S_nil <| C_seq <| C_region ?_
              first
                | (obtain ⟨FR, hFR⟩ : ∃ n, n = (childI (loadN m at_ false).2 key) := ⟨_, rfl⟩
                   obtain ⟨TO, hTO⟩ : ∃ n, n = joinK (loadN m at_ false).2 (childI (loadN m at_ false).2 key) + 1 := ⟨_, rfl⟩
                   obtain ⟨JS, hJS⟩ : ∃ q, q = (changeN E key d m (mset g at_ ()) (y.page : Int)).l ++ (loadN (changeN E key d m (mset g at_ ()) (y.page : Int)).m (z.page : Int) (decide (d = 0))).2 := ⟨_, rfl⟩
                   rw [← hJS]
                   have hj : joinN (changeN E key d m (mset g at_ ()) (y.page : Int)).m (changeN E key d m (mset g at_ ()) (y.page : Int)).g (loadN m at_ false).2 (childI (loadN m at_ false).2 key) (changeN E key d m (mset g at_ ()) (y.page : Int)).l (decide (d = 0)) = ⟨0, mset (changeN E key d m (mset g at_ ()) (y.page : Int)).g (z.page : Int) (), JS, FR, TO⟩ := by
                     rw [hFR, hTO, hJS]; unfold joinN; rw [if_pos ⟨by omega, by omega⟩, hz2, if_neg (by omega), if_neg (by rw [h124]; decide)]; exact if_pos (by omega)
                   refine S_pub (E := elCell) (ad := ad139) (c := c139) (by repeat constructor) ?_
                   refine S_as 15 rfl (show Value.int .i64 (((childI (loadN m at_ false).2 key) : Nat) : Int) = .int .i64 (FR : Int) by rw [hFR]) ?_
                   refine S_as 16 rfl (show Value.int .i64 (((joinK (loadN m at_ false).2 (childI (loadN m at_ false).2 key) : Nat) : Int) + 1) = .int .i64 (TO : Int) by rw [hTO]; rfl) ?_)
                | (obtain ⟨FR, hFR⟩ : ∃ n, n = joinK (loadN m at_ false).2 (childI (loadN m at_ false).2 key) := ⟨_, rfl⟩
                   obtain ⟨TO, hTO⟩ : ∃ n, n = (childI (loadN m at_ false).2 key) + 1 := ⟨_, rfl⟩
                   obtain ⟨JS, hJS⟩ : ∃ q, q = (loadN (changeN E key d m (mset g at_ ()) (y.page : Int)).m (z.page : Int) (decide (d = 0))).2 ++ (changeN E key d m (mset g at_ ()) (y.page : Int)).l := ⟨_, rfl⟩
                   rw [← hJS]
                   have hj : joinN (changeN E key d m (mset g at_ ()) (y.page : Int)).m (changeN E key d m (mset g at_ ()) (y.page : Int)).g (loadN m at_ false).2 (childI (loadN m at_ false).2 key) (changeN E key d m (mset g at_ ()) (y.page : Int)).l (decide (d = 0)) = ⟨0, mset (changeN E key d m (mset g at_ ()) (y.page : Int)).g (z.page : Int) (), JS, FR, TO⟩ := by
                     rw [hFR, hTO, hJS]; unfold joinN; rw [if_pos ⟨by omega, by omega⟩, hz2, if_neg (by omega), if_neg (by rw [h124]; decide)]; exact if_neg (by omega)
                   refine S_pub (E := elCell) (ad := ad144) (c := c144) (by repeat constructor) ?_
                   refine S_as 15 rfl (show Value.int .i64 ((joinK (loadN m at_ false).2 (childI (loadN m at_ false).2 key) : Nat) : Int) = .int .i64 (FR : Int) by rw [hFR]) ?_
                   refine S_as 16 rfl (show Value.int .i64 ((((childI (loadN m at_ false).2 key) : Nat) : Int) + 1) = .int .i64 (TO : Int) by rw [hTO]; rfl) ?_)
                | (obtain ⟨FR, hFR⟩ : ∃ n, n = (childI (loadN m at_ false).2 key) := ⟨_, rfl⟩
                   obtain ⟨TO, hTO⟩ : ∃ n, n = (childI (loadN m at_ false).2 key) + 1 := ⟨_, rfl⟩
                   obtain ⟨JS, hJS⟩ : ∃ q, q = (changeN E key d m (mset g at_ ()) (y.page : Int)).l := ⟨_, rfl⟩
                   rw [← hJS]
                   have hj : joinN (changeN E key d m (mset g at_ ()) (y.page : Int)).m (changeN E key d m (mset g at_ ()) (y.page : Int)).g (loadN m at_ false).2 (childI (loadN m at_ false).2 key) (changeN E key d m (mset g at_ ()) (y.page : Int)).l (decide (d = 0)) = ⟨0, (changeN E key d m (mset g at_ ()) (y.page : Int)).g, JS, FR, TO⟩ := by
                     rw [hFR, hTO, hJS]; unfold joinN; exact if_neg (by omega)
                   refine S_pub (E := elCell) (ad := adS) (c := cS) (by repeat constructor) ?_
                   refine S_as 15 rfl (show Value.int .i64 (((childI (loadN m at_ false).2 key) : Nat) : Int) = .int .i64 (FR : Int) by rw [hFR]) ?_
                   refine S_as 16 rfl (show Value.int .i64 ((((childI (loadN m at_ false).2 key) : Nat) : Int) + 1) = .int .i64 (TO : Int) by rw [hTO]; rfl) ?_)
              have hjo := joinN_ok (g := (changeN E key d m (mset g at_ ()) (y.page : Int)).g) (l := (loadN m at_ false).2) (i := (childI (loadN m at_ false).2 key)) (leaf := (decide (d = 0))) hsu.mol hsu.cells hsl
              have hjl := joinN_le (changeN E key d m (mset g at_ ()) (y.page : Int)).m (changeN E key d m (mset g at_ ()) (y.page : Int)).g (loadN m at_ false).2 (childI (loadN m at_ false).2 key) (changeN E key d m (mset g at_ ()) (y.page : Int)).l (decide (d = 0))
              rw [hj] at hjo hjl
              dsimp only at hjo hjl
              have hTOl : TO ≤ (loadN m at_ false).2.length := by omega
              have e0 := hup
              unfold upN at e0
              rw [if_neg (by omega)] at e0
              dsimp only at e0
              rw [hj] at e0
              dsimp only at e0
              rw [if_neg (by omega)] at e0
              refine S_run 3 rfl ?_
              refine S_enter rfl rfl rfl (E_fn rfl rfl) (lay_ok (leaf := (decide (d = 0))) hsu.mol (by omega) hjo.1 (by omega)) ?_
              rintro _ _ _ ⟨adY, cY, adR, cR, rfl, rfl, rfl⟩
              try dsimp only [List.cons_append, List.nil_append]
              refine S_run 5 rfl ?_
              refine S_nil <| C_seq <| C_seq <| C_region ?_
              refine S_pub (E := elCell) (ad := adY) (c := cY) (by repeat constructor) ?_
              refine S_run 2 rfl ?_
              refine S_nil ?_
              refine C_if rfl (fun h154 => ?_) (fun h154 => ?_)
              ·refine C_seq <| C_region ?_
               refine S_nilarr elCell 83 ?_
               have e := e0
               rw [if_pos (by omega)] at e
               refine S_run 4 rfl ?_
               refine S_nil ?_
               rw [e] at hret
               first
                 | exact hret (Res_tmps Try.results66 rfl rfl) ⟨adZ, cZ, adR, cR, xS, rfl, rfl, rfl⟩
                 | exact hret (Res_tmps Try.results66 rfl rfl) ⟨none, 0, adR, cR, xS, rfl, rfl, rfl⟩
                 | exact hret (Res_tmps Try.results66 rfl rfl) ⟨adO, cO, adP, cP, xO, rfl, rfl, rfl⟩
                 | exact hret (Res_tmps Try.results66 rfl rfl) ⟨none, 0, adP, cP, none, rfl, rfl, rfl⟩
                 | exact hret (Res_tmps Try.results66 rfl rfl) ⟨none, 0, adQ, cQ, xS, rfl, rfl, rfl⟩
              ·obtain ⟨i1, i2, i3, i4, i5, i6, i7⟩ := layN_props (leaf := (decide (d = 0))) hsu.mol hjo.1
               have j6 := i6 (by omega)
               have jf := i1.ok.few
               have e := e0
               rw [if_neg (by omega)] at e
               refine C_skip <| C_seq ?_
               refine C_draw rfl ?_
               refine C_firstp (i := 0) (W := 7556) (by kernel_rfl) rfl rfl rfl rfl rfl ?_
               refine C_firstp (i := 1) (W := 7556) (by kernel_rfl) rfl rfl rfl rfl rfl ?_
               refine C_firstx (i := 2) (W := 7552) (by kernel_rfl) rfl rfl rfl rfl (Y_reslice rfl u79 ti83 rfl rfl (by repeat constructor) rfl rfl ⟨_, rfl⟩ (by decide) (by omega) (by omega)) ?_
               rintro _ _ ⟨ad158, c158, rfl, rfl⟩
               rw [show ((loadN m at_ false).2.drop (0 : Int).toNat).take ((FR : Int).toNat - (0 : Int).toNat) = (loadN m at_ false).2.take FR by simp]
               refine C_firstp (i := 3) (W := 7552) (by kernel_rfl) rfl rfl rfl rfl rfl ?_
               refine C_firstp (i := 4) (W := 7616) (by kernel_rfl) rfl rfl rfl rfl rfl ?_
               refine C_firstp (i := 5) (W := 7616) (by kernel_rfl) rfl rfl rfl rfl rfl ?_
               refine C_firstx (i := 6) (W := 7552) (by kernel_rfl) rfl rfl rfl rfl (Y_reslice rfl u79 ti83 rfl rfl (by repeat constructor) rfl ⟨_, rfl⟩ rfl (by omega) (by omega) (by omega)) ?_
               rintro _ _ ⟨ad162, c162, rfl, rfl⟩
               rw [show ((loadN m at_ false).2.drop (TO : Int).toNat).take (((loadN m at_ false).2.length : Int).toNat - (TO : Int).toNat) = (loadN m at_ false).2.drop TO from List.take_of_length_le (by simp)]
               refine C_firstp (i := 9) (W := 6144) (by kernel_rfl) rfl rfl rfl rfl rfl ?_
               refine C_one (i := 7) (by kernel_rfl) rfl ?_
               refine S_lit (elSl Cell) [(ad158, c158, (loadN m at_ false).2.take FR), (adY, cY, (layN (changeN E key d m (mset g at_ ()) (y.page : Int)).m JS (decide (d = 0))).2.2), (ad162, c162, (loadN m at_ false).2.drop TO)] rfl rfl rfl rfl u129 ti79 rfl rfl rfl rfl rfl (by decide) (fun ad163 c163 => ?_)
               refine S_pub (by repeat constructor) ?_
               refine S_sls0 elCell ?_
               refine S_sls (a := ad162) (c := c162) (by repeat constructor) (by repeat constructor) ?_
               refine S_sls (a := adY) (c := cY) (by repeat constructor) (by repeat constructor) ?_
               refine S_sls (a := ad158) (c := c158) (by repeat constructor) (by repeat constructor) ?_
               refine S_nil ?_
               refine C_one (i := 8) (by kernel_rfl) rfl ?_
               refine S_enter rfl rfl rfl (E_fn rfl rfl) (concat_ok (xs := [(ad158, c158, (loadN m at_ false).2.take FR), (adY, cY, (layN (changeN E key d m (mset g at_ ()) (y.page : Int)).m JS (decide (d = 0))).2.2), (ad162, c162, (loadN m at_ false).2.drop TO)]) (by simp) (by simp only [catS, List.flatMap_cons, List.flatMap_nil, List.append_nil, List.length_append, List.length_take, List.length_drop]; omega)) ?_
               rintro _ _ _ ⟨adZ, cZ, rfl, rfl, rfl⟩
               try dsimp only [List.cons_append, List.nil_append]
               simp only [catS, List.flatMap_cons, List.flatMap_nil, List.append_nil]
               refine S_nil ?_
               refine C_firstp (i := 10) (W := 6144) (by kernel_rfl) rfl rfl rfl rfl rfl ?_
               refine C_firstp (i := 11) (W := 4096) (by kernel_rfl) rfl rfl rfl rfl rfl ?_
               refine C_firstp (i := 12) (W := 0) (by kernel_rfl) rfl rfl rfl rfl rfl ?_
               refine C_done (by kernel_rfl) ?_
               rw [e] at hret
               first
                 | exact hret (Res_tmps Try.results66 rfl rfl) ⟨adZ, cZ, adR, cR, xS, rfl, rfl, rfl⟩
                 | exact hret (Res_tmps Try.results66 rfl rfl) ⟨none, 0, adR, cR, xS, rfl, rfl, rfl⟩
                 | exact hret (Res_tmps Try.results66 rfl rfl) ⟨adO, cO, adP, cP, xO, rfl, rfl, rfl⟩
                 | exact hret (Res_tmps Try.results66 rfl rfl) ⟨none, 0, adP, cP, none, rfl, rfl, rfl⟩
                 | exact hret (Res_tmps Try.results66 rfl rfl) ⟨none, 0, adQ, cQ, xS, rfl, rfl, rfl⟩
             ·refine C_region ?_
              refine S_run 2 rfl ?_
              refine S_pub (E := elCell) (ad := adS) (c := cS) (by repeat constructor) ?_
              refine S_app rfl rfl rfl rfl u79 ti83 rfl rfl rfl rfl rfl rfl (by repeat constructor) (by repeat constructor) (by omega) (by omega) (fun ad144 c144 => ?_)
              refine S_run 3 rfl ?_
              refine S_nil <| C_seq <| C_region ?_
              first
                | (obtain ⟨FR, hFR⟩ : ∃ n, n = (childI (loadN m at_ false).2 key) := ⟨_, rfl⟩
                   obtain ⟨TO, hTO⟩ : ∃ n, n = joinK (loadN m at_ false).2 (childI (loadN m at_ false).2 key) + 1 := ⟨_, rfl⟩
                   obtain ⟨JS, hJS⟩ : ∃ q, q = (changeN E key d m (mset g at_ ()) (y.page : Int)).l ++ (loadN (changeN E key d m (mset g at_ ()) (y.page : Int)).m (z.page : Int) (decide (d = 0))).2 := ⟨_, rfl⟩
                   rw [← hJS]
                   have hj : joinN (changeN E key d m (mset g at_ ()) (y.page : Int)).m (changeN E key d m (mset g at_ ()) (y.page : Int)).g (loadN m at_ false).2 (childI (loadN m at_ false).2 key) (changeN E key d m (mset g at_ ()) (y.page : Int)).l (decide (d = 0)) = ⟨0, mset (changeN E key d m (mset g at_ ()) (y.page : Int)).g (z.page : Int) (), JS, FR, TO⟩ := by
                     rw [hFR, hTO, hJS]; unfold joinN; rw [if_pos ⟨by omega, by omega⟩, hz2, if_neg (by omega), if_neg (by rw [h124]; decide)]; exact if_pos (by omega)
                   refine S_pub (E := elCell) (ad := ad139) (c := c139) (by repeat constructor) ?_
                   refine S_as 15 rfl (show Value.int .i64 (((childI (loadN m at_ false).2 key) : Nat) : Int) = .int .i64 (FR : Int) by rw [hFR]) ?_
                   refine S_as 16 rfl (show Value.int .i64 (((joinK (loadN m at_ false).2 (childI (loadN m at_ false).2 key) : Nat) : Int) + 1) = .int .i64 (TO : Int) by rw [hTO]; rfl) ?_)
                | (obtain ⟨FR, hFR⟩ : ∃ n, n = joinK (loadN m at_ false).2 (childI (loadN m at_ false).2 key) := ⟨_, rfl⟩
                   obtain ⟨TO, hTO⟩ : ∃ n, n = (childI (loadN m at_ false).2 key) + 1 := ⟨_, rfl⟩
                   obtain ⟨JS, hJS⟩ : ∃ q, q = (loadN (changeN E key d m (mset g at_ ()) (y.page : Int)).m (z.page : Int) (decide (d = 0))).2 ++ (changeN E key d m (mset g at_ ()) (y.page : Int)).l := ⟨_, rfl⟩
                   rw [← hJS]
                   have hj : joinN (changeN E key d m (mset g at_ ()) (y.page : Int)).m (changeN E key d m (mset g at_ ()) (y.page : Int)).g (loadN m at_ false).2 (childI (loadN m at_ false).2 key) (changeN E key d m (mset g at_ ()) (y.page : Int)).l (decide (d = 0)) = ⟨0, mset (changeN E key d m (mset g at_ ()) (y.page : Int)).g (z.page : Int) (), JS, FR, TO⟩ := by
                     rw [hFR, hTO, hJS]; unfold joinN; rw [if_pos ⟨by omega, by omega⟩, hz2, if_neg (by omega), if_neg (by rw [h124]; decide)]; exact if_neg (by omega)
                   refine S_pub (E := elCell) (ad := ad144) (c := c144) (by repeat constructor) ?_
                   refine S_as 15 rfl (show Value.int .i64 ((joinK (loadN m at_ false).2 (childI (loadN m at_ false).2 key) : Nat) : Int) = .int .i64 (FR : Int) by rw [hFR]) ?_
                   refine S_as 16 rfl (show Value.int .i64 ((((childI (loadN m at_ false).2 key) : Nat) : Int) + 1) = .int .i64 (TO : Int) by rw [hTO]; rfl) ?_)
                | (obtain ⟨FR, hFR⟩ : ∃ n, n = (childI (loadN m at_ false).2 key) := ⟨_, rfl⟩
                   obtain ⟨TO, hTO⟩ : ∃ n, n = (childI (loadN m at_ false).2 key) + 1 := ⟨_, rfl⟩
                   obtain ⟨JS, hJS⟩ : ∃ q, q = (changeN E key d m (mset g at_ ()) (y.page : Int)).l := ⟨_, rfl⟩
                   rw [← hJS]
                   have hj : joinN (changeN E key d m (mset g at_ ()) (y.page : Int)).m (changeN E key d m (mset g at_ ()) (y.page : Int)).g (loadN m at_ false).2 (childI (loadN m at_ false).2 key) (changeN E key d m (mset g at_ ()) (y.page : Int)).l (decide (d = 0)) = ⟨0, (changeN E key d m (mset g at_ ()) (y.page : Int)).g, JS, FR, TO⟩ := by
                     rw [hFR, hTO, hJS]; unfold joinN; exact if_neg (by omega)
                   refine S_pub (E := elCell) (ad := adS) (c := cS) (by repeat constructor) ?_
                   refine S_as 15 rfl (show Value.int .i64 (((childI (loadN m at_ false).2 key) : Nat) : Int) = .int .i64 (FR : Int) by rw [hFR]) ?_
                   refine S_as 16 rfl (show Value.int .i64 ((((childI (loadN m at_ false).2 key) : Nat) : Int) + 1) = .int .i64 (TO : Int) by rw [hTO]; rfl) ?_)
              have hjo := joinN_ok (g := (changeN E key d m (mset g at_ ()) (y.page : Int)).g) (l := (loadN m at_ false).2) (i := (childI (loadN m at_ false).2 key)) (leaf := (decide (d = 0))) hsu.mol hsu.cells hsl
              have hjl := joinN_le (changeN E key d m (mset g at_ ()) (y.page : Int)).m (changeN E key d m (mset g at_ ()) (y.page : Int)).g (loadN m at_ false).2 (childI (loadN m at_ false).2 key) (changeN E key d m (mset g at_ ()) (y.page : Int)).l (decide (d = 0))
              rw [hj] at hjo hjl
              dsimp only at hjo hjl
              have hTOl : TO ≤ (loadN m at_ false).2.length := by omega
              have e0 := hup
              unfold upN at e0
              rw [if_neg (by omega)] at e0
              dsimp only at e0
              rw [hj] at e0
              dsimp only at e0
              rw [if_neg (by omega)] at e0
              refine S_run 3 rfl ?_
              refine S_enter rfl rfl rfl (E_fn rfl rfl) (lay_ok (leaf := (decide (d = 0))) hsu.mol (by omega) hjo.1 (by omega)) ?_
              rintro _ _ _ ⟨adY, cY, adR, cR, rfl, rfl, rfl⟩
              try dsimp only [List.cons_append, List.nil_append]
              refine S_run 5 rfl ?_
              refine S_nil <| C_seq <| C_seq <| C_region ?_
              refine S_pub (E := elCell) (ad := adY) (c := cY) (by repeat constructor) ?_
              refine S_run 2 rfl ?_
              refine S_nil ?_
              refine C_if rfl (fun h154 => ?_) (fun h154 => ?_)
              ·refine C_seq <| C_region ?_
               refine S_nilarr elCell 83 ?_
               have e := e0
               rw [if_pos (by omega)] at e
               refine S_run 4 rfl ?_
               refine S_nil ?_
               rw [e] at hret
               first
                 | exact hret (Res_tmps Try.results66 rfl rfl) ⟨adZ, cZ, adR, cR, xS, rfl, rfl, rfl⟩
                 | exact hret (Res_tmps Try.results66 rfl rfl) ⟨none, 0, adR, cR, xS, rfl, rfl, rfl⟩
                 | exact hret (Res_tmps Try.results66 rfl rfl) ⟨adO, cO, adP, cP, xO, rfl, rfl, rfl⟩
                 | exact hret (Res_tmps Try.results66 rfl rfl) ⟨none, 0, adP, cP, none, rfl, rfl, rfl⟩
                 | exact hret (Res_tmps Try.results66 rfl rfl) ⟨none, 0, adQ, cQ, xS, rfl, rfl, rfl⟩
              ·obtain ⟨i1, i2, i3, i4, i5, i6, i7⟩ := layN_props (leaf := (decide (d = 0))) hsu.mol hjo.1
               have j6 := i6 (by omega)
               have jf := i1.ok.few
               have e := e0
               rw [if_neg (by omega)] at e
               refine C_skip <| C_seq ?_
               refine C_draw rfl ?_
               refine C_firstp (i := 0) (W := 7556) (by kernel_rfl) rfl rfl rfl rfl rfl ?_
               refine C_firstp (i := 1) (W := 7556) (by kernel_rfl) rfl rfl rfl rfl rfl ?_
               refine C_firstx (i := 2) (W := 7552) (by kernel_rfl) rfl rfl rfl rfl (Y_reslice rfl u79 ti83 rfl rfl (by repeat constructor) rfl rfl ⟨_, rfl⟩ (by decide) (by omega) (by omega)) ?_
               rintro _ _ ⟨ad158, c158, rfl, rfl⟩
               rw [show ((loadN m at_ false).2.drop (0 : Int).toNat).take ((FR : Int).toNat - (0 : Int).toNat) = (loadN m at_ false).2.take FR by simp]
               refine C_firstp (i := 3) (W := 7552) (by kernel_rfl) rfl rfl rfl rfl rfl ?_
               refine C_firstp (i := 4) (W := 7616) (by kernel_rfl) rfl rfl rfl rfl rfl ?_
               refine C_firstp (i := 5) (W := 7616) (by kernel_rfl) rfl rfl rfl rfl rfl ?_
               refine C_firstx (i := 6) (W := 7552) (by kernel_rfl) rfl rfl rfl rfl (Y_reslice rfl u79 ti83 rfl rfl (by repeat constructor) rfl ⟨_, rfl⟩ rfl (by omega) (by omega) (by omega)) ?_
               rintro _ _ ⟨ad162, c162, rfl, rfl⟩
               rw [show ((loadN m at_ false).2.drop (TO : Int).toNat).take (((loadN m at_ false).2.length : Int).toNat - (TO : Int).toNat) = (loadN m at_ false).2.drop TO from List.take_of_length_le (by simp)]
               refine C_firstp (i := 9) (W := 6144) (by kernel_rfl) rfl rfl rfl rfl rfl ?_
               refine C_one (i := 7) (by kernel_rfl) rfl ?_
               refine S_lit (elSl Cell) [(ad158, c158, (loadN m at_ false).2.take FR), (adY, cY, (layN (changeN E key d m (mset g at_ ()) (y.page : Int)).m JS (decide (d = 0))).2.2), (ad162, c162, (loadN m at_ false).2.drop TO)] rfl rfl rfl rfl u129 ti79 rfl rfl rfl rfl rfl (by decide) (fun ad163 c163 => ?_)
               refine S_pub (by repeat constructor) ?_
               refine S_sls0 elCell ?_
               refine S_sls (a := ad162) (c := c162) (by repeat constructor) (by repeat constructor) ?_
               refine S_sls (a := adY) (c := cY) (by repeat constructor) (by repeat constructor) ?_
               refine S_sls (a := ad158) (c := c158) (by repeat constructor) (by repeat constructor) ?_
               refine S_nil ?_
               refine C_one (i := 8) (by kernel_rfl) rfl ?_
               refine S_enter rfl rfl rfl (E_fn rfl rfl) (concat_ok (xs := [(ad158, c158, (loadN m at_ false).2.take FR), (adY, cY, (layN (changeN E key d m (mset g at_ ()) (y.page : Int)).m JS (decide (d = 0))).2.2), (ad162, c162, (loadN m at_ false).2.drop TO)]) (by simp) (by simp only [catS, List.flatMap_cons, List.flatMap_nil, List.append_nil, List.length_append, List.length_take, List.length_drop]; omega)) ?_
               rintro _ _ _ ⟨adZ, cZ, rfl, rfl, rfl⟩
               try dsimp only [List.cons_append, List.nil_append]
               simp only [catS, List.flatMap_cons, List.flatMap_nil, List.append_nil]
               refine S_nil ?_
               refine C_firstp (i := 10) (W := 6144) (by kernel_rfl) rfl rfl rfl rfl rfl ?_
               refine C_firstp (i := 11) (W := 4096) (by kernel_rfl) rfl rfl rfl rfl rfl ?_
               refine C_firstp (i := 12) (W := 0) (by kernel_rfl) rfl rfl rfl rfl rfl ?_
               refine C_done (by kernel_rfl) ?_
               rw [e] at hret
               first
                 | exact hret (Res_tmps Try.results66 rfl rfl) ⟨adZ, cZ, adR, cR, xS, rfl, rfl, rfl⟩
                 | exact hret (Res_tmps Try.results66 rfl rfl) ⟨none, 0, adR, cR, xS, rfl, rfl, rfl⟩
                 | exact hret (Res_tmps Try.results66 rfl rfl) ⟨adO, cO, adP, cP, xO, rfl, rfl, rfl⟩
                 | exact hret (Res_tmps Try.results66 rfl rfl) ⟨none, 0, adP, cP, none, rfl, rfl, rfl⟩
                 | exact hret (Res_tmps Try.results66 rfl rfl) ⟨none, 0, adQ, cQ, xS, rfl, rfl, rfl⟩
         ·refine C_as 18 rfl (show Value.int .i64 (((childI (loadN m at_ false).2 key) : Int) + 1) = .int .i64 ((joinK (loadN m at_ false).2 (childI (loadN m at_ false).2 key) : Nat) : Int) by congr 1; unfold joinK; rw [if_neg (by omega)]; rfl) ?_
          refine C_skip <| C_seq <| C_region ?_
          refine S_run 3 rfl ?_
          have hjk : joinK (loadN m at_ false).2 (childI (loadN m at_ false).2 key) < (loadN m at_ false).2.length := by unfold joinK; split <;> omega
          obtain ⟨z, hz⟩ : ∃ z, (loadN m at_ false).2[joinK (loadN m at_ false).2 (childI (loadN m at_ false).2 key)]? = some z := ⟨_, List.getElem?_eq_getElem hjk⟩
          have hnx := loadN_ok hsu.mol.ok (z.page : Int) (decide (d = 0))
          refine S_yx rfl rfl rfl (Y_ixA rfl u79 ti83 rfl rfl rfl (by repeat constructor) rfl (by omega) hz) ?_
          rintro _ _ ⟨b105, o105, rfl, rfl⟩
          refine S_y rfl rfl rfl (Y_fa ly83 rfl rfl rfl) ?_
          refine S_y rfl rfl rfl (Y_ld u3 rfl rfl rfl) ?_
          refine S_run 1 rfl ?_
          refine S_enter rfl rfl rfl (E_fn rfl rfl) (load_ok (leaf := (decide (d = 0))) hsu.mol.ok) ?_
          rintro _ _ _ (⟨hle2, rfl, rfl, rfl⟩ | ⟨hle2, adN, cN, rfl, rfl, rfl⟩)
          ·try dsimp only [List.cons_append, List.nil_append]
           refine S_run 5 rfl ?_
           refine S_nil <| C_seq <| C_seq <| C_region ?_
           refine S_run 2 rfl ?_
           refine S_nil ?_
           refine C_if rfl (fun h113 => ?_) (fun h113 => ?_)
           ·refine C_seq <| C_region ?_
            refine S_nilarr elCell 83 ?_
            have hz2 := pageAt_of hz
            have hj : joinN (changeN E key d m (mset g at_ ()) (y.page : Int)).m (changeN E key d m (mset g at_ ()) (y.page : Int)).g (loadN m at_ false).2 (childI (loadN m at_ false).2 key) (changeN E key d m (mset g at_ ()) (y.page : Int)).l (decide (d = 0)) = ⟨((loadN (changeN E key d m (mset g at_ ()) (y.page : Int)).m (z.page : Int) (decide (d = 0))).1 : Int), (changeN E key d m (mset g at_ ()) (y.page : Int)).g, [], 0, 0⟩ := by unfold joinN; rw [if_pos ⟨by omega, by omega⟩, hz2]; exact if_pos hle2
            have e : (changeN E key (d + 1) m g at_) = ⟨(changeN E key d m (mset g at_ ()) (y.page : Int)).m, (changeN E key d m (mset g at_ ()) (y.page : Int)).g, [], 0, ((loadN (changeN E key d m (mset g at_ ()) (y.page : Int)).m (z.page : Int) (decide (d = 0))).1 : Int), (changeN E key d m (mset g at_ ()) (y.page : Int)).old⟩ := by rw [hup]; unfold upN; rw [if_neg (by omega)]; dsimp only; rw [hj]; exact if_pos (by dsimp only; omega)
            refine S_run 4 rfl ?_
            refine S_nil ?_
            rw [e] at hret
            first
              | exact hret (Res_tmps Try.results66 rfl rfl) ⟨adZ, cZ, adR, cR, xS, rfl, rfl, rfl⟩
              | exact hret (Res_tmps Try.results66 rfl rfl) ⟨none, 0, adR, cR, xS, rfl, rfl, rfl⟩
              | exact hret (Res_tmps Try.results66 rfl rfl) ⟨adO, cO, adP, cP, xO, rfl, rfl, rfl⟩
              | exact hret (Res_tmps Try.results66 rfl rfl) ⟨none, 0, adP, cP, none, rfl, rfl, rfl⟩
              | exact hret (Res_tmps Try.results66 rfl rfl) ⟨none, 0, adQ, cQ, xS, rfl, rfl, rfl⟩
           ·omega
          ·try dsimp only [List.cons_append, List.nil_append]
           refine S_run 5 rfl ?_
           refine S_nil <| C_seq <| C_seq <| C_region ?_
           refine S_run 2 rfl ?_
           refine S_nil ?_
           refine C_if rfl (fun h113 => ?_) (fun h113 => ?_)
           ·omega
           ·refine C_skip <| C_seq <| C_seq ?_
            refine C_draw rfl ?_
            refine C_firstp (i := 0) (W := 526) (by kernel_rfl) rfl rfl rfl rfl rfl ?_
            refine C_firstp (i := 1) (W := 524) (by kernel_rfl) rfl rfl rfl rfl rfl ?_
            refine C_firstf (i := 2) (W := 520) (by kernel_rfl) rfl rfl rfl rfl ly108 rfl rfl rfl ?_
            refine C_first (i := 3) (W := 512) (by kernel_rfl) rfl rfl rfl rfl (Y_ld u106 rfl rfl rfl) ?_
            refine C_firstp (i := 4) (W := 960) (by kernel_rfl) rfl rfl rfl rfl rfl ?_
            refine C_firstp (i := 5) (W := 960) (by kernel_rfl) rfl rfl rfl rfl rfl ?_
            refine C_firstx (i := 6) (W := 896) (by kernel_rfl) rfl rfl rfl rfl (Y_ixA rfl u79 ti83 rfl rfl rfl (by repeat constructor) rfl (by omega) hz) ?_
            rintro _ _ ⟨b121, o121, rfl, rfl⟩
            refine C_firstf (i := 7) (W := 768) (by kernel_rfl) rfl rfl rfl rfl ly83 rfl rfl rfl ?_
            refine C_first (i := 8) (W := 512) (by kernel_rfl) rfl rfl rfl rfl (Y_ld u3 rfl rfl rfl) ?_
            refine C_one (i := 9) (by kernel_rfl) rfl ?_
            refine S_y rfl rfl rfl ((Y_lk (K := fun n : Int => Value.int .i64 n) (V := fun _ : Unit => Value.bool true) (q := (z.page : Int)) rfl rfl rfl u106 (keyInt u3) ti4 (by repeat constructor)).as (v' := .bool (mget (changeN E key d m (mset g at_ ()) (y.page : Int)).g (z.page : Int)).isSome) (by cases mget (changeN E key d m (mset g at_ ()) (y.page : Int)).g (z.page : Int) <;> rfl)) ?_
            refine S_nil ?_
            refine C_done (by kernel_rfl) ?_
            refine C_cond rfl (fun h124 => ?_) (fun h124 => ?_)
            ·refine C_seq <| C_region ?_
             refine S_nilarr elCell 83 ?_
             have hz2 := pageAt_of hz
             have hj : joinN (changeN E key d m (mset g at_ ()) (y.page : Int)).m (changeN E key d m (mset g at_ ()) (y.page : Int)).g (loadN m at_ false).2 (childI (loadN m at_ false).2 key) (changeN E key d m (mset g at_ ()) (y.page : Int)).l (decide (d = 0)) = ⟨51, (changeN E key d m (mset g at_ ()) (y.page : Int)).g, [], 0, 0⟩ := by unfold joinN; rw [if_pos ⟨by omega, by omega⟩, hz2, if_neg (by omega)]; exact if_pos h124
             have e : (changeN E key (d + 1) m g at_) = ⟨(changeN E key d m (mset g at_ ()) (y.page : Int)).m, (changeN E key d m (mset g at_ ()) (y.page : Int)).g, [], 0, 51, (changeN E key d m (mset g at_ ()) (y.page : Int)).old⟩ := by rw [hup]; unfold upN; rw [if_neg (by omega)]; dsimp only; rw [hj]; exact if_pos (by dsimp only; omega)
             refine S_run 3 rfl ?_
             refine S_nil ?_
             rw [e] at hret
             first
               | exact hret (Res_tmps Try.results66 rfl rfl) ⟨adZ, cZ, adR, cR, xS, rfl, rfl, rfl⟩
               | exact hret (Res_tmps Try.results66 rfl rfl) ⟨none, 0, adR, cR, xS, rfl, rfl, rfl⟩
               | exact hret (Res_tmps Try.results66 rfl rfl) ⟨adO, cO, adP, cP, xO, rfl, rfl, rfl⟩
               | exact hret (Res_tmps Try.results66 rfl rfl) ⟨none, 0, adP, cP, none, rfl, rfl, rfl⟩
               | exact hret (Res_tmps Try.results66 rfl rfl) ⟨none, 0, adQ, cQ, xS, rfl, rfl, rfl⟩
            ·refine C_skip <| C_seq ?_
             refine C_draw rfl ?_
             refine C_firstp (i := 0) (W := 526) (by kernel_rfl) rfl rfl rfl rfl rfl ?_
             refine C_firstp (i := 1) (W := 524) (by kernel_rfl) rfl rfl rfl rfl rfl ?_
             refine C_firstf (i := 2) (W := 520) (by kernel_rfl) rfl rfl rfl rfl ly108 rfl rfl rfl ?_
             refine C_first (i := 3) (W := 512) (by kernel_rfl) rfl rfl rfl rfl (Y_ld u106 rfl rfl rfl) ?_
             refine C_firstp (i := 4) (W := 960) (by kernel_rfl) rfl rfl rfl rfl rfl ?_
             refine C_firstp (i := 5) (W := 960) (by kernel_rfl) rfl rfl rfl rfl rfl ?_
             refine C_firstx (i := 6) (W := 896) (by kernel_rfl) rfl rfl rfl rfl (Y_ixA rfl u79 ti83 rfl rfl rfl (by repeat constructor) rfl (by omega) hz) ?_
             rintro _ _ ⟨b131, o131, rfl, rfl⟩
             refine C_firstf (i := 7) (W := 768) (by kernel_rfl) rfl rfl rfl rfl ly83 rfl rfl rfl ?_
             refine C_first (i := 8) (W := 512) (by kernel_rfl) rfl rfl rfl rfl (Y_ld u3 rfl rfl rfl) ?_
             refine C_one (i := 9) (by kernel_rfl) rfl ?_
             refine S_mset (K := fun n : Int => Value.int .i64 n) (V := fun _ : Unit => Value.bool true) (q := (z.page : Int)) (v := ()) rfl rfl rfl rfl rfl rfl u106 (keyInt u3) (by repeat constructor) ?_
             refine S_nil ?_
             refine C_done (by kernel_rfl) ?_
             refine C_seq <| C_region ?_
             have hz2 := pageAt_of hz
             have hnl := hnx.2
             refine S_run 3 rfl ?_
             refine S_nil ?_
             refine C_if rfl (fun h136 => ?_) (fun h136 => ?_)
             ·refine C_region ?_
              refine S_run 2 rfl ?_
              refine S_pub (E := elCell) (ad := adN) (c := cN) (by repeat constructor) ?_
              refine S_app rfl rfl rfl rfl u79 ti83 rfl rfl rfl rfl rfl rfl (by repeat constructor) (by repeat constructor) (by omega) (by omega) (fun ad139 c139 => ?_)
              refine S_run 1 rfl ?_
              refine S_y rfl rfl rfl (Y_addi rfl rfl rfl (by omega) (by omega)) ?_
              refine S_run 2 rfl ?_
              refine S_nil <| C_seq <| C_region ?_
              first
                | (obtain ⟨FR, hFR⟩ : ∃ n, n = (childI (loadN m at_ false).2 key) := ⟨_, rfl⟩
                   obtain ⟨TO, hTO⟩ : ∃ n, n = joinK (loadN m at_ false).2 (childI (loadN m at_ false).2 key) + 1 := ⟨_, rfl⟩
                   obtain ⟨JS, hJS⟩ : ∃ q, q = (changeN E key d m (mset g at_ ()) (y.page : Int)).l ++ (loadN (changeN E key d m (mset g at_ ()) (y.page : Int)).m (z.page : Int) (decide (d = 0))).2 := ⟨_, rfl⟩
                   rw [← hJS]
                   have hj : joinN (changeN E key d m (mset g at_ ()) (y.page : Int)).m (changeN E key d m (mset g at_ ()) (y.page : Int)).g (loadN m at_ false).2 (childI (loadN m at_ false).2 key) (changeN E key d m (mset g at_ ()) (y.page : Int)).l (decide (d = 0)) = ⟨0, mset (changeN E key d m (mset g at_ ()) (y.page : Int)).g (z.page : Int) (), JS, FR, TO⟩ := by
                     rw [hFR, hTO, hJS]; unfold joinN; rw [if_pos ⟨by omega, by omega⟩, hz2, if_neg (by omega), if_neg (by rw [h124]; decide)]; exact if_pos (by omega)
                   refine S_pub (E := elCell) (ad := ad139) (c := c139) (by repeat constructor) ?_
                   refine S_as 15 rfl (show Value.int .i64 (((childI (loadN m at_ false).2 key) : Nat) : Int) = .int .i64 (FR : Int) by rw [hFR]) ?_
                   refine S_as 16 rfl (show Value.int .i64 (((joinK (loadN m at_ false).2 (childI (loadN m at_ false).2 key) : Nat) : Int) + 1) = .int .i64 (TO : Int) by rw [hTO]; rfl) ?_)
                | (obtain ⟨FR, hFR⟩ : ∃ n, n = joinK (loadN m at_ false).2 (childI (loadN m at_ false).2 key) := ⟨_, rfl⟩
                   obtain ⟨TO, hTO⟩ : ∃ n, n = (childI (loadN m at_ false).2 key) + 1 := ⟨_, rfl⟩
                   obtain ⟨JS, hJS⟩ : ∃ q, q = (loadN (changeN E key d m (mset g at_ ()) (y.page : Int)).m (z.page : Int) (decide (d = 0))).2 ++ (changeN E key d m (mset g at_ ()) (y.page : Int)).l := ⟨_, rfl⟩
                   rw [← hJS]
                   have hj : joinN (changeN E key d m (mset g at_ ()) (y.page : Int)).m (changeN E key d m (mset g at_ ()) (y.page : Int)).g (loadN m at_ false).2 (childI (loadN m at_ false).2 key) (changeN E key d m (mset g at_ ()) (y.page : Int)).l (decide (d = 0)) = ⟨0, mset (changeN E key d m (mset g at_ ()) (y.page : Int)).g (z.page : Int) (), JS, FR, TO⟩ := by
                     rw [hFR, hTO, hJS]; unfold joinN; rw [if_pos ⟨by omega, by omega⟩, hz2, if_neg (by omega), if_neg (by rw [h124]; decide)]; exact if_neg (by omega)
                   refine S_pub (E := elCell) (ad := ad144) (c := c144) (by repeat constructor) ?_
                   refine S_as 15 rfl (show Value.int .i64 ((joinK (loadN m at_ false).2 (childI (loadN m at_ false).2 key) : Nat) : Int) = .int .i64 (FR : Int) by rw [hFR]) ?_
                   refine S_as 16 rfl (show Value.int .i64 ((((childI (loadN m at_ false).2 key) : Nat) : Int) + 1) = .int .i64 (TO : Int) by rw [hTO]; rfl) ?_)
                | (obtain ⟨FR, hFR⟩ : ∃ n, n = (childI (loadN m at_ false).2 key) := ⟨_, rfl⟩
                   obtain ⟨TO, hTO⟩ : ∃ n, n = (childI (loadN m at_ false).2 key) + 1 := ⟨_, rfl⟩
                   obtain ⟨JS, hJS⟩ : ∃ q, q = (changeN E key d m (mset g at_ ()) (y.page : Int)).l := ⟨_, rfl⟩
                   rw [← hJS]
                   have hj : joinN (changeN E key d m (mset g at_ ()) (y.page : Int)).m (changeN E key d m (mset g at_ ()) (y.page : Int)).g (loadN m at_ false).2 (childI (loadN m at_ false).2 key) (changeN E key d m (mset g at_ ()) (y.page : Int)).l (decide (d = 0)) = ⟨0, (changeN E key d m (mset g at_ ()) (y.page : Int)).g, JS, FR, TO⟩ := by
                     rw [hFR, hTO, hJS]; unfold joinN; exact if_neg (by omega)
                   refine S_pub (E := elCell) (ad := adS) (c := cS) (by repeat constructor) ?_
                   refine S_as 15 rfl (show Value.int .i64 (((childI (loadN m at_ false).2 key) : Nat) : Int) = .int .i64 (FR : Int) by rw [hFR]) ?_
                   refine S_as 16 rfl (show Value.int .i64 ((((childI (loadN m at_ false).2 key) : Nat) : Int) + 1) = .int .i64 (TO : Int) by rw [hTO]; rfl) ?_)
              have hjo := joinN_ok (g := (changeN E key d m (mset g at_ ()) (y.page : Int)).g) (l := (loadN m at_ false).2) (i := (childI (loadN m at_ false).2 key)) (leaf := (decide (d = 0))) hsu.mol hsu.cells hsl
              have hjl := joinN_le (changeN E key d m (mset g at_ ()) (y.page : Int)).m (changeN E key d m (mset g at_ ()) (y.page : Int)).g (loadN m at_ false).2 (childI (loadN m at_ false).2 key) (changeN E key d m (mset g at_ ()) (y.page : Int)).l (decide (d = 0))
              rw [hj] at hjo hjl
              dsimp only at hjo hjl
              have hTOl : TO ≤ (loadN m at_ false).2.length := by omega
              have e0 := hup
              unfold upN at e0
              rw [if_neg (by omega)] at e0
              dsimp only at e0
              rw [hj] at e0
              dsimp only at e0
              rw [if_neg (by omega)] at e0
              refine S_run 3 rfl ?_
              refine S_enter rfl rfl rfl (E_fn rfl rfl) (lay_ok (leaf := (decide (d = 0))) hsu.mol (by omega) hjo.1 (by omega)) ?_
              rintro _ _ _ ⟨adY, cY, adR, cR, rfl, rfl, rfl⟩
              try dsimp only [List.cons_append, List.nil_append]
              refine S_run 5 rfl ?_
              refine S_nil <| C_seq <| C_seq <| C_region ?_
              refine S_pub (E := elCell) (ad := adY) (c := cY) (by repeat constructor) ?_
              refine S_run 2 rfl ?_
              refine S_nil ?_
              refine C_if rfl (fun h154 => ?_) (fun h154 => ?_)
              ·refine C_seq <| C_region ?_
               refine S_nilarr elCell 83 ?_
               have e := e0
               rw [if_pos (by omega)] at e
               refine S_run 4 rfl ?_
               refine S_nil ?_
               rw [e] at hret
               first
                 | exact hret (Res_tmps Try.results66 rfl rfl) ⟨adZ, cZ, adR, cR, xS, rfl, rfl, rfl⟩
                 | exact hret (Res_tmps Try.results66 rfl rfl) ⟨none, 0, adR, cR, xS, rfl, rfl, rfl⟩
                 | exact hret (Res_tmps Try.results66 rfl rfl) ⟨adO, cO, adP, cP, xO, rfl, rfl, rfl⟩
                 | exact hret (Res_tmps Try.results66 rfl rfl) ⟨none, 0, adP, cP, none, rfl, rfl, rfl⟩
                 | exact hret (Res_tmps Try.results66 rfl rfl) ⟨none, 0, adQ, cQ, xS, rfl, rfl, rfl⟩
              ·obtain ⟨i1, i2, i3, i4, i5, i6, i7⟩ := layN_props (leaf := (decide (d = 0))) hsu.mol hjo.1
               have j6 := i6 (by omega)
               have jf := i1.ok.few
               have e := e0
               rw [if_neg (by omega)] at e
               refine C_skip <| C_seq ?_
               refine C_draw rfl ?_
               refine C_firstp (i := 0) (W := 7556) (by kernel_rfl) rfl rfl rfl rfl rfl ?_
               refine C_firstp (i := 1) (W := 7556) (by kernel_rfl) rfl rfl rfl rfl rfl ?_
               refine C_firstx (i := 2) (W := 7552) (by kernel_rfl) rfl rfl rfl rfl (Y_reslice rfl u79 ti83 rfl rfl (by repeat constructor) rfl rfl ⟨_, rfl⟩ (by decide) (by omega) (by omega)) ?_
               rintro _ _ ⟨ad158, c158, rfl, rfl⟩
               rw [show ((loadN m at_ false).2.drop (0 : Int).toNat).take ((FR : Int).toNat - (0 : Int).toNat) = (loadN m at_ false).2.take FR by simp]
               refine C_firstp (i := 3) (W := 7552) (by kernel_rfl) rfl rfl rfl rfl rfl ?_
               refine C_firstp (i := 4) (W := 7616) (by kernel_rfl) rfl rfl rfl rfl rfl ?_
               refine C_firstp (i := 5) (W := 7616) (by kernel_rfl) rfl rfl rfl rfl rfl ?_
               refine C_firstx (i := 6) (W := 7552) (by kernel_rfl) rfl rfl rfl rfl (Y_reslice rfl u79 ti83 rfl rfl (by repeat constructor) rfl ⟨_, rfl⟩ rfl (by omega) (by omega) (by omega)) ?_
               rintro _ _ ⟨ad162, c162, rfl, rfl⟩
               rw [show ((loadN m at_ false).2.drop (TO : Int).toNat).take (((loadN m at_ false).2.length : Int).toNat - (TO : Int).toNat) = (loadN m at_ false).2.drop TO from List.take_of_length_le (by simp)]
               refine C_firstp (i := 9) (W := 6144) (by kernel_rfl) rfl rfl rfl rfl rfl ?_
               refine C_one (i := 7) (by kernel_rfl) rfl ?_
               refine S_lit (elSl Cell) [(ad158, c158, (loadN m at_ false).2.take FR), (adY, cY, (layN (changeN E key d m (mset g at_ ()) (y.page : Int)).m JS (decide (d = 0))).2.2), (ad162, c162, (loadN m at_ false).2.drop TO)] rfl rfl rfl rfl u129 ti79 rfl rfl rfl rfl rfl (by decide) (fun ad163 c163 => ?_)
               refine S_pub (by repeat constructor) ?_
               refine S_sls0 elCell ?_
               refine S_sls (a := ad162) (c := c162) (by repeat constructor) (by repeat constructor) ?_
               refine S_sls (a := adY) (c := cY) (by repeat constructor) (by repeat constructor) ?_
               refine S_sls (a := ad158) (c := c158) (by repeat constructor) (by repeat constructor) ?_
               refine S_nil ?_
               refine C_one (i := 8) (by kernel_rfl) rfl ?_
               refine S_enter rfl rfl rfl (E_fn rfl rfl) (concat_ok (xs := [(ad158, c158, (loadN m at_ false).2.take FR), (adY, cY, (layN (changeN E key d m (mset g at_ ()) (y.page : Int)).m JS (decide (d = 0))).2.2), (ad162, c162, (loadN m at_ false).2.drop TO)]) (by simp) (by simp only [catS, List.flatMap_cons, List.flatMap_nil, List.append_nil, List.length_append, List.length_take, List.length_drop]; omega)) ?_
               rintro _ _ _ ⟨adZ, cZ, rfl, rfl, rfl⟩
               try dsimp only [List.cons_append, List.nil_append]
               simp only [catS, List.flatMap_cons, List.flatMap_nil, List.append_nil]
               refine S_nil ?_
               refine C_firstp (i := 10) (W := 6144) (by kernel_rfl) rfl rfl rfl rfl rfl ?_
               refine C_firstp (i := 11) (W := 4096) (by kernel_rfl) rfl rfl rfl rfl rfl ?_
               refine C_firstp (i := 12) (W := 0) (by kernel_rfl) rfl rfl rfl rfl rfl ?_
               refine C_done (by kernel_rfl) ?_
               rw [e] at hret
               first
                 | exact hret (Res_tmps Try.results66 rfl rfl) ⟨adZ, cZ, adR, cR, xS, rfl, rfl, rfl⟩
                 | exact hret (Res_tmps Try.results66 rfl rfl) ⟨none, 0, adR, cR, xS, rfl, rfl, rfl⟩
                 | exact hret (Res_tmps Try.results66 rfl rfl) ⟨adO, cO, adP, cP, xO, rfl, rfl, rfl⟩
                 | exact hret (Res_tmps Try.results66 rfl rfl) ⟨none, 0, adP, cP, none, rfl, rfl, rfl⟩
                 | exact hret (Res_tmps Try.results66 rfl rfl) ⟨none, 0, adQ, cQ, xS, rfl, rfl, rfl⟩
             ·refine C_region ?_
              refine S_run 2 rfl ?_
              refine S_pub (E := elCell) (ad := adS) (c := cS) (by repeat constructor) ?_
              refine S_app rfl rfl rfl rfl u79 ti83 rfl rfl rfl rfl rfl rfl (by repeat constructor) (by repeat constructor) (by omega) (by omega) (fun ad144 c144 => ?_)
              refine S_run 3 rfl ?_
              refine S_nil <| C_seq <| C_region ?_
              first
                | (obtain ⟨FR, hFR⟩ : ∃ n, n = (childI (loadN m at_ false).2 key) := ⟨_, rfl⟩
                   obtain ⟨TO, hTO⟩ : ∃ n, n = joinK (loadN m at_ false).2 (childI (loadN m at_ false).2 key) + 1 := ⟨_, rfl⟩
                   obtain ⟨JS, hJS⟩ : ∃ q, q = (changeN E key d m (mset g at_ ()) (y.page : Int)).l ++ (loadN (changeN E key d m (mset g at_ ()) (y.page : Int)).m (z.page : Int) (decide (d = 0))).2 := ⟨_, rfl⟩
                   rw [← hJS]
                   have hj : joinN (changeN E key d m (mset g at_ ()) (y.page : Int)).m (changeN E key d m (mset g at_ ()) (y.page : Int)).g (loadN m at_ false).2 (childI (loadN m at_ false).2 key) (changeN E key d m (mset g at_ ()) (y.page : Int)).l (decide (d = 0)) = ⟨0, mset (changeN E key d m (mset g at_ ()) (y.page : Int)).g (z.page : Int) (), JS, FR, TO⟩ := by
                     rw [hFR, hTO, hJS]; unfold joinN; rw [if_pos ⟨by omega, by omega⟩, hz2, if_neg (by omega), if_neg (by rw [h124]; decide)]; exact if_pos (by omega)
                   refine S_pub (E := elCell) (ad := ad139) (c := c139) (by repeat constructor) ?_
                   refine S_as 15 rfl (show Value.int .i64 (((childI (loadN m at_ false).2 key) : Nat) : Int) = .int .i64 (FR : Int) by rw [hFR]) ?_
                   refine S_as 16 rfl (show Value.int .i64 (((joinK (loadN m at_ false).2 (childI (loadN m at_ false).2 key) : Nat) : Int) + 1) = .int .i64 (TO : Int) by rw [hTO]; rfl) ?_)
                | (obtain ⟨FR, hFR⟩ : ∃ n, n = joinK (loadN m at_ false).2 (childI (loadN m at_ false).2 key) := ⟨_, rfl⟩
                   obtain ⟨TO, hTO⟩ : ∃ n, n = (childI (loadN m at_ false).2 key) + 1 := ⟨_, rfl⟩
                   obtain ⟨JS, hJS⟩ : ∃ q, q = (loadN (changeN E key d m (mset g at_ ()) (y.page : Int)).m (z.page : Int) (decide (d = 0))).2 ++ (changeN E key d m (mset g at_ ()) (y.page : Int)).l := ⟨_, rfl⟩
                   rw [← hJS]
                   have hj : joinN (changeN E key d m (mset g at_ ()) (y.page : Int)).m (changeN E key d m (mset g at_ ()) (y.page : Int)).g (loadN m at_ false).2 (childI (loadN m at_ false).2 key) (changeN E key d m (mset g at_ ()) (y.page : Int)).l (decide (d = 0)) = ⟨0, mset (changeN E key d m (mset g at_ ()) (y.page : Int)).g (z.page : Int) (), JS, FR, TO⟩ := by
                     rw [hFR, hTO, hJS]; unfold joinN; rw [if_pos ⟨by omega, by omega⟩, hz2, if_neg (by omega), if_neg (by rw [h124]; decide)]; exact if_neg (by omega)
                   refine S_pub (E := elCell) (ad := ad144) (c := c144) (by repeat constructor) ?_
                   refine S_as 15 rfl (show Value.int .i64 ((joinK (loadN m at_ false).2 (childI (loadN m at_ false).2 key) : Nat) : Int) = .int .i64 (FR : Int) by rw [hFR]) ?_
                   refine S_as 16 rfl (show Value.int .i64 ((((childI (loadN m at_ false).2 key) : Nat) : Int) + 1) = .int .i64 (TO : Int) by rw [hTO]; rfl) ?_)
                | (obtain ⟨FR, hFR⟩ : ∃ n, n = (childI (loadN m at_ false).2 key) := ⟨_, rfl⟩
                   obtain ⟨TO, hTO⟩ : ∃ n, n = (childI (loadN m at_ false).2 key) + 1 := ⟨_, rfl⟩
                   obtain ⟨JS, hJS⟩ : ∃ q, q = (changeN E key d m (mset g at_ ()) (y.page : Int)).l := ⟨_, rfl⟩
                   rw [← hJS]
                   have hj : joinN (changeN E key d m (mset g at_ ()) (y.page : Int)).m (changeN E key d m (mset g at_ ()) (y.page : Int)).g (loadN m at_ false).2 (childI (loadN m at_ false).2 key) (changeN E key d m (mset g at_ ()) (y.page : Int)).l (decide (d = 0)) = ⟨0, (changeN E key d m (mset g at_ ()) (y.page : Int)).g, JS, FR, TO⟩ := by
                     rw [hFR, hTO, hJS]; unfold joinN; exact if_neg (by omega)
                   refine S_pub (E := elCell) (ad := adS) (c := cS) (by repeat constructor) ?_
                   refine S_as 15 rfl (show Value.int .i64 (((childI (loadN m at_ false).2 key) : Nat) : Int) = .int .i64 (FR : Int) by rw [hFR]) ?_
                   refine S_as 16 rfl (show Value.int .i64 ((((childI (loadN m at_ false).2 key) : Nat) : Int) + 1) = .int .i64 (TO : Int) by rw [hTO]; rfl) ?_)
              have hjo := joinN_ok (g := (changeN E key d m (mset g at_ ()) (y.page : Int)).g) (l := (loadN m at_ false).2) (i := (childI (loadN m at_ false).2 key)) (leaf := (decide (d = 0))) hsu.mol hsu.cells hsl
              have hjl := joinN_le (changeN E key d m (mset g at_ ()) (y.page : Int)).m (changeN E key d m (mset g at_ ()) (y.page : Int)).g (loadN m at_ false).2 (childI (loadN m at_ false).2 key) (changeN E key d m (mset g at_ ()) (y.page : Int)).l (decide (d = 0))
              rw [hj] at hjo hjl
              dsimp only at hjo hjl
              have hTOl : TO ≤ (loadN m at_ false).2.length := by omega
              have e0 := hup
              unfold upN at e0
              rw [if_neg (by omega)] at e0
              dsimp only at e0
              rw [hj] at e0
              dsimp only at e0
              rw [if_neg (by omega)] at e0
              refine S_run 3 rfl ?_
              refine S_enter rfl rfl rfl (E_fn rfl rfl) (lay_ok (leaf := (decide (d = 0))) hsu.mol (by omega) hjo.1 (by omega)) ?_
              rintro _ _ _ ⟨adY, cY, adR, cR, rfl, rfl, rfl⟩
              try dsimp only [List.cons_append, List.nil_append]
              refine S_run 5 rfl ?_
              refine S_nil <| C_seq <| C_seq <| C_region ?_
              refine S_pub (E := elCell) (ad := adY) (c := cY) (by repeat constructor) ?_
              refine S_run 2 rfl ?_
              refine S_nil ?_
              refine C_if rfl (fun h154 => ?_) (fun h154 => ?_)
              ·refine C_seq <| C_region ?_
               refine S_nilarr elCell 83 ?_
               have e := e0
               rw [if_pos (by omega)] at e
               refine S_run 4 rfl ?_
               refine S_nil ?_
               rw [e] at hret
               first
                 | exact hret (Res_tmps Try.results66 rfl rfl) ⟨adZ, cZ, adR, cR, xS, rfl, rfl, rfl⟩
                 | exact hret (Res_tmps Try.results66 rfl rfl) ⟨none, 0, adR, cR, xS, rfl, rfl, rfl⟩
                 | exact hret (Res_tmps Try.results66 rfl rfl) ⟨adO, cO, adP, cP, xO, rfl, rfl, rfl⟩
                 | exact hret (Res_tmps Try.results66 rfl rfl) ⟨none, 0, adP, cP, none, rfl, rfl, rfl⟩
                 | exact hret (Res_tmps Try.results66 rfl rfl) ⟨none, 0, adQ, cQ, xS, rfl, rfl, rfl⟩
              ·obtain ⟨i1, i2, i3, i4, i5, i6, i7⟩ := layN_props (leaf := (decide (d = 0))) hsu.mol hjo.1
               have j6 := i6 (by omega)
               have jf := i1.ok.few
               have e := e0
               rw [if_neg (by omega)] at e
               refine C_skip <| C_seq ?_
               refine C_draw rfl ?_
               refine C_firstp (i := 0) (W := 7556) (by kernel_rfl) rfl rfl rfl rfl rfl ?_
               refine C_firstp (i := 1) (W := 7556) (by kernel_rfl) rfl rfl rfl rfl rfl ?_
               refine C_firstx (i := 2) (W := 7552) (by kernel_rfl) rfl rfl rfl rfl (Y_reslice rfl u79 ti83 rfl rfl (by repeat constructor) rfl rfl ⟨_, rfl⟩ (by decide) (by omega) (by omega)) ?_
               rintro _ _ ⟨ad158, c158, rfl, rfl⟩
               rw [show ((loadN m at_ false).2.drop (0 : Int).toNat).take ((FR : Int).toNat - (0 : Int).toNat) = (loadN m at_ false).2.take FR by simp]
               refine C_firstp (i := 3) (W := 7552) (by kernel_rfl) rfl rfl rfl rfl rfl ?_
               refine C_firstp (i := 4) (W := 7616) (by kernel_rfl) rfl rfl rfl rfl rfl ?_
               refine C_firstp (i := 5) (W := 7616) (by kernel_rfl) rfl rfl rfl rfl rfl ?_
               refine C_firstx (i := 6) (W := 7552) (by kernel_rfl) rfl rfl rfl rfl (Y_reslice rfl u79 ti83 rfl rfl (by repeat constructor) rfl ⟨_, rfl⟩ rfl (by omega) (by omega) (by omega)) ?_
               rintro _ _ ⟨ad162, c162, rfl, rfl⟩
               rw [show ((loadN m at_ false).2.drop (TO : Int).toNat).take (((loadN m at_ false).2.length : Int).toNat - (TO : Int).toNat) = (loadN m at_ false).2.drop TO from List.take_of_length_le (by simp)]
               refine C_firstp (i := 9) (W := 6144) (by kernel_rfl) rfl rfl rfl rfl rfl ?_
               refine C_one (i := 7) (by kernel_rfl) rfl ?_
               refine S_lit (elSl Cell) [(ad158, c158, (loadN m at_ false).2.take FR), (adY, cY, (layN (changeN E key d m (mset g at_ ()) (y.page : Int)).m JS (decide (d = 0))).2.2), (ad162, c162, (loadN m at_ false).2.drop TO)] rfl rfl rfl rfl u129 ti79 rfl rfl rfl rfl rfl (by decide) (fun ad163 c163 => ?_)
               refine S_pub (by repeat constructor) ?_
               refine S_sls0 elCell ?_
               refine S_sls (a := ad162) (c := c162) (by repeat constructor) (by repeat constructor) ?_
               refine S_sls (a := adY) (c := cY) (by repeat constructor) (by repeat constructor) ?_
               refine S_sls (a := ad158) (c := c158) (by repeat constructor) (by repeat constructor) ?_
               refine S_nil ?_
               refine C_one (i := 8) (by kernel_rfl) rfl ?_
               refine S_enter rfl rfl rfl (E_fn rfl rfl) (concat_ok (xs := [(ad158, c158, (loadN m at_ false).2.take FR), (adY, cY, (layN (changeN E key d m (mset g at_ ()) (y.page : Int)).m JS (decide (d = 0))).2.2), (ad162, c162, (loadN m at_ false).2.drop TO)]) (by simp) (by simp only [catS, List.flatMap_cons, List.flatMap_nil, List.append_nil, List.length_append, List.length_take, List.length_drop]; omega)) ?_
               rintro _ _ _ ⟨adZ, cZ, rfl, rfl, rfl⟩
               try dsimp only [List.cons_append, List.nil_append]
               simp only [catS, List.flatMap_cons, List.flatMap_nil, List.append_nil]
               refine S_nil ?_
               refine C_firstp (i := 10) (W := 6144) (by kernel_rfl) rfl rfl rfl rfl rfl ?_
               refine C_firstp (i := 11) (W := 4096) (by kernel_rfl) rfl rfl rfl rfl rfl ?_
               refine C_firstp (i := 12) (W := 0) (by kernel_rfl) rfl rfl rfl rfl rfl ?_
               refine C_done (by kernel_rfl) ?_
               rw [e] at hret
               first
                 | exact hret (Res_tmps Try.results66 rfl rfl) ⟨adZ, cZ, adR, cR, xS, rfl, rfl, rfl⟩
                 | exact hret (Res_tmps Try.results66 rfl rfl) ⟨none, 0, adR, cR, xS, rfl, rfl, rfl⟩
                 | exact hret (Res_tmps Try.results66 rfl rfl) ⟨adO, cO, adP, cP, xO, rfl, rfl, rfl⟩
                 | exact hret (Res_tmps Try.results66 rfl rfl) ⟨none, 0, adP, cP, none, rfl, rfl, rfl⟩
                 | exact hret (Res_tmps Try.results66 rfl rfl) ⟨none, 0, adQ, cQ, xS, rfl, rfl, rfl⟩
        ·refine C_skip <| C_seq <| C_region ?_
         first
           | (obtain ⟨FR, hFR⟩ : ∃ n, n = (childI (loadN m at_ false).2 key) := ⟨_, rfl⟩
              obtain ⟨TO, hTO⟩ : ∃ n, n = joinK (loadN m at_ false).2 (childI (loadN m at_ false).2 key) + 1 := ⟨_, rfl⟩
              obtain ⟨JS, hJS⟩ : ∃ q, q = (changeN E key d m (mset g at_ ()) (y.page : Int)).l ++ (loadN (changeN E key d m (mset g at_ ()) (y.page : Int)).m (z.page : Int) (decide (d = 0))).2 := ⟨_, rfl⟩
              rw [← hJS]
              have hj : joinN (changeN E key d m (mset g at_ ()) (y.page : Int)).m (changeN E key d m (mset g at_ ()) (y.page : Int)).g (loadN m at_ false).2 (childI (loadN m at_ false).2 key) (changeN E key d m (mset g at_ ()) (y.page : Int)).l (decide (d = 0)) = ⟨0, mset (changeN E key d m (mset g at_ ()) (y.page : Int)).g (z.page : Int) (), JS, FR, TO⟩ := by
                rw [hFR, hTO, hJS]; unfold joinN; rw [if_pos ⟨by omega, by omega⟩, hz2, if_neg (by omega), if_neg (by rw [h124]; decide)]; exact if_pos (by omega)
              refine S_pub (E := elCell) (ad := ad139) (c := c139) (by repeat constructor) ?_
              refine S_as 15 rfl (show Value.int .i64 (((childI (loadN m at_ false).2 key) : Nat) : Int) = .int .i64 (FR : Int) by rw [hFR]) ?_
              refine S_as 16 rfl (show Value.int .i64 (((joinK (loadN m at_ false).2 (childI (loadN m at_ false).2 key) : Nat) : Int) + 1) = .int .i64 (TO : Int) by rw [hTO]; rfl) ?_)
           | (obtain ⟨FR, hFR⟩ : ∃ n, n = joinK (loadN m at_ false).2 (childI (loadN m at_ false).2 key) := ⟨_, rfl⟩
              obtain ⟨TO, hTO⟩ : ∃ n, n = (childI (loadN m at_ false).2 key) + 1 := ⟨_, rfl⟩
              obtain ⟨JS, hJS⟩ : ∃ q, q = (loadN (changeN E key d m (mset g at_ ()) (y.page : Int)).m (z.page : Int) (decide (d = 0))).2 ++ (changeN E key d m (mset g at_ ()) (y.page : Int)).l := ⟨_, rfl⟩
              rw [← hJS]
              have hj : joinN (changeN E key d m (mset g at_ ()) (y.page : Int)).m (changeN E key d m (mset g at_ ()) (y.page : Int)).g (loadN m at_ false).2 (childI (loadN m at_ false).2 key) (changeN E key d m (mset g at_ ()) (y.page : Int)).l (decide (d = 0)) = ⟨0, mset (changeN E key d m (mset g at_ ()) (y.page : Int)).g (z.page : Int) (), JS, FR, TO⟩ := by
                rw [hFR, hTO, hJS]; unfold joinN; rw [if_pos ⟨by omega, by omega⟩, hz2, if_neg (by omega), if_neg (by rw [h124]; decide)]; exact if_neg (by omega)
              refine S_pub (E := elCell) (ad := ad144) (c := c144) (by repeat constructor) ?_
              refine S_as 15 rfl (show Value.int .i64 ((joinK (loadN m at_ false).2 (childI (loadN m at_ false).2 key) : Nat) : Int) = .int .i64 (FR : Int) by rw [hFR]) ?_
              refine S_as 16 rfl (show Value.int .i64 ((((childI (loadN m at_ false).2 key) : Nat) : Int) + 1) = .int .i64 (TO : Int) by rw [hTO]; rfl) ?_)
           | (obtain ⟨FR, hFR⟩ : ∃ n, n = (childI (loadN m at_ false).2 key) := ⟨_, rfl⟩
              obtain ⟨TO, hTO⟩ : ∃ n, n = (childI (loadN m at_ false).2 key) + 1 := ⟨_, rfl⟩
              obtain ⟨JS, hJS⟩ : ∃ q, q = (changeN E key d m (mset g at_ ()) (y.page : Int)).l := ⟨_, rfl⟩
              rw [← hJS]
              have hj : joinN (changeN E key d m (mset g at_ ()) (y.page : Int)).m (changeN E key d m (mset g at_ ()) (y.page : Int)).g (loadN m at_ false).2 (childI (loadN m at_ false).2 key) (changeN E key d m (mset g at_ ()) (y.page : Int)).l (decide (d = 0)) = ⟨0, (changeN E key d m (mset g at_ ()) (y.page : Int)).g, JS, FR, TO⟩ := by
                rw [hFR, hTO, hJS]; unfold joinN; exact if_neg (by omega)
              refine S_pub (E := elCell) (ad := adS) (c := cS) (by repeat constructor) ?_
              refine S_as 15 rfl (show Value.int .i64 (((childI (loadN m at_ false).2 key) : Nat) : Int) = .int .i64 (FR : Int) by rw [hFR]) ?_
              refine S_as 16 rfl (show Value.int .i64 ((((childI (loadN m at_ false).2 key) : Nat) : Int) + 1) = .int .i64 (TO : Int) by rw [hTO]; rfl) ?_)
         have hjo := joinN_ok (g := (changeN E key d m (mset g at_ ()) (y.page : Int)).g) (l := (loadN m at_ false).2) (i := (childI (loadN m at_ false).2 key)) (leaf := (decide (d = 0))) hsu.mol hsu.cells hsl
         have hjl := joinN_le (changeN E key d m (mset g at_ ()) (y.page : Int)).m (changeN E key d m (mset g at_ ()) (y.page : Int)).g (loadN m at_ false).2 (childI (loadN m at_ false).2 key) (changeN E key d m (mset g at_ ()) (y.page : Int)).l (decide (d = 0))
         rw [hj] at hjo hjl
         dsimp only at hjo hjl
         have hTOl : TO ≤ (loadN m at_ false).2.length := by omega
         have e0 := hup
         unfold upN at e0
         rw [if_neg (by omega)] at e0
         dsimp only at e0
         rw [hj] at e0
         dsimp only at e0
         rw [if_neg (by omega)] at e0
         refine S_run 3 rfl ?_
         refine S_enter rfl rfl rfl (E_fn rfl rfl) (lay_ok (leaf := (decide (d = 0))) hsu.mol (by omega) hjo.1 (by omega)) ?_
         rintro _ _ _ ⟨adY, cY, adR, cR, rfl, rfl, rfl⟩
         try dsimp only [List.cons_append, List.nil_append]
         refine S_run 5 rfl ?_
         refine S_nil <| C_seq <| C_seq <| C_region ?_
         refine S_pub (E := elCell) (ad := adY) (c := cY) (by repeat constructor) ?_
         refine S_run 2 rfl ?_
         refine S_nil ?_
         refine C_if rfl (fun h154 => ?_) (fun h154 => ?_)
         ·refine C_seq <| C_region ?_
          refine S_nilarr elCell 83 ?_
          have e := e0
          rw [if_pos (by omega)] at e
          refine S_run 4 rfl ?_
          refine S_nil ?_
          rw [e] at hret
          first
            | exact hret (Res_tmps Try.results66 rfl rfl) ⟨adZ, cZ, adR, cR, xS, rfl, rfl, rfl⟩
            | exact hret (Res_tmps Try.results66 rfl rfl) ⟨none, 0, adR, cR, xS, rfl, rfl, rfl⟩
            | exact hret (Res_tmps Try.results66 rfl rfl) ⟨adO, cO, adP, cP, xO, rfl, rfl, rfl⟩
            | exact hret (Res_tmps Try.results66 rfl rfl) ⟨none, 0, adP, cP, none, rfl, rfl, rfl⟩
            | exact hret (Res_tmps Try.results66 rfl rfl) ⟨none, 0, adQ, cQ, xS, rfl, rfl, rfl⟩
         ·obtain ⟨i1, i2, i3, i4, i5, i6, i7⟩ := layN_props (leaf := (decide (d = 0))) hsu.mol hjo.1
          have j6 := i6 (by omega)
          have jf := i1.ok.few
          have e := e0
          rw [if_neg (by omega)] at e
          refine C_skip <| C_seq ?_
          refine C_draw rfl ?_
          refine C_firstp (i := 0) (W := 7556) (by kernel_rfl) rfl rfl rfl rfl rfl ?_
          refine C_firstp (i := 1) (W := 7556) (by kernel_rfl) rfl rfl rfl rfl rfl ?_
          refine C_firstx (i := 2) (W := 7552) (by kernel_rfl) rfl rfl rfl rfl (Y_reslice rfl u79 ti83 rfl rfl (by repeat constructor) rfl rfl ⟨_, rfl⟩ (by decide) (by omega) (by omega)) ?_
          rintro _ _ ⟨ad158, c158, rfl, rfl⟩
          rw [show ((loadN m at_ false).2.drop (0 : Int).toNat).take ((FR : Int).toNat - (0 : Int).toNat) = (loadN m at_ false).2.take FR by simp]
          refine C_firstp (i := 3) (W := 7552) (by kernel_rfl) rfl rfl rfl rfl rfl ?_
          refine C_firstp (i := 4) (W := 7616) (by kernel_rfl) rfl rfl rfl rfl rfl ?_
          refine C_firstp (i := 5) (W := 7616) (by kernel_rfl) rfl rfl rfl rfl rfl ?_
          refine C_firstx (i := 6) (W := 7552) (by kernel_rfl) rfl rfl rfl rfl (Y_reslice rfl u79 ti83 rfl rfl (by repeat constructor) rfl ⟨_, rfl⟩ rfl (by omega) (by omega) (by omega)) ?_
          rintro _ _ ⟨ad162, c162, rfl, rfl⟩
          rw [show ((loadN m at_ false).2.drop (TO : Int).toNat).take (((loadN m at_ false).2.length : Int).toNat - (TO : Int).toNat) = (loadN m at_ false).2.drop TO from List.take_of_length_le (by simp)]
          refine C_firstp (i := 9) (W := 6144) (by kernel_rfl) rfl rfl rfl rfl rfl ?_
          refine C_one (i := 7) (by kernel_rfl) rfl ?_
          refine S_lit (elSl Cell) [(ad158, c158, (loadN m at_ false).2.take FR), (adY, cY, (layN (changeN E key d m (mset g at_ ()) (y.page : Int)).m JS (decide (d = 0))).2.2), (ad162, c162, (loadN m at_ false).2.drop TO)] rfl rfl rfl rfl u129 ti79 rfl rfl rfl rfl rfl (by decide) (fun ad163 c163 => ?_)
          refine S_pub (by repeat constructor) ?_
          refine S_sls0 elCell ?_
          refine S_sls (a := ad162) (c := c162) (by repeat constructor) (by repeat constructor) ?_
          refine S_sls (a := adY) (c := cY) (by repeat constructor) (by repeat constructor) ?_
          refine S_sls (a := ad158) (c := c158) (by repeat constructor) (by repeat constructor) ?_
          refine S_nil ?_
          refine C_one (i := 8) (by kernel_rfl) rfl ?_
          refine S_enter rfl rfl rfl (E_fn rfl rfl) (concat_ok (xs := [(ad158, c158, (loadN m at_ false).2.take FR), (adY, cY, (layN (changeN E key d m (mset g at_ ()) (y.page : Int)).m JS (decide (d = 0))).2.2), (ad162, c162, (loadN m at_ false).2.drop TO)]) (by simp) (by simp only [catS, List.flatMap_cons, List.flatMap_nil, List.append_nil, List.length_append, List.length_take, List.length_drop]; omega)) ?_
          rintro _ _ _ ⟨adZ, cZ, rfl, rfl, rfl⟩
          try dsimp only [List.cons_append, List.nil_append]
          simp only [catS, List.flatMap_cons, List.flatMap_nil, List.append_nil]
          refine S_nil ?_
          refine C_firstp (i := 10) (W := 6144) (by kernel_rfl) rfl rfl rfl rfl rfl ?_
          refine C_firstp (i := 11) (W := 4096) (by kernel_rfl) rfl rfl rfl rfl rfl ?_
          refine C_firstp (i := 12) (W := 0) (by kernel_rfl) rfl rfl rfl rfl rfl ?_
          refine C_done (by kernel_rfl) ?_
          rw [e] at hret
          first
            | exact hret (Res_tmps Try.results66 rfl rfl) ⟨adZ, cZ, adR, cR, xS, rfl, rfl, rfl⟩
            | exact hret (Res_tmps Try.results66 rfl rfl) ⟨none, 0, adR, cR, xS, rfl, rfl, rfl⟩
            | exact hret (Res_tmps Try.results66 rfl rfl) ⟨adO, cO, adP, cP, xO, rfl, rfl, rfl⟩
            | exact hret (Res_tmps Try.results66 rfl rfl) ⟨none, 0, adP, cP, none, rfl, rfl, rfl⟩
            | exact hret (Res_tmps Try.results66 rfl rfl) ⟨none, 0, adQ, cQ, xS, rfl, rfl, rfl⟩
       ·refine C_firstoff (i := 11) (W := 28672) (by kernel_rfl) rfl rfl rfl rfl ?_
        refine C_firstoff (i := 12) (W := 24576) (by kernel_rfl) rfl rfl rfl rfl ?_
        refine C_firstoff (i := 13) (W := 16384) (by kernel_rfl) rfl rfl rfl rfl ?_
        refine C_firstp (i := 14) (W := 0) (by kernel_rfl) rfl rfl rfl rfl rfl ?_
        refine C_done (by kernel_rfl) ?_
        refine C_cond_f rfl ?_
        refine C_skip <| C_seq <| C_region ?_
        first
          | (obtain ⟨FR, hFR⟩ : ∃ n, n = (childI (loadN m at_ false).2 key) := ⟨_, rfl⟩
             obtain ⟨TO, hTO⟩ : ∃ n, n = joinK (loadN m at_ false).2 (childI (loadN m at_ false).2 key) + 1 := ⟨_, rfl⟩
             obtain ⟨JS, hJS⟩ : ∃ q, q = (changeN E key d m (mset g at_ ()) (y.page : Int)).l ++ (loadN (changeN E key d m (mset g at_ ()) (y.page : Int)).m (z.page : Int) (decide (d = 0))).2 := ⟨_, rfl⟩
             rw [← hJS]
             have hj : joinN (changeN E key d m (mset g at_ ()) (y.page : Int)).m (changeN E key d m (mset g at_ ()) (y.page : Int)).g (loadN m at_ false).2 (childI (loadN m at_ false).2 key) (changeN E key d m (mset g at_ ()) (y.page : Int)).l (decide (d = 0)) = ⟨0, mset (changeN E key d m (mset g at_ ()) (y.page : Int)).g (z.page : Int) (), JS, FR, TO⟩ := by
               rw [hFR, hTO, hJS]; unfold joinN; rw [if_pos ⟨by omega, by omega⟩, hz2, if_neg (by omega), if_neg (by rw [h124]; decide)]; exact if_pos (by omega)
             refine S_pub (E := elCell) (ad := ad139) (c := c139) (by repeat constructor) ?_
             refine S_as 15 rfl (show Value.int .i64 (((childI (loadN m at_ false).2 key) : Nat) : Int) = .int .i64 (FR : Int) by rw [hFR]) ?_
             refine S_as 16 rfl (show Value.int .i64 (((joinK (loadN m at_ false).2 (childI (loadN m at_ false).2 key) : Nat) : Int) + 1) = .int .i64 (TO : Int) by rw [hTO]; rfl) ?_)
          | (obtain ⟨FR, hFR⟩ : ∃ n, n = joinK (loadN m at_ false).2 (childI (loadN m at_ false).2 key) := ⟨_, rfl⟩
             obtain ⟨TO, hTO⟩ : ∃ n, n = (childI (loadN m at_ false).2 key) + 1 := ⟨_, rfl⟩
             obtain ⟨JS, hJS⟩ : ∃ q, q = (loadN (changeN E key d m (mset g at_ ()) (y.page : Int)).m (z.page : Int) (decide (d = 0))).2 ++ (changeN E key d m (mset g at_ ()) (y.page : Int)).l := ⟨_, rfl⟩
             rw [← hJS]
             have hj : joinN (changeN E key d m (mset g at_ ()) (y.page : Int)).m (changeN E key d m (mset g at_ ()) (y.page : Int)).g (loadN m at_ false).2 (childI (loadN m at_ false).2 key) (changeN E key d m (mset g at_ ()) (y.page : Int)).l (decide (d = 0)) = ⟨0, mset (changeN E key d m (mset g at_ ()) (y.page : Int)).g (z.page : Int) (), JS, FR, TO⟩ := by
               rw [hFR, hTO, hJS]; unfold joinN; rw [if_pos ⟨by omega, by omega⟩, hz2, if_neg (by omega), if_neg (by rw [h124]; decide)]; exact if_neg (by omega)
             refine S_pub (E := elCell) (ad := ad144) (c := c144) (by repeat constructor) ?_
             refine S_as 15 rfl (show Value.int .i64 ((joinK (loadN m at_ false).2 (childI (loadN m at_ false).2 key) : Nat) : Int) = .int .i64 (FR : Int) by rw [hFR]) ?_
             refine S_as 16 rfl (show Value.int .i64 ((((childI (loadN m at_ false).2 key) : Nat) : Int) + 1) = .int .i64 (TO : Int) by rw [hTO]; rfl) ?_)
          | (obtain ⟨FR, hFR⟩ : ∃ n, n = (childI (loadN m at_ false).2 key) := ⟨_, rfl⟩
             obtain ⟨TO, hTO⟩ : ∃ n, n = (childI (loadN m at_ false).2 key) + 1 := ⟨_, rfl⟩
             obtain ⟨JS, hJS⟩ : ∃ q, q = (changeN E key d m (mset g at_ ()) (y.page : Int)).l := ⟨_, rfl⟩
             rw [← hJS]
             have hj : joinN (changeN E key d m (mset g at_ ()) (y.page : Int)).m (changeN E key d m (mset g at_ ()) (y.page : Int)).g (loadN m at_ false).2 (childI (loadN m at_ false).2 key) (changeN E key d m (mset g at_ ()) (y.page : Int)).l (decide (d = 0)) = ⟨0, (changeN E key d m (mset g at_ ()) (y.page : Int)).g, JS, FR, TO⟩ := by
               rw [hFR, hTO, hJS]; unfold joinN; exact if_neg (by omega)
             refine S_pub (E := elCell) (ad := adS) (c := cS) (by repeat constructor) ?_
             refine S_as 15 rfl (show Value.int .i64 (((childI (loadN m at_ false).2 key) : Nat) : Int) = .int .i64 (FR : Int) by rw [hFR]) ?_
             refine S_as 16 rfl (show Value.int .i64 ((((childI (loadN m at_ false).2 key) : Nat) : Int) + 1) = .int .i64 (TO : Int) by rw [hTO]; rfl) ?_)
        have hjo := joinN_ok (g := (changeN E key d m (mset g at_ ()) (y.page : Int)).g) (l := (loadN m at_ false).2) (i := (childI (loadN m at_ false).2 key)) (leaf := (decide (d = 0))) hsu.mol hsu.cells hsl
        have hjl := joinN_le (changeN E key d m (mset g at_ ()) (y.page : Int)).m (changeN E key d m (mset g at_ ()) (y.page : Int)).g (loadN m at_ false).2 (childI (loadN m at_ false).2 key) (changeN E key d m (mset g at_ ()) (y.page : Int)).l (decide (d = 0))
        rw [hj] at hjo hjl
        dsimp only at hjo hjl
        have hTOl : TO ≤ (loadN m at_ false).2.length := by omega
        have e0 := hup
        unfold upN at e0
        rw [if_neg (by omega)] at e0
        dsimp only at e0
        rw [hj] at e0
        dsimp only at e0
        rw [if_neg (by omega)] at e0
        refine S_run 3 rfl ?_
        refine S_enter rfl rfl rfl (E_fn rfl rfl) (lay_ok (leaf := (decide (d = 0))) hsu.mol (by omega) hjo.1 (by omega)) ?_
        rintro _ _ _ ⟨adY, cY, adR, cR, rfl, rfl, rfl⟩
        try dsimp only [List.cons_append, List.nil_append]
        refine S_run 5 rfl ?_
        refine S_nil <| C_seq <| C_seq <| C_region ?_
        refine S_pub (E := elCell) (ad := adY) (c := cY) (by repeat constructor) ?_
        refine S_run 2 rfl ?_
        refine S_nil ?_
        refine C_if rfl (fun h154 => ?_) (fun h154 => ?_)
        ·refine C_seq <| C_region ?_
         refine S_nilarr elCell 83 ?_
         have e := e0
         rw [if_pos (by omega)] at e
         refine S_run 4 rfl ?_
         refine S_nil ?_
         rw [e] at hret
         first
           | exact hret (Res_tmps Try.results66 rfl rfl) ⟨adZ, cZ, adR, cR, xS, rfl, rfl, rfl⟩
           | exact hret (Res_tmps Try.results66 rfl rfl) ⟨none, 0, adR, cR, xS, rfl, rfl, rfl⟩
           | exact hret (Res_tmps Try.results66 rfl rfl) ⟨adO, cO, adP, cP, xO, rfl, rfl, rfl⟩
           | exact hret (Res_tmps Try.results66 rfl rfl) ⟨none, 0, adP, cP, none, rfl, rfl, rfl⟩
           | exact hret (Res_tmps Try.results66 rfl rfl) ⟨none, 0, adQ, cQ, xS, rfl, rfl, rfl⟩
        ·obtain ⟨i1, i2, i3, i4, i5, i6, i7⟩ := layN_props (leaf := (decide (d = 0))) hsu.mol hjo.1
         have j6 := i6 (by omega)
         have jf := i1.ok.few
         have e := e0
         rw [if_neg (by omega)] at e
         refine C_skip <| C_seq ?_
         refine C_draw rfl ?_
         refine C_firstp (i := 0) (W := 7556) (by kernel_rfl) rfl rfl rfl rfl rfl ?_
         refine C_firstp (i := 1) (W := 7556) (by kernel_rfl) rfl rfl rfl rfl rfl ?_
         refine C_firstx (i := 2) (W := 7552) (by kernel_rfl) rfl rfl rfl rfl (Y_reslice rfl u79 ti83 rfl rfl (by repeat constructor) rfl rfl ⟨_, rfl⟩ (by decide) (by omega) (by omega)) ?_
         rintro _ _ ⟨ad158, c158, rfl, rfl⟩
         rw [show ((loadN m at_ false).2.drop (0 : Int).toNat).take ((FR : Int).toNat - (0 : Int).toNat) = (loadN m at_ false).2.take FR by simp]
         refine C_firstp (i := 3) (W := 7552) (by kernel_rfl) rfl rfl rfl rfl rfl ?_
         refine C_firstp (i := 4) (W := 7616) (by kernel_rfl) rfl rfl rfl rfl rfl ?_
         refine C_firstp (i := 5) (W := 7616) (by kernel_rfl) rfl rfl rfl rfl rfl ?_
         refine C_firstx (i := 6) (W := 7552) (by kernel_rfl) rfl rfl rfl rfl (Y_reslice rfl u79 ti83 rfl rfl (by repeat constructor) rfl ⟨_, rfl⟩ rfl (by omega) (by omega) (by omega)) ?_
         rintro _ _ ⟨ad162, c162, rfl, rfl⟩
         rw [show ((loadN m at_ false).2.drop (TO : Int).toNat).take (((loadN m at_ false).2.length : Int).toNat - (TO : Int).toNat) = (loadN m at_ false).2.drop TO from List.take_of_length_le (by simp)]
         refine C_firstp (i := 9) (W := 6144) (by kernel_rfl) rfl rfl rfl rfl rfl ?_
         refine C_one (i := 7) (by kernel_rfl) rfl ?_
         refine S_lit (elSl Cell) [(ad158, c158, (loadN m at_ false).2.take FR), (adY, cY, (layN (changeN E key d m (mset g at_ ()) (y.page : Int)).m JS (decide (d = 0))).2.2), (ad162, c162, (loadN m at_ false).2.drop TO)] rfl rfl rfl rfl u129 ti79 rfl rfl rfl rfl rfl (by decide) (fun ad163 c163 => ?_)
         refine S_pub (by repeat constructor) ?_
         refine S_sls0 elCell ?_
         refine S_sls (a := ad162) (c := c162) (by repeat constructor) (by repeat constructor) ?_
         refine S_sls (a := adY) (c := cY) (by repeat constructor) (by repeat constructor) ?_
         refine S_sls (a := ad158) (c := c158) (by repeat constructor) (by repeat constructor) ?_
         refine S_nil ?_
         refine C_one (i := 8) (by kernel_rfl) rfl ?_
         refine S_enter rfl rfl rfl (E_fn rfl rfl) (concat_ok (xs := [(ad158, c158, (loadN m at_ false).2.take FR), (adY, cY, (layN (changeN E key d m (mset g at_ ()) (y.page : Int)).m JS (decide (d = 0))).2.2), (ad162, c162, (loadN m at_ false).2.drop TO)]) (by simp) (by simp only [catS, List.flatMap_cons, List.flatMap_nil, List.append_nil, List.length_append, List.length_take, List.length_drop]; omega)) ?_
         rintro _ _ _ ⟨adZ, cZ, rfl, rfl, rfl⟩
         try dsimp only [List.cons_append, List.nil_append]
         simp only [catS, List.flatMap_cons, List.flatMap_nil, List.append_nil]
         refine S_nil ?_
         refine C_firstp (i := 10) (W := 6144) (by kernel_rfl) rfl rfl rfl rfl rfl ?_
         refine C_firstp (i := 11) (W := 4096) (by kernel_rfl) rfl rfl rfl rfl rfl ?_
         refine C_firstp (i := 12) (W := 0) (by kernel_rfl) rfl rfl rfl rfl rfl ?_
         refine C_done (by kernel_rfl) ?_
         rw [e] at hret
         first
           | exact hret (Res_tmps Try.results66 rfl rfl) ⟨adZ, cZ, adR, cR, xS, rfl, rfl, rfl⟩
           | exact hret (Res_tmps Try.results66 rfl rfl) ⟨none, 0, adR, cR, xS, rfl, rfl, rfl⟩
           | exact hret (Res_tmps Try.results66 rfl rfl) ⟨adO, cO, adP, cP, xO, rfl, rfl, rfl⟩
           | exact hret (Res_tmps Try.results66 rfl rfl) ⟨none, 0, adP, cP, none, rfl, rfl, rfl⟩
           | exact hret (Res_tmps Try.results66 rfl rfl) ⟨none, 0, adQ, cQ, xS, rfl, rfl, rfl⟩
      ·refine S_y rfl rfl rfl (Y_ld Try.underlying73 rfl rfl rfl) ?_
       refine S_nil ?_
       refine C_one (i := 2) (by kernel_rfl) rfl ?_
       refine S_enter rfl rfl rfl (E_fn rfl rfl) (sumO_ok (leaf := (decide (d = 0))) hsu.cells (by omega)) ?_
       rintro _ _ _ ⟨rfl, rfl, rfl⟩
       try dsimp only [List.cons_append, List.nil_append]
       refine S_nil ?_
       refine C_one (i := 7) (by kernel_rfl) rfl ?_
       refine S_enter rfl rfl rfl (E_inv rfl rfl rfl (by intro w; kernel_rfl)) mroom_ok ?_
       rintro _ _ _ ⟨rfl, rfl, rfl⟩
       try dsimp only [List.cons_append, List.nil_append]
       refine S_nil ?_
       refine C_first (i := 8) (W := 32256) (by kernel_rfl) rfl rfl rfl rfl ((Y_quo rfl rfl rfl (by decide)).as (v' := .int .i64 ((changeN E key d m (mset g at_ ()) (y.page : Int)).m.size.tdiv 4)) (by rw [wrap_i64 (by omega) (by omega)])) ?_
       refine C_firstp (i := 9) (W := 31744) (by kernel_rfl) rfl rfl rfl rfl rfl ?_
       refine C_firstp (i := 10) (W := 30720) (by kernel_rfl) rfl rfl rfl rfl rfl ?_
       refine C_prop 88 rfl (fun h88 => ?_) (fun h88 => ?_)
       ·refine C_firstp (i := 11) (W := 28672) (by kernel_rfl) rfl rfl rfl rfl rfl ?_
        refine C_first (i := 12) (W := 24576) (by kernel_rfl) rfl rfl rfl rfl (Y_slen rfl rfl u79) ?_
        refine C_firstp (i := 13) (W := 16384) (by kernel_rfl) rfl rfl rfl rfl rfl ?_
        refine C_firstp (i := 14) (W := 0) (by kernel_rfl) rfl rfl rfl rfl rfl ?_
        refine C_done (by kernel_rfl) ?_
        refine C_if rfl (fun h92 => ?_) (fun h92 => ?_)
        ·refine C_seq <| C_region ?_
         refine S_run 1 rfl ?_
         refine S_y rfl rfl rfl (Y_addi rfl rfl rfl (by omega) (by omega)) ?_
         refine S_run 1 rfl ?_
         refine S_nil <| C_seq <| C_seq <| C_region ?_
         refine S_run 2 rfl ?_
         refine S_y rfl rfl rfl (Y_slen rfl rfl u79) ?_
         refine S_run 1 rfl ?_
         refine S_nil ?_
         refine C_if rfl (fun h98 => ?_) (fun h98 => ?_)
         ·refine C_region ?_
          refine S_run 1 rfl ?_
          refine S_y rfl rfl rfl ((Y_subi rfl rfl rfl (by omega) (by omega)).as (v' := .int .i64 ((joinK (loadN m at_ false).2 (childI (loadN m at_ false).2 key) : Nat) : Int)) (by congr 1; unfold joinK; rw [if_pos (by omega)]; omega)) ?_
          refine S_run 1 rfl ?_
          refine S_nil <| C_seq <| C_region ?_
          refine S_run 3 rfl ?_
          have hjk : joinK (loadN m at_ false).2 (childI (loadN m at_ false).2 key) < (loadN m at_ false).2.length := by unfold joinK; split <;> omega
          obtain ⟨z, hz⟩ : ∃ z, (loadN m at_ false).2[joinK (loadN m at_ false).2 (childI (loadN m at_ false).2 key)]? = some z := ⟨_, List.getElem?_eq_getElem hjk⟩
          have hnx := loadN_ok hsu.mol.ok (z.page : Int) (decide (d = 0))
          refine S_yx rfl rfl rfl (Y_ixA rfl u79 ti83 rfl rfl rfl (by repeat constructor) rfl (by omega) hz) ?_
          rintro _ _ ⟨b105, o105, rfl, rfl⟩
          refine S_y rfl rfl rfl (Y_fa ly83 rfl rfl rfl) ?_
          refine S_y rfl rfl rfl (Y_ld u3 rfl rfl rfl) ?_
          refine S_run 1 rfl ?_
          refine S_enter rfl rfl rfl (E_fn rfl rfl) (load_ok (leaf := (decide (d = 0))) hsu.mol.ok) ?_
          rintro _ _ _ (⟨hle2, rfl, rfl, rfl⟩ | ⟨hle2, adN, cN, rfl, rfl, rfl⟩)
          ·try dsimp only [List.cons_append, List.nil_append]
           refine S_run 5 rfl ?_
           refine S_nil <| C_seq <| C_seq <| C_region ?_
           refine S_run 2 rfl ?_
           refine S_nil ?_
           refine C_if rfl (fun h113 => ?_) (fun h113 => ?_)
           ·refine C_seq <| C_region ?_
            refine S_nilarr elCell 83 ?_
            have hz2 := pageAt_of hz
            have hj : joinN (changeN E key d m (mset g at_ ()) (y.page : Int)).m (changeN E key d m (mset g at_ ()) (y.page : Int)).g (loadN m at_ false).2 (childI (loadN m at_ false).2 key) (changeN E key d m (mset g at_ ()) (y.page : Int)).l (decide (d = 0)) = ⟨((loadN (changeN E key d m (mset g at_ ()) (y.page : Int)).m (z.page : Int) (decide (d = 0))).1 : Int), (changeN E key d m (mset g at_ ()) (y.page : Int)).g, [], 0, 0⟩ := by unfold joinN; rw [if_pos ⟨by omega, by omega⟩, hz2]; exact if_pos hle2
            have e : (changeN E key (d + 1) m g at_) = ⟨(changeN E key d m (mset g at_ ()) (y.page : Int)).m, (changeN E key d m (mset g at_ ()) (y.page : Int)).g, [], 0, ((loadN (changeN E key d m (mset g at_ ()) (y.page : Int)).m (z.page : Int) (decide (d = 0))).1 : Int), (changeN E key d m (mset g at_ ()) (y.page : Int)).old⟩ := by rw [hup]; unfold upN; rw [if_neg (by omega)]; dsimp only; rw [hj]; exact if_pos (by dsimp only; omega)
            refine S_run 4 rfl ?_
            refine S_nil ?_
            rw [e] at hret
            first
              | exact hret (Res_tmps Try.results66 rfl rfl) ⟨adZ, cZ, adR, cR, xS, rfl, rfl, rfl⟩
              | exact hret (Res_tmps Try.results66 rfl rfl) ⟨none, 0, adR, cR, xS, rfl, rfl, rfl⟩
              | exact hret (Res_tmps Try.results66 rfl rfl) ⟨adO, cO, adP, cP, xO, rfl, rfl, rfl⟩
              | exact hret (Res_tmps Try.results66 rfl rfl) ⟨none, 0, adP, cP, none, rfl, rfl, rfl⟩
              | exact hret (Res_tmps Try.results66 rfl rfl) ⟨none, 0, adQ, cQ, xS, rfl, rfl, rfl⟩
           ·omega
          ·try dsimp only [List.cons_append, List.nil_append]
           refine S_run 5 rfl ?_
           refine S_nil <| C_seq <| C_seq <| C_region ?_
           refine S_run 2 rfl ?_
           refine S_nil ?_
           refine C_if rfl (fun h113 => ?_) (fun h113 => ?_)
           ·omega
           ·refine C_skip <| C_seq <| C_seq ?_
            refine C_draw rfl ?_
            refine C_firstp (i := 0) (W := 526) (by kernel_rfl) rfl rfl rfl rfl rfl ?_
            refine C_firstp (i := 1) (W := 524) (by kernel_rfl) rfl rfl rfl rfl rfl ?_
            refine C_firstf (i := 2) (W := 520) (by kernel_rfl) rfl rfl rfl rfl ly108 rfl rfl rfl ?_
            refine C_first (i := 3) (W := 512) (by kernel_rfl) rfl rfl rfl rfl (Y_ld u106 rfl rfl rfl) ?_
            refine C_firstp (i := 4) (W := 960) (by kernel_rfl) rfl rfl rfl rfl rfl ?_
            refine C_firstp (i := 5) (W := 960) (by kernel_rfl) rfl rfl rfl rfl rfl ?_
            refine C_firstx (i := 6) (W := 896) (by kernel_rfl) rfl rfl rfl rfl (Y_ixA rfl u79 ti83 rfl rfl rfl (by repeat constructor) rfl (by omega) hz) ?_
            rintro _ _ ⟨b121, o121, rfl, rfl⟩
            refine C_firstf (i := 7) (W := 768) (by kernel_rfl) rfl rfl rfl rfl ly83 rfl rfl rfl ?_
            refine C_first (i := 8) (W := 512) (by kernel_rfl) rfl rfl rfl rfl (Y_ld u3 rfl rfl rfl) ?_
            refine C_one (i := 9) (by kernel_rfl) rfl ?_
            refine S_y rfl rfl rfl ((Y_lk (K := fun n : Int => Value.int .i64 n) (V := fun _ : Unit => Value.bool true) (q := (z.page : Int)) rfl rfl rfl u106 (keyInt u3) ti4 (by repeat constructor)).as (v' := .bool (mget (changeN E key d m (mset g at_ ()) (y.page : Int)).g (z.page : Int)).isSome) (by cases mget (changeN E key d m (mset g at_ ()) (y.page : Int)).g (z.page : Int) <;> rfl)) ?_
            refine S_nil ?_
            refine C_done (by kernel_rfl) ?_
            refine C_cond rfl (fun h124 => ?_) (fun h124 => ?_)
            ·refine C_seq <| C_region ?_
             refine S_nilarr elCell 83 ?_
             have hz2 := pageAt_of hz
             have hj : joinN (changeN E key d m (mset g at_ ()) (y.page : Int)).m (changeN E key d m (mset g at_ ()) (y.page : Int)).g (loadN m at_ false).2 (childI (loadN m at_ false).2 key) (changeN E key d m (mset g at_ ()) (y.page : Int)).l (decide (d = 0)) = ⟨51, (changeN E key d m (mset g at_ ()) (y.page : Int)).g, [], 0, 0⟩ := by unfold joinN; rw [if_pos ⟨by omega, by omega⟩, hz2, if_neg (by omega)]; exact if_pos h124
             have e : (changeN E key (d + 1) m g at_) = ⟨(changeN E key d m (mset g at_ ()) (y.page : Int)).m, (changeN E key d m (mset g at_ ()) (y.page : Int)).g, [], 0, 51, (changeN E key d m (mset g at_ ()) (y.page : Int)).old⟩ := by rw [hup]; unfold upN; rw [if_neg (by omega)]; dsimp only; rw [hj]; exact if_pos (by dsimp only; omega)
             refine S_run 3 rfl ?_
             refine S_nil ?_
             rw [e] at hret
             first
               | exact hret (Res_tmps Try.results66 rfl rfl) ⟨adZ, cZ, adR, cR, xS, rfl, rfl, rfl⟩
               | exact hret (Res_tmps Try.results66 rfl rfl) ⟨none, 0, adR, cR, xS, rfl, rfl, rfl⟩
               | exact hret (Res_tmps Try.results66 rfl rfl) ⟨adO, cO, adP, cP, xO, rfl, rfl, rfl⟩
               | exact hret (Res_tmps Try.results66 rfl rfl) ⟨none, 0, adP, cP, none, rfl, rfl, rfl⟩
               | exact hret (Res_tmps Try.results66 rfl rfl) ⟨none, 0, adQ, cQ, xS, rfl, rfl, rfl⟩
            ·refine C_skip <| C_seq ?_
             refine C_draw rfl ?_
             refine C_firstp (i := 0) (W := 526) (by kernel_rfl) rfl rfl rfl rfl rfl ?_
             refine C_firstp (i := 1) (W := 524) (by kernel_rfl) rfl rfl rfl rfl rfl ?_
             refine C_firstf (i := 2) (W := 520) (by kernel_rfl) rfl rfl rfl rfl ly108 rfl rfl rfl ?_
             refine C_first (i := 3) (W := 512) (by kernel_rfl) rfl rfl rfl rfl (Y_ld u106 rfl rfl rfl) ?_
             refine C_firstp (i := 4) (W := 960) (by kernel_rfl) rfl rfl rfl rfl rfl ?_
             refine C_firstp (i := 5) (W := 960) (by kernel_rfl) rfl rfl rfl rfl rfl ?_
             refine C_firstx (i := 6) (W := 896) (by kernel_rfl) rfl rfl rfl rfl (Y_ixA rfl u79 ti83 rfl rfl rfl (by repeat constructor) rfl (by omega) hz) ?_
             rintro _ _ ⟨b131, o131, rfl, rfl⟩
             refine C_firstf (i := 7) (W := 768) (by kernel_rfl) rfl rfl rfl rfl ly83 rfl rfl rfl ?_
             refine C_first (i := 8) (W := 512) (by kernel_rfl) rfl rfl rfl rfl (Y_ld u3 rfl rfl rfl) ?_
             refine C_one (i := 9) (by kernel_rfl) rfl ?_
             refine S_mset (K := fun n : Int => Value.int .i64 n) (V := fun _ : Unit => Value.bool true) (q := (z.page : Int)) (v := ()) rfl rfl rfl rfl rfl rfl u106 (keyInt u3) (by repeat constructor) ?_
             refine S_nil ?_
             refine C_done (by kernel_rfl) ?_
             refine C_seq <| C_region ?_
             have hz2 := pageAt_of hz
             have hnl := hnx.2
             refine S_run 3 rfl ?_
             refine S_nil ?_
             refine C_if rfl (fun h136 => ?_) (fun h136 => ?_)
             ·refine C_region ?_
              refine S_run 2 rfl ?_
              refine S_pub (E := elCell) (ad := adN) (c := cN) (by repeat constructor) ?_
              refine S_app rfl rfl rfl rfl u79 ti83 rfl rfl rfl rfl rfl rfl (by repeat constructor) (by repeat constructor) (by omega) (by omega) (fun ad139 c139 => ?_)
              refine S_run 1 rfl ?_
              refine S_y rfl rfl rfl (Y_addi rfl rfl rfl (by omega) (by omega)) ?_
              refine S_run 2 rfl ?_
              refine S_nil <| C_seq <| C_region ?_
              first
                | (obtain ⟨FR, hFR⟩ : ∃ n, n = (childI (loadN m at_ false).2 key) := ⟨_, rfl⟩
                   obtain ⟨TO, hTO⟩ : ∃ n, n = joinK (loadN m at_ false).2 (childI (loadN m at_ false).2 key) + 1 := ⟨_, rfl⟩
                   obtain ⟨JS, hJS⟩ : ∃ q, q = (changeN E key d m (mset g at_ ()) (y.page : Int)).l ++ (loadN (changeN E key d m (mset g at_ ()) (y.page : Int)).m (z.page : Int) (decide (d = 0))).2 := ⟨_, rfl⟩
                   rw [← hJS]
                   have hj : joinN (changeN E key d m (mset g at_ ()) (y.page : Int)).m (changeN E key d m (mset g at_ ()) (y.page : Int)).g (loadN m at_ false).2 (childI (loadN m at_ false).2 key) (changeN E key d m (mset g at_ ()) (y.page : Int)).l (decide (d = 0)) = ⟨0, mset (changeN E key d m (mset g at_ ()) (y.page : Int)).g (z.page : Int) (), JS, FR, TO⟩ := by
                     rw [hFR, hTO, hJS]; unfold joinN; rw [if_pos ⟨by omega, by omega⟩, hz2, if_neg (by omega), if_neg (by rw [h124]; decide)]; exact if_pos (by omega)
                   refine S_pub (E := elCell) (ad := ad139) (c := c139) (by repeat constructor) ?_
                   refine S_as 15 rfl (show Value.int .i64 (((childI (loadN m at_ false).2 key) : Nat) : Int) = .int .i64 (FR : Int) by rw [hFR]) ?_
                   refine S_as 16 rfl (show Value.int .i64 (((joinK (loadN m at_ false).2 (childI (loadN m at_ false).2 key) : Nat) : Int) + 1) = .int .i64 (TO : Int) by rw [hTO]; rfl) ?_)
                | (obtain ⟨FR, hFR⟩ : ∃ n, n = joinK (loadN m at_ false).2 (childI (loadN m at_ false).2 key) := ⟨_, rfl⟩
                   obtain ⟨TO, hTO⟩ : ∃ n, n = (childI (loadN m at_ false).2 key) + 1 := ⟨_, rfl⟩
                   obtain ⟨JS, hJS⟩ : ∃ q, q = (loadN (changeN E key d m (mset g at_ ()) (y.page : Int)).m (z.page : Int) (decide (d = 0))).2 ++ (changeN E key d m (mset g at_ ()) (y.page : Int)).l := ⟨_, rfl⟩
                   rw [← hJS]
                   have hj : joinN (changeN E key d m (mset g at_ ()) (y.page : Int)).m (changeN E key d m (mset g at_ ()) (y.page : Int)).g (loadN m at_ false).2 (childI (loadN m at_ false).2 key) (changeN E key d m (mset g at_ ()) (y.page : Int)).l (decide (d = 0)) = ⟨0, mset (changeN E key d m (mset g at_ ()) (y.page : Int)).g (z.page : Int) (), JS, FR, TO⟩ := by
                     rw [hFR, hTO, hJS]; unfold joinN; rw [if_pos ⟨by omega, by omega⟩, hz2, if_neg (by omega), if_neg (by rw [h124]; decide)]; exact if_neg (by omega)
                   refine S_pub (E := elCell) (ad := ad144) (c := c144) (by repeat constructor) ?_
                   refine S_as 15 rfl (show Value.int .i64 ((joinK (loadN m at_ false).2 (childI (loadN m at_ false).2 key) : Nat) : Int) = .int .i64 (FR : Int) by rw [hFR]) ?_
                   refine S_as 16 rfl (show Value.int .i64 ((((childI (loadN m at_ false).2 key) : Nat) : Int) + 1) = .int .i64 (TO : Int) by rw [hTO]; rfl) ?_)
                | (obtain ⟨FR, hFR⟩ : ∃ n, n = (childI (loadN m at_ false).2 key) := ⟨_, rfl⟩
                   obtain ⟨TO, hTO⟩ : ∃ n, n = (childI (loadN m at_ false).2 key) + 1 := ⟨_, rfl⟩
                   obtain ⟨JS, hJS⟩ : ∃ q, q = (changeN E key d m (mset g at_ ()) (y.page : Int)).l := ⟨_, rfl⟩
                   rw [← hJS]
                   have hj : joinN (changeN E key d m (mset g at_ ()) (y.page : Int)).m (changeN E key d m (mset g at_ ()) (y.page : Int)).g (loadN m at_ false).2 (childI (loadN m at_ false).2 key) (changeN E key d m (mset g at_ ()) (y.page : Int)).l (decide (d = 0)) = ⟨0, (changeN E key d m (mset g at_ ()) (y.page : Int)).g, JS, FR, TO⟩ := by
                     rw [hFR, hTO, hJS]; unfold joinN; exact if_neg (by omega)
                   refine S_pub (E := elCell) (ad := adS) (c := cS) (by repeat constructor) ?_
                   refine S_as 15 rfl (show Value.int .i64 (((childI (loadN m at_ false).2 key) : Nat) : Int) = .int .i64 (FR : Int) by rw [hFR]) ?_
                   refine S_as 16 rfl (show Value.int .i64 ((((childI (loadN m at_ false).2 key) : Nat) : Int) + 1) = .int .i64 (TO : Int) by rw [hTO]; rfl) ?_)
              have hjo := joinN_ok (g := (changeN E key d m (mset g at_ ()) (y.page : Int)).g) (l := (loadN m at_ false).2) (i := (childI (loadN m at_ false).2 key)) (leaf := (decide (d = 0))) hsu.mol hsu.cells hsl
              have hjl := joinN_le (changeN E key d m (mset g at_ ()) (y.page : Int)).m (changeN E key d m (mset g at_ ()) (y.page : Int)).g (loadN m at_ false).2 (childI (loadN m at_ false).2 key) (changeN E key d m (mset g at_ ()) (y.page : Int)).l (decide (d = 0))
              rw [hj] at hjo hjl
              dsimp only at hjo hjl
              have hTOl : TO ≤ (loadN m at_ false).2.length := by omega
              have e0 := hup
              unfold upN at e0
              rw [if_neg (by omega)] at e0
              dsimp only at e0
              rw [hj] at e0
              dsimp only at e0
              rw [if_neg (by omega)] at e0
              refine S_run 3 rfl ?_
              refine S_enter rfl rfl rfl (E_fn rfl rfl) (lay_ok (leaf := (decide (d = 0))) hsu.mol (by omega) hjo.1 (by omega)) ?_
              rintro _ _ _ ⟨adY, cY, adR, cR, rfl, rfl, rfl⟩
              try dsimp only [List.cons_append, List.nil_append]
              refine S_run 5 rfl ?_
              refine S_nil <| C_seq <| C_seq <| C_region ?_
              refine S_pub (E := elCell) (ad := adY) (c := cY) (by repeat constructor) ?_
              refine S_run 2 rfl ?_
              refine S_nil ?_
              refine C_if rfl (fun h154 => ?_) (fun h154 => ?_)
              ·refine C_seq <| C_region ?_
               refine S_nilarr elCell 83 ?_
               have e := e0
               rw [if_pos (by omega)] at e
               refine S_run 4 rfl ?_
               refine S_nil ?_
               rw [e] at hret
               first
                 | exact hret (Res_tmps Try.results66 rfl rfl) ⟨adZ, cZ, adR, cR, xS, rfl, rfl, rfl⟩
                 | exact hret (Res_tmps Try.results66 rfl rfl) ⟨none, 0, adR, cR, xS, rfl, rfl, rfl⟩
                 | exact hret (Res_tmps Try.results66 rfl rfl) ⟨adO, cO, adP, cP, xO, rfl, rfl, rfl⟩
                 | exact hret (Res_tmps Try.results66 rfl rfl) ⟨none, 0, adP, cP, none, rfl, rfl, rfl⟩
                 | exact hret (Res_tmps Try.results66 rfl rfl) ⟨none, 0, adQ, cQ, xS, rfl, rfl, rfl⟩
              ·obtain ⟨i1, i2, i3, i4, i5, i6, i7⟩ := layN_props (leaf := (decide (d = 0))) hsu.mol hjo.1
               have j6 := i6 (by omega)
               have jf := i1.ok.few
               have e := e0
               rw [if_neg (by omega)] at e
               refine C_skip <| C_seq ?_
               refine C_draw rfl ?_
               refine C_firstp (i := 0) (W := 7556) (by kernel_rfl) rfl rfl rfl rfl rfl ?_
               refine C_firstp (i := 1) (W := 7556) (by kernel_rfl) rfl rfl rfl rfl rfl ?_
               refine C_firstx (i := 2) (W := 7552) (by kernel_rfl) rfl rfl rfl rfl (Y_reslice rfl u79 ti83 rfl rfl (by repeat constructor) rfl rfl ⟨_, rfl⟩ (by decide) (by omega) (by omega)) ?_
               rintro _ _ ⟨ad158, c158, rfl, rfl⟩
               rw [show ((loadN m at_ false).2.drop (0 : Int).toNat).take ((FR : Int).toNat - (0 : Int).toNat) = (loadN m at_ false).2.take FR by simp]
               refine C_firstp (i := 3) (W := 7552) (by kernel_rfl) rfl rfl rfl rfl rfl ?_
               refine C_firstp (i := 4) (W := 7616) (by kernel_rfl) rfl rfl rfl rfl rfl ?_
               refine C_firstp (i := 5) (W := 7616) (by kernel_rfl) rfl rfl rfl rfl rfl ?_
               refine C_firstx (i := 6) (W := 7552) (by kernel_rfl) rfl rfl rfl rfl (Y_reslice rfl u79 ti83 rfl rfl (by repeat constructor) rfl ⟨_, rfl⟩ rfl (by omega) (by omega) (by omega)) ?_
               rintro _ _ ⟨ad162, c162, rfl, rfl⟩
               rw [show ((loadN m at_ false).2.drop (TO : Int).toNat).take (((loadN m at_ false).2.length : Int).toNat - (TO : Int).toNat) = (loadN m at_ false).2.drop TO from List.take_of_length_le (by simp)]
               refine C_firstp (i := 9) (W := 6144) (by kernel_rfl) rfl rfl rfl rfl rfl ?_
               refine C_one (i := 7) (by kernel_rfl) rfl ?_
               refine S_lit (elSl Cell) [(ad158, c158, (loadN m at_ false).2.take FR), (adY, cY, (layN (changeN E key d m (mset g at_ ()) (y.page : Int)).m JS (decide (d = 0))).2.2), (ad162, c162, (loadN m at_ false).2.drop TO)] rfl rfl rfl rfl u129 ti79 rfl rfl rfl rfl rfl (by decide) (fun ad163 c163 => ?_)
               refine S_pub (by repeat constructor) ?_
               refine S_sls0 elCell ?_
               refine S_sls (a := ad162) (c := c162) (by repeat constructor) (by repeat constructor) ?_
               refine S_sls (a := adY) (c := cY) (by repeat constructor) (by repeat constructor) ?_
               refine S_sls (a := ad158) (c := c158) (by repeat constructor) (by repeat constructor) ?_
               refine S_nil ?_
               refine C_one (i := 8) (by kernel_rfl) rfl ?_
               refine S_enter rfl rfl rfl (E_fn rfl rfl) (concat_ok (xs := [(ad158, c158, (loadN m at_ false).2.take FR), (adY, cY, (layN (changeN E key d m (mset g at_ ()) (y.page : Int)).m JS (decide (d = 0))).2.2), (ad162, c162, (loadN m at_ false).2.drop TO)]) (by simp) (by simp only [catS, List.flatMap_cons, List.flatMap_nil, List.append_nil, List.length_append, List.length_take, List.length_drop]; omega)) ?_
               rintro _ _ _ ⟨adZ, cZ, rfl, rfl, rfl⟩
               try dsimp only [List.cons_append, List.nil_append]
               simp only [catS, List.flatMap_cons, List.flatMap_nil, List.append_nil]
               refine S_nil ?_
               refine C_firstp (i := 10) (W := 6144) (by kernel_rfl) rfl rfl rfl rfl rfl ?_
               refine C_firstp (i := 11) (W := 4096) (by kernel_rfl) rfl rfl rfl rfl rfl ?_
               refine C_firstp (i := 12) (W := 0) (by kernel_rfl) rfl rfl rfl rfl rfl ?_
               refine C_done (by kernel_rfl) ?_
               rw [e] at hret
               first
                 | exact hret (Res_tmps Try.results66 rfl rfl) ⟨adZ, cZ, adR, cR, xS, rfl, rfl, rfl⟩
                 | exact hret (Res_tmps Try.results66 rfl rfl) ⟨none, 0, adR, cR, xS, rfl, rfl, rfl⟩
                 | exact hret (Res_tmps Try.results66 rfl rfl) ⟨adO, cO, adP, cP, xO, rfl, rfl, rfl⟩
                 | exact hret (Res_tmps Try.results66 rfl rfl) ⟨none, 0, adP, cP, none, rfl, rfl, rfl⟩
                 | exact hret (Res_tmps Try.results66 rfl rfl) ⟨none, 0, adQ, cQ, xS, rfl, rfl, rfl⟩
             ·refine C_region ?_
              refine S_run 2 rfl ?_
              refine S_pub (E := elCell) (ad := adS) (c := cS) (by repeat constructor) ?_
              refine S_app rfl rfl rfl rfl u79 ti83 rfl rfl rfl rfl rfl rfl (by repeat constructor) (by repeat constructor) (by omega) (by omega) (fun ad144 c144 => ?_)
              refine S_run 3 rfl ?_
              refine S_nil <| C_seq <| C_region ?_
              first
                | (obtain ⟨FR, hFR⟩ : ∃ n, n = (childI (loadN m at_ false).2 key) := ⟨_, rfl⟩
                   obtain ⟨TO, hTO⟩ : ∃ n, n = joinK (loadN m at_ false).2 (childI (loadN m at_ false).2 key) + 1 := ⟨_, rfl⟩
                   obtain ⟨JS, hJS⟩ : ∃ q, q = (changeN E key d m (mset g at_ ()) (y.page : Int)).l ++ (loadN (changeN E key d m (mset g at_ ()) (y.page : Int)).m (z.page : Int) (decide (d = 0))).2 := ⟨_, rfl⟩
                   rw [← hJS]
                   have hj : joinN (changeN E key d m (mset g at_ ()) (y.page : Int)).m (changeN E key d m (mset g at_ ()) (y.page : Int)).g (loadN m at_ false).2 (childI (loadN m at_ false).2 key) (changeN E key d m (mset g at_ ()) (y.page : Int)).l (decide (d = 0)) = ⟨0, mset (changeN E key d m (mset g at_ ()) (y.page : Int)).g (z.page : Int) (), JS, FR, TO⟩ := by
                     rw [hFR, hTO, hJS]; unfold joinN; rw [if_pos ⟨by omega, by omega⟩, hz2, if_neg (by omega), if_neg (by rw [h124]; decide)]; exact if_pos (by omega)
                   refine S_pub (E := elCell) (ad := ad139) (c := c139) (by repeat constructor) ?_
                   refine S_as 15 rfl (show Value.int .i64 (((childI (loadN m at_ false).2 key) : Nat) : Int) = .int .i64 (FR : Int) by rw [hFR]) ?_
                   refine S_as 16 rfl (show Value.int .i64 (((joinK (loadN m at_ false).2 (childI (loadN m at_ false).2 key) : Nat) : Int) + 1) = .int .i64 (TO : Int) by rw [hTO]; rfl) ?_)
                | (obtain ⟨FR, hFR⟩ : ∃ n, n = joinK (loadN m at_ false).2 (childI (loadN m at_ false).2 key) := ⟨_, rfl⟩
                   obtain ⟨TO, hTO⟩ : ∃ n, n = (childI (loadN m at_ false).2 key) + 1 := ⟨_, rfl⟩
                   obtain ⟨JS, hJS⟩ : ∃ q, q = (loadN (changeN E key d m (mset g at_ ()) (y.page : Int)).m (z.page : Int) (decide (d = 0))).2 ++ (changeN E key d m (mset g at_ ()) (y.page : Int)).l := ⟨_, rfl⟩
                   rw [← hJS]
                   have hj : joinN (changeN E key d m (mset g at_ ()) (y.page : Int)).m (changeN E key d m (mset g at_ ()) (y.page : Int)).g (loadN m at_ false).2 (childI (loadN m at_ false).2 key) (changeN E key d m (mset g at_ ()) (y.page : Int)).l (decide (d = 0)) = ⟨0, mset (changeN E key d m (mset g at_ ()) (y.page : Int)).g (z.page : Int) (), JS, FR, TO⟩ := by
                     rw [hFR, hTO, hJS]; unfold joinN; rw [if_pos ⟨by omega, by omega⟩, hz2, if_neg (by omega), if_neg (by rw [h124]; decide)]; exact if_neg (by omega)
                   refine S_pub (E := elCell) (ad := ad144) (c := c144) (by repeat constructor) ?_
                   refine S_as 15 rfl (show Value.int .i64 ((joinK (loadN m at_ false).2 (childI (loadN m at_ false).2 key) : Nat) : Int) = .int .i64 (FR : Int) by rw [hFR]) ?_
                   refine S_as 16 rfl (show Value.int .i64 ((((childI (loadN m at_ false).2 key) : Nat) : Int) + 1) = .int .i64 (TO : Int) by rw [hTO]; rfl) ?_)
                | (obtain ⟨FR, hFR⟩ : ∃ n, n = (childI (loadN m at_ false).2 key) := ⟨_, rfl⟩
                   obtain ⟨TO, hTO⟩ : ∃ n, n = (childI (loadN m at_ false).2 key) + 1 := ⟨_, rfl⟩
                   obtain ⟨JS, hJS⟩ : ∃ q, q = (changeN E key d m (mset g at_ ()) (y.page : Int)).l := ⟨_, rfl⟩
                   rw [← hJS]
                   have hj : joinN (changeN E key d m (mset g at_ ()) (y.page : Int)).m (changeN E key d m (mset g at_ ()) (y.page : Int)).g (loadN m at_ false).2 (childI (loadN m at_ false).2 key) (changeN E key d m (mset g at_ ()) (y.page : Int)).l (decide (d = 0)) = ⟨0, (changeN E key d m (mset g at_ ()) (y.page : Int)).g, JS, FR, TO⟩ := by
                     rw [hFR, hTO, hJS]; unfold joinN; exact if_neg (by omega)
                   refine S_pub (E := elCell) (ad := adS) (c := cS) (by repeat constructor) ?_
                   refine S_as 15 rfl (show Value.int .i64 (((childI (loadN m at_ false).2 key) : Nat) : Int) = .int .i64 (FR : Int) by rw [hFR]) ?_
                   refine S_as 16 rfl (show Value.int .i64 ((((childI (loadN m at_ false).2 key) : Nat) : Int) + 1) = .int .i64 (TO : Int) by rw [hTO]; rfl) ?_)
              have hjo := joinN_ok (g := (changeN E key d m (mset g at_ ()) (y.page : Int)).g) (l := (loadN m at_ false).2) (i := (childI (loadN m at_ false).2 key)) (leaf := (decide (d = 0))) hsu.mol hsu.cells hsl
              have hjl := joinN_le (changeN E key d m (mset g at_ ()) (y.page : Int)).m (changeN E key d m (mset g at_ ()) (y.page : Int)).g (loadN m at_ false).2 (childI (loadN m at_ false).2 key) (changeN E key d m (mset g at_ ()) (y.page : Int)).l (decide (d = 0))
              rw [hj] at hjo hjl
              dsimp only at hjo hjl
              have hTOl : TO ≤ (loadN m at_ false).2.length := by omega
              have e0 := hup
              unfold upN at e0
              rw [if_neg (by omega)] at e0
              dsimp only at e0
              rw [hj] at e0
              dsimp only at e0
              rw [if_neg (by omega)] at e0
              refine S_run 3 rfl ?_
              refine S_enter rfl rfl rfl (E_fn rfl rfl) (lay_ok (leaf := (decide (d = 0))) hsu.mol (by omega) hjo.1 (by omega)) ?_
              rintro _ _ _ ⟨adY, cY, adR, cR, rfl, rfl, rfl⟩
              try dsimp only [List.cons_append, List.nil_append]
              refine S_run 5 rfl ?_
              refine S_nil <| C_seq <| C_seq <| C_region ?_
              refine S_pub (E := elCell) (ad := adY) (c := cY) (by repeat constructor) ?_
              refine S_run 2 rfl ?_
              refine S_nil ?_
              refine C_if rfl (fun h154 => ?_) (fun h154 => ?_)
              ·refine C_seq <| C_region ?_
               refine S_nilarr elCell 83 ?_
               have e := e0
               rw [if_pos (by omega)] at e
               refine S_run 4 rfl ?_
               refine S_nil ?_
               rw [e] at hret
               first
                 | exact hret (Res_tmps Try.results66 rfl rfl) ⟨adZ, cZ, adR, cR, xS, rfl, rfl, rfl⟩
                 | exact hret (Res_tmps Try.results66 rfl rfl) ⟨none, 0, adR, cR, xS, rfl, rfl, rfl⟩
                 | exact hret (Res_tmps Try.results66 rfl rfl) ⟨adO, cO, adP, cP, xO, rfl, rfl, rfl⟩
                 | exact hret (Res_tmps Try.results66 rfl rfl) ⟨none, 0, adP, cP, none, rfl, rfl, rfl⟩
                 | exact hret (Res_tmps Try.results66 rfl rfl) ⟨none, 0, adQ, cQ, xS, rfl, rfl, rfl⟩
              ·obtain ⟨i1, i2, i3, i4, i5, i6, i7⟩ := layN_props (leaf := (decide (d = 0))) hsu.mol hjo.1
               have j6 := i6 (by omega)
               have jf := i1.ok.few
               have e := e0
               rw [if_neg (by omega)] at e
               refine C_skip <| C_seq ?_
               refine C_draw rfl ?_
               refine C_firstp (i := 0) (W := 7556) (by kernel_rfl) rfl rfl rfl rfl rfl ?_
               refine C_firstp (i := 1) (W := 7556) (by kernel_rfl) rfl rfl rfl rfl rfl ?_
               refine C_firstx (i := 2) (W := 7552) (by kernel_rfl) rfl rfl rfl rfl (Y_reslice rfl u79 ti83 rfl rfl (by repeat constructor) rfl rfl ⟨_, rfl⟩ (by decide) (by omega) (by omega)) ?_
               rintro _ _ ⟨ad158, c158, rfl, rfl⟩
               rw [show ((loadN m at_ false).2.drop (0 : Int).toNat).take ((FR : Int).toNat - (0 : Int).toNat) = (loadN m at_ false).2.take FR by simp]
               refine C_firstp (i := 3) (W := 7552) (by kernel_rfl) rfl rfl rfl rfl rfl ?_
               refine C_firstp (i := 4) (W := 7616) (by kernel_rfl) rfl rfl rfl rfl rfl ?_
               refine C_firstp (i := 5) (W := 7616) (by kernel_rfl) rfl rfl rfl rfl rfl ?_
               refine C_firstx (i := 6) (W := 7552) (by kernel_rfl) rfl rfl rfl rfl (Y_reslice rfl u79 ti83 rfl rfl (by repeat constructor) rfl ⟨_, rfl⟩ rfl (by omega) (by omega) (by omega)) ?_
               rintro _ _ ⟨ad162, c162, rfl, rfl⟩
               rw [show ((loadN m at_ false).2.drop (TO : Int).toNat).take (((loadN m at_ false).2.length : Int).toNat - (TO : Int).toNat) = (loadN m at_ false).2.drop TO from List.take_of_length_le (by simp)]
               refine C_firstp (i := 9) (W := 6144) (by kernel_rfl) rfl rfl rfl rfl rfl ?_
               refine C_one (i := 7) (by kernel_rfl) rfl ?_
               refine S_lit (elSl Cell) [(ad158, c158, (loadN m at_ false).2.take FR), (adY, cY, (layN (changeN E key d m (mset g at_ ()) (y.page : Int)).m JS (decide (d = 0))).2.2), (ad162, c162, (loadN m at_ false).2.drop TO)] rfl rfl rfl rfl u129 ti79 rfl rfl rfl rfl rfl (by decide) (fun ad163 c163 => ?_)
               refine S_pub (by repeat constructor) ?_
               refine S_sls0 elCell ?_
               refine S_sls (a := ad162) (c := c162) (by repeat constructor) (by repeat constructor) ?_
               refine S_sls (a := adY) (c := cY) (by repeat constructor) (by repeat constructor) ?_
               refine S_sls (a := ad158) (c := c158) (by repeat constructor) (by repeat constructor) ?_
               refine S_nil ?_
               refine C_one (i := 8) (by kernel_rfl) rfl ?_
               refine S_enter rfl rfl rfl (E_fn rfl rfl) (concat_ok (xs := [(ad158, c158, (loadN m at_ false).2.take FR), (adY, cY, (layN (changeN E key d m (mset g at_ ()) (y.page : Int)).m JS (decide (d = 0))).2.2), (ad162, c162, (loadN m at_ false).2.drop TO)]) (by simp) (by simp only [catS, List.flatMap_cons, List.flatMap_nil, List.append_nil, List.length_append, List.length_take, List.length_drop]; omega)) ?_
               rintro _ _ _ ⟨adZ, cZ, rfl, rfl, rfl⟩
               try dsimp only [List.cons_append, List.nil_append]
               simp only [catS, List.flatMap_cons, List.flatMap_nil, List.append_nil]
               refine S_nil ?_
               refine C_firstp (i := 10) (W := 6144) (by kernel_rfl) rfl rfl rfl rfl rfl ?_
               refine C_firstp (i := 11) (W := 4096) (by kernel_rfl) rfl rfl rfl rfl rfl ?_
               refine C_firstp (i := 12) (W := 0) (by kernel_rfl) rfl rfl rfl rfl rfl ?_
               refine C_done (by kernel_rfl) ?_
               rw [e] at hret
               first
                 | exact hret (Res_tmps Try.results66 rfl rfl) ⟨adZ, cZ, adR, cR, xS, rfl, rfl, rfl⟩
                 | exact hret (Res_tmps Try.results66 rfl rfl) ⟨none, 0, adR, cR, xS, rfl, rfl, rfl⟩
                 | exact hret (Res_tmps Try.results66 rfl rfl) ⟨adO, cO, adP, cP, xO, rfl, rfl, rfl⟩
                 | exact hret (Res_tmps Try.results66 rfl rfl) ⟨none, 0, adP, cP, none, rfl, rfl, rfl⟩
                 | exact hret (Res_tmps Try.results66 rfl rfl) ⟨none, 0, adQ, cQ, xS, rfl, rfl, rfl⟩
         ·refine C_as 18 rfl (show Value.int .i64 (((childI (loadN m at_ false).2 key) : Int) + 1) = .int .i64 ((joinK (loadN m at_ false).2 (childI (loadN m at_ false).2 key) : Nat) : Int) by congr 1; unfold joinK; rw [if_neg (by omega)]; rfl) ?_
          refine C_skip <| C_seq <| C_region ?_
          refine S_run 3 rfl ?_
          have hjk : joinK (loadN m at_ false).2 (childI (loadN m at_ false).2 key) < (loadN m at_ false).2.length := by unfold joinK; split <;> omega
          obtain ⟨z, hz⟩ : ∃ z, (loadN m at_ false).2[joinK (loadN m at_ false).2 (childI (loadN m at_ false).2 key)]? = some z := ⟨_, List.getElem?_eq_getElem hjk⟩
          have hnx := loadN_ok hsu.mol.ok (z.page : Int) (decide (d = 0))
          refine S_yx rfl rfl rfl (Y_ixA rfl u79 ti83 rfl rfl rfl (by repeat constructor) rfl (by omega) hz) ?_
          rintro _ _ ⟨b105, o105, rfl, rfl⟩
          refine S_y rfl rfl rfl (Y_fa ly83 rfl rfl rfl) ?_
          refine S_y rfl rfl rfl (Y_ld u3 rfl rfl rfl) ?_
          refine S_run 1 rfl ?_
          refine S_enter rfl rfl rfl (E_fn rfl rfl) (load_ok (leaf := (decide (d = 0))) hsu.mol.ok) ?_
          rintro _ _ _ (⟨hle2, rfl, rfl, rfl⟩ | ⟨hle2, adN, cN, rfl, rfl, rfl⟩)
          ·try dsimp only [List.cons_append, List.nil_append]
           refine S_run 5 rfl ?_
           refine S_nil <| C_seq <| C_seq <| C_region ?_
           refine S_run 2 rfl ?_
           refine S_nil ?_
           refine C_if rfl (fun h113 => ?_) (fun h113 => ?_)
           ·refine C_seq <| C_region ?_
            refine S_nilarr elCell 83 ?_
            have hz2 := pageAt_of hz
            have hj : joinN (changeN E key d m (mset g at_ ()) (y.page : Int)).m (changeN E key d m (mset g at_ ()) (y.page : Int)).g (loadN m at_ false).2 (childI (loadN m at_ false).2 key) (changeN E key d m (mset g at_ ()) (y.page : Int)).l (decide (d = 0)) = ⟨((loadN (changeN E key d m (mset g at_ ()) (y.page : Int)).m (z.page : Int) (decide (d = 0))).1 : Int), (changeN E key d m (mset g at_ ()) (y.page : Int)).g, [], 0, 0⟩ := by unfold joinN; rw [if_pos ⟨by omega, by omega⟩, hz2]; exact if_pos hle2
            have e : (changeN E key (d + 1) m g at_) = ⟨(changeN E key d m (mset g at_ ()) (y.page : Int)).m, (changeN E key d m (mset g at_ ()) (y.page : Int)).g, [], 0, ((loadN (changeN E key d m (mset g at_ ()) (y.page : Int)).m (z.page : Int) (decide (d = 0))).1 : Int), (changeN E key d m (mset g at_ ()) (y.page : Int)).old⟩ := by rw [hup]; unfold upN; rw [if_neg (by omega)]; dsimp only; rw [hj]; exact if_pos (by dsimp only; omega)
            refine S_run 4 rfl ?_
            refine S_nil ?_
            rw [e] at hret
            first
              | exact hret (Res_tmps Try.results66 rfl rfl) ⟨adZ, cZ, adR, cR, xS, rfl, rfl, rfl⟩
              | exact hret (Res_tmps Try.results66 rfl rfl) ⟨none, 0, adR, cR, xS, rfl, rfl, rfl⟩
              | exact hret (Res_tmps Try.results66 rfl rfl) ⟨adO, cO, adP, cP, xO, rfl, rfl, rfl⟩
              | exact hret (Res_tmps Try.results66 rfl rfl) ⟨none, 0, adP, cP, none, rfl, rfl, rfl⟩
              | exact hret (Res_tmps Try.results66 rfl rfl) ⟨none, 0, adQ, cQ, xS, rfl, rfl, rfl⟩
           ·omega
          ·try dsimp only [List.cons_append, List.nil_append]
           refine S_run 5 rfl ?_
           refine S_nil <| C_seq <| C_seq <| C_region ?_
           refine S_run 2 rfl ?_
           refine S_nil ?_
           refine C_if rfl (fun h113 => ?_) (fun h113 => ?_)
           ·omega
           ·refine C_skip <| C_seq <| C_seq ?_
            refine C_draw rfl ?_
            refine C_firstp (i := 0) (W := 526) (by kernel_rfl) rfl rfl rfl rfl rfl ?_
            refine C_firstp (i := 1) (W := 524) (by kernel_rfl) rfl rfl rfl rfl rfl ?_
            refine C_firstf (i := 2) (W := 520) (by kernel_rfl) rfl rfl rfl rfl ly108 rfl rfl rfl ?_
            refine C_first (i := 3) (W := 512) (by kernel_rfl) rfl rfl rfl rfl (Y_ld u106 rfl rfl rfl) ?_
            refine C_firstp (i := 4) (W := 960) (by kernel_rfl) rfl rfl rfl rfl rfl ?_
            refine C_firstp (i := 5) (W := 960) (by kernel_rfl) rfl rfl rfl rfl rfl ?_
            refine C_firstx (i := 6) (W := 896) (by kernel_rfl) rfl rfl rfl rfl (Y_ixA rfl u79 ti83 rfl rfl rfl (by repeat constructor) rfl (by omega) hz) ?_
            rintro _ _ ⟨b121, o121, rfl, rfl⟩
            refine C_firstf (i := 7) (W := 768) (by kernel_rfl) rfl rfl rfl rfl ly83 rfl rfl rfl ?_
            refine C_first (i := 8) (W := 512) (by kernel_rfl) rfl rfl rfl rfl (Y_ld u3 rfl rfl rfl) ?_
            refine C_one (i := 9) (by kernel_rfl) rfl ?_
            refine S_y rfl rfl rfl ((Y_lk (K := fun n : Int => Value.int .i64 n) (V := fun _ : Unit => Value.bool true) (q := (z.page : Int)) rfl rfl rfl u106 (keyInt u3) ti4 (by repeat constructor)).as (v' := .bool (mget (changeN E key d m (mset g at_ ()) (y.page : Int)).g (z.page : Int)).isSome) (by cases mget (changeN E key d m (mset g at_ ()) (y.page : Int)).g (z.page : Int) <;> rfl)) ?_
            refine S_nil ?_
            refine C_done (by kernel_rfl) ?_
            refine C_cond rfl (fun h124 => ?_) (fun h124 => ?_)
            ·refine C_seq <| C_region ?_
             refine S_nilarr elCell 83 ?_
             have hz2 := pageAt_of hz
             have hj : joinN (changeN E key d m (mset g at_ ()) (y.page : Int)).m (changeN E key d m (mset g at_ ()) (y.page : Int)).g (loadN m at_ false).2 (childI (loadN m at_ false).2 key) (changeN E key d m (mset g at_ ()) (y.page : Int)).l (decide (d = 0)) = ⟨51, (changeN E key d m (mset g at_ ()) (y.page : Int)).g, [], 0, 0⟩ := by unfold joinN; rw [if_pos ⟨by omega, by omega⟩, hz2, if_neg (by omega)]; exact if_pos h124
             have e : (changeN E key (d + 1) m g at_) = ⟨(changeN E key d m (mset g at_ ()) (y.page : Int)).m, (changeN E key d m (mset g at_ ()) (y.page : Int)).g, [], 0, 51, (changeN E key d m (mset g at_ ()) (y.page : Int)).old⟩ := by rw [hup]; unfold upN; rw [if_neg (by omega)]; dsimp only; rw [hj]; exact if_pos (by dsimp only; omega)
             refine S_run 3 rfl ?_
             refine S_nil ?_
             rw [e] at hret
             first
               | exact hret (Res_tmps Try.results66 rfl rfl) ⟨adZ, cZ, adR, cR, xS, rfl, rfl, rfl⟩
               | exact hret (Res_tmps Try.results66 rfl rfl) ⟨none, 0, adR, cR, xS, rfl, rfl, rfl⟩
               | exact hret (Res_tmps Try.results66 rfl rfl) ⟨adO, cO, adP, cP, xO, rfl, rfl, rfl⟩
               | exact hret (Res_tmps Try.results66 rfl rfl) ⟨none, 0, adP, cP, none, rfl, rfl, rfl⟩
               | exact hret (Res_tmps Try.results66 rfl rfl) ⟨none, 0, adQ, cQ, xS, rfl, rfl, rfl⟩
            ·refine C_skip <| C_seq ?_
             refine C_draw rfl ?_
             refine C_firstp (i := 0) (W := 526) (by kernel_rfl) rfl rfl rfl rfl rfl ?_
             refine C_firstp (i := 1) (W := 524) (by kernel_rfl) rfl rfl rfl rfl rfl ?_
             refine C_firstf (i := 2) (W := 520) (by kernel_rfl) rfl rfl rfl rfl ly108 rfl rfl rfl ?_
             refine C_first (i := 3) (W := 512) (by kernel_rfl) rfl rfl rfl rfl (Y_ld u106 rfl rfl rfl) ?_
             refine C_firstp (i := 4) (W := 960) (by kernel_rfl) rfl rfl rfl rfl rfl ?_
             refine C_firstp (i := 5) (W := 960) (by kernel_rfl) rfl rfl rfl rfl rfl ?_
             refine C_firstx (i := 6) (W := 896) (by kernel_rfl) rfl rfl rfl rfl (Y_ixA rfl u79 ti83 rfl rfl rfl (by repeat constructor) rfl (by omega) hz) ?_
             rintro _ _ ⟨b131, o131, rfl, rfl⟩
             refine C_firstf (i := 7) (W := 768) (by kernel_rfl) rfl rfl rfl rfl ly83 rfl rfl rfl ?_
             refine C_first (i := 8) (W := 512) (by kernel_rfl) rfl rfl rfl rfl (Y_ld u3 rfl rfl rfl) ?_
             refine C_one (i := 9) (by kernel_rfl) rfl ?_
             refine S_mset (K := fun n : Int => Value.int .i64 n) (V := fun _ : Unit => Value.bool true) (q := (z.page : Int)) (v := ()) rfl rfl rfl rfl rfl rfl u106 (keyInt u3) (by repeat constructor) ?_
             refine S_nil ?_
             refine C_done (by kernel_rfl) ?_
             refine C_seq <| C_region ?_
             have hz2 := pageAt_of hz
             have hnl := hnx.2
             refine S_run 3 rfl ?_
             refine S_nil ?_
             refine C_if rfl (fun h136 => ?_) (fun h136 => ?_)
             ·refine C_region ?_
              refine S_run 2 rfl ?_
              refine S_pub (E := elCell) (ad := adN) (c := cN) (by repeat constructor) ?_
              refine S_app rfl rfl rfl rfl u79 ti83 rfl rfl rfl rfl rfl rfl (by repeat constructor) (by repeat constructor) (by omega) (by omega) (fun ad139 c139 => ?_)
              refine S_run 1 rfl ?_
              refine S_y rfl rfl rfl (Y_addi rfl rfl rfl (by omega) (by omega)) ?_
              refine S_run 2 rfl ?_
              refine S_nil <| C_seq <| C_region ?_
              first
                | (obtain ⟨FR, hFR⟩ : ∃ n, n = (childI (loadN m at_ false).2 key) := ⟨_, rfl⟩
                   obtain ⟨TO, hTO⟩ : ∃ n, n = joinK (loadN m at_ false).2 (childI (loadN m at_ false).2 key) + 1 := ⟨_, rfl⟩
                   obtain ⟨JS, hJS⟩ : ∃ q, q = (changeN E key d m (mset g at_ ()) (y.page : Int)).l ++ (loadN (changeN E key d m (mset g at_ ()) (y.page : Int)).m (z.page : Int) (decide (d = 0))).2 := ⟨_, rfl⟩
                   rw [← hJS]
                   have hj : joinN (changeN E key d m (mset g at_ ()) (y.page : Int)).m (changeN E key d m (mset g at_ ()) (y.page : Int)).g (loadN m at_ false).2 (childI (loadN m at_ false).2 key) (changeN E key d m (mset g at_ ()) (y.page : Int)).l (decide (d = 0)) = ⟨0, mset (changeN E key d m (mset g at_ ()) (y.page : Int)).g (z.page : Int) (), JS, FR, TO⟩ := by
                     rw [hFR, hTO, hJS]; unfold joinN; rw [if_pos ⟨by omega, by omega⟩, hz2, if_neg (by omega), if_neg (by rw [h124]; decide)]; exact if_pos (by omega)
                   refine S_pub (E := elCell) (ad := ad139) (c := c139) (by repeat constructor) ?_
                   refine S_as 15 rfl (show Value.int .i64 (((childI (loadN m at_ false).2 key) : Nat) : Int) = .int .i64 (FR : Int) by rw [hFR]) ?_
                   refine S_as 16 rfl (show Value.int .i64 (((joinK (loadN m at_ false).2 (childI (loadN m at_ false).2 key) : Nat) : Int) + 1) = .int .i64 (TO : Int) by rw [hTO]; rfl) ?_)
                | (obtain ⟨FR, hFR⟩ : ∃ n, n = joinK (loadN m at_ false).2 (childI (loadN m at_ false).2 key) := ⟨_, rfl⟩
                   obtain ⟨TO, hTO⟩ : ∃ n, n = (childI (loadN m at_ false).2 key) + 1 := ⟨_, rfl⟩
                   obtain ⟨JS, hJS⟩ : ∃ q, q = (loadN (changeN E key d m (mset g at_ ()) (y.page : Int)).m (z.page : Int) (decide (d = 0))).2 ++ (changeN E key d m (mset g at_ ()) (y.page : Int)).l := ⟨_, rfl⟩
                   rw [← hJS]
                   have hj : joinN (changeN E key d m (mset g at_ ()) (y.page : Int)).m (changeN E key d m (mset g at_ ()) (y.page : Int)).g (loadN m at_ false).2 (childI (loadN m at_ false).2 key) (changeN E key d m (mset g at_ ()) (y.page : Int)).l (decide (d = 0)) = ⟨0, mset (changeN E key d m (mset g at_ ()) (y.page : Int)).g (z.page : Int) (), JS, FR, TO⟩ := by
                     rw [hFR, hTO, hJS]; unfold joinN; rw [if_pos ⟨by omega, by omega⟩, hz2, if_neg (by omega), if_neg (by rw [h124]; decide)]; exact if_neg (by omega)
                   refine S_pub (E := elCell) (ad := ad144) (c := c144) (by repeat constructor) ?_
                   refine S_as 15 rfl (show Value.int .i64 ((joinK (loadN m at_ false).2 (childI (loadN m at_ false).2 key) : Nat) : Int) = .int .i64 (FR : Int) by rw [hFR]) ?_
                   refine S_as 16 rfl (show Value.int .i64 ((((childI (loadN m at_ false).2 key) : Nat) : Int) + 1) = .int .i64 (TO : Int) by rw [hTO]; rfl) ?_)
                | (obtain ⟨FR, hFR⟩ : ∃ n, n = (childI (loadN m at_ false).2 key) := ⟨_, rfl⟩
                   obtain ⟨TO, hTO⟩ : ∃ n, n = (childI (loadN m at_ false).2 key) + 1 := ⟨_, rfl⟩
                   obtain ⟨JS, hJS⟩ : ∃ q, q = (changeN E key d m (mset g at_ ()) (y.page : Int)).l := ⟨_, rfl⟩
                   rw [← hJS]
                   have hj : joinN (changeN E key d m (mset g at_ ()) (y.page : Int)).m (changeN E key d m (mset g at_ ()) (y.page : Int)).g (loadN m at_ false).2 (childI (loadN m at_ false).2 key) (changeN E key d m (mset g at_ ()) (y.page : Int)).l (decide (d = 0)) = ⟨0, (changeN E key d m (mset g at_ ()) (y.page : Int)).g, JS, FR, TO⟩ := by
                     rw [hFR, hTO, hJS]; unfold joinN; exact if_neg (by omega)
                   refine S_pub (E := elCell) (ad := adS) (c := cS) (by repeat constructor) ?_
                   refine S_as 15 rfl (show Value.int .i64 (((childI (loadN m at_ false).2 key) : Nat) : Int) = .int .i64 (FR : Int) by rw [hFR]) ?_
                   refine S_as 16 rfl (show Value.int .i64 ((((childI (loadN m at_ false).2 key) : Nat) : Int) + 1) = .int .i64 (TO : Int) by rw [hTO]; rfl) ?_)
              have hjo := joinN_ok (g := (changeN E key d m (mset g at_ ()) (y.page : Int)).g) (l := (loadN m at_ false).2) (i := (childI (loadN m at_ false).2 key)) (leaf := (decide (d = 0))) hsu.mol hsu.cells hsl
              have hjl := joinN_le (changeN E key d m (mset g at_ ()) (y.page : Int)).m (changeN E key d m (mset g at_ ()) (y.page : Int)).g (loadN m at_ false).2 (childI (loadN m at_ false).2 key) (changeN E key d m (mset g at_ ()) (y.page : Int)).l (decide (d = 0))
              rw [hj] at hjo hjl
              dsimp only at hjo hjl
              have hTOl : TO ≤ (loadN m at_ false).2.length := by omega
              have e0 := hup
              unfold upN at e0
              rw [if_neg (by omega)] at e0
              dsimp only at e0
              rw [hj] at e0
              dsimp only at e0
              rw [if_neg (by omega)] at e0
              refine S_run 3 rfl ?_
              refine S_enter rfl rfl rfl (E_fn rfl rfl) (lay_ok (leaf := (decide (d = 0))) hsu.mol (by omega) hjo.1 (by omega)) ?_
              rintro _ _ _ ⟨adY, cY, adR, cR, rfl, rfl, rfl⟩
              try dsimp only [List.cons_append, List.nil_append]
              refine S_run 5 rfl ?_
              refine S_nil <| C_seq <| C_seq <| C_region ?_
              refine S_pub (E := elCell) (ad := adY) (c := cY) (by repeat constructor) ?_
              refine S_run 2 rfl ?_
              refine S_nil ?_
              refine C_if rfl (fun h154 => ?_) (fun h154 => ?_)
              ·refine C_seq <| C_region ?_
               refine S_nilarr elCell 83 ?_
               have e := e0
               rw [if_pos (by omega)] at e
               refine S_run 4 rfl ?_
               refine S_nil ?_
               rw [e] at hret
               first
                 | exact hret (Res_tmps Try.results66 rfl rfl) ⟨adZ, cZ, adR, cR, xS, rfl, rfl, rfl⟩
                 | exact hret (Res_tmps Try.results66 rfl rfl) ⟨none, 0, adR, cR, xS, rfl, rfl, rfl⟩
                 | exact hret (Res_tmps Try.results66 rfl rfl) ⟨adO, cO, adP, cP, xO, rfl, rfl, rfl⟩
                 | exact hret (Res_tmps Try.results66 rfl rfl) ⟨none, 0, adP, cP, none, rfl, rfl, rfl⟩
                 | exact hret (Res_tmps Try.results66 rfl rfl) ⟨none, 0, adQ, cQ, xS, rfl, rfl, rfl⟩
              ·obtain ⟨i1, i2, i3, i4, i5, i6, i7⟩ := layN_props (leaf := (decide (d = 0))) hsu.mol hjo.1
               have j6 := i6 (by omega)
               have jf := i1.ok.few
               have e := e0
               rw [if_neg (by omega)] at e
               refine C_skip <| C_seq ?_
               refine C_draw rfl ?_
               refine C_firstp (i := 0) (W := 7556) (by kernel_rfl) rfl rfl rfl rfl rfl ?_
               refine C_firstp (i := 1) (W := 7556) (by kernel_rfl) rfl rfl rfl rfl rfl ?_
               refine C_firstx (i := 2) (W := 7552) (by kernel_rfl) rfl rfl rfl rfl (Y_reslice rfl u79 ti83 rfl rfl (by repeat constructor) rfl rfl ⟨_, rfl⟩ (by decide) (by omega) (by omega)) ?_
               rintro _ _ ⟨ad158, c158, rfl, rfl⟩
               rw [show ((loadN m at_ false).2.drop (0 : Int).toNat).take ((FR : Int).toNat - (0 : Int).toNat) = (loadN m at_ false).2.take FR by simp]
               refine C_firstp (i := 3) (W := 7552) (by kernel_rfl) rfl rfl rfl rfl rfl ?_
               refine C_firstp (i := 4) (W := 7616) (by kernel_rfl) rfl rfl rfl rfl rfl ?_
               refine C_firstp (i := 5) (W := 7616) (by kernel_rfl) rfl rfl rfl rfl rfl ?_
               refine C_firstx (i := 6) (W := 7552) (by kernel_rfl) rfl rfl rfl rfl (Y_reslice rfl u79 ti83 rfl rfl (by repeat constructor) rfl ⟨_, rfl⟩ rfl (by omega) (by omega) (by omega)) ?_
               rintro _ _ ⟨ad162, c162, rfl, rfl⟩
               rw [show ((loadN m at_ false).2.drop (TO : Int).toNat).take (((loadN m at_ false).2.length : Int).toNat - (TO : Int).toNat) = (loadN m at_ false).2.drop TO from List.take_of_length_le (by simp)]
               refine C_firstp (i := 9) (W := 6144) (by kernel_rfl) rfl rfl rfl rfl rfl ?_
               refine C_one (i := 7) (by kernel_rfl) rfl ?_
               refine S_lit (elSl Cell) [(ad158, c158, (loadN m at_ false).2.take FR), (adY, cY, (layN (changeN E key d m (mset g at_ ()) (y.page : Int)).m JS (decide (d = 0))).2.2), (ad162, c162, (loadN m at_ false).2.drop TO)] rfl rfl rfl rfl u129 ti79 rfl rfl rfl rfl rfl (by decide) (fun ad163 c163 => ?_)
               refine S_pub (by repeat constructor) ?_
               refine S_sls0 elCell ?_
               refine S_sls (a := ad162) (c := c162) (by repeat constructor) (by repeat constructor) ?_
               refine S_sls (a := adY) (c := cY) (by repeat constructor) (by repeat constructor) ?_
               refine S_sls (a := ad158) (c := c158) (by repeat constructor) (by repeat constructor) ?_
               refine S_nil ?_
               refine C_one (i := 8) (by kernel_rfl) rfl ?_
               refine S_enter rfl rfl rfl (E_fn rfl rfl) (concat_ok (xs := [(ad158, c158, (loadN m at_ false).2.take FR), (adY, cY, (layN (changeN E key d m (mset g at_ ()) (y.page : Int)).m JS (decide (d = 0))).2.2), (ad162, c162, (loadN m at_ false).2.drop TO)]) (by simp) (by simp only [catS, List.flatMap_cons, List.flatMap_nil, List.append_nil, List.length_append, List.length_take, List.length_drop]; omega)) ?_
               rintro _ _ _ ⟨adZ, cZ, rfl, rfl, rfl⟩
               try dsimp only [List.cons_append, List.nil_append]
               simp only [catS, List.flatMap_cons, List.flatMap_nil, List.append_nil]
               refine S_nil ?_
               refine C_firstp (i := 10) (W := 6144) (by kernel_rfl) rfl rfl rfl rfl rfl ?_
               refine C_firstp (i := 11) (W := 4096) (by kernel_rfl) rfl rfl rfl rfl rfl ?_
               refine C_firstp (i := 12) (W := 0) (by kernel_rfl) rfl rfl rfl rfl rfl ?_
               refine C_done (by kernel_rfl) ?_
               rw [e] at hret
               first
                 | exact hret (Res_tmps Try.results66 rfl rfl) ⟨adZ, cZ, adR, cR, xS, rfl, rfl, rfl⟩
                 | exact hret (Res_tmps Try.results66 rfl rfl) ⟨none, 0, adR, cR, xS, rfl, rfl, rfl⟩
                 | exact hret (Res_tmps Try.results66 rfl rfl) ⟨adO, cO, adP, cP, xO, rfl, rfl, rfl⟩
                 | exact hret (Res_tmps Try.results66 rfl rfl) ⟨none, 0, adP, cP, none, rfl, rfl, rfl⟩
                 | exact hret (Res_tmps Try.results66 rfl rfl) ⟨none, 0, adQ, cQ, xS, rfl, rfl, rfl⟩
             ·refine C_region ?_
              refine S_run 2 rfl ?_
              refine S_pub (E := elCell) (ad := adS) (c := cS) (by repeat constructor) ?_
              refine S_app rfl rfl rfl rfl u79 ti83 rfl rfl rfl rfl rfl rfl (by repeat constructor) (by repeat constructor) (by omega) (by omega) (fun ad144 c144 => ?_)
              refine S_run 3 rfl ?_
              refine S_nil <| C_seq <| C_region ?_
              first
                | (obtain ⟨FR, hFR⟩ : ∃ n, n = (childI (loadN m at_ false).2 key) := ⟨_, rfl⟩
                   obtain ⟨TO, hTO⟩ : ∃ n, n = joinK (loadN m at_ false).2 (childI (loadN m at_ false).2 key) + 1 := ⟨_, rfl⟩
                   obtain ⟨JS, hJS⟩ : ∃ q, q = (changeN E key d m (mset g at_ ()) (y.page : Int)).l ++ (loadN (changeN E key d m (mset g at_ ()) (y.page : Int)).m (z.page : Int) (decide (d = 0))).2 := ⟨_, rfl⟩
                   rw [← hJS]
                   have hj : joinN (changeN E key d m (mset g at_ ()) (y.page : Int)).m (changeN E key d m (mset g at_ ()) (y.page : Int)).g (loadN m at_ false).2 (childI (loadN m at_ false).2 key) (changeN E key d m (mset g at_ ()) (y.page : Int)).l (decide (d = 0)) = ⟨0, mset (changeN E key d m (mset g at_ ()) (y.page : Int)).g (z.page : Int) (), JS, FR, TO⟩ := by
                     rw [hFR, hTO, hJS]; unfold joinN; rw [if_pos ⟨by omega, by omega⟩, hz2, if_neg (by omega), if_neg (by rw [h124]; decide)]; exact if_pos (by omega)
                   refine S_pub (E := elCell) (ad := ad139) (c := c139) (by repeat constructor) ?_
                   refine S_as 15 rfl (show Value.int .i64 (((childI (loadN m at_ false).2 key) : Nat) : Int) = .int .i64 (FR : Int) by rw [hFR]) ?_
                   refine S_as 16 rfl (show Value.int .i64 (((joinK (loadN m at_ false).2 (childI (loadN m at_ false).2 key) : Nat) : Int) + 1) = .int .i64 (TO : Int) by rw [hTO]; rfl) ?_)
                | (obtain ⟨FR, hFR⟩ : ∃ n, n = joinK (loadN m at_ false).2 (childI (loadN m at_ false).2 key) := ⟨_, rfl⟩
                   obtain ⟨TO, hTO⟩ : ∃ n, n = (childI (loadN m at_ false).2 key) + 1 := ⟨_, rfl⟩
                   obtain ⟨JS, hJS⟩ : ∃ q, q = (loadN (changeN E key d m (mset g at_ ()) (y.page : Int)).m (z.page : Int) (decide (d = 0))).2 ++ (changeN E key d m (mset g at_ ()) (y.page : Int)).l := ⟨_, rfl⟩
                   rw [← hJS]
                   have hj : joinN (changeN E key d m (mset g at_ ()) (y.page : Int)).m (changeN E key d m (mset g at_ ()) (y.page : Int)).g (loadN m at_ false).2 (childI (loadN m at_ false).2 key) (changeN E key d m (mset g at_ ()) (y.page : Int)).l (decide (d = 0)) = ⟨0, mset (changeN E key d m (mset g at_ ()) (y.page : Int)).g (z.page : Int) (), JS, FR, TO⟩ := by
                     rw [hFR, hTO, hJS]; unfold joinN; rw [if_pos ⟨by omega, by omega⟩, hz2, if_neg (by omega), if_neg (by rw [h124]; decide)]; exact if_neg (by omega)
                   refine S_pub (E := elCell) (ad := ad144) (c := c144) (by repeat constructor) ?_
                   refine S_as 15 rfl (show Value.int .i64 ((joinK (loadN m at_ false).2 (childI (loadN m at_ false).2 key) : Nat) : Int) = .int .i64 (FR : Int) by rw [hFR]) ?_
                   refine S_as 16 rfl (show Value.int .i64 ((((childI (loadN m at_ false).2 key) : Nat) : Int) + 1) = .int .i64 (TO : Int) by rw [hTO]; rfl) ?_)
                | (obtain ⟨FR, hFR⟩ : ∃ n, n = (childI (loadN m at_ false).2 key) := ⟨_, rfl⟩
                   obtain ⟨TO, hTO⟩ : ∃ n, n = (childI (loadN m at_ false).2 key) + 1 := ⟨_, rfl⟩
                   obtain ⟨JS, hJS⟩ : ∃ q, q = (changeN E key d m (mset g at_ ()) (y.page : Int)).l := ⟨_, rfl⟩
                   rw [← hJS]
                   have hj : joinN (changeN E key d m (mset g at_ ()) (y.page : Int)).m (changeN E key d m (mset g at_ ()) (y.page : Int)).g (loadN m at_ false).2 (childI (loadN m at_ false).2 key) (changeN E key d m (mset g at_ ()) (y.page : Int)).l (decide (d = 0)) = ⟨0, (changeN E key d m (mset g at_ ()) (y.page : Int)).g, JS, FR, TO⟩ := by
                     rw [hFR, hTO, hJS]; unfold joinN; exact if_neg (by omega)
                   refine S_pub (E := elCell) (ad := adS) (c := cS) (by repeat constructor) ?_
                   refine S_as 15 rfl (show Value.int .i64 (((childI (loadN m at_ false).2 key) : Nat) : Int) = .int .i64 (FR : Int) by rw [hFR]) ?_
                   refine S_as 16 rfl (show Value.int .i64 ((((childI (loadN m at_ false).2 key) : Nat) : Int) + 1) = .int .i64 (TO : Int) by rw [hTO]; rfl) ?_)
              have hjo := joinN_ok (g := (changeN E key d m (mset g at_ ()) (y.page : Int)).g) (l := (loadN m at_ false).2) (i := (childI (loadN m at_ false).2 key)) (leaf := (decide (d = 0))) hsu.mol hsu.cells hsl
              have hjl := joinN_le (changeN E key d m (mset g at_ ()) (y.page : Int)).m (changeN E key d m (mset g at_ ()) (y.page : Int)).g (loadN m at_ false).2 (childI (loadN m at_ false).2 key) (changeN E key d m (mset g at_ ()) (y.page : Int)).l (decide (d = 0))
              rw [hj] at hjo hjl
              dsimp only at hjo hjl
              have hTOl : TO ≤ (loadN m at_ false).2.length := by omega
              have e0 := hup
              unfold upN at e0
              rw [if_neg (by omega)] at e0
              dsimp only at e0
              rw [hj] at e0
              dsimp only at e0
              rw [if_neg (by omega)] at e0
              refine S_run 3 rfl ?_
              refine S_enter rfl rfl rfl (E_fn rfl rfl) (lay_ok (leaf := (decide (d = 0))) hsu.mol (by omega) hjo.1 (by omega)) ?_
              rintro _ _ _ ⟨adY, cY, adR, cR, rfl, rfl, rfl⟩
              try dsimp only [List.cons_append, List.nil_append]
              refine S_run 5 rfl ?_
              refine S_nil <| C_seq <| C_seq <| C_region ?_
              refine S_pub (E := elCell) (ad := adY) (c := cY) (by repeat constructor) ?_
              refine S_run 2 rfl ?_
              refine S_nil ?_
              refine C_if rfl (fun h154 => ?_) (fun h154 => ?_)
              ·refine C_seq <| C_region ?_
               refine S_nilarr elCell 83 ?_
               have e := e0
               rw [if_pos (by omega)] at e
               refine S_run 4 rfl ?_
               refine S_nil ?_
               rw [e] at hret
               first
                 | exact hret (Res_tmps Try.results66 rfl rfl) ⟨adZ, cZ, adR, cR, xS, rfl, rfl, rfl⟩
                 | exact hret (Res_tmps Try.results66 rfl rfl) ⟨none, 0, adR, cR, xS, rfl, rfl, rfl⟩
                 | exact hret (Res_tmps Try.results66 rfl rfl) ⟨adO, cO, adP, cP, xO, rfl, rfl, rfl⟩
                 | exact hret (Res_tmps Try.results66 rfl rfl) ⟨none, 0, adP, cP, none, rfl, rfl, rfl⟩
                 | exact hret (Res_tmps Try.results66 rfl rfl) ⟨none, 0, adQ, cQ, xS, rfl, rfl, rfl⟩
              ·obtain ⟨i1, i2, i3, i4, i5, i6, i7⟩ := layN_props (leaf := (decide (d = 0))) hsu.mol hjo.1
               have j6 := i6 (by omega)
               have jf := i1.ok.few
               have e := e0
               rw [if_neg (by omega)] at e
               refine C_skip <| C_seq ?_
               refine C_draw rfl ?_
               refine C_firstp (i := 0) (W := 7556) (by kernel_rfl) rfl rfl rfl rfl rfl ?_
               refine C_firstp (i := 1) (W := 7556) (by kernel_rfl) rfl rfl rfl rfl rfl ?_
               refine C_firstx (i := 2) (W := 7552) (by kernel_rfl) rfl rfl rfl rfl (Y_reslice rfl u79 ti83 rfl rfl (by repeat constructor) rfl rfl ⟨_, rfl⟩ (by decide) (by omega) (by omega)) ?_
               rintro _ _ ⟨ad158, c158, rfl, rfl⟩
               rw [show ((loadN m at_ false).2.drop (0 : Int).toNat).take ((FR : Int).toNat - (0 : Int).toNat) = (loadN m at_ false).2.take FR by simp]
               refine C_firstp (i := 3) (W := 7552) (by kernel_rfl) rfl rfl rfl rfl rfl ?_
               refine C_firstp (i := 4) (W := 7616) (by kernel_rfl) rfl rfl rfl rfl rfl ?_
               refine C_firstp (i := 5) (W := 7616) (by kernel_rfl) rfl rfl rfl rfl rfl ?_
               refine C_firstx (i := 6) (W := 7552) (by kernel_rfl) rfl rfl rfl rfl (Y_reslice rfl u79 ti83 rfl rfl (by repeat constructor) rfl ⟨_, rfl⟩ rfl (by omega) (by omega) (by omega)) ?_
               rintro _ _ ⟨ad162, c162, rfl, rfl⟩
               rw [show ((loadN m at_ false).2.drop (TO : Int).toNat).take (((loadN m at_ false).2.length : Int).toNat - (TO : Int).toNat) = (loadN m at_ false).2.drop TO from List.take_of_length_le (by simp)]
               refine C_firstp (i := 9) (W := 6144) (by kernel_rfl) rfl rfl rfl rfl rfl ?_
               refine C_one (i := 7) (by kernel_rfl) rfl ?_
               refine S_lit (elSl Cell) [(ad158, c158, (loadN m at_ false).2.take FR), (adY, cY, (layN (changeN E key d m (mset g at_ ()) (y.page : Int)).m JS (decide (d = 0))).2.2), (ad162, c162, (loadN m at_ false).2.drop TO)] rfl rfl rfl rfl u129 ti79 rfl rfl rfl rfl rfl (by decide) (fun ad163 c163 => ?_)
               refine S_pub (by repeat constructor) ?_
               refine S_sls0 elCell ?_
               refine S_sls (a := ad162) (c := c162) (by repeat constructor) (by repeat constructor) ?_
               refine S_sls (a := adY) (c := cY) (by repeat constructor) (by repeat constructor) ?_
               refine S_sls (a := ad158) (c := c158) (by repeat constructor) (by repeat constructor) ?_
               refine S_nil ?_
               refine C_one (i := 8) (by kernel_rfl) rfl ?_
               refine S_enter rfl rfl rfl (E_fn rfl rfl) (concat_ok (xs := [(ad158, c158, (loadN m at_ false).2.take FR), (adY, cY, (layN (changeN E key d m (mset g at_ ()) (y.page : Int)).m JS (decide (d = 0))).2.2), (ad162, c162, (loadN m at_ false).2.drop TO)]) (by simp) (by simp only [catS, List.flatMap_cons, List.flatMap_nil, List.append_nil, List.length_append, List.length_take, List.length_drop]; omega)) ?_
               rintro _ _ _ ⟨adZ, cZ, rfl, rfl, rfl⟩
               try dsimp only [List.cons_append, List.nil_append]
               simp only [catS, List.flatMap_cons, List.flatMap_nil, List.append_nil]
               refine S_nil ?_
               refine C_firstp (i := 10) (W := 6144) (by kernel_rfl) rfl rfl rfl rfl rfl ?_
               refine C_firstp (i := 11) (W := 4096) (by kernel_rfl) rfl rfl rfl rfl rfl ?_
               refine C_firstp (i := 12) (W := 0) (by kernel_rfl) rfl rfl rfl rfl rfl ?_
               refine C_done (by kernel_rfl) ?_
               rw [e] at hret
               first
                 | exact hret (Res_tmps Try.results66 rfl rfl) ⟨adZ, cZ, adR, cR, xS, rfl, rfl, rfl⟩
                 | exact hret (Res_tmps Try.results66 rfl rfl) ⟨none, 0, adR, cR, xS, rfl, rfl, rfl⟩
                 | exact hret (Res_tmps Try.results66 rfl rfl) ⟨adO, cO, adP, cP, xO, rfl, rfl, rfl⟩
                 | exact hret (Res_tmps Try.results66 rfl rfl) ⟨none, 0, adP, cP, none, rfl, rfl, rfl⟩
                 | exact hret (Res_tmps Try.results66 rfl rfl) ⟨none, 0, adQ, cQ, xS, rfl, rfl, rfl⟩
        ·refine C_skip <| C_seq <| C_region ?_
         first
           | (obtain ⟨FR, hFR⟩ : ∃ n, n = (childI (loadN m at_ false).2 key) := ⟨_, rfl⟩
              obtain ⟨TO, hTO⟩ : ∃ n, n = joinK (loadN m at_ false).2 (childI (loadN m at_ false).2 key) + 1 := ⟨_, rfl⟩
              obtain ⟨JS, hJS⟩ : ∃ q, q = (changeN E key d m (mset g at_ ()) (y.page : Int)).l ++ (loadN (changeN E key d m (mset g at_ ()) (y.page : Int)).m (z.page : Int) (decide (d = 0))).2 := ⟨_, rfl⟩
              rw [← hJS]
              have hj : joinN (changeN E key d m (mset g at_ ()) (y.page : Int)).m (changeN E key d m (mset g at_ ()) (y.page : Int)).g (loadN m at_ false).2 (childI (loadN m at_ false).2 key) (changeN E key d m (mset g at_ ()) (y.page : Int)).l (decide (d = 0)) = ⟨0, mset (changeN E key d m (mset g at_ ()) (y.page : Int)).g (z.page : Int) (), JS, FR, TO⟩ := by
                rw [hFR, hTO, hJS]; unfold joinN; rw [if_pos ⟨by omega, by omega⟩, hz2, if_neg (by omega), if_neg (by rw [h124]; decide)]; exact if_pos (by omega)
              refine S_pub (E := elCell) (ad := ad139) (c := c139) (by repeat constructor) ?_
              refine S_as 15 rfl (show Value.int .i64 (((childI (loadN m at_ false).2 key) : Nat) : Int) = .int .i64 (FR : Int) by rw [hFR]) ?_
              refine S_as 16 rfl (show Value.int .i64 (((joinK (loadN m at_ false).2 (childI (loadN m at_ false).2 key) : Nat) : Int) + 1) = .int .i64 (TO : Int) by rw [hTO]; rfl) ?_)
           | (obtain ⟨FR, hFR⟩ : ∃ n, n = joinK (loadN m at_ false).2 (childI (loadN m at_ false).2 key) := ⟨_, rfl⟩
              obtain ⟨TO, hTO⟩ : ∃ n, n = (childI (loadN m at_ false).2 key) + 1 := ⟨_, rfl⟩
              obtain ⟨JS, hJS⟩ : ∃ q, q = (loadN (changeN E key d m (mset g at_ ()) (y.page : Int)).m (z.page : Int) (decide (d = 0))).2 ++ (changeN E key d m (mset g at_ ()) (y.page : Int)).l := ⟨_, rfl⟩
              rw [← hJS]
              have hj : joinN (changeN E key d m (mset g at_ ()) (y.page : Int)).m (changeN E key d m (mset g at_ ()) (y.page : Int)).g (loadN m at_ false).2 (childI (loadN m at_ false).2 key) (changeN E key d m (mset g at_ ()) (y.page : Int)).l (decide (d = 0)) = ⟨0, mset (changeN E key d m (mset g at_ ()) (y.page : Int)).g (z.page : Int) (), JS, FR, TO⟩ := by
                rw [hFR, hTO, hJS]; unfold joinN; rw [if_pos ⟨by omega, by omega⟩, hz2, if_neg (by omega), if_neg (by rw [h124]; decide)]; exact if_neg (by omega)
              refine S_pub (E := elCell) (ad := ad144) (c := c144) (by repeat constructor) ?_
              refine S_as 15 rfl (show Value.int .i64 ((joinK (loadN m at_ false).2 (childI (loadN m at_ false).2 key) : Nat) : Int) = .int .i64 (FR : Int) by rw [hFR]) ?_
              refine S_as 16 rfl (show Value.int .i64 ((((childI (loadN m at_ false).2 key) : Nat) : Int) + 1) = .int .i64 (TO : Int) by rw [hTO]; rfl) ?_)
           | (obtain ⟨FR, hFR⟩ : ∃ n, n = (childI (loadN m at_ false).2 key) := ⟨_, rfl⟩
              obtain ⟨TO, hTO⟩ : ∃ n, n = (childI (loadN m at_ false).2 key) + 1 := ⟨_, rfl⟩
              obtain ⟨JS, hJS⟩ : ∃ q, q = (changeN E key d m (mset g at_ ()) (y.page : Int)).l := ⟨_, rfl⟩
              rw [← hJS]
              have hj : joinN (changeN E key d m (mset g at_ ()) (y.page : Int)).m (changeN E key d m (mset g at_ ()) (y.page : Int)).g (loadN m at_ false).2 (childI (loadN m at_ false).2 key) (changeN E key d m (mset g at_ ()) (y.page : Int)).l (decide (d = 0)) = ⟨0, (changeN E key d m (mset g at_ ()) (y.page : Int)).g, JS, FR, TO⟩ := by
                rw [hFR, hTO, hJS]; unfold joinN; exact if_neg (by omega)
              refine S_pub (E := elCell) (ad := adS) (c := cS) (by repeat constructor) ?_
              refine S_as 15 rfl (show Value.int .i64 (((childI (loadN m at_ false).2 key) : Nat) : Int) = .int .i64 (FR : Int) by rw [hFR]) ?_
              refine S_as 16 rfl (show Value.int .i64 ((((childI (loadN m at_ false).2 key) : Nat) : Int) + 1) = .int .i64 (TO : Int) by rw [hTO]; rfl) ?_)
         have hjo := joinN_ok (g := (changeN E key d m (mset g at_ ()) (y.page : Int)).g) (l := (loadN m at_ false).2) (i := (childI (loadN m at_ false).2 key)) (leaf := (decide (d = 0))) hsu.mol hsu.cells hsl
         have hjl := joinN_le (changeN E key d m (mset g at_ ()) (y.page : Int)).m (changeN E key d m (mset g at_ ()) (y.page : Int)).g (loadN m at_ false).2 (childI (loadN m at_ false).2 key) (changeN E key d m (mset g at_ ()) (y.page : Int)).l (decide (d = 0))
         rw [hj] at hjo hjl
         dsimp only at hjo hjl
         have hTOl : TO ≤ (loadN m at_ false).2.length := by omega
         have e0 := hup
         unfold upN at e0
         rw [if_neg (by omega)] at e0
         dsimp only at e0
         rw [hj] at e0
         dsimp only at e0
         rw [if_neg (by omega)] at e0
         refine S_run 3 rfl ?_
         refine S_enter rfl rfl rfl (E_fn rfl rfl) (lay_ok (leaf := (decide (d = 0))) hsu.mol (by omega) hjo.1 (by omega)) ?_
         rintro _ _ _ ⟨adY, cY, adR, cR, rfl, rfl, rfl⟩
         try dsimp only [List.cons_append, List.nil_append]
         refine S_run 5 rfl ?_
         refine S_nil <| C_seq <| C_seq <| C_region ?_
         refine S_pub (E := elCell) (ad := adY) (c := cY) (by repeat constructor) ?_
         refine S_run 2 rfl ?_
         refine S_nil ?_
         refine C_if rfl (fun h154 => ?_) (fun h154 => ?_)
         ·refine C_seq <| C_region ?_
          refine S_nilarr elCell 83 ?_
          have e := e0
          rw [if_pos (by omega)] at e
          refine S_run 4 rfl ?_
          refine S_nil ?_
          rw [e] at hret
          first
            | exact hret (Res_tmps Try.results66 rfl rfl) ⟨adZ, cZ, adR, cR, xS, rfl, rfl, rfl⟩
            | exact hret (Res_tmps Try.results66 rfl rfl) ⟨none, 0, adR, cR, xS, rfl, rfl, rfl⟩
            | exact hret (Res_tmps Try.results66 rfl rfl) ⟨adO, cO, adP, cP, xO, rfl, rfl, rfl⟩
            | exact hret (Res_tmps Try.results66 rfl rfl) ⟨none, 0, adP, cP, none, rfl, rfl, rfl⟩
            | exact hret (Res_tmps Try.results66 rfl rfl) ⟨none, 0, adQ, cQ, xS, rfl, rfl, rfl⟩
         ·obtain ⟨i1, i2, i3, i4, i5, i6, i7⟩ := layN_props (leaf := (decide (d = 0))) hsu.mol hjo.1
          have j6 := i6 (by omega)
          have jf := i1.ok.few
          have e := e0
          rw [if_neg (by omega)] at e
          refine C_skip <| C_seq ?_
          refine C_draw rfl ?_
          refine C_firstp (i := 0) (W := 7556) (by kernel_rfl) rfl rfl rfl rfl rfl ?_
          refine C_firstp (i := 1) (W := 7556) (by kernel_rfl) rfl rfl rfl rfl rfl ?_
          refine C_firstx (i := 2) (W := 7552) (by kernel_rfl) rfl rfl rfl rfl (Y_reslice rfl u79 ti83 rfl rfl (by repeat constructor) rfl rfl ⟨_, rfl⟩ (by decide) (by omega) (by omega)) ?_
          rintro _ _ ⟨ad158, c158, rfl, rfl⟩
          rw [show ((loadN m at_ false).2.drop (0 : Int).toNat).take ((FR : Int).toNat - (0 : Int).toNat) = (loadN m at_ false).2.take FR by simp]
          refine C_firstp (i := 3) (W := 7552) (by kernel_rfl) rfl rfl rfl rfl rfl ?_
          refine C_firstp (i := 4) (W := 7616) (by kernel_rfl) rfl rfl rfl rfl rfl ?_
          refine C_firstp (i := 5) (W := 7616) (by kernel_rfl) rfl rfl rfl rfl rfl ?_
          refine C_firstx (i := 6) (W := 7552) (by kernel_rfl) rfl rfl rfl rfl (Y_reslice rfl u79 ti83 rfl rfl (by repeat constructor) rfl ⟨_, rfl⟩ rfl (by omega) (by omega) (by omega)) ?_
          rintro _ _ ⟨ad162, c162, rfl, rfl⟩
          rw [show ((loadN m at_ false).2.drop (TO : Int).toNat).take (((loadN m at_ false).2.length : Int).toNat - (TO : Int).toNat) = (loadN m at_ false).2.drop TO from List.take_of_length_le (by simp)]
          refine C_firstp (i := 9) (W := 6144) (by kernel_rfl) rfl rfl rfl rfl rfl ?_
          refine C_one (i := 7) (by kernel_rfl) rfl ?_
          refine S_lit (elSl Cell) [(ad158, c158, (loadN m at_ false).2.take FR), (adY, cY, (layN (changeN E key d m (mset g at_ ()) (y.page : Int)).m JS (decide (d = 0))).2.2), (ad162, c162, (loadN m at_ false).2.drop TO)] rfl rfl rfl rfl u129 ti79 rfl rfl rfl rfl rfl (by decide) (fun ad163 c163 => ?_)
          refine S_pub (by repeat constructor) ?_
          refine S_sls0 elCell ?_
          refine S_sls (a := ad162) (c := c162) (by repeat constructor) (by repeat constructor) ?_
          refine S_sls (a := adY) (c := cY) (by repeat constructor) (by repeat constructor) ?_
          refine S_sls (a := ad158) (c := c158) (by repeat constructor) (by repeat constructor) ?_
          refine S_nil ?_
          refine C_one (i := 8) (by kernel_rfl) rfl ?_
          refine S_enter rfl rfl rfl (E_fn rfl rfl) (concat_ok (xs := [(ad158, c158, (loadN m at_ false).2.take FR), (adY, cY, (layN (changeN E key d m (mset g at_ ()) (y.page : Int)).m JS (decide (d = 0))).2.2), (ad162, c162, (loadN m at_ false).2.drop TO)]) (by simp) (by simp only [catS, List.flatMap_cons, List.flatMap_nil, List.append_nil, List.length_append, List.length_take, List.length_drop]; omega)) ?_
          rintro _ _ _ ⟨adZ, cZ, rfl, rfl, rfl⟩
          try dsimp only [List.cons_append, List.nil_append]
          simp only [catS, List.flatMap_cons, List.flatMap_nil, List.append_nil]
          refine S_nil ?_
          refine C_firstp (i := 10) (W := 6144) (by kernel_rfl) rfl rfl rfl rfl rfl ?_
          refine C_firstp (i := 11) (W := 4096) (by kernel_rfl) rfl rfl rfl rfl rfl ?_
          refine C_firstp (i := 12) (W := 0) (by kernel_rfl) rfl rfl rfl rfl rfl ?_
          refine C_done (by kernel_rfl) ?_
          rw [e] at hret
          first
            | exact hret (Res_tmps Try.results66 rfl rfl) ⟨adZ, cZ, adR, cR, xS, rfl, rfl, rfl⟩
            | exact hret (Res_tmps Try.results66 rfl rfl) ⟨none, 0, adR, cR, xS, rfl, rfl, rfl⟩
            | exact hret (Res_tmps Try.results66 rfl rfl) ⟨adO, cO, adP, cP, xO, rfl, rfl, rfl⟩
            | exact hret (Res_tmps Try.results66 rfl rfl) ⟨none, 0, adP, cP, none, rfl, rfl, rfl⟩
            | exact hret (Res_tmps Try.results66 rfl rfl) ⟨none, 0, adQ, cQ, xS, rfl, rfl, rfl⟩
       ·refine C_firstoff (i := 11) (W := 28672) (by kernel_rfl) rfl rfl rfl rfl ?_
        refine C_firstoff (i := 12) (W := 24576) (by kernel_rfl) rfl rfl rfl rfl ?_
        refine C_firstoff (i := 13) (W := 16384) (by kernel_rfl) rfl rfl rfl rfl ?_
        refine C_firstp (i := 14) (W := 0) (by kernel_rfl) rfl rfl rfl rfl rfl ?_
        refine C_done (by kernel_rfl) ?_
        refine C_cond_f rfl ?_
        refine C_skip <| C_seq <| C_region ?_
        first
          | (obtain ⟨FR, hFR⟩ : ∃ n, n = (childI (loadN m at_ false).2 key) := ⟨_, rfl⟩
             obtain ⟨TO, hTO⟩ : ∃ n, n = joinK (loadN m at_ false).2 (childI (loadN m at_ false).2 key) + 1 := ⟨_, rfl⟩
             obtain ⟨JS, hJS⟩ : ∃ q, q = (changeN E key d m (mset g at_ ()) (y.page : Int)).l ++ (loadN (changeN E key d m (mset g at_ ()) (y.page : Int)).m (z.page : Int) (decide (d = 0))).2 := ⟨_, rfl⟩
             rw [← hJS]
             have hj : joinN (changeN E key d m (mset g at_ ()) (y.page : Int)).m (changeN E key d m (mset g at_ ()) (y.page : Int)).g (loadN m at_ false).2 (childI (loadN m at_ false).2 key) (changeN E key d m (mset g at_ ()) (y.page : Int)).l (decide (d = 0)) = ⟨0, mset (changeN E key d m (mset g at_ ()) (y.page : Int)).g (z.page : Int) (), JS, FR, TO⟩ := by
               rw [hFR, hTO, hJS]; unfold joinN; rw [if_pos ⟨by omega, by omega⟩, hz2, if_neg (by omega), if_neg (by rw [h124]; decide)]; exact if_pos (by omega)
             refine S_pub (E := elCell) (ad := ad139) (c := c139) (by repeat constructor) ?_
             refine S_as 15 rfl (show Value.int .i64 (((childI (loadN m at_ false).2 key) : Nat) : Int) = .int .i64 (FR : Int) by rw [hFR]) ?_
             refine S_as 16 rfl (show Value.int .i64 (((joinK (loadN m at_ false).2 (childI (loadN m at_ false).2 key) : Nat) : Int) + 1) = .int .i64 (TO : Int) by rw [hTO]; rfl) ?_)
          | (obtain ⟨FR, hFR⟩ : ∃ n, n = joinK (loadN m at_ false).2 (childI (loadN m at_ false).2 key) := ⟨_, rfl⟩
             obtain ⟨TO, hTO⟩ : ∃ n, n = (childI (loadN m at_ false).2 key) + 1 := ⟨_, rfl⟩
             obtain ⟨JS, hJS⟩ : ∃ q, q = (loadN (changeN E key d m (mset g at_ ()) (y.page : Int)).m (z.page : Int) (decide (d = 0))).2 ++ (changeN E key d m (mset g at_ ()) (y.page : Int)).l := ⟨_, rfl⟩
             rw [← hJS]
             have hj : joinN (changeN E key d m (mset g at_ ()) (y.page : Int)).m (changeN E key d m (mset g at_ ()) (y.page : Int)).g (loadN m at_ false).2 (childI (loadN m at_ false).2 key) (changeN E key d m (mset g at_ ()) (y.page : Int)).l (decide (d = 0)) = ⟨0, mset (changeN E key d m (mset g at_ ()) (y.page : Int)).g (z.page : Int) (), JS, FR, TO⟩ := by
               rw [hFR, hTO, hJS]; unfold joinN; rw [if_pos ⟨by omega, by omega⟩, hz2, if_neg (by omega), if_neg (by rw [h124]; decide)]; exact if_neg (by omega)
             refine S_pub (E := elCell) (ad := ad144) (c := c144) (by repeat constructor) ?_
             refine S_as 15 rfl (show Value.int .i64 ((joinK (loadN m at_ false).2 (childI (loadN m at_ false).2 key) : Nat) : Int) = .int .i64 (FR : Int) by rw [hFR]) ?_
             refine S_as 16 rfl (show Value.int .i64 ((((childI (loadN m at_ false).2 key) : Nat) : Int) + 1) = .int .i64 (TO : Int) by rw [hTO]; rfl) ?_)
          | (obtain ⟨FR, hFR⟩ : ∃ n, n = (childI (loadN m at_ false).2 key) := ⟨_, rfl⟩
             obtain ⟨TO, hTO⟩ : ∃ n, n = (childI (loadN m at_ false).2 key) + 1 := ⟨_, rfl⟩
             obtain ⟨JS, hJS⟩ : ∃ q, q = (changeN E key d m (mset g at_ ()) (y.page : Int)).l := ⟨_, rfl⟩
             rw [← hJS]
             have hj : joinN (changeN E key d m (mset g at_ ()) (y.page : Int)).m (changeN E key d m (mset g at_ ()) (y.page : Int)).g (loadN m at_ false).2 (childI (loadN m at_ false).2 key) (changeN E key d m (mset g at_ ()) (y.page : Int)).l (decide (d = 0)) = ⟨0, (changeN E key d m (mset g at_ ()) (y.page : Int)).g, JS, FR, TO⟩ := by
               rw [hFR, hTO, hJS]; unfold joinN; exact if_neg (by omega)
             refine S_pub (E := elCell) (ad := adS) (c := cS) (by repeat constructor) ?_
             refine S_as 15 rfl (show Value.int .i64 (((childI (loadN m at_ false).2 key) : Nat) : Int) = .int .i64 (FR : Int) by rw [hFR]) ?_
             refine S_as 16 rfl (show Value.int .i64 ((((childI (loadN m at_ false).2 key) : Nat) : Int) + 1) = .int .i64 (TO : Int) by rw [hTO]; rfl) ?_)
        have hjo := joinN_ok (g := (changeN E key d m (mset g at_ ()) (y.page : Int)).g) (l := (loadN m at_ false).2) (i := (childI (loadN m at_ false).2 key)) (leaf := (decide (d = 0))) hsu.mol hsu.cells hsl
        have hjl := joinN_le (changeN E key d m (mset g at_ ()) (y.page : Int)).m (changeN E key d m (mset g at_ ()) (y.page : Int)).g (loadN m at_ false).2 (childI (loadN m at_ false).2 key) (changeN E key d m (mset g at_ ()) (y.page : Int)).l (decide (d = 0))
        rw [hj] at hjo hjl
        dsimp only at hjo hjl
        have hTOl : TO ≤ (loadN m at_ false).2.length := by omega
        have e0 := hup
        unfold upN at e0
        rw [if_neg (by omega)] at e0
        dsimp only at e0
        rw [hj] at e0
        dsimp only at e0
        rw [if_neg (by omega)] at e0
        refine S_run 3 rfl ?_
        refine S_enter rfl rfl rfl (E_fn rfl rfl) (lay_ok (leaf := (decide (d = 0))) hsu.mol (by omega) hjo.1 (by omega)) ?_
        rintro _ _ _ ⟨adY, cY, adR, cR, rfl, rfl, rfl⟩
        try dsimp only [List.cons_append, List.nil_append]
        refine S_run 5 rfl ?_
        refine S_nil <| C_seq <| C_seq <| C_region ?_
        refine S_pub (E := elCell) (ad := adY) (c := cY) (by repeat constructor) ?_
        refine S_run 2 rfl ?_
        refine S_nil ?_
        refine C_if rfl (fun h154 => ?_) (fun h154 => ?_)
        ·refine C_seq <| C_region ?_
         refine S_nilarr elCell 83 ?_
         have e := e0
         rw [if_pos (by omega)] at e
         refine S_run 4 rfl ?_
         refine S_nil ?_
         rw [e] at hret
         first
           | exact hret (Res_tmps Try.results66 rfl rfl) ⟨adZ, cZ, adR, cR, xS, rfl, rfl, rfl⟩
           | exact hret (Res_tmps Try.results66 rfl rfl) ⟨none, 0, adR, cR, xS, rfl, rfl, rfl⟩
           | exact hret (Res_tmps Try.results66 rfl rfl) ⟨adO, cO, adP, cP, xO, rfl, rfl, rfl⟩
           | exact hret (Res_tmps Try.results66 rfl rfl) ⟨none, 0, adP, cP, none, rfl, rfl, rfl⟩
           | exact hret (Res_tmps Try.results66 rfl rfl) ⟨none, 0, adQ, cQ, xS, rfl, rfl, rfl⟩
        ·obtain ⟨i1, i2, i3, i4, i5, i6, i7⟩ := layN_props (leaf := (decide (d = 0))) hsu.mol hjo.1
         have j6 := i6 (by omega)
         have jf := i1.ok.few
         have e := e0
         rw [if_neg (by omega)] at e
         refine C_skip <| C_seq ?_
         refine C_draw rfl ?_
         refine C_firstp (i := 0) (W := 7556) (by kernel_rfl) rfl rfl rfl rfl rfl ?_
         refine C_firstp (i := 1) (W := 7556) (by kernel_rfl) rfl rfl rfl rfl rfl ?_
         refine C_firstx (i := 2) (W := 7552) (by kernel_rfl) rfl rfl rfl rfl (Y_reslice rfl u79 ti83 rfl rfl (by repeat constructor) rfl rfl ⟨_, rfl⟩ (by decide) (by omega) (by omega)) ?_
         rintro _ _ ⟨ad158, c158, rfl, rfl⟩
         rw [show ((loadN m at_ false).2.drop (0 : Int).toNat).take ((FR : Int).toNat - (0 : Int).toNat) = (loadN m at_ false).2.take FR by simp]
         refine C_firstp (i := 3) (W := 7552) (by kernel_rfl) rfl rfl rfl rfl rfl ?_
         refine C_firstp (i := 4) (W := 7616) (by kernel_rfl) rfl rfl rfl rfl rfl ?_
         refine C_firstp (i := 5) (W := 7616) (by kernel_rfl) rfl rfl rfl rfl rfl ?_
         refine C_firstx (i := 6) (W := 7552) (by kernel_rfl) rfl rfl rfl rfl (Y_reslice rfl u79 ti83 rfl rfl (by repeat constructor) rfl ⟨_, rfl⟩ rfl (by omega) (by omega) (by omega)) ?_
         rintro _ _ ⟨ad162, c162, rfl, rfl⟩
         rw [show ((loadN m at_ false).2.drop (TO : Int).toNat).take (((loadN m at_ false).2.length : Int).toNat - (TO : Int).toNat) = (loadN m at_ false).2.drop TO from List.take_of_length_le (by simp)]
         refine C_firstp (i := 9) (W := 6144) (by kernel_rfl) rfl rfl rfl rfl rfl ?_
         refine C_one (i := 7) (by kernel_rfl) rfl ?_
         refine S_lit (elSl Cell) [(ad158, c158, (loadN m at_ false).2.take FR), (adY, cY, (layN (changeN E key d m (mset g at_ ()) (y.page : Int)).m JS (decide (d = 0))).2.2), (ad162, c162, (loadN m at_ false).2.drop TO)] rfl rfl rfl rfl u129 ti79 rfl rfl rfl rfl rfl (by decide) (fun ad163 c163 => ?_)
         refine S_pub (by repeat constructor) ?_
         refine S_sls0 elCell ?_
         refine S_sls (a := ad162) (c := c162) (by repeat constructor) (by repeat constructor) ?_
         refine S_sls (a := adY) (c := cY) (by repeat constructor) (by repeat constructor) ?_
         refine S_sls (a := ad158) (c := c158) (by repeat constructor) (by repeat constructor) ?_
         refine S_nil ?_
         refine C_one (i := 8) (by kernel_rfl) rfl ?_
         refine S_enter rfl rfl rfl (E_fn rfl rfl) (concat_ok (xs := [(ad158, c158, (loadN m at_ false).2.take FR), (adY, cY, (layN (changeN E key d m (mset g at_ ()) (y.page : Int)).m JS (decide (d = 0))).2.2), (ad162, c162, (loadN m at_ false).2.drop TO)]) (by simp) (by simp only [catS, List.flatMap_cons, List.flatMap_nil, List.append_nil, List.length_append, List.length_take, List.length_drop]; omega)) ?_
         rintro _ _ _ ⟨adZ, cZ, rfl, rfl, rfl⟩
         try dsimp only [List.cons_append, List.nil_append]
         simp only [catS, List.flatMap_cons, List.flatMap_nil, List.append_nil]
         refine S_nil ?_
         refine C_firstp (i := 10) (W := 6144) (by kernel_rfl) rfl rfl rfl rfl rfl ?_
         refine C_firstp (i := 11) (W := 4096) (by kernel_rfl) rfl rfl rfl rfl rfl ?_
         refine C_firstp (i := 12) (W := 0) (by kernel_rfl) rfl rfl rfl rfl rfl ?_
         refine C_done (by kernel_rfl) ?_
         rw [e] at hret
         first
           | exact hret (Res_tmps Try.results66 rfl rfl) ⟨adZ, cZ, adR, cR, xS, rfl, rfl, rfl⟩
           | exact hret (Res_tmps Try.results66 rfl rfl) ⟨none, 0, adR, cR, xS, rfl, rfl, rfl⟩
           | exact hret (Res_tmps Try.results66 rfl rfl) ⟨adO, cO, adP, cP, xO, rfl, rfl, rfl⟩
           | exact hret (Res_tmps Try.results66 rfl rfl) ⟨none, 0, adP, cP, none, rfl, rfl, rfl⟩
           | exact hret (Res_tmps Try.results66 rfl rfl) ⟨none, 0, adQ, cQ, xS, rfl, rfl, rfl⟩
end Go.Proofs.Ytlgbhceifnjdnaa
