/- Walks: WF. -/
import Derived.Test.YtlgbhceifnjdnaaPX
import Derived.Test.YtlgbhceifnjdnaaWE
import Derived.Test.YtlgbhceifnjdnaaProg
import Derived.KernelRfl
namespace Go.Proofs.Ytlgbhceifnjdnaa
open Go.KX
namespace TWF
theorem u3 : Try.prog.underlying 3 = some (.int .i64) := Try.underlying3
theorem u4 : Try.prog.underlying 4 = some (.bool) := Try.underlying4
theorem u9 : Try.prog.underlying 9 = some (.string) := Try.underlying9
theorem u79 : Try.prog.underlying 79 = some (.slice 83) := Try.underlying79
theorem ti3 : TI Try.prog 3 1 8 (.int .i64 0) := TI_of (by kernel_rfl)
theorem ti4 : TI Try.prog 4 1 1 (.bool false) := TI_of (by kernel_rfl)
theorem ti9 : TI Try.prog 9 1 16 (str []) := TI_of (by kernel_rfl)
theorem ti83 : TI Try.prog 83 4 48 (.agg #[str [], str [], .int .i64 0, .int .i64 0]) := TI_of (by kernel_rfl)
theorem ly83 : LY Try.prog 83 [(0, 1, false), (1, 1, false), (2, 1, false), (3, 1, false)] := LY_of Try.underlying83 (by kernel_rfl)
theorem bt83 : BT Try.prog 83 [(0, 1), (1, 1), (2, 1), (3, 1)] [str [], str [], .int .i64 0, .int .i64 0] := BT_of (pl := [(0, 1, false), (1, 1, false), (2, 1, false), (3, 1, false)]) Try.underlying83 (by kernel_rfl) ti83
end TWF
open TWF
set_option maxRecDepth 100000 in
theorem sum_ok {ad : Option Addr} {c : Nat} {l : List Cell} {leaf : Bool} (hc : ∀ c ∈ l, CellOK c) (hl : l.length ≤ 2000000000) : Spx Try.prog 80 #[.slice ad l.length c, .bool leaf] [SlM elCell ad c l] [] (fun v fs' own' => v = .int .i64 (sumC l leaf : Int) ∧ fs' = [] ∧ own' = []) := by
 refine Spx_of_body (fn := Try.f80) 20 Try.func80 rfl (by kernel_rfl) rfl (Nat.le_of_ble_eq_true rfl) (fun g0 Q hret hend => ?_)
 dsimp only [initL]
 refine C_seq <| C_region ?_
 refine S_run 1 rfl ?_
 refine S_nil <| C_seq <| C_seq <| C_region ?_
 refine S_run 1 rfl ?_
 refine S_y rfl rfl rfl (Y_slen rfl rfl u79) ?_
 refine S_run 1 rfl ?_
 refine S_nil <| C_block ?_
 refine C_loop (σ := Nat × Nat) (fun s => s.1 ≤ l.length ∧ s.2 = sumC (l.take s.1) leaf) (fun s => l.length - s.1)
   (fun s => [(1, .bool leaf), (4, .int .i64 (s.2 : Int)), (7, .slice ad l.length c), (8, .int .i64 (l.length : Int)), (9, .int .i64 (s.1 : Int))])
   (fun s => [SlM elCell ad c l]) (fun s => []) (0, 0) ?_ (by repeat (first | exact trivial | refine ⟨rfl, ?_⟩ | refine ⟨intE (by omega), ?_⟩)) (by repeat constructor) (by repeat constructor) ?_
 ·exact ⟨Nat.zero_le _, rfl⟩
 ·rintro J ⟨i, acc⟩ ⟨hi, hacc⟩ hJ
  dsimp only at hi hacc ⊢
  refine C_seq <| C_region ?_
  refine S_run 1 rfl ?_
  refine S_nil <| C_seq ?_
  refine C_if rfl (fun h10 => ?_) (fun h10 => ?_)
  ·refine C_skip <| C_seq <| C_block <| C_seq <| C_region ?_
   obtain ⟨y, hy⟩ : ∃ y, l[i]? = some y := ⟨_, List.getElem?_eq_getElem (by omega)⟩
   have hyo := hc y (List.mem_of_getElem? hy)
   have hyb := cellB_len (c := y) leaf
   have hyt := hyo.text
   have hyp := hyo.page
   have hys := hyo.size
   have hsl := sumC_le (l := l.take i) (fun c hm => hc c (List.mem_of_mem_take hm)) leaf
   have htl : (l.take i).length ≤ i := by simp; omega
   refine S_yx rfl rfl rfl (Y_ixA rfl u79 ti83 rfl rfl rfl (by repeat constructor) rfl (by omega) hy) ?_
   rintro _ _ ⟨b11, o11, rfl, rfl⟩
   refine S_y rfl rfl rfl (Y_ldS Try.underlying83 rfl ti83 rfl rfl) ?_
   refine S_alloc rfl rfl rfl rfl ti83 rfl (fun b6 => ?_)
   refine S_stS rfl rfl rfl ti83 rfl rfl rfl rfl (by repeat constructor) (by rfl) ?_
   refine S_nil <| C_region ?_
   refine S_run 1 rfl ?_
   refine S_y rfl rfl rfl (Y_ldS Try.underlying83 rfl ti83 rfl rfl) ?_
   refine S_run 1 rfl ?_
   refine S_enter rfl rfl rfl (E_fn rfl rfl) (bytes_ok (cl := y) (leaf := leaf) (by omega) (by omega) (by omega)) ?_
   rintro _ _ _ ⟨rfl, rfl, rfl⟩
   try dsimp only [List.cons_append, List.nil_append]
   refine S_y rfl rfl rfl ((Y_addi rfl rfl rfl (by omega) (by omega)).as (v' := .int .i64 ((acc + (cellB y leaf).length : Nat) : Int)) (by push_cast; rfl)) ?_
   refine S_run 1 rfl ?_
   refine S_nil <| C_blk <| C_region ?_
   refine S_y rfl rfl rfl (Y_addi rfl rfl rfl (by omega) (by omega)) ?_
   refine S_run 1 rfl ?_
   refine S_nil ?_
   refine hJ (i + 1, acc + (cellB y leaf).length) _ _ _ _ ⟨by show i + 1 ≤ _; omega, ?_⟩ (by show l.length - (i + 1) < l.length - i; omega) (by repeat (first | exact trivial | refine ⟨rfl, ?_⟩ | refine ⟨intE (by omega), ?_⟩)) (by repeat constructor) (by repeat constructor)
   show acc + _ = sumC (l.take (i + 1)) leaf
   rw [take_succ_snoc hy, sumC_snoc, hacc]
  ·refine C_exit rfl <| C_seq <| C_region ?_
   have hi2 : i = l.length := by omega
   subst hi2
   rw [List.take_length] at hacc
   subst hacc
   refine S_run 2 rfl ?_
   refine S_nil ?_
   exact hret (Res_tmps Try.results80 rfl rfl) ⟨rfl, rfl, rfl⟩
set_option maxRecDepth 100000 in
theorem sumO_ok {ad : Option Addr} {c : Nat} {l : List Cell} {leaf : Bool} (hc : ∀ c ∈ l, CellOK c) (hl : l.length ≤ 2000000000) : Spx Try.prog 80 #[.slice ad l.length c, .bool leaf] [] [Res.arr elCell 83 ad c l] (fun v fs' own' => v = .int .i64 (sumC l leaf : Int) ∧ fs' = [] ∧ own' = [Res.arr elCell 83 ad c l]) := by
 refine Spx_of_body (fn := Try.f80) 20 Try.func80 rfl (by kernel_rfl) rfl (Nat.le_of_ble_eq_true rfl) (fun g0 Q hret hend => ?_)
 dsimp only [initL]
 refine C_seq <| C_region ?_
 refine S_run 1 rfl ?_
 refine S_nil <| C_seq <| C_seq <| C_region ?_
 refine S_run 1 rfl ?_
 refine S_y rfl rfl rfl (Y_slen rfl rfl u79) ?_
 refine S_run 1 rfl ?_
 refine S_nil <| C_block ?_
 refine C_loop (σ := Nat × Nat) (fun s => s.1 ≤ l.length ∧ s.2 = sumC (l.take s.1) leaf) (fun s => l.length - s.1)
   (fun s => [(1, .bool leaf), (4, .int .i64 (s.2 : Int)), (7, .slice ad l.length c), (8, .int .i64 (l.length : Int)), (9, .int .i64 (s.1 : Int))])
   (fun s => []) (fun s => [Res.arr elCell 83 ad c l]) (0, 0) ?_ (by repeat (first | exact trivial | refine ⟨rfl, ?_⟩ | refine ⟨intE (by omega), ?_⟩)) (by repeat constructor) (by repeat constructor) ?_
 ·exact ⟨Nat.zero_le _, rfl⟩
 ·rintro J ⟨i, acc⟩ ⟨hi, hacc⟩ hJ
  dsimp only at hi hacc ⊢
  refine C_seq <| C_region ?_
  refine S_run 1 rfl ?_
  refine S_nil <| C_seq ?_
  refine C_if rfl (fun h10 => ?_) (fun h10 => ?_)
  ·refine C_skip <| C_seq <| C_block <| C_seq <| C_region ?_
   obtain ⟨y, hy⟩ : ∃ y, l[i]? = some y := ⟨_, List.getElem?_eq_getElem (by omega)⟩
   have hyo := hc y (List.mem_of_getElem? hy)
   have hyb := cellB_len (c := y) leaf
   have hyt := hyo.text
   have hyp := hyo.page
   have hys := hyo.size
   have hsl := sumC_le (l := l.take i) (fun c hm => hc c (List.mem_of_mem_take hm)) leaf
   have htl : (l.take i).length ≤ i := by simp; omega
   refine S_yx rfl rfl rfl (Y_ixO rfl u79 ti83 rfl rfl rfl (by repeat constructor) rfl (by omega) (by omega)) ?_
   rintro _ _ ⟨b11, rfl, rfl⟩
   refine S_y rfl rfl rfl (Y_ldAS (i := i) Try.underlying83 rfl ti83 rfl rfl (by repeat constructor) (by repeat constructor) rfl hy rfl) ?_
   refine S_alloc rfl rfl rfl rfl ti83 rfl (fun b6 => ?_)
   refine S_stS rfl rfl rfl ti83 rfl rfl rfl rfl (by repeat constructor) (by rfl) ?_
   refine S_nil <| C_region ?_
   refine S_run 1 rfl ?_
   refine S_y rfl rfl rfl (Y_ldS Try.underlying83 rfl ti83 rfl rfl) ?_
   refine S_run 1 rfl ?_
   refine S_enter rfl rfl rfl (E_fn rfl rfl) (bytes_ok (cl := y) (leaf := leaf) (by omega) (by omega) (by omega)) ?_
   rintro _ _ _ ⟨rfl, rfl, rfl⟩
   try dsimp only [List.cons_append, List.nil_append]
   refine S_y rfl rfl rfl ((Y_addi rfl rfl rfl (by omega) (by omega)).as (v' := .int .i64 ((acc + (cellB y leaf).length : Nat) : Int)) (by push_cast; rfl)) ?_
   refine S_run 1 rfl ?_
   refine S_nil <| C_blk <| C_region ?_
   refine S_y rfl rfl rfl (Y_addi rfl rfl rfl (by omega) (by omega)) ?_
   refine S_run 1 rfl ?_
   refine S_nil ?_
   refine hJ (i + 1, acc + (cellB y leaf).length) _ _ _ _ ⟨by show i + 1 ≤ _; omega, ?_⟩ (by show l.length - (i + 1) < l.length - i; omega) (by repeat (first | exact trivial | refine ⟨rfl, ?_⟩ | refine ⟨intE (by omega), ?_⟩)) (by repeat constructor) (by repeat constructor)
   show acc + _ = sumC (l.take (i + 1)) leaf
   rw [take_succ_snoc hy, sumC_snoc, hacc]
  ·refine C_exit rfl <| C_seq <| C_region ?_
   have hi2 : i = l.length := by omega
   subst hi2
   rw [List.take_length] at hacc
   subst hacc
   refine S_run 2 rfl ?_
   refine S_nil ?_
   exact hret (Res_tmps Try.results80 rfl rfl) ⟨rfl, rfl, rfl⟩
set_option maxRecDepth 100000 in
theorem loadF_ok {bm : Nat} {m : Mem} {adP : Option Addr} {cP : Nat} {bw bg : Nat} (hm : MOK m) {n : Int} : Spx Try.prog 35 #[.pointer (some ⟨bw, 0, none⟩), .int .i64 n, .bool false] [PtM bw 0 [.iface 26 (.pointer (some ⟨bm, 0, none⟩)), .map (some bg)]] [Res.blk bm (.cells (memC m adP cP) 29 (0, 0)), Res.arr elS 9 adP cP (m).pages] (fun v fs' own' => ((loadN m n false).1 ≠ 0 ∧ v = .tuple #[.slice none 0 0, .int .i64 (loadN m n false).1] ∧ fs' = [] ∧ own' = [Res.blk bm (.cells (memC m adP cP) 29 (0, 0)), Res.arr elS 9 adP cP (m).pages]) ∨ ((loadN m n false).1 = 0 ∧ ∃ ad c, v = .tuple #[.slice ad (loadN m n false).2.length c, .int .i64 0] ∧ fs' = [] ∧ own' = [Res.arr elCell 83 ad c (loadN m n false).2, Res.blk bm (.cells (memC m adP cP) 29 (0, 0)), Res.arr elS 9 adP cP (m).pages])) := by
 refine Spx_of_body (fn := Try.f35) 122 Try.func35 rfl (by kernel_rfl) rfl (Nat.le_of_ble_eq_true rfl) (fun g0 Q hret hend => ?_)
 dsimp only [initL]
 refine C_seq <| C_region ?_
 refine S_run 2 rfl ?_
 refine S_nil <| C_seq <| C_region ?_
 refine S_run 1 rfl ?_
 refine S_nil <| C_seq <| C_seq <| C_region ?_
 refine S_run 1 rfl ?_
 refine S_nil ?_
 refine C_cond_f rfl ?_
 refine C_skip <| C_seq <| C_region ?_
 refine S_run 3 rfl ?_
 have hps := pageM_small hm n (kindOf false)
 refine S_enter rfl rfl rfl (E_fn rfl rfl) (page_ok (bw := bw) (bg := bg) (kind := kindOf false) hm) ?_
 rintro _ _ _ (⟨hpe, rfl, rfl, rfl⟩ | ⟨hpe, b9, ad9, c9, rfl, rfl, rfl⟩)
 ·try dsimp only [List.cons_append, List.nil_append]
  refine S_run 5 rfl ?_
  refine S_nil <| C_seq <| C_seq <| C_region ?_
  refine S_run 2 rfl ?_
  refine S_nil ?_
  refine C_if rfl (fun h25 => ?_) (fun h25 => ?_)
  ·refine C_seq <| C_region ?_
   have e : loadN m n false = ((pageM m n (kindOf false)).1, []) := by unfold loadN; exact if_pos hpe
   refine S_run 3 rfl ?_
   refine S_nil ?_
   rw [e] at hret
   first
     | exact hret (Res_tmps Try.results35 rfl rfl) (.inr ⟨rfl, adL, cL, rfl, rfl, rfl⟩)
     | exact hret (Res_tmps Try.results35 rfl rfl) (.inl ⟨by first | decide | (dsimp only; omega), rfl, rfl, rfl⟩)
  ·omega
 ·try dsimp only [List.cons_append, List.nil_append]
  refine S_run 5 rfl ?_
  refine S_nil <| C_seq <| C_seq <| C_region ?_
  refine S_run 2 rfl ?_
  refine S_nil ?_
  refine C_if rfl (fun h25 => ?_) (fun h25 => ?_)
  ·omega
  ·refine C_skip <| C_seq <| C_region ?_
   refine S_nilarr elCell 83 ?_
   refine S_alloc rfl rfl rfl rfl ti4 rfl (fun b10 => ?_)
   refine S_st rfl rfl rfl ti4 rfl rfl rfl (by repeat constructor) (by rfl) ?_
   refine S_nil <| C_seq <| C_region ?_
   refine S_run 2 rfl ?_
   refine S_nil <| C_seq <| C_block ?_
   refine C_loop (σ := Nat × Strip × Bool × List Cell × (Option Addr × Nat) × (Option Addr × Nat)) (fun s => s.2.1.left.length ≤ s.2.1.size ∧ s.2.1.size ≤ 1000000 ∧ (s.2.2.1 = true → s.2.1.left.length < s.1 ∧ s.2.2.2.1.length + s.2.1.left.length ≤ 1000000) ∧ loadL false s.1 s.2.1 s.2.2.1 s.2.2.2.1 = (loadL false ((pageM m n (kindOf false)).2.length + 1) ⟨(pageM m n (kindOf false)).2, (pageM m n (kindOf false)).2.length, 0, 0⟩ true [])) (fun s => s.1)
     (fun s => [(2, .bool false), (6, .slice s.2.2.2.2.2.1 s.2.2.2.1.length s.2.2.2.2.2.2), (9, .pointer (some ⟨b9, 0, none⟩)), (10, .pointer (some ⟨b10, 0, none⟩)), (11, .func (.func 57) #[] #[.pointer (some ⟨b10, 0, none⟩)])])
     (fun s => [SlM elB s.2.2.2.2.1.1 s.2.2.2.2.1.2 s.2.1.left]) (fun s => [Res.blk b9 (.cells (stripC s.2.1 s.2.2.2.2.1.1 s.2.2.2.2.1.2) 134 (0, 0)), Res.blk b10 (.cells #[.bool s.2.2.1] 4 (0, 0)), Res.arr elCell 83 s.2.2.2.2.2.1 s.2.2.2.2.2.2 s.2.2.2.1, Res.blk bm (.cells (memC m adP cP) 29 (0, 0)), Res.arr elS 9 adP cP (m).pages]) ((pageM m n (kindOf false)).2.length + 1, ⟨(pageM m n (kindOf false)).2, (pageM m n (kindOf false)).2.length, 0, 0⟩, true, [], (ad9, c9), (none, 0)) ?_ (by repeat (first | exact trivial | refine ⟨rfl, ?_⟩ | refine ⟨intE (by omega), ?_⟩)) (by repeat constructor) (by repeat constructor) ?_
   ·exact ⟨Nat.le_refl _, hps, fun _ => ⟨Nat.lt_succ_self _, by simpa using hps⟩, rfl⟩
   ·rintro J ⟨fu, s, ok, acc, ⟨adS, cS⟩, ⟨adL, cL⟩⟩ ⟨h1, h2, h3, hr⟩ hJ
    dsimp only at h1 h2 h3 hr ⊢
    refine C_seq <| C_seq <| C_region ?_
    refine S_run 1 rfl ?_
    refine S_enter rfl rfl rfl (E_fn rfl rfl) smore_ok ?_
    rintro _ _ _ ⟨rfl, rfl, rfl⟩
    try dsimp only [List.cons_append, List.nil_append]
    refine S_run 2 rfl ?_
    refine S_prop 31 rfl (fun h31 => ?_) (fun h31 => ?_)
    ·refine S_y rfl rfl rfl (Y_ld u4 rfl rfl rfl) ?_
     refine S_run 1 rfl ?_
     refine S_nil ?_
     refine C_cond rfl (fun h33 => ?_) (fun h33 => ?_)
     ·subst h33
      have h3 := h3 rfl
      refine C_skip <| C_block <| C_seq <| C_region ?_
      refine S_run 1 rfl ?_
      refine S_nil <| C_seq <| C_region ?_
      refine S_run 1 rfl ?_
      have hA1 : (readT s 64).1.left.length ≤ (readT s 64).1.size := by rw [readT_size]; have := readT_left s 64; omega
      have hA2 : (readT s 64).1.size ≤ 9223372036854775807 := by rw [readT_size]; omega
      have hB1 : (readS (readT s 64).1 (numR true 0 (readT s 64).1.left)).1.left.length ≤ (readS (readT s 64).1 (numR true 0 (readT s 64).1.left)).1.size := by rw [readS_size]; have := readN_left (readT s 64).1; omega
      have hB2 : (readS (readT s 64).1 (numR true 0 (readT s 64).1.left)).1.size ≤ 9223372036854775807 := by rw [readS_size]; omega
      refine S_enter rfl rfl rfl (E_fn rfl rfl) (stext_ok (most := 64) h1 (by omega) (by decide)) ?_
      rintro _ _ _ ⟨adA, cA, rfl, rfl, rfl⟩
      try dsimp only [List.cons_append, List.nil_append]
      refine S_y rfl rfl rfl (Y_build [.const (.int .i64 0), .const (.int .i64 0), .const (str []), .tmp 35] bt83 rfl rfl rfl rfl) ?_
      refine S_alloc rfl rfl rfl rfl ti83 rfl (fun b13 => ?_)
      refine S_stS rfl rfl rfl ti83 rfl rfl rfl rfl (by repeat constructor) (by rfl) ?_
      refine S_nil <| C_seq <| C_region ?_
      refine S_run 1 rfl ?_
      refine S_enter rfl rfl rfl (E_fn rfl rfl) (small_ok (most := 1073741824) hA1 hA2 (by decide)) ?_
      rintro _ _ _ ⟨adB, cB, rfl, rfl, rfl⟩
      try dsimp only [List.cons_append, List.nil_append]
      refine S_run 3 rfl ?_
      refine S_y rfl rfl rfl (Y_fa ly83 rfl rfl rfl) ?_
      refine S_st rfl rfl rfl ti3 rfl rfl rfl (by repeat constructor) (by rfl) ?_
      refine S_run 1 rfl ?_
      refine S_nil <| C_seq <| C_region ?_
      refine S_run 2 rfl ?_
      refine S_enter rfl rfl rfl (E_val rfl rfl rfl rfl) load1_ok ?_
      rintro _ _ _ ⟨rfl, rfl⟩
      try dsimp only [List.cons_append, List.nil_append]
      refine S_nil <| C_seq <| C_block <| C_seq <| C_region ?_
      refine S_run 3 rfl ?_
      refine S_nil ?_
      refine C_cond_t rfl ?_
      refine C_region ?_
      refine S_run 1 rfl ?_
      refine S_y rfl rfl rfl (Y_fa ly83 rfl rfl rfl) ?_
      refine S_y rfl rfl rfl (Y_ld u3 rfl rfl rfl) ?_
      refine S_run 1 rfl ?_
      refine S_enter rfl rfl rfl (E_val rfl rfl rfl rfl) load1_ok ?_
      rintro _ _ _ ⟨rfl, rfl⟩
      try dsimp only [List.cons_append, List.nil_append]
      refine S_nil <| C_blk <| C_seq <| C_region ?_
      refine S_run 1 rfl ?_
      refine S_enter rfl rfl rfl (E_fn rfl rfl) sbad_ok ?_
      rintro _ _ _ ⟨rfl, rfl, rfl⟩
      try dsimp only [List.cons_append, List.nil_append]
      refine S_run 5 rfl ?_
      refine S_nil <| C_seq ?_
      refine C_draw rfl ?_
      refine C_firstp (i := 0) (W := 17179869184) (by kernel_rfl) rfl rfl rfl rfl rfl ?_
      refine C_firstp (i := 1) (W := 34359738364) (by kernel_rfl) rfl rfl rfl rfl rfl ?_
      refine C_firstp (i := 2) (W := 34359738360) (by kernel_rfl) rfl rfl rfl rfl rfl ?_
      refine C_firstp (i := 3) (W := 34359738352) (by kernel_rfl) rfl rfl rfl rfl rfl ?_
      refine C_prop 78 rfl (fun h78 => ?_) (fun h78 => ?_)
      ·refine C_firstf (i := 4) (W := 34359738336) (by kernel_rfl) rfl rfl rfl rfl ly83 rfl rfl rfl ?_
       refine C_first (i := 5) (W := 34359738304) (by kernel_rfl) rfl rfl rfl rfl (Y_ld u9 rfl rfl rfl) ?_
       refine C_first (i := 6) (W := 34359738240) (by kernel_rfl) rfl rfl rfl rfl (Y_strneq rfl rfl rfl) ?_
       refine C_firstp (i := 7) (W := 34359738112) (by kernel_rfl) rfl rfl rfl rfl rfl ?_
       refine C_prop 82 rfl (fun h82 => ?_) (fun h82 => ?_)
       ·refine C_firstoff (i := 8) (W := 34359737856) (by kernel_rfl) rfl rfl rfl rfl ?_
        refine C_firstoff (i := 9) (W := 34359737344) (by kernel_rfl) rfl rfl rfl rfl ?_
        refine C_firstoff (i := 10) (W := 34359736320) (by kernel_rfl) rfl rfl rfl rfl ?_
        refine C_firstoff (i := 11) (W := 34359734272) (by kernel_rfl) rfl rfl rfl rfl ?_
        refine C_firstoff (i := 12) (W := 34359730176) (by kernel_rfl) rfl rfl rfl rfl ?_
        refine C_firstoff (i := 13) (W := 34359721984) (by kernel_rfl) rfl rfl rfl rfl ?_
        refine C_firstoff (i := 14) (W := 34359705600) (by kernel_rfl) rfl rfl rfl rfl ?_
        refine C_firstp (i := 15) (W := 34359672832) (by kernel_rfl) rfl rfl rfl rfl rfl ?_
        refine C_firstp (i := 16) (W := 34359607296) (by kernel_rfl) rfl rfl rfl rfl rfl ?_
        refine C_firstp (i := 17) (W := 34359476224) (by kernel_rfl) rfl rfl rfl rfl rfl ?_
        refine C_firstp (i := 18) (W := 34359214080) (by kernel_rfl) rfl rfl rfl rfl rfl ?_
        refine C_first (i := 19) (W := 34358689792) (by kernel_rfl) rfl rfl rfl rfl (Y_slen rfl rfl u79) ?_
        refine C_firstp (i := 20) (W := 34357641216) (by kernel_rfl) rfl rfl rfl rfl rfl ?_
        refine C_firstp (i := 21) (W := 34355544064) (by kernel_rfl) rfl rfl rfl rfl rfl ?_
        refine C_prop 96 rfl (fun h96 => ?_) (fun h96 => ?_)
        ·refine C_firstoff (i := 22) (W := 32682016768) (by kernel_rfl) rfl rfl rfl rfl ?_
         refine C_firstoff (i := 23) (W := 32732348416) (by kernel_rfl) rfl rfl rfl rfl ?_
         refine C_firstoff (i := 24) (W := 32715571200) (by kernel_rfl) rfl rfl rfl rfl ?_
         refine C_firstoff (i := 25) (W := 32682016768) (by kernel_rfl) rfl rfl rfl rfl ?_
         refine C_firstoff (i := 26) (W := 32614907904) (by kernel_rfl) rfl rfl rfl rfl ?_
         refine C_firstoff (i := 27) (W := 32480690176) (by kernel_rfl) rfl rfl rfl rfl ?_
         refine C_firstoff (i := 28) (W := 32212254720) (by kernel_rfl) rfl rfl rfl rfl ?_
         refine C_firstoff (i := 29) (W := 33285996544) (by kernel_rfl) rfl rfl rfl rfl ?_
         refine C_firstoff (i := 30) (W := 32212254720) (by kernel_rfl) rfl rfl rfl rfl ?_
         refine C_firstoff (i := 31) (W := 30064771072) (by kernel_rfl) rfl rfl rfl rfl ?_
         refine C_firstp (i := 32) (W := 25769803776) (by kernel_rfl) rfl rfl rfl rfl rfl ?_
         refine C_firstp (i := 33) (W := 17179869184) (by kernel_rfl) rfl rfl rfl rfl rfl ?_
         refine C_one (i := 34) (by kernel_rfl) rfl ?_
         refine S_enter rfl rfl rfl (E_val rfl rfl rfl rfl) load1_ok ?_
         rintro _ _ _ ⟨rfl, rfl⟩
         try dsimp only [List.cons_append, List.nil_append]
         refine S_nil ?_
         refine C_done (by kernel_rfl) ?_
         refine C_region ?_
         refine S_run 1 rfl ?_
         refine S_y rfl rfl rfl (Y_ldS Try.underlying83 rfl ti83 rfl rfl) ?_
         first
           | refine S_lit elCell [⟨(readT s 64).2, [], (min (readS (readT s 64).1 (numR true 0 (readT s 64).1.left)).2 1073741824), 0⟩] rfl rfl rfl rfl u79 ti83 rfl rfl rfl rfl rfl (by decide) (fun ad112 c112 => ?_)
           | refine S_lit elCell [⟨(readT s 64).2, (readT (readS (readT s 64).1 (numR true 0 (readT s 64).1.left)).1 16384).2, (min (readS (readT s 64).1 (numR true 0 (readT s 64).1.left)).2 1073741824), 0⟩] rfl rfl rfl rfl u79 ti83 rfl rfl rfl rfl rfl (by decide) (fun ad112 c112 => ?_)
           | refine S_lit elCell [⟨(readT s 64).2, [], (min (readS (readT s 64).1 (numR true 0 (readT s 64).1.left)).2 1073741824), min (readS (readS (readT s 64).1 (numR true 0 (readT s 64).1.left)).1 (numR true 0 (readS (readT s 64).1 (numR true 0 (readT s 64).1.left)).1.left)).2 16384⟩] rfl rfl rfl rfl u79 ti83 rfl rfl rfl rfl rfl (by decide) (fun ad112 c112 => ?_)
         refine S_pub (by repeat constructor) ?_
         refine S_app rfl rfl rfl rfl u79 ti83 rfl rfl rfl rfl rfl rfl (by repeat constructor) (by repeat constructor) (by simp only [List.length_append, List.length_cons, List.length_nil]; omega) (by simp only [List.length_append, List.length_cons, List.length_nil]; omega) (fun ad113 c113 => ?_)
         refine S_run 1 rfl ?_
         refine S_nil <| C_blk ?_
         obtain ⟨fu, rfl⟩ : ∃ k, fu = k + 1 := ⟨fu - 1, by omega⟩
         refine hJ (fu, _, _, acc ++ [_], (_, _), (_, _)) _ _ _ _ (loadL_next ?_ hr (by omega) h1 h2 h3) (by show fu < fu + 1; omega) (by repeat (first | exact trivial | refine ⟨rfl, ?_⟩ | refine ⟨intE (by omega), ?_⟩)) (by repeat constructor) (by repeat constructor)
         simp only [Go.KX.stepC, Go.KX.stepF, Bool.false_eq_true, if_false]
         refine Prod.ext rfl (Prod.ext ?_ rfl)
         dsimp only [tailOK]
         clear hJ hret hend hr; grind
        ·refine C_firstp (i := 22) (W := 32682016768) (by kernel_rfl) rfl rfl rfl rfl rfl ?_
         refine C_firstp (i := 23) (W := 32732348416) (by kernel_rfl) rfl rfl rfl rfl rfl ?_
         refine C_first (i := 24) (W := 32715571200) (by kernel_rfl) rfl rfl rfl rfl (Y_slen rfl rfl u79) ?_
         refine C_first (i := 25) (W := 32682016768) (by kernel_rfl) rfl rfl rfl rfl (Y_subi rfl rfl rfl (by omega) (by omega)) ?_
         obtain ⟨y, hy⟩ : ∃ y, acc[acc.length - 1]? = some y := ⟨_, List.getElem?_eq_getElem (by omega)⟩
         have hlk : lastKey acc = y.key := by unfold lastKey; rw [hy]
         refine C_firstx (i := 26) (W := 32614907904) (by kernel_rfl) rfl rfl rfl rfl (Y_ixO rfl u79 ti83 rfl rfl rfl (by repeat constructor) rfl (by omega) (by omega)) ?_
         rintro _ _ ⟨b101, rfl, rfl⟩
         refine C_firstf (i := 27) (W := 32480690176) (by kernel_rfl) rfl rfl rfl rfl ly83 rfl rfl rfl ?_
         refine C_first (i := 28) (W := 32212254720) (by kernel_rfl) rfl rfl rfl rfl (Y_ldA (i := acc.length - 1) (j := 0) u9 rfl rfl rfl (by repeat constructor) (by repeat constructor) (by show _ = (acc.length - 1) * 4 + 0; omega) hy rfl) ?_
         refine C_firstf (i := 29) (W := 33285996544) (by kernel_rfl) rfl rfl rfl rfl ly83 rfl rfl rfl ?_
         refine C_first (i := 30) (W := 32212254720) (by kernel_rfl) rfl rfl rfl rfl (Y_ld u9 rfl rfl rfl) ?_
         refine C_first (i := 31) (W := 30064771072) (by kernel_rfl) rfl rfl rfl rfl (Y_strlss rfl rfl rfl) ?_
         refine C_firstp (i := 32) (W := 25769803776) (by kernel_rfl) rfl rfl rfl rfl rfl ?_
         refine C_firstp (i := 33) (W := 17179869184) (by kernel_rfl) rfl rfl rfl rfl rfl ?_
         refine C_one (i := 34) (by kernel_rfl) rfl ?_
         refine S_enter rfl rfl rfl (E_val rfl rfl rfl rfl) load1_ok ?_
         rintro _ _ _ ⟨rfl, rfl⟩
         try dsimp only [List.cons_append, List.nil_append]
         refine S_nil ?_
         refine C_done (by kernel_rfl) ?_
         refine C_region ?_
         refine S_run 1 rfl ?_
         refine S_y rfl rfl rfl (Y_ldS Try.underlying83 rfl ti83 rfl rfl) ?_
         first
           | refine S_lit elCell [⟨(readT s 64).2, [], (min (readS (readT s 64).1 (numR true 0 (readT s 64).1.left)).2 1073741824), 0⟩] rfl rfl rfl rfl u79 ti83 rfl rfl rfl rfl rfl (by decide) (fun ad112 c112 => ?_)
           | refine S_lit elCell [⟨(readT s 64).2, (readT (readS (readT s 64).1 (numR true 0 (readT s 64).1.left)).1 16384).2, (min (readS (readT s 64).1 (numR true 0 (readT s 64).1.left)).2 1073741824), 0⟩] rfl rfl rfl rfl u79 ti83 rfl rfl rfl rfl rfl (by decide) (fun ad112 c112 => ?_)
           | refine S_lit elCell [⟨(readT s 64).2, [], (min (readS (readT s 64).1 (numR true 0 (readT s 64).1.left)).2 1073741824), min (readS (readS (readT s 64).1 (numR true 0 (readT s 64).1.left)).1 (numR true 0 (readS (readT s 64).1 (numR true 0 (readT s 64).1.left)).1.left)).2 16384⟩] rfl rfl rfl rfl u79 ti83 rfl rfl rfl rfl rfl (by decide) (fun ad112 c112 => ?_)
         refine S_pub (by repeat constructor) ?_
         refine S_app rfl rfl rfl rfl u79 ti83 rfl rfl rfl rfl rfl rfl (by repeat constructor) (by repeat constructor) (by simp only [List.length_append, List.length_cons, List.length_nil]; omega) (by simp only [List.length_append, List.length_cons, List.length_nil]; omega) (fun ad113 c113 => ?_)
         refine S_run 1 rfl ?_
         refine S_nil <| C_blk ?_
         obtain ⟨fu, rfl⟩ : ∃ k, fu = k + 1 := ⟨fu - 1, by omega⟩
         refine hJ (fu, _, _, acc ++ [_], (_, _), (_, _)) _ _ _ _ (loadL_next ?_ hr (by omega) h1 h2 h3) (by show fu < fu + 1; omega) (by repeat (first | exact trivial | refine ⟨rfl, ?_⟩ | refine ⟨intE (by omega), ?_⟩)) (by repeat constructor) (by repeat constructor)
         simp only [Go.KX.stepC, Go.KX.stepF, Bool.false_eq_true, if_false]
         refine Prod.ext rfl (Prod.ext ?_ rfl)
         dsimp only [tailOK]
         clear hJ hret hend hr; grind
       ·refine C_firstp (i := 8) (W := 34359737856) (by kernel_rfl) rfl rfl rfl rfl rfl ?_
        refine C_firstp (i := 9) (W := 34359737344) (by kernel_rfl) rfl rfl rfl rfl rfl ?_
        refine C_firstp (i := 10) (W := 34359736320) (by kernel_rfl) rfl rfl rfl rfl rfl ?_
        refine C_firstp (i := 11) (W := 34359734272) (by kernel_rfl) rfl rfl rfl rfl rfl ?_
        refine C_first (i := 12) (W := 34359730176) (by kernel_rfl) rfl rfl rfl rfl (Y_slen rfl rfl u79) ?_
        refine C_firstp (i := 13) (W := 34359721984) (by kernel_rfl) rfl rfl rfl rfl rfl ?_
        refine C_firstp (i := 14) (W := 34359705600) (by kernel_rfl) rfl rfl rfl rfl rfl ?_
        refine C_firstp (i := 15) (W := 34359672832) (by kernel_rfl) rfl rfl rfl rfl rfl ?_
        refine C_firstp (i := 16) (W := 34359607296) (by kernel_rfl) rfl rfl rfl rfl rfl ?_
        refine C_firstp (i := 17) (W := 34359476224) (by kernel_rfl) rfl rfl rfl rfl rfl ?_
        refine C_prop 92 rfl (fun h92 => ?_) (fun h92 => ?_)
        ·refine C_firstp (i := 18) (W := 34359214080) (by kernel_rfl) rfl rfl rfl rfl rfl ?_
         refine C_first (i := 19) (W := 34358689792) (by kernel_rfl) rfl rfl rfl rfl (Y_slen rfl rfl u79) ?_
         refine C_firstp (i := 20) (W := 34357641216) (by kernel_rfl) rfl rfl rfl rfl rfl ?_
         refine C_firstp (i := 21) (W := 34355544064) (by kernel_rfl) rfl rfl rfl rfl rfl ?_
         refine C_prop 96 rfl (fun h96 => ?_) (fun h96 => ?_)
         ·refine C_firstoff (i := 22) (W := 32682016768) (by kernel_rfl) rfl rfl rfl rfl ?_
          refine C_firstoff (i := 23) (W := 32732348416) (by kernel_rfl) rfl rfl rfl rfl ?_
          refine C_firstoff (i := 24) (W := 32715571200) (by kernel_rfl) rfl rfl rfl rfl ?_
          refine C_firstoff (i := 25) (W := 32682016768) (by kernel_rfl) rfl rfl rfl rfl ?_
          refine C_firstoff (i := 26) (W := 32614907904) (by kernel_rfl) rfl rfl rfl rfl ?_
          refine C_firstoff (i := 27) (W := 32480690176) (by kernel_rfl) rfl rfl rfl rfl ?_
          refine C_firstoff (i := 28) (W := 32212254720) (by kernel_rfl) rfl rfl rfl rfl ?_
          refine C_firstoff (i := 29) (W := 33285996544) (by kernel_rfl) rfl rfl rfl rfl ?_
          refine C_firstoff (i := 30) (W := 32212254720) (by kernel_rfl) rfl rfl rfl rfl ?_
          refine C_firstoff (i := 31) (W := 30064771072) (by kernel_rfl) rfl rfl rfl rfl ?_
          refine C_firstp (i := 32) (W := 25769803776) (by kernel_rfl) rfl rfl rfl rfl rfl ?_
          refine C_firstp (i := 33) (W := 17179869184) (by kernel_rfl) rfl rfl rfl rfl rfl ?_
          refine C_one (i := 34) (by kernel_rfl) rfl ?_
          refine S_enter rfl rfl rfl (E_val rfl rfl rfl rfl) load1_ok ?_
          rintro _ _ _ ⟨rfl, rfl⟩
          try dsimp only [List.cons_append, List.nil_append]
          refine S_nil ?_
          refine C_done (by kernel_rfl) ?_
          refine C_region ?_
          refine S_run 1 rfl ?_
          refine S_y rfl rfl rfl (Y_ldS Try.underlying83 rfl ti83 rfl rfl) ?_
          first
            | refine S_lit elCell [⟨(readT s 64).2, [], (min (readS (readT s 64).1 (numR true 0 (readT s 64).1.left)).2 1073741824), 0⟩] rfl rfl rfl rfl u79 ti83 rfl rfl rfl rfl rfl (by decide) (fun ad112 c112 => ?_)
            | refine S_lit elCell [⟨(readT s 64).2, (readT (readS (readT s 64).1 (numR true 0 (readT s 64).1.left)).1 16384).2, (min (readS (readT s 64).1 (numR true 0 (readT s 64).1.left)).2 1073741824), 0⟩] rfl rfl rfl rfl u79 ti83 rfl rfl rfl rfl rfl (by decide) (fun ad112 c112 => ?_)
            | refine S_lit elCell [⟨(readT s 64).2, [], (min (readS (readT s 64).1 (numR true 0 (readT s 64).1.left)).2 1073741824), min (readS (readS (readT s 64).1 (numR true 0 (readT s 64).1.left)).1 (numR true 0 (readS (readT s 64).1 (numR true 0 (readT s 64).1.left)).1.left)).2 16384⟩] rfl rfl rfl rfl u79 ti83 rfl rfl rfl rfl rfl (by decide) (fun ad112 c112 => ?_)
          refine S_pub (by repeat constructor) ?_
          refine S_app rfl rfl rfl rfl u79 ti83 rfl rfl rfl rfl rfl rfl (by repeat constructor) (by repeat constructor) (by simp only [List.length_append, List.length_cons, List.length_nil]; omega) (by simp only [List.length_append, List.length_cons, List.length_nil]; omega) (fun ad113 c113 => ?_)
          refine S_run 1 rfl ?_
          refine S_nil <| C_blk ?_
          obtain ⟨fu, rfl⟩ : ∃ k, fu = k + 1 := ⟨fu - 1, by omega⟩
          refine hJ (fu, _, _, acc ++ [_], (_, _), (_, _)) _ _ _ _ (loadL_next ?_ hr (by omega) h1 h2 h3) (by show fu < fu + 1; omega) (by repeat (first | exact trivial | refine ⟨rfl, ?_⟩ | refine ⟨intE (by omega), ?_⟩)) (by repeat constructor) (by repeat constructor)
          simp only [Go.KX.stepC, Go.KX.stepF, Bool.false_eq_true, if_false]
          refine Prod.ext rfl (Prod.ext ?_ rfl)
          dsimp only [tailOK]
          clear hJ hret hend hr; grind
         ·refine C_firstp (i := 22) (W := 32682016768) (by kernel_rfl) rfl rfl rfl rfl rfl ?_
          refine C_firstp (i := 23) (W := 32732348416) (by kernel_rfl) rfl rfl rfl rfl rfl ?_
          refine C_first (i := 24) (W := 32715571200) (by kernel_rfl) rfl rfl rfl rfl (Y_slen rfl rfl u79) ?_
          refine C_first (i := 25) (W := 32682016768) (by kernel_rfl) rfl rfl rfl rfl (Y_subi rfl rfl rfl (by omega) (by omega)) ?_
          obtain ⟨y, hy⟩ : ∃ y, acc[acc.length - 1]? = some y := ⟨_, List.getElem?_eq_getElem (by omega)⟩
          have hlk : lastKey acc = y.key := by unfold lastKey; rw [hy]
          refine C_firstx (i := 26) (W := 32614907904) (by kernel_rfl) rfl rfl rfl rfl (Y_ixO rfl u79 ti83 rfl rfl rfl (by repeat constructor) rfl (by omega) (by omega)) ?_
          rintro _ _ ⟨b101, rfl, rfl⟩
          refine C_firstf (i := 27) (W := 32480690176) (by kernel_rfl) rfl rfl rfl rfl ly83 rfl rfl rfl ?_
          refine C_first (i := 28) (W := 32212254720) (by kernel_rfl) rfl rfl rfl rfl (Y_ldA (i := acc.length - 1) (j := 0) u9 rfl rfl rfl (by repeat constructor) (by repeat constructor) (by show _ = (acc.length - 1) * 4 + 0; omega) hy rfl) ?_
          refine C_firstf (i := 29) (W := 33285996544) (by kernel_rfl) rfl rfl rfl rfl ly83 rfl rfl rfl ?_
          refine C_first (i := 30) (W := 32212254720) (by kernel_rfl) rfl rfl rfl rfl (Y_ld u9 rfl rfl rfl) ?_
          refine C_first (i := 31) (W := 30064771072) (by kernel_rfl) rfl rfl rfl rfl (Y_strlss rfl rfl rfl) ?_
          refine C_firstp (i := 32) (W := 25769803776) (by kernel_rfl) rfl rfl rfl rfl rfl ?_
          refine C_firstp (i := 33) (W := 17179869184) (by kernel_rfl) rfl rfl rfl rfl rfl ?_
          refine C_one (i := 34) (by kernel_rfl) rfl ?_
          refine S_enter rfl rfl rfl (E_val rfl rfl rfl rfl) load1_ok ?_
          rintro _ _ _ ⟨rfl, rfl⟩
          try dsimp only [List.cons_append, List.nil_append]
          refine S_nil ?_
          refine C_done (by kernel_rfl) ?_
          refine C_region ?_
          refine S_run 1 rfl ?_
          refine S_y rfl rfl rfl (Y_ldS Try.underlying83 rfl ti83 rfl rfl) ?_
          first
            | refine S_lit elCell [⟨(readT s 64).2, [], (min (readS (readT s 64).1 (numR true 0 (readT s 64).1.left)).2 1073741824), 0⟩] rfl rfl rfl rfl u79 ti83 rfl rfl rfl rfl rfl (by decide) (fun ad112 c112 => ?_)
            | refine S_lit elCell [⟨(readT s 64).2, (readT (readS (readT s 64).1 (numR true 0 (readT s 64).1.left)).1 16384).2, (min (readS (readT s 64).1 (numR true 0 (readT s 64).1.left)).2 1073741824), 0⟩] rfl rfl rfl rfl u79 ti83 rfl rfl rfl rfl rfl (by decide) (fun ad112 c112 => ?_)
            | refine S_lit elCell [⟨(readT s 64).2, [], (min (readS (readT s 64).1 (numR true 0 (readT s 64).1.left)).2 1073741824), min (readS (readS (readT s 64).1 (numR true 0 (readT s 64).1.left)).1 (numR true 0 (readS (readT s 64).1 (numR true 0 (readT s 64).1.left)).1.left)).2 16384⟩] rfl rfl rfl rfl u79 ti83 rfl rfl rfl rfl rfl (by decide) (fun ad112 c112 => ?_)
          refine S_pub (by repeat constructor) ?_
          refine S_app rfl rfl rfl rfl u79 ti83 rfl rfl rfl rfl rfl rfl (by repeat constructor) (by repeat constructor) (by simp only [List.length_append, List.length_cons, List.length_nil]; omega) (by simp only [List.length_append, List.length_cons, List.length_nil]; omega) (fun ad113 c113 => ?_)
          refine S_run 1 rfl ?_
          refine S_nil <| C_blk ?_
          obtain ⟨fu, rfl⟩ : ∃ k, fu = k + 1 := ⟨fu - 1, by omega⟩
          refine hJ (fu, _, _, acc ++ [_], (_, _), (_, _)) _ _ _ _ (loadL_next ?_ hr (by omega) h1 h2 h3) (by show fu < fu + 1; omega) (by repeat (first | exact trivial | refine ⟨rfl, ?_⟩ | refine ⟨intE (by omega), ?_⟩)) (by repeat constructor) (by repeat constructor)
          simp only [Go.KX.stepC, Go.KX.stepF, Bool.false_eq_true, if_false]
          refine Prod.ext rfl (Prod.ext ?_ rfl)
          dsimp only [tailOK]
          clear hJ hret hend hr; grind
        ·refine C_firstoff (i := 18) (W := 34359214080) (by kernel_rfl) rfl rfl rfl rfl ?_
         refine C_firstoff (i := 19) (W := 34358689792) (by kernel_rfl) rfl rfl rfl rfl ?_
         refine C_firstoff (i := 20) (W := 34357641216) (by kernel_rfl) rfl rfl rfl rfl ?_
         refine C_firstoff (i := 21) (W := 34355544064) (by kernel_rfl) rfl rfl rfl rfl ?_
         refine C_firstoff (i := 22) (W := 32682016768) (by kernel_rfl) rfl rfl rfl rfl ?_
         refine C_firstoff (i := 23) (W := 32732348416) (by kernel_rfl) rfl rfl rfl rfl ?_
         refine C_firstoff (i := 24) (W := 32715571200) (by kernel_rfl) rfl rfl rfl rfl ?_
         refine C_firstoff (i := 25) (W := 32682016768) (by kernel_rfl) rfl rfl rfl rfl ?_
         refine C_firstoff (i := 26) (W := 32614907904) (by kernel_rfl) rfl rfl rfl rfl ?_
         refine C_firstoff (i := 27) (W := 32480690176) (by kernel_rfl) rfl rfl rfl rfl ?_
         refine C_firstoff (i := 28) (W := 32212254720) (by kernel_rfl) rfl rfl rfl rfl ?_
         refine C_firstoff (i := 29) (W := 33285996544) (by kernel_rfl) rfl rfl rfl rfl ?_
         refine C_firstoff (i := 30) (W := 32212254720) (by kernel_rfl) rfl rfl rfl rfl ?_
         refine C_firstoff (i := 31) (W := 30064771072) (by kernel_rfl) rfl rfl rfl rfl ?_
         refine C_firstoff (i := 32) (W := 25769803776) (by kernel_rfl) rfl rfl rfl rfl ?_
         refine C_firstp (i := 33) (W := 17179869184) (by kernel_rfl) rfl rfl rfl rfl rfl ?_
         refine C_one (i := 34) (by kernel_rfl) rfl ?_
         refine S_enter rfl rfl rfl (E_val rfl rfl rfl rfl) load1_ok ?_
         rintro _ _ _ ⟨rfl, rfl⟩
         try dsimp only [List.cons_append, List.nil_append]
         refine S_nil ?_
         refine C_done (by kernel_rfl) ?_
         refine C_region ?_
         refine S_run 1 rfl ?_
         refine S_y rfl rfl rfl (Y_ldS Try.underlying83 rfl ti83 rfl rfl) ?_
         first
           | refine S_lit elCell [⟨(readT s 64).2, [], (min (readS (readT s 64).1 (numR true 0 (readT s 64).1.left)).2 1073741824), 0⟩] rfl rfl rfl rfl u79 ti83 rfl rfl rfl rfl rfl (by decide) (fun ad112 c112 => ?_)
           | refine S_lit elCell [⟨(readT s 64).2, (readT (readS (readT s 64).1 (numR true 0 (readT s 64).1.left)).1 16384).2, (min (readS (readT s 64).1 (numR true 0 (readT s 64).1.left)).2 1073741824), 0⟩] rfl rfl rfl rfl u79 ti83 rfl rfl rfl rfl rfl (by decide) (fun ad112 c112 => ?_)
           | refine S_lit elCell [⟨(readT s 64).2, [], (min (readS (readT s 64).1 (numR true 0 (readT s 64).1.left)).2 1073741824), min (readS (readS (readT s 64).1 (numR true 0 (readT s 64).1.left)).1 (numR true 0 (readS (readT s 64).1 (numR true 0 (readT s 64).1.left)).1.left)).2 16384⟩] rfl rfl rfl rfl u79 ti83 rfl rfl rfl rfl rfl (by decide) (fun ad112 c112 => ?_)
         refine S_pub (by repeat constructor) ?_
         refine S_app rfl rfl rfl rfl u79 ti83 rfl rfl rfl rfl rfl rfl (by repeat constructor) (by repeat constructor) (by simp only [List.length_append, List.length_cons, List.length_nil]; omega) (by simp only [List.length_append, List.length_cons, List.length_nil]; omega) (fun ad113 c113 => ?_)
         refine S_run 1 rfl ?_
         refine S_nil <| C_blk ?_
         obtain ⟨fu, rfl⟩ : ∃ k, fu = k + 1 := ⟨fu - 1, by omega⟩
         refine hJ (fu, _, _, acc ++ [_], (_, _), (_, _)) _ _ _ _ (loadL_next ?_ hr (by omega) h1 h2 h3) (by show fu < fu + 1; omega) (by repeat (first | exact trivial | refine ⟨rfl, ?_⟩ | refine ⟨intE (by omega), ?_⟩)) (by repeat constructor) (by repeat constructor)
         simp only [Go.KX.stepC, Go.KX.stepF, Bool.false_eq_true, if_false]
         refine Prod.ext rfl (Prod.ext ?_ rfl)
         dsimp only [tailOK]
         clear hJ hret hend hr; grind
      ·refine C_firstoff (i := 4) (W := 34359738336) (by kernel_rfl) rfl rfl rfl rfl ?_
       refine C_firstoff (i := 5) (W := 34359738304) (by kernel_rfl) rfl rfl rfl rfl ?_
       refine C_firstoff (i := 6) (W := 34359738240) (by kernel_rfl) rfl rfl rfl rfl ?_
       refine C_firstoff (i := 7) (W := 34359738112) (by kernel_rfl) rfl rfl rfl rfl ?_
       refine C_firstoff (i := 8) (W := 34359737856) (by kernel_rfl) rfl rfl rfl rfl ?_
       refine C_firstoff (i := 9) (W := 34359737344) (by kernel_rfl) rfl rfl rfl rfl ?_
       refine C_firstoff (i := 10) (W := 34359736320) (by kernel_rfl) rfl rfl rfl rfl ?_
       refine C_firstoff (i := 11) (W := 34359734272) (by kernel_rfl) rfl rfl rfl rfl ?_
       refine C_firstoff (i := 12) (W := 34359730176) (by kernel_rfl) rfl rfl rfl rfl ?_
       refine C_firstoff (i := 13) (W := 34359721984) (by kernel_rfl) rfl rfl rfl rfl ?_
       refine C_firstoff (i := 14) (W := 34359705600) (by kernel_rfl) rfl rfl rfl rfl ?_
       refine C_firstoff (i := 15) (W := 34359672832) (by kernel_rfl) rfl rfl rfl rfl ?_
       refine C_firstp (i := 16) (W := 34359607296) (by kernel_rfl) rfl rfl rfl rfl rfl ?_
       refine C_firstp (i := 17) (W := 34359476224) (by kernel_rfl) rfl rfl rfl rfl rfl ?_
       refine C_firstoff (i := 18) (W := 34359214080) (by kernel_rfl) rfl rfl rfl rfl ?_
       refine C_firstoff (i := 19) (W := 34358689792) (by kernel_rfl) rfl rfl rfl rfl ?_
       refine C_firstoff (i := 20) (W := 34357641216) (by kernel_rfl) rfl rfl rfl rfl ?_
       refine C_firstoff (i := 21) (W := 34355544064) (by kernel_rfl) rfl rfl rfl rfl ?_
       refine C_firstoff (i := 22) (W := 32682016768) (by kernel_rfl) rfl rfl rfl rfl ?_
       refine C_firstoff (i := 23) (W := 32732348416) (by kernel_rfl) rfl rfl rfl rfl ?_
       refine C_firstoff (i := 24) (W := 32715571200) (by kernel_rfl) rfl rfl rfl rfl ?_
       refine C_firstoff (i := 25) (W := 32682016768) (by kernel_rfl) rfl rfl rfl rfl ?_
       refine C_firstoff (i := 26) (W := 32614907904) (by kernel_rfl) rfl rfl rfl rfl ?_
       refine C_firstoff (i := 27) (W := 32480690176) (by kernel_rfl) rfl rfl rfl rfl ?_
       refine C_firstoff (i := 28) (W := 32212254720) (by kernel_rfl) rfl rfl rfl rfl ?_
       refine C_firstoff (i := 29) (W := 33285996544) (by kernel_rfl) rfl rfl rfl rfl ?_
       refine C_firstoff (i := 30) (W := 32212254720) (by kernel_rfl) rfl rfl rfl rfl ?_
       refine C_firstoff (i := 31) (W := 30064771072) (by kernel_rfl) rfl rfl rfl rfl ?_
       refine C_firstoff (i := 32) (W := 25769803776) (by kernel_rfl) rfl rfl rfl rfl ?_
       refine C_firstp (i := 33) (W := 17179869184) (by kernel_rfl) rfl rfl rfl rfl rfl ?_
       refine C_one (i := 34) (by kernel_rfl) rfl ?_
       refine S_enter rfl rfl rfl (E_val rfl rfl rfl rfl) load1_ok ?_
       rintro _ _ _ ⟨rfl, rfl⟩
       try dsimp only [List.cons_append, List.nil_append]
       refine S_nil ?_
       refine C_done (by kernel_rfl) ?_
       refine C_region ?_
       refine S_run 1 rfl ?_
       refine S_y rfl rfl rfl (Y_ldS Try.underlying83 rfl ti83 rfl rfl) ?_
       first
         | refine S_lit elCell [⟨(readT s 64).2, [], (min (readS (readT s 64).1 (numR true 0 (readT s 64).1.left)).2 1073741824), 0⟩] rfl rfl rfl rfl u79 ti83 rfl rfl rfl rfl rfl (by decide) (fun ad112 c112 => ?_)
         | refine S_lit elCell [⟨(readT s 64).2, (readT (readS (readT s 64).1 (numR true 0 (readT s 64).1.left)).1 16384).2, (min (readS (readT s 64).1 (numR true 0 (readT s 64).1.left)).2 1073741824), 0⟩] rfl rfl rfl rfl u79 ti83 rfl rfl rfl rfl rfl (by decide) (fun ad112 c112 => ?_)
         | refine S_lit elCell [⟨(readT s 64).2, [], (min (readS (readT s 64).1 (numR true 0 (readT s 64).1.left)).2 1073741824), min (readS (readS (readT s 64).1 (numR true 0 (readT s 64).1.left)).1 (numR true 0 (readS (readT s 64).1 (numR true 0 (readT s 64).1.left)).1.left)).2 16384⟩] rfl rfl rfl rfl u79 ti83 rfl rfl rfl rfl rfl (by decide) (fun ad112 c112 => ?_)
       refine S_pub (by repeat constructor) ?_
       refine S_app rfl rfl rfl rfl u79 ti83 rfl rfl rfl rfl rfl rfl (by repeat constructor) (by repeat constructor) (by simp only [List.length_append, List.length_cons, List.length_nil]; omega) (by simp only [List.length_append, List.length_cons, List.length_nil]; omega) (fun ad113 c113 => ?_)
       refine S_run 1 rfl ?_
       refine S_nil <| C_blk ?_
       obtain ⟨fu, rfl⟩ : ∃ k, fu = k + 1 := ⟨fu - 1, by omega⟩
       refine hJ (fu, _, _, acc ++ [_], (_, _), (_, _)) _ _ _ _ (loadL_next ?_ hr (by omega) h1 h2 h3) (by show fu < fu + 1; omega) (by repeat (first | exact trivial | refine ⟨rfl, ?_⟩ | refine ⟨intE (by omega), ?_⟩)) (by repeat constructor) (by repeat constructor)
       simp only [Go.KX.stepC, Go.KX.stepF, Bool.false_eq_true, if_false]
       refine Prod.ext rfl (Prod.ext ?_ rfl)
       dsimp only [tailOK]
       clear hJ hret hend hr; grind
     ·refine C_exit rfl <| C_seq <| C_seq <| C_region ?_
      have hR : loadL false fu s ok acc = (ok, acc) := loadL_end (by rintro ⟨q1, q2⟩; first | omega | (rw [q2] at h33; cases h33))
      rw [hr] at hR
      refine S_y rfl rfl rfl (Y_ld u4 rfl rfl rfl) ?_
      refine S_run 2 rfl ?_
      refine S_bool 116 rfl (fun h116 => ?_) (fun h116 => ?_)
      ·refine S_run 4 rfl ?_
       refine S_nil ?_
       refine C_cond_t rfl ?_
       refine C_seq <| C_region ?_
       have e : loadN m n false = (51, []) := by
         unfold loadN; rw [if_neg (by omega)]; dsimp only; rw [hR]; refine if_pos ?_; first | exact .inl (by simpa using h116) | exact .inr (by dsimp only; omega)
       refine S_run 2 rfl ?_
       refine S_nil ?_
       rw [e] at hret
       first
         | exact hret (Res_tmps Try.results35 rfl rfl) (.inr ⟨rfl, adL, cL, rfl, rfl, rfl⟩)
         | exact hret (Res_tmps Try.results35 rfl rfl) (.inl ⟨by first | decide | (dsimp only; omega), rfl, rfl, rfl⟩)
      ·refine S_run 1 rfl ?_
       refine S_y rfl rfl rfl (Y_slen rfl rfl u79) ?_
       refine S_run 2 rfl ?_
       refine S_nil ?_
       refine C_if rfl (fun h120 => ?_) (fun h120 => ?_)
       ·refine C_seq <| C_region ?_
        have e : loadN m n false = (51, []) := by
          unfold loadN; rw [if_neg (by omega)]; dsimp only; rw [hR]; refine if_pos ?_; first | exact .inl (by simpa using h116) | exact .inr (by dsimp only; omega)
        refine S_run 2 rfl ?_
        refine S_nil ?_
        rw [e] at hret
        first
          | exact hret (Res_tmps Try.results35 rfl rfl) (.inr ⟨rfl, adL, cL, rfl, rfl, rfl⟩)
          | exact hret (Res_tmps Try.results35 rfl rfl) (.inl ⟨by first | decide | (dsimp only; omega), rfl, rfl, rfl⟩)
       ·refine C_skip <| C_seq <| C_region ?_
        have e : loadN m n false = (0, acc) := by
          unfold loadN; rw [if_neg (by omega)]; dsimp only; rw [hR]; refine if_neg ?_; rintro (q | q)
          · dsimp only at q; rw [q] at h116; cases h116
          · dsimp only at q; omega
        refine S_run 3 rfl ?_
        refine S_nil ?_
        rw [e] at hret
        first
          | exact hret (Res_tmps Try.results35 rfl rfl) (.inr ⟨rfl, adL, cL, rfl, rfl, rfl⟩)
          | exact hret (Res_tmps Try.results35 rfl rfl) (.inl ⟨by first | decide | (dsimp only; omega), rfl, rfl, rfl⟩)
    ·refine S_run 2 rfl ?_
     refine S_nil ?_
     refine C_cond_f rfl ?_
     refine C_exit rfl <| C_seq <| C_seq <| C_region ?_
     have hR : loadL false fu s ok acc = (ok, acc) := loadL_end (by rintro ⟨q1, q2⟩; first | omega | (rw [q2] at h33; cases h33))
     rw [hr] at hR
     refine S_y rfl rfl rfl (Y_ld u4 rfl rfl rfl) ?_
     refine S_run 2 rfl ?_
     refine S_bool 116 rfl (fun h116 => ?_) (fun h116 => ?_)
     ·refine S_run 4 rfl ?_
      refine S_nil ?_
      refine C_cond_t rfl ?_
      refine C_seq <| C_region ?_
      have e : loadN m n false = (51, []) := by
        unfold loadN; rw [if_neg (by omega)]; dsimp only; rw [hR]; refine if_pos ?_; first | exact .inl (by simpa using h116) | exact .inr (by dsimp only; omega)
      refine S_run 2 rfl ?_
      refine S_nil ?_
      rw [e] at hret
      first
        | exact hret (Res_tmps Try.results35 rfl rfl) (.inr ⟨rfl, adL, cL, rfl, rfl, rfl⟩)
        | exact hret (Res_tmps Try.results35 rfl rfl) (.inl ⟨by first | decide | (dsimp only; omega), rfl, rfl, rfl⟩)
     ·refine S_run 1 rfl ?_
      refine S_y rfl rfl rfl (Y_slen rfl rfl u79) ?_
      refine S_run 2 rfl ?_
      refine S_nil ?_
      refine C_if rfl (fun h120 => ?_) (fun h120 => ?_)
      ·refine C_seq <| C_region ?_
       have e : loadN m n false = (51, []) := by
         unfold loadN; rw [if_neg (by omega)]; dsimp only; rw [hR]; refine if_pos ?_; first | exact .inl (by simpa using h116) | exact .inr (by dsimp only; omega)
       refine S_run 2 rfl ?_
       refine S_nil ?_
       rw [e] at hret
       first
         | exact hret (Res_tmps Try.results35 rfl rfl) (.inr ⟨rfl, adL, cL, rfl, rfl, rfl⟩)
         | exact hret (Res_tmps Try.results35 rfl rfl) (.inl ⟨by first | decide | (dsimp only; omega), rfl, rfl, rfl⟩)
      ·refine C_skip <| C_seq <| C_region ?_
       have e : loadN m n false = (0, acc) := by
         unfold loadN; rw [if_neg (by omega)]; dsimp only; rw [hR]; refine if_neg ?_; rintro (q | q)
         · dsimp only at q; rw [q] at h116; cases h116
         · dsimp only at q; omega
       refine S_run 3 rfl ?_
       refine S_nil ?_
       rw [e] at hret
       first
         | exact hret (Res_tmps Try.results35 rfl rfl) (.inr ⟨rfl, adL, cL, rfl, rfl, rfl⟩)
         | exact hret (Res_tmps Try.results35 rfl rfl) (.inl ⟨by first | decide | (dsimp only; omega), rfl, rfl, rfl⟩)
set_option maxRecDepth 100000 in
theorem loadT_ok {bm : Nat} {m : Mem} {adP : Option Addr} {cP : Nat} {bw bg : Nat} (hm : MOK m) {n : Int} : Spx Try.prog 35 #[.pointer (some ⟨bw, 0, none⟩), .int .i64 n, .bool true] [PtM bw 0 [.iface 26 (.pointer (some ⟨bm, 0, none⟩)), .map (some bg)]] [Res.blk bm (.cells (memC m adP cP) 29 (0, 0)), Res.arr elS 9 adP cP (m).pages] (fun v fs' own' => ((loadN m n true).1 ≠ 0 ∧ v = .tuple #[.slice none 0 0, .int .i64 (loadN m n true).1] ∧ fs' = [] ∧ own' = [Res.blk bm (.cells (memC m adP cP) 29 (0, 0)), Res.arr elS 9 adP cP (m).pages]) ∨ ((loadN m n true).1 = 0 ∧ ∃ ad c, v = .tuple #[.slice ad (loadN m n true).2.length c, .int .i64 0] ∧ fs' = [] ∧ own' = [Res.arr elCell 83 ad c (loadN m n true).2, Res.blk bm (.cells (memC m adP cP) 29 (0, 0)), Res.arr elS 9 adP cP (m).pages])) := by
 refine Spx_of_body (fn := Try.f35) 122 Try.func35 rfl (by kernel_rfl) rfl (Nat.le_of_ble_eq_true rfl) (fun g0 Q hret hend => ?_)
 dsimp only [initL]
 refine C_seq <| C_region ?_
 refine S_run 2 rfl ?_
 refine S_nil <| C_seq <| C_region ?_
 refine S_run 1 rfl ?_
 refine S_nil <| C_seq <| C_seq <| C_region ?_
 refine S_run 1 rfl ?_
 refine S_nil ?_
 refine C_cond_t rfl ?_
 refine C_region ?_
 refine S_run 1 rfl ?_
 refine S_nil <| C_seq <| C_region ?_
 refine S_run 3 rfl ?_
 have hps := pageM_small hm n (kindOf true)
 refine S_enter rfl rfl rfl (E_fn rfl rfl) (page_ok (bw := bw) (bg := bg) (kind := kindOf true) hm) ?_
 rintro _ _ _ (⟨hpe, rfl, rfl, rfl⟩ | ⟨hpe, b9, ad9, c9, rfl, rfl, rfl⟩)
 ·try dsimp only [List.cons_append, List.nil_append]
  refine S_run 5 rfl ?_
  refine S_nil <| C_seq <| C_seq <| C_region ?_
  refine S_run 2 rfl ?_
  refine S_nil ?_
  refine C_if rfl (fun h25 => ?_) (fun h25 => ?_)
  ·refine C_seq <| C_region ?_
   have e : loadN m n true = ((pageM m n (kindOf true)).1, []) := by unfold loadN; exact if_pos hpe
   refine S_run 3 rfl ?_
   refine S_nil ?_
   rw [e] at hret
   first
     | exact hret (Res_tmps Try.results35 rfl rfl) (.inr ⟨rfl, adL, cL, rfl, rfl, rfl⟩)
     | exact hret (Res_tmps Try.results35 rfl rfl) (.inl ⟨by first | decide | (dsimp only; omega), rfl, rfl, rfl⟩)
  ·omega
 ·try dsimp only [List.cons_append, List.nil_append]
  refine S_run 5 rfl ?_
  refine S_nil <| C_seq <| C_seq <| C_region ?_
  refine S_run 2 rfl ?_
  refine S_nil ?_
  refine C_if rfl (fun h25 => ?_) (fun h25 => ?_)
  ·omega
  ·refine C_skip <| C_seq <| C_region ?_
   refine S_nilarr elCell 83 ?_
   refine S_alloc rfl rfl rfl rfl ti4 rfl (fun b10 => ?_)
   refine S_st rfl rfl rfl ti4 rfl rfl rfl (by repeat constructor) (by rfl) ?_
   refine S_nil <| C_seq <| C_region ?_
   refine S_run 2 rfl ?_
   refine S_nil <| C_seq <| C_block ?_
   refine C_loop (σ := Nat × Strip × Bool × List Cell × (Option Addr × Nat) × (Option Addr × Nat)) (fun s => s.2.1.left.length ≤ s.2.1.size ∧ s.2.1.size ≤ 1000000 ∧ (s.2.2.1 = true → s.2.1.left.length < s.1 ∧ s.2.2.2.1.length + s.2.1.left.length ≤ 1000000) ∧ loadL true s.1 s.2.1 s.2.2.1 s.2.2.2.1 = (loadL true ((pageM m n (kindOf true)).2.length + 1) ⟨(pageM m n (kindOf true)).2, (pageM m n (kindOf true)).2.length, 0, 0⟩ true [])) (fun s => s.1)
     (fun s => [(2, .bool true), (6, .slice s.2.2.2.2.2.1 s.2.2.2.1.length s.2.2.2.2.2.2), (9, .pointer (some ⟨b9, 0, none⟩)), (10, .pointer (some ⟨b10, 0, none⟩)), (11, .func (.func 57) #[] #[.pointer (some ⟨b10, 0, none⟩)])])
     (fun s => [SlM elB s.2.2.2.2.1.1 s.2.2.2.2.1.2 s.2.1.left]) (fun s => [Res.blk b9 (.cells (stripC s.2.1 s.2.2.2.2.1.1 s.2.2.2.2.1.2) 134 (0, 0)), Res.blk b10 (.cells #[.bool s.2.2.1] 4 (0, 0)), Res.arr elCell 83 s.2.2.2.2.2.1 s.2.2.2.2.2.2 s.2.2.2.1, Res.blk bm (.cells (memC m adP cP) 29 (0, 0)), Res.arr elS 9 adP cP (m).pages]) ((pageM m n (kindOf true)).2.length + 1, ⟨(pageM m n (kindOf true)).2, (pageM m n (kindOf true)).2.length, 0, 0⟩, true, [], (ad9, c9), (none, 0)) ?_ (by repeat (first | exact trivial | refine ⟨rfl, ?_⟩ | refine ⟨intE (by omega), ?_⟩)) (by repeat constructor) (by repeat constructor) ?_
   ·exact ⟨Nat.le_refl _, hps, fun _ => ⟨Nat.lt_succ_self _, by simpa using hps⟩, rfl⟩
   ·rintro J ⟨fu, s, ok, acc, ⟨adS, cS⟩, ⟨adL, cL⟩⟩ ⟨h1, h2, h3, hr⟩ hJ
    dsimp only at h1 h2 h3 hr ⊢
    refine C_seq <| C_seq <| C_region ?_
    refine S_run 1 rfl ?_
    refine S_enter rfl rfl rfl (E_fn rfl rfl) smore_ok ?_
    rintro _ _ _ ⟨rfl, rfl, rfl⟩
    try dsimp only [List.cons_append, List.nil_append]
    refine S_run 2 rfl ?_
    refine S_prop 31 rfl (fun h31 => ?_) (fun h31 => ?_)
    ·refine S_y rfl rfl rfl (Y_ld u4 rfl rfl rfl) ?_
     refine S_run 1 rfl ?_
     refine S_nil ?_
     refine C_cond rfl (fun h33 => ?_) (fun h33 => ?_)
     ·subst h33
      have h3 := h3 rfl
      refine C_skip <| C_block <| C_seq <| C_region ?_
      refine S_run 1 rfl ?_
      refine S_nil <| C_seq <| C_region ?_
      refine S_run 1 rfl ?_
      have hA1 : (readT s 64).1.left.length ≤ (readT s 64).1.size := by rw [readT_size]; have := readT_left s 64; omega
      have hA2 : (readT s 64).1.size ≤ 9223372036854775807 := by rw [readT_size]; omega
      have hB1 : (readS (readT s 64).1 (numR true 0 (readT s 64).1.left)).1.left.length ≤ (readS (readT s 64).1 (numR true 0 (readT s 64).1.left)).1.size := by rw [readS_size]; have := readN_left (readT s 64).1; omega
      have hB2 : (readS (readT s 64).1 (numR true 0 (readT s 64).1.left)).1.size ≤ 9223372036854775807 := by rw [readS_size]; omega
      refine S_enter rfl rfl rfl (E_fn rfl rfl) (stext_ok (most := 64) h1 (by omega) (by decide)) ?_
      rintro _ _ _ ⟨adA, cA, rfl, rfl, rfl⟩
      try dsimp only [List.cons_append, List.nil_append]
      refine S_y rfl rfl rfl (Y_build [.const (.int .i64 0), .const (.int .i64 0), .const (str []), .tmp 35] bt83 rfl rfl rfl rfl) ?_
      refine S_alloc rfl rfl rfl rfl ti83 rfl (fun b13 => ?_)
      refine S_stS rfl rfl rfl ti83 rfl rfl rfl rfl (by repeat constructor) (by rfl) ?_
      refine S_nil <| C_seq <| C_region ?_
      refine S_run 1 rfl ?_
      refine S_enter rfl rfl rfl (E_fn rfl rfl) (small_ok (most := 1073741824) hA1 hA2 (by decide)) ?_
      rintro _ _ _ ⟨adB, cB, rfl, rfl, rfl⟩
      try dsimp only [List.cons_append, List.nil_append]
      refine S_run 3 rfl ?_
      refine S_y rfl rfl rfl (Y_fa ly83 rfl rfl rfl) ?_
      refine S_st rfl rfl rfl ti3 rfl rfl rfl (by repeat constructor) (by rfl) ?_
      refine S_run 1 rfl ?_
      refine S_nil <| C_seq <| C_region ?_
      refine S_run 2 rfl ?_
      refine S_enter rfl rfl rfl (E_val rfl rfl rfl rfl) load1_ok ?_
      rintro _ _ _ ⟨rfl, rfl⟩
      try dsimp only [List.cons_append, List.nil_append]
      refine S_nil <| C_seq <| C_block <| C_seq <| C_region ?_
      refine S_run 3 rfl ?_
      refine S_nil ?_
      refine C_cond_f rfl ?_
      refine C_seq <| C_region ?_
      refine S_y rfl rfl rfl (Y_fa ly83 rfl rfl rfl) ?_
      refine S_y rfl rfl rfl (Y_ld u3 rfl rfl rfl) ?_
      refine S_run 2 rfl ?_
      refine S_nil ?_
      refine C_if rfl (fun h63 => ?_) (fun h63 => ?_)
      ·refine C_region ?_
       refine S_run 1 rfl ?_
       refine S_enter rfl rfl rfl (E_fn rfl rfl) (stext_ok (most := 16384) hB1 hB2 (by decide)) ?_
       rintro _ _ _ ⟨adC, cC, rfl, rfl, rfl⟩
       try dsimp only [List.cons_append, List.nil_append]
       refine S_y rfl rfl rfl (Y_fa ly83 rfl rfl rfl) ?_
       refine S_st rfl rfl rfl ti9 rfl rfl rfl (by repeat constructor) (by rfl) ?_
       refine S_nil <| C_blk <| C_seq <| C_region ?_
       refine S_run 1 rfl ?_
       refine S_enter rfl rfl rfl (E_fn rfl rfl) sbad_ok ?_
       rintro _ _ _ ⟨rfl, rfl, rfl⟩
       try dsimp only [List.cons_append, List.nil_append]
       refine S_run 5 rfl ?_
       refine S_nil <| C_seq ?_
       refine C_draw rfl ?_
       refine C_firstp (i := 0) (W := 17179869184) (by kernel_rfl) rfl rfl rfl rfl rfl ?_
       refine C_firstp (i := 1) (W := 34359738364) (by kernel_rfl) rfl rfl rfl rfl rfl ?_
       refine C_firstp (i := 2) (W := 34359738360) (by kernel_rfl) rfl rfl rfl rfl rfl ?_
       refine C_firstp (i := 3) (W := 34359738352) (by kernel_rfl) rfl rfl rfl rfl rfl ?_
       refine C_prop 78 rfl (fun h78 => ?_) (fun h78 => ?_)
       ·refine C_firstf (i := 4) (W := 34359738336) (by kernel_rfl) rfl rfl rfl rfl ly83 rfl rfl rfl ?_
        refine C_first (i := 5) (W := 34359738304) (by kernel_rfl) rfl rfl rfl rfl (Y_ld u9 rfl rfl rfl) ?_
        refine C_first (i := 6) (W := 34359738240) (by kernel_rfl) rfl rfl rfl rfl (Y_strneq rfl rfl rfl) ?_
        refine C_firstp (i := 7) (W := 34359738112) (by kernel_rfl) rfl rfl rfl rfl rfl ?_
        refine C_prop 82 rfl (fun h82 => ?_) (fun h82 => ?_)
        ·refine C_firstoff (i := 8) (W := 34359737856) (by kernel_rfl) rfl rfl rfl rfl ?_
         refine C_firstoff (i := 9) (W := 34359737344) (by kernel_rfl) rfl rfl rfl rfl ?_
         refine C_firstoff (i := 10) (W := 34359736320) (by kernel_rfl) rfl rfl rfl rfl ?_
         refine C_firstoff (i := 11) (W := 34359734272) (by kernel_rfl) rfl rfl rfl rfl ?_
         refine C_firstoff (i := 12) (W := 34359730176) (by kernel_rfl) rfl rfl rfl rfl ?_
         refine C_firstoff (i := 13) (W := 34359721984) (by kernel_rfl) rfl rfl rfl rfl ?_
         refine C_firstoff (i := 14) (W := 34359705600) (by kernel_rfl) rfl rfl rfl rfl ?_
         refine C_firstp (i := 15) (W := 34359672832) (by kernel_rfl) rfl rfl rfl rfl rfl ?_
         refine C_firstp (i := 16) (W := 34359607296) (by kernel_rfl) rfl rfl rfl rfl rfl ?_
         refine C_firstp (i := 17) (W := 34359476224) (by kernel_rfl) rfl rfl rfl rfl rfl ?_
         refine C_firstp (i := 18) (W := 34359214080) (by kernel_rfl) rfl rfl rfl rfl rfl ?_
         refine C_first (i := 19) (W := 34358689792) (by kernel_rfl) rfl rfl rfl rfl (Y_slen rfl rfl u79) ?_
         refine C_firstp (i := 20) (W := 34357641216) (by kernel_rfl) rfl rfl rfl rfl rfl ?_
         refine C_firstp (i := 21) (W := 34355544064) (by kernel_rfl) rfl rfl rfl rfl rfl ?_
         refine C_prop 96 rfl (fun h96 => ?_) (fun h96 => ?_)
         ·refine C_firstoff (i := 22) (W := 32682016768) (by kernel_rfl) rfl rfl rfl rfl ?_
          refine C_firstoff (i := 23) (W := 32732348416) (by kernel_rfl) rfl rfl rfl rfl ?_
          refine C_firstoff (i := 24) (W := 32715571200) (by kernel_rfl) rfl rfl rfl rfl ?_
          refine C_firstoff (i := 25) (W := 32682016768) (by kernel_rfl) rfl rfl rfl rfl ?_
          refine C_firstoff (i := 26) (W := 32614907904) (by kernel_rfl) rfl rfl rfl rfl ?_
          refine C_firstoff (i := 27) (W := 32480690176) (by kernel_rfl) rfl rfl rfl rfl ?_
          refine C_firstoff (i := 28) (W := 32212254720) (by kernel_rfl) rfl rfl rfl rfl ?_
          refine C_firstoff (i := 29) (W := 33285996544) (by kernel_rfl) rfl rfl rfl rfl ?_
          refine C_firstoff (i := 30) (W := 32212254720) (by kernel_rfl) rfl rfl rfl rfl ?_
          refine C_firstoff (i := 31) (W := 30064771072) (by kernel_rfl) rfl rfl rfl rfl ?_
          refine C_firstp (i := 32) (W := 25769803776) (by kernel_rfl) rfl rfl rfl rfl rfl ?_
          refine C_firstp (i := 33) (W := 17179869184) (by kernel_rfl) rfl rfl rfl rfl rfl ?_
          refine C_one (i := 34) (by kernel_rfl) rfl ?_
          refine S_enter rfl rfl rfl (E_val rfl rfl rfl rfl) load1_ok ?_
          rintro _ _ _ ⟨rfl, rfl⟩
          try dsimp only [List.cons_append, List.nil_append]
          refine S_nil ?_
          refine C_done (by kernel_rfl) ?_
          refine C_region ?_
          refine S_run 1 rfl ?_
          refine S_y rfl rfl rfl (Y_ldS Try.underlying83 rfl ti83 rfl rfl) ?_
          first
            | refine S_lit elCell [⟨(readT s 64).2, [], (min (readS (readT s 64).1 (numR true 0 (readT s 64).1.left)).2 1073741824), 0⟩] rfl rfl rfl rfl u79 ti83 rfl rfl rfl rfl rfl (by decide) (fun ad112 c112 => ?_)
            | refine S_lit elCell [⟨(readT s 64).2, (readT (readS (readT s 64).1 (numR true 0 (readT s 64).1.left)).1 16384).2, (min (readS (readT s 64).1 (numR true 0 (readT s 64).1.left)).2 1073741824), 0⟩] rfl rfl rfl rfl u79 ti83 rfl rfl rfl rfl rfl (by decide) (fun ad112 c112 => ?_)
            | refine S_lit elCell [⟨(readT s 64).2, [], (min (readS (readT s 64).1 (numR true 0 (readT s 64).1.left)).2 1073741824), min (readS (readS (readT s 64).1 (numR true 0 (readT s 64).1.left)).1 (numR true 0 (readS (readT s 64).1 (numR true 0 (readT s 64).1.left)).1.left)).2 16384⟩] rfl rfl rfl rfl u79 ti83 rfl rfl rfl rfl rfl (by decide) (fun ad112 c112 => ?_)
          refine S_pub (by repeat constructor) ?_
          refine S_app rfl rfl rfl rfl u79 ti83 rfl rfl rfl rfl rfl rfl (by repeat constructor) (by repeat constructor) (by simp only [List.length_append, List.length_cons, List.length_nil]; omega) (by simp only [List.length_append, List.length_cons, List.length_nil]; omega) (fun ad113 c113 => ?_)
          refine S_run 1 rfl ?_
          refine S_nil <| C_blk ?_
          obtain ⟨fu, rfl⟩ : ∃ k, fu = k + 1 := ⟨fu - 1, by omega⟩
          refine hJ (fu, _, _, acc ++ [_], (_, _), (_, _)) _ _ _ _ (loadL_next ?_ hr (by omega) h1 h2 h3) (by show fu < fu + 1; omega) (by repeat (first | exact trivial | refine ⟨rfl, ?_⟩ | refine ⟨intE (by omega), ?_⟩)) (by repeat constructor) (by repeat constructor)
          simp only [Go.KX.stepC, Go.KX.stepT, if_true]
          first
            | (rw [if_pos (by omega)]; refine Prod.ext rfl (Prod.ext ?_ rfl); dsimp only [tailOK]; clear hJ hret hend hr; grind)
            | (rw [if_neg (by omega)]; refine Prod.ext rfl (Prod.ext ?_ rfl); dsimp only [tailOK]; clear hJ hret hend hr; grind)
         ·refine C_firstp (i := 22) (W := 32682016768) (by kernel_rfl) rfl rfl rfl rfl rfl ?_
          refine C_firstp (i := 23) (W := 32732348416) (by kernel_rfl) rfl rfl rfl rfl rfl ?_
          refine C_first (i := 24) (W := 32715571200) (by kernel_rfl) rfl rfl rfl rfl (Y_slen rfl rfl u79) ?_
          refine C_first (i := 25) (W := 32682016768) (by kernel_rfl) rfl rfl rfl rfl (Y_subi rfl rfl rfl (by omega) (by omega)) ?_
          obtain ⟨y, hy⟩ : ∃ y, acc[acc.length - 1]? = some y := ⟨_, List.getElem?_eq_getElem (by omega)⟩
          have hlk : lastKey acc = y.key := by unfold lastKey; rw [hy]
          refine C_firstx (i := 26) (W := 32614907904) (by kernel_rfl) rfl rfl rfl rfl (Y_ixO rfl u79 ti83 rfl rfl rfl (by repeat constructor) rfl (by omega) (by omega)) ?_
          rintro _ _ ⟨b101, rfl, rfl⟩
          refine C_firstf (i := 27) (W := 32480690176) (by kernel_rfl) rfl rfl rfl rfl ly83 rfl rfl rfl ?_
          refine C_first (i := 28) (W := 32212254720) (by kernel_rfl) rfl rfl rfl rfl (Y_ldA (i := acc.length - 1) (j := 0) u9 rfl rfl rfl (by repeat constructor) (by repeat constructor) (by show _ = (acc.length - 1) * 4 + 0; omega) hy rfl) ?_
          refine C_firstf (i := 29) (W := 33285996544) (by kernel_rfl) rfl rfl rfl rfl ly83 rfl rfl rfl ?_
          refine C_first (i := 30) (W := 32212254720) (by kernel_rfl) rfl rfl rfl rfl (Y_ld u9 rfl rfl rfl) ?_
          refine C_first (i := 31) (W := 30064771072) (by kernel_rfl) rfl rfl rfl rfl (Y_strlss rfl rfl rfl) ?_
          refine C_firstp (i := 32) (W := 25769803776) (by kernel_rfl) rfl rfl rfl rfl rfl ?_
          refine C_firstp (i := 33) (W := 17179869184) (by kernel_rfl) rfl rfl rfl rfl rfl ?_
          refine C_one (i := 34) (by kernel_rfl) rfl ?_
          refine S_enter rfl rfl rfl (E_val rfl rfl rfl rfl) load1_ok ?_
          rintro _ _ _ ⟨rfl, rfl⟩
          try dsimp only [List.cons_append, List.nil_append]
          refine S_nil ?_
          refine C_done (by kernel_rfl) ?_
          refine C_region ?_
          refine S_run 1 rfl ?_
          refine S_y rfl rfl rfl (Y_ldS Try.underlying83 rfl ti83 rfl rfl) ?_
          first
            | refine S_lit elCell [⟨(readT s 64).2, [], (min (readS (readT s 64).1 (numR true 0 (readT s 64).1.left)).2 1073741824), 0⟩] rfl rfl rfl rfl u79 ti83 rfl rfl rfl rfl rfl (by decide) (fun ad112 c112 => ?_)
            | refine S_lit elCell [⟨(readT s 64).2, (readT (readS (readT s 64).1 (numR true 0 (readT s 64).1.left)).1 16384).2, (min (readS (readT s 64).1 (numR true 0 (readT s 64).1.left)).2 1073741824), 0⟩] rfl rfl rfl rfl u79 ti83 rfl rfl rfl rfl rfl (by decide) (fun ad112 c112 => ?_)
            | refine S_lit elCell [⟨(readT s 64).2, [], (min (readS (readT s 64).1 (numR true 0 (readT s 64).1.left)).2 1073741824), min (readS (readS (readT s 64).1 (numR true 0 (readT s 64).1.left)).1 (numR true 0 (readS (readT s 64).1 (numR true 0 (readT s 64).1.left)).1.left)).2 16384⟩] rfl rfl rfl rfl u79 ti83 rfl rfl rfl rfl rfl (by decide) (fun ad112 c112 => ?_)
          refine S_pub (by repeat constructor) ?_
          refine S_app rfl rfl rfl rfl u79 ti83 rfl rfl rfl rfl rfl rfl (by repeat constructor) (by repeat constructor) (by simp only [List.length_append, List.length_cons, List.length_nil]; omega) (by simp only [List.length_append, List.length_cons, List.length_nil]; omega) (fun ad113 c113 => ?_)
          refine S_run 1 rfl ?_
          refine S_nil <| C_blk ?_
          obtain ⟨fu, rfl⟩ : ∃ k, fu = k + 1 := ⟨fu - 1, by omega⟩
          refine hJ (fu, _, _, acc ++ [_], (_, _), (_, _)) _ _ _ _ (loadL_next ?_ hr (by omega) h1 h2 h3) (by show fu < fu + 1; omega) (by repeat (first | exact trivial | refine ⟨rfl, ?_⟩ | refine ⟨intE (by omega), ?_⟩)) (by repeat constructor) (by repeat constructor)
          simp only [Go.KX.stepC, Go.KX.stepT, if_true]
          first
            | (rw [if_pos (by omega)]; refine Prod.ext rfl (Prod.ext ?_ rfl); dsimp only [tailOK]; clear hJ hret hend hr; grind)
            | (rw [if_neg (by omega)]; refine Prod.ext rfl (Prod.ext ?_ rfl); dsimp only [tailOK]; clear hJ hret hend hr; grind)
        ·refine C_firstp (i := 8) (W := 34359737856) (by kernel_rfl) rfl rfl rfl rfl rfl ?_
         refine C_firstp (i := 9) (W := 34359737344) (by kernel_rfl) rfl rfl rfl rfl rfl ?_
         refine C_firstp (i := 10) (W := 34359736320) (by kernel_rfl) rfl rfl rfl rfl rfl ?_
         refine C_firstoff (i := 11) (W := 34359734272) (by kernel_rfl) rfl rfl rfl rfl ?_
         refine C_firstoff (i := 12) (W := 34359730176) (by kernel_rfl) rfl rfl rfl rfl ?_
         refine C_firstoff (i := 13) (W := 34359721984) (by kernel_rfl) rfl rfl rfl rfl ?_
         refine C_firstp (i := 14) (W := 34359705600) (by kernel_rfl) rfl rfl rfl rfl rfl ?_
         refine C_firstp (i := 15) (W := 34359672832) (by kernel_rfl) rfl rfl rfl rfl rfl ?_
         refine C_firstp (i := 16) (W := 34359607296) (by kernel_rfl) rfl rfl rfl rfl rfl ?_
         refine C_firstp (i := 17) (W := 34359476224) (by kernel_rfl) rfl rfl rfl rfl rfl ?_
         refine C_firstoff (i := 18) (W := 34359214080) (by kernel_rfl) rfl rfl rfl rfl ?_
         refine C_firstoff (i := 19) (W := 34358689792) (by kernel_rfl) rfl rfl rfl rfl ?_
         refine C_firstoff (i := 20) (W := 34357641216) (by kernel_rfl) rfl rfl rfl rfl ?_
         refine C_firstoff (i := 21) (W := 34355544064) (by kernel_rfl) rfl rfl rfl rfl ?_
         refine C_firstoff (i := 22) (W := 32682016768) (by kernel_rfl) rfl rfl rfl rfl ?_
         refine C_firstoff (i := 23) (W := 32732348416) (by kernel_rfl) rfl rfl rfl rfl ?_
         refine C_firstoff (i := 24) (W := 32715571200) (by kernel_rfl) rfl rfl rfl rfl ?_
         refine C_firstoff (i := 25) (W := 32682016768) (by kernel_rfl) rfl rfl rfl rfl ?_
         refine C_firstoff (i := 26) (W := 32614907904) (by kernel_rfl) rfl rfl rfl rfl ?_
         refine C_firstoff (i := 27) (W := 32480690176) (by kernel_rfl) rfl rfl rfl rfl ?_
         refine C_firstoff (i := 28) (W := 32212254720) (by kernel_rfl) rfl rfl rfl rfl ?_
         refine C_firstoff (i := 29) (W := 33285996544) (by kernel_rfl) rfl rfl rfl rfl ?_
         refine C_firstoff (i := 30) (W := 32212254720) (by kernel_rfl) rfl rfl rfl rfl ?_
         refine C_firstoff (i := 31) (W := 30064771072) (by kernel_rfl) rfl rfl rfl rfl ?_
         refine C_firstoff (i := 32) (W := 25769803776) (by kernel_rfl) rfl rfl rfl rfl ?_
         refine C_firstp (i := 33) (W := 17179869184) (by kernel_rfl) rfl rfl rfl rfl rfl ?_
         refine C_one (i := 34) (by kernel_rfl) rfl ?_
         refine S_enter rfl rfl rfl (E_val rfl rfl rfl rfl) load1_ok ?_
         rintro _ _ _ ⟨rfl, rfl⟩
         try dsimp only [List.cons_append, List.nil_append]
         refine S_nil ?_
         refine C_done (by kernel_rfl) ?_
         refine C_region ?_
         refine S_run 1 rfl ?_
         refine S_y rfl rfl rfl (Y_ldS Try.underlying83 rfl ti83 rfl rfl) ?_
         first
           | refine S_lit elCell [⟨(readT s 64).2, [], (min (readS (readT s 64).1 (numR true 0 (readT s 64).1.left)).2 1073741824), 0⟩] rfl rfl rfl rfl u79 ti83 rfl rfl rfl rfl rfl (by decide) (fun ad112 c112 => ?_)
           | refine S_lit elCell [⟨(readT s 64).2, (readT (readS (readT s 64).1 (numR true 0 (readT s 64).1.left)).1 16384).2, (min (readS (readT s 64).1 (numR true 0 (readT s 64).1.left)).2 1073741824), 0⟩] rfl rfl rfl rfl u79 ti83 rfl rfl rfl rfl rfl (by decide) (fun ad112 c112 => ?_)
           | refine S_lit elCell [⟨(readT s 64).2, [], (min (readS (readT s 64).1 (numR true 0 (readT s 64).1.left)).2 1073741824), min (readS (readS (readT s 64).1 (numR true 0 (readT s 64).1.left)).1 (numR true 0 (readS (readT s 64).1 (numR true 0 (readT s 64).1.left)).1.left)).2 16384⟩] rfl rfl rfl rfl u79 ti83 rfl rfl rfl rfl rfl (by decide) (fun ad112 c112 => ?_)
         refine S_pub (by repeat constructor) ?_
         refine S_app rfl rfl rfl rfl u79 ti83 rfl rfl rfl rfl rfl rfl (by repeat constructor) (by repeat constructor) (by simp only [List.length_append, List.length_cons, List.length_nil]; omega) (by simp only [List.length_append, List.length_cons, List.length_nil]; omega) (fun ad113 c113 => ?_)
         refine S_run 1 rfl ?_
         refine S_nil <| C_blk ?_
         obtain ⟨fu, rfl⟩ : ∃ k, fu = k + 1 := ⟨fu - 1, by omega⟩
         refine hJ (fu, _, _, acc ++ [_], (_, _), (_, _)) _ _ _ _ (loadL_next ?_ hr (by omega) h1 h2 h3) (by show fu < fu + 1; omega) (by repeat (first | exact trivial | refine ⟨rfl, ?_⟩ | refine ⟨intE (by omega), ?_⟩)) (by repeat constructor) (by repeat constructor)
         simp only [Go.KX.stepC, Go.KX.stepT, if_true]
         first
           | (rw [if_pos (by omega)]; refine Prod.ext rfl (Prod.ext ?_ rfl); dsimp only [tailOK]; clear hJ hret hend hr; grind)
           | (rw [if_neg (by omega)]; refine Prod.ext rfl (Prod.ext ?_ rfl); dsimp only [tailOK]; clear hJ hret hend hr; grind)
       ·refine C_firstoff (i := 4) (W := 34359738336) (by kernel_rfl) rfl rfl rfl rfl ?_
        refine C_firstoff (i := 5) (W := 34359738304) (by kernel_rfl) rfl rfl rfl rfl ?_
        refine C_firstoff (i := 6) (W := 34359738240) (by kernel_rfl) rfl rfl rfl rfl ?_
        refine C_firstoff (i := 7) (W := 34359738112) (by kernel_rfl) rfl rfl rfl rfl ?_
        refine C_firstoff (i := 8) (W := 34359737856) (by kernel_rfl) rfl rfl rfl rfl ?_
        refine C_firstoff (i := 9) (W := 34359737344) (by kernel_rfl) rfl rfl rfl rfl ?_
        refine C_firstoff (i := 10) (W := 34359736320) (by kernel_rfl) rfl rfl rfl rfl ?_
        refine C_firstoff (i := 11) (W := 34359734272) (by kernel_rfl) rfl rfl rfl rfl ?_
        refine C_firstoff (i := 12) (W := 34359730176) (by kernel_rfl) rfl rfl rfl rfl ?_
        refine C_firstoff (i := 13) (W := 34359721984) (by kernel_rfl) rfl rfl rfl rfl ?_
        refine C_firstoff (i := 14) (W := 34359705600) (by kernel_rfl) rfl rfl rfl rfl ?_
        refine C_firstoff (i := 15) (W := 34359672832) (by kernel_rfl) rfl rfl rfl rfl ?_
        refine C_firstp (i := 16) (W := 34359607296) (by kernel_rfl) rfl rfl rfl rfl rfl ?_
        refine C_firstp (i := 17) (W := 34359476224) (by kernel_rfl) rfl rfl rfl rfl rfl ?_
        refine C_firstoff (i := 18) (W := 34359214080) (by kernel_rfl) rfl rfl rfl rfl ?_
        refine C_firstoff (i := 19) (W := 34358689792) (by kernel_rfl) rfl rfl rfl rfl ?_
        refine C_firstoff (i := 20) (W := 34357641216) (by kernel_rfl) rfl rfl rfl rfl ?_
        refine C_firstoff (i := 21) (W := 34355544064) (by kernel_rfl) rfl rfl rfl rfl ?_
        refine C_firstoff (i := 22) (W := 32682016768) (by kernel_rfl) rfl rfl rfl rfl ?_
        refine C_firstoff (i := 23) (W := 32732348416) (by kernel_rfl) rfl rfl rfl rfl ?_
        refine C_firstoff (i := 24) (W := 32715571200) (by kernel_rfl) rfl rfl rfl rfl ?_
        refine C_firstoff (i := 25) (W := 32682016768) (by kernel_rfl) rfl rfl rfl rfl ?_
        refine C_firstoff (i := 26) (W := 32614907904) (by kernel_rfl) rfl rfl rfl rfl ?_
        refine C_firstoff (i := 27) (W := 32480690176) (by kernel_rfl) rfl rfl rfl rfl ?_
        refine C_firstoff (i := 28) (W := 32212254720) (by kernel_rfl) rfl rfl rfl rfl ?_
        refine C_firstoff (i := 29) (W := 33285996544) (by kernel_rfl) rfl rfl rfl rfl ?_
        refine C_firstoff (i := 30) (W := 32212254720) (by kernel_rfl) rfl rfl rfl rfl ?_
        refine C_firstoff (i := 31) (W := 30064771072) (by kernel_rfl) rfl rfl rfl rfl ?_
        refine C_firstoff (i := 32) (W := 25769803776) (by kernel_rfl) rfl rfl rfl rfl ?_
        refine C_firstp (i := 33) (W := 17179869184) (by kernel_rfl) rfl rfl rfl rfl rfl ?_
        refine C_one (i := 34) (by kernel_rfl) rfl ?_
        refine S_enter rfl rfl rfl (E_val rfl rfl rfl rfl) load1_ok ?_
        rintro _ _ _ ⟨rfl, rfl⟩
        try dsimp only [List.cons_append, List.nil_append]
        refine S_nil ?_
        refine C_done (by kernel_rfl) ?_
        refine C_region ?_
        refine S_run 1 rfl ?_
        refine S_y rfl rfl rfl (Y_ldS Try.underlying83 rfl ti83 rfl rfl) ?_
        first
          | refine S_lit elCell [⟨(readT s 64).2, [], (min (readS (readT s 64).1 (numR true 0 (readT s 64).1.left)).2 1073741824), 0⟩] rfl rfl rfl rfl u79 ti83 rfl rfl rfl rfl rfl (by decide) (fun ad112 c112 => ?_)
          | refine S_lit elCell [⟨(readT s 64).2, (readT (readS (readT s 64).1 (numR true 0 (readT s 64).1.left)).1 16384).2, (min (readS (readT s 64).1 (numR true 0 (readT s 64).1.left)).2 1073741824), 0⟩] rfl rfl rfl rfl u79 ti83 rfl rfl rfl rfl rfl (by decide) (fun ad112 c112 => ?_)
          | refine S_lit elCell [⟨(readT s 64).2, [], (min (readS (readT s 64).1 (numR true 0 (readT s 64).1.left)).2 1073741824), min (readS (readS (readT s 64).1 (numR true 0 (readT s 64).1.left)).1 (numR true 0 (readS (readT s 64).1 (numR true 0 (readT s 64).1.left)).1.left)).2 16384⟩] rfl rfl rfl rfl u79 ti83 rfl rfl rfl rfl rfl (by decide) (fun ad112 c112 => ?_)
        refine S_pub (by repeat constructor) ?_
        refine S_app rfl rfl rfl rfl u79 ti83 rfl rfl rfl rfl rfl rfl (by repeat constructor) (by repeat constructor) (by simp only [List.length_append, List.length_cons, List.length_nil]; omega) (by simp only [List.length_append, List.length_cons, List.length_nil]; omega) (fun ad113 c113 => ?_)
        refine S_run 1 rfl ?_
        refine S_nil <| C_blk ?_
        obtain ⟨fu, rfl⟩ : ∃ k, fu = k + 1 := ⟨fu - 1, by omega⟩
        refine hJ (fu, _, _, acc ++ [_], (_, _), (_, _)) _ _ _ _ (loadL_next ?_ hr (by omega) h1 h2 h3) (by show fu < fu + 1; omega) (by repeat (first | exact trivial | refine ⟨rfl, ?_⟩ | refine ⟨intE (by omega), ?_⟩)) (by repeat constructor) (by repeat constructor)
        simp only [Go.KX.stepC, Go.KX.stepT, if_true]
        first
          | (rw [if_pos (by omega)]; refine Prod.ext rfl (Prod.ext ?_ rfl); dsimp only [tailOK]; clear hJ hret hend hr; grind)
          | (rw [if_neg (by omega)]; refine Prod.ext rfl (Prod.ext ?_ rfl); dsimp only [tailOK]; clear hJ hret hend hr; grind)
      ·refine C_seq <| C_region ?_
       refine S_run 1 rfl ?_
       refine S_enter rfl rfl rfl (E_fn rfl rfl) (small_ok (most := 16384) hB1 hB2 (by decide)) ?_
       rintro _ _ _ ⟨adC, cC, rfl, rfl, rfl⟩
       try dsimp only [List.cons_append, List.nil_append]
       refine S_run 3 rfl ?_
       refine S_y rfl rfl rfl (Y_fa ly83 rfl rfl rfl) ?_
       refine S_st rfl rfl rfl ti3 rfl rfl rfl (by repeat constructor) (by rfl) ?_
       refine S_run 1 rfl ?_
       refine S_nil <| C_region ?_
       refine S_run 2 rfl ?_
       refine S_enter rfl rfl rfl (E_val rfl rfl rfl rfl) load1_ok ?_
       rintro _ _ _ ⟨rfl, rfl⟩
       try dsimp only [List.cons_append, List.nil_append]
       refine S_nil <| C_blk <| C_seq <| C_region ?_
       refine S_run 1 rfl ?_
       refine S_enter rfl rfl rfl (E_fn rfl rfl) sbad_ok ?_
       rintro _ _ _ ⟨rfl, rfl, rfl⟩
       try dsimp only [List.cons_append, List.nil_append]
       refine S_run 5 rfl ?_
       refine S_nil <| C_seq ?_
       refine C_draw rfl ?_
       refine C_firstp (i := 0) (W := 17179869184) (by kernel_rfl) rfl rfl rfl rfl rfl ?_
       refine C_firstp (i := 1) (W := 34359738364) (by kernel_rfl) rfl rfl rfl rfl rfl ?_
       refine C_firstp (i := 2) (W := 34359738360) (by kernel_rfl) rfl rfl rfl rfl rfl ?_
       refine C_firstp (i := 3) (W := 34359738352) (by kernel_rfl) rfl rfl rfl rfl rfl ?_
       refine C_prop 78 rfl (fun h78 => ?_) (fun h78 => ?_)
       ·refine C_firstf (i := 4) (W := 34359738336) (by kernel_rfl) rfl rfl rfl rfl ly83 rfl rfl rfl ?_
        refine C_first (i := 5) (W := 34359738304) (by kernel_rfl) rfl rfl rfl rfl (Y_ld u9 rfl rfl rfl) ?_
        refine C_first (i := 6) (W := 34359738240) (by kernel_rfl) rfl rfl rfl rfl (Y_strneq rfl rfl rfl) ?_
        refine C_firstp (i := 7) (W := 34359738112) (by kernel_rfl) rfl rfl rfl rfl rfl ?_
        refine C_prop 82 rfl (fun h82 => ?_) (fun h82 => ?_)
        ·refine C_firstoff (i := 8) (W := 34359737856) (by kernel_rfl) rfl rfl rfl rfl ?_
         refine C_firstoff (i := 9) (W := 34359737344) (by kernel_rfl) rfl rfl rfl rfl ?_
         refine C_firstoff (i := 10) (W := 34359736320) (by kernel_rfl) rfl rfl rfl rfl ?_
         refine C_firstoff (i := 11) (W := 34359734272) (by kernel_rfl) rfl rfl rfl rfl ?_
         refine C_firstoff (i := 12) (W := 34359730176) (by kernel_rfl) rfl rfl rfl rfl ?_
         refine C_firstoff (i := 13) (W := 34359721984) (by kernel_rfl) rfl rfl rfl rfl ?_
         refine C_firstoff (i := 14) (W := 34359705600) (by kernel_rfl) rfl rfl rfl rfl ?_
         refine C_firstp (i := 15) (W := 34359672832) (by kernel_rfl) rfl rfl rfl rfl rfl ?_
         refine C_firstp (i := 16) (W := 34359607296) (by kernel_rfl) rfl rfl rfl rfl rfl ?_
         refine C_firstp (i := 17) (W := 34359476224) (by kernel_rfl) rfl rfl rfl rfl rfl ?_
         refine C_firstp (i := 18) (W := 34359214080) (by kernel_rfl) rfl rfl rfl rfl rfl ?_
         refine C_first (i := 19) (W := 34358689792) (by kernel_rfl) rfl rfl rfl rfl (Y_slen rfl rfl u79) ?_
         refine C_firstp (i := 20) (W := 34357641216) (by kernel_rfl) rfl rfl rfl rfl rfl ?_
         refine C_firstp (i := 21) (W := 34355544064) (by kernel_rfl) rfl rfl rfl rfl rfl ?_
         refine C_prop 96 rfl (fun h96 => ?_) (fun h96 => ?_)
         ·refine C_firstoff (i := 22) (W := 32682016768) (by kernel_rfl) rfl rfl rfl rfl ?_
          refine C_firstoff (i := 23) (W := 32732348416) (by kernel_rfl) rfl rfl rfl rfl ?_
          refine C_firstoff (i := 24) (W := 32715571200) (by kernel_rfl) rfl rfl rfl rfl ?_
          refine C_firstoff (i := 25) (W := 32682016768) (by kernel_rfl) rfl rfl rfl rfl ?_
          refine C_firstoff (i := 26) (W := 32614907904) (by kernel_rfl) rfl rfl rfl rfl ?_
          refine C_firstoff (i := 27) (W := 32480690176) (by kernel_rfl) rfl rfl rfl rfl ?_
          refine C_firstoff (i := 28) (W := 32212254720) (by kernel_rfl) rfl rfl rfl rfl ?_
          refine C_firstoff (i := 29) (W := 33285996544) (by kernel_rfl) rfl rfl rfl rfl ?_
          refine C_firstoff (i := 30) (W := 32212254720) (by kernel_rfl) rfl rfl rfl rfl ?_
          refine C_firstoff (i := 31) (W := 30064771072) (by kernel_rfl) rfl rfl rfl rfl ?_
          refine C_firstp (i := 32) (W := 25769803776) (by kernel_rfl) rfl rfl rfl rfl rfl ?_
          refine C_firstp (i := 33) (W := 17179869184) (by kernel_rfl) rfl rfl rfl rfl rfl ?_
          refine C_one (i := 34) (by kernel_rfl) rfl ?_
          refine S_enter rfl rfl rfl (E_val rfl rfl rfl rfl) load1_ok ?_
          rintro _ _ _ ⟨rfl, rfl⟩
          try dsimp only [List.cons_append, List.nil_append]
          refine S_nil ?_
          refine C_done (by kernel_rfl) ?_
          refine C_region ?_
          refine S_run 1 rfl ?_
          refine S_y rfl rfl rfl (Y_ldS Try.underlying83 rfl ti83 rfl rfl) ?_
          first
            | refine S_lit elCell [⟨(readT s 64).2, [], (min (readS (readT s 64).1 (numR true 0 (readT s 64).1.left)).2 1073741824), 0⟩] rfl rfl rfl rfl u79 ti83 rfl rfl rfl rfl rfl (by decide) (fun ad112 c112 => ?_)
            | refine S_lit elCell [⟨(readT s 64).2, (readT (readS (readT s 64).1 (numR true 0 (readT s 64).1.left)).1 16384).2, (min (readS (readT s 64).1 (numR true 0 (readT s 64).1.left)).2 1073741824), 0⟩] rfl rfl rfl rfl u79 ti83 rfl rfl rfl rfl rfl (by decide) (fun ad112 c112 => ?_)
            | refine S_lit elCell [⟨(readT s 64).2, [], (min (readS (readT s 64).1 (numR true 0 (readT s 64).1.left)).2 1073741824), min (readS (readS (readT s 64).1 (numR true 0 (readT s 64).1.left)).1 (numR true 0 (readS (readT s 64).1 (numR true 0 (readT s 64).1.left)).1.left)).2 16384⟩] rfl rfl rfl rfl u79 ti83 rfl rfl rfl rfl rfl (by decide) (fun ad112 c112 => ?_)
          refine S_pub (by repeat constructor) ?_
          refine S_app rfl rfl rfl rfl u79 ti83 rfl rfl rfl rfl rfl rfl (by repeat constructor) (by repeat constructor) (by simp only [List.length_append, List.length_cons, List.length_nil]; omega) (by simp only [List.length_append, List.length_cons, List.length_nil]; omega) (fun ad113 c113 => ?_)
          refine S_run 1 rfl ?_
          refine S_nil <| C_blk ?_
          obtain ⟨fu, rfl⟩ : ∃ k, fu = k + 1 := ⟨fu - 1, by omega⟩
          refine hJ (fu, _, _, acc ++ [_], (_, _), (_, _)) _ _ _ _ (loadL_next ?_ hr (by omega) h1 h2 h3) (by show fu < fu + 1; omega) (by repeat (first | exact trivial | refine ⟨rfl, ?_⟩ | refine ⟨intE (by omega), ?_⟩)) (by repeat constructor) (by repeat constructor)
          simp only [Go.KX.stepC, Go.KX.stepT, if_true]
          first
            | (rw [if_pos (by omega)]; refine Prod.ext rfl (Prod.ext ?_ rfl); dsimp only [tailOK]; clear hJ hret hend hr; grind)
            | (rw [if_neg (by omega)]; refine Prod.ext rfl (Prod.ext ?_ rfl); dsimp only [tailOK]; clear hJ hret hend hr; grind)
         ·refine C_firstp (i := 22) (W := 32682016768) (by kernel_rfl) rfl rfl rfl rfl rfl ?_
          refine C_firstp (i := 23) (W := 32732348416) (by kernel_rfl) rfl rfl rfl rfl rfl ?_
          refine C_first (i := 24) (W := 32715571200) (by kernel_rfl) rfl rfl rfl rfl (Y_slen rfl rfl u79) ?_
          refine C_first (i := 25) (W := 32682016768) (by kernel_rfl) rfl rfl rfl rfl (Y_subi rfl rfl rfl (by omega) (by omega)) ?_
          obtain ⟨y, hy⟩ : ∃ y, acc[acc.length - 1]? = some y := ⟨_, List.getElem?_eq_getElem (by omega)⟩
          have hlk : lastKey acc = y.key := by unfold lastKey; rw [hy]
          refine C_firstx (i := 26) (W := 32614907904) (by kernel_rfl) rfl rfl rfl rfl (Y_ixO rfl u79 ti83 rfl rfl rfl (by repeat constructor) rfl (by omega) (by omega)) ?_
          rintro _ _ ⟨b101, rfl, rfl⟩
          refine C_firstf (i := 27) (W := 32480690176) (by kernel_rfl) rfl rfl rfl rfl ly83 rfl rfl rfl ?_
          refine C_first (i := 28) (W := 32212254720) (by kernel_rfl) rfl rfl rfl rfl (Y_ldA (i := acc.length - 1) (j := 0) u9 rfl rfl rfl (by repeat constructor) (by repeat constructor) (by show _ = (acc.length - 1) * 4 + 0; omega) hy rfl) ?_
          refine C_firstf (i := 29) (W := 33285996544) (by kernel_rfl) rfl rfl rfl rfl ly83 rfl rfl rfl ?_
          refine C_first (i := 30) (W := 32212254720) (by kernel_rfl) rfl rfl rfl rfl (Y_ld u9 rfl rfl rfl) ?_
          refine C_first (i := 31) (W := 30064771072) (by kernel_rfl) rfl rfl rfl rfl (Y_strlss rfl rfl rfl) ?_
          refine C_firstp (i := 32) (W := 25769803776) (by kernel_rfl) rfl rfl rfl rfl rfl ?_
          refine C_firstp (i := 33) (W := 17179869184) (by kernel_rfl) rfl rfl rfl rfl rfl ?_
          refine C_one (i := 34) (by kernel_rfl) rfl ?_
          refine S_enter rfl rfl rfl (E_val rfl rfl rfl rfl) load1_ok ?_
          rintro _ _ _ ⟨rfl, rfl⟩
          try dsimp only [List.cons_append, List.nil_append]
          refine S_nil ?_
          refine C_done (by kernel_rfl) ?_
          refine C_region ?_
          refine S_run 1 rfl ?_
          refine S_y rfl rfl rfl (Y_ldS Try.underlying83 rfl ti83 rfl rfl) ?_
          first
            | refine S_lit elCell [⟨(readT s 64).2, [], (min (readS (readT s 64).1 (numR true 0 (readT s 64).1.left)).2 1073741824), 0⟩] rfl rfl rfl rfl u79 ti83 rfl rfl rfl rfl rfl (by decide) (fun ad112 c112 => ?_)
            | refine S_lit elCell [⟨(readT s 64).2, (readT (readS (readT s 64).1 (numR true 0 (readT s 64).1.left)).1 16384).2, (min (readS (readT s 64).1 (numR true 0 (readT s 64).1.left)).2 1073741824), 0⟩] rfl rfl rfl rfl u79 ti83 rfl rfl rfl rfl rfl (by decide) (fun ad112 c112 => ?_)
            | refine S_lit elCell [⟨(readT s 64).2, [], (min (readS (readT s 64).1 (numR true 0 (readT s 64).1.left)).2 1073741824), min (readS (readS (readT s 64).1 (numR true 0 (readT s 64).1.left)).1 (numR true 0 (readS (readT s 64).1 (numR true 0 (readT s 64).1.left)).1.left)).2 16384⟩] rfl rfl rfl rfl u79 ti83 rfl rfl rfl rfl rfl (by decide) (fun ad112 c112 => ?_)
          refine S_pub (by repeat constructor) ?_
          refine S_app rfl rfl rfl rfl u79 ti83 rfl rfl rfl rfl rfl rfl (by repeat constructor) (by repeat constructor) (by simp only [List.length_append, List.length_cons, List.length_nil]; omega) (by simp only [List.length_append, List.length_cons, List.length_nil]; omega) (fun ad113 c113 => ?_)
          refine S_run 1 rfl ?_
          refine S_nil <| C_blk ?_
          obtain ⟨fu, rfl⟩ : ∃ k, fu = k + 1 := ⟨fu - 1, by omega⟩
          refine hJ (fu, _, _, acc ++ [_], (_, _), (_, _)) _ _ _ _ (loadL_next ?_ hr (by omega) h1 h2 h3) (by show fu < fu + 1; omega) (by repeat (first | exact trivial | refine ⟨rfl, ?_⟩ | refine ⟨intE (by omega), ?_⟩)) (by repeat constructor) (by repeat constructor)
          simp only [Go.KX.stepC, Go.KX.stepT, if_true]
          first
            | (rw [if_pos (by omega)]; refine Prod.ext rfl (Prod.ext ?_ rfl); dsimp only [tailOK]; clear hJ hret hend hr; grind)
            | (rw [if_neg (by omega)]; refine Prod.ext rfl (Prod.ext ?_ rfl); dsimp only [tailOK]; clear hJ hret hend hr; grind)
        ·refine C_firstp (i := 8) (W := 34359737856) (by kernel_rfl) rfl rfl rfl rfl rfl ?_
         refine C_firstp (i := 9) (W := 34359737344) (by kernel_rfl) rfl rfl rfl rfl rfl ?_
         refine C_firstp (i := 10) (W := 34359736320) (by kernel_rfl) rfl rfl rfl rfl rfl ?_
         refine C_firstoff (i := 11) (W := 34359734272) (by kernel_rfl) rfl rfl rfl rfl ?_
         refine C_firstoff (i := 12) (W := 34359730176) (by kernel_rfl) rfl rfl rfl rfl ?_
         refine C_firstoff (i := 13) (W := 34359721984) (by kernel_rfl) rfl rfl rfl rfl ?_
         refine C_firstp (i := 14) (W := 34359705600) (by kernel_rfl) rfl rfl rfl rfl rfl ?_
         refine C_firstp (i := 15) (W := 34359672832) (by kernel_rfl) rfl rfl rfl rfl rfl ?_
         refine C_firstp (i := 16) (W := 34359607296) (by kernel_rfl) rfl rfl rfl rfl rfl ?_
         refine C_firstp (i := 17) (W := 34359476224) (by kernel_rfl) rfl rfl rfl rfl rfl ?_
         refine C_firstoff (i := 18) (W := 34359214080) (by kernel_rfl) rfl rfl rfl rfl ?_
         refine C_firstoff (i := 19) (W := 34358689792) (by kernel_rfl) rfl rfl rfl rfl ?_
         refine C_firstoff (i := 20) (W := 34357641216) (by kernel_rfl) rfl rfl rfl rfl ?_
         refine C_firstoff (i := 21) (W := 34355544064) (by kernel_rfl) rfl rfl rfl rfl ?_
         refine C_firstoff (i := 22) (W := 32682016768) (by kernel_rfl) rfl rfl rfl rfl ?_
         refine C_firstoff (i := 23) (W := 32732348416) (by kernel_rfl) rfl rfl rfl rfl ?_
         refine C_firstoff (i := 24) (W := 32715571200) (by kernel_rfl) rfl rfl rfl rfl ?_
         refine C_firstoff (i := 25) (W := 32682016768) (by kernel_rfl) rfl rfl rfl rfl ?_
         refine C_firstoff (i := 26) (W := 32614907904) (by kernel_rfl) rfl rfl rfl rfl ?_
         refine C_firstoff (i := 27) (W := 32480690176) (by kernel_rfl) rfl rfl rfl rfl ?_
         refine C_firstoff (i := 28) (W := 32212254720) (by kernel_rfl) rfl rfl rfl rfl ?_
         refine C_firstoff (i := 29) (W := 33285996544) (by kernel_rfl) rfl rfl rfl rfl ?_
         refine C_firstoff (i := 30) (W := 32212254720) (by kernel_rfl) rfl rfl rfl rfl ?_
         refine C_firstoff (i := 31) (W := 30064771072) (by kernel_rfl) rfl rfl rfl rfl ?_
         refine C_firstoff (i := 32) (W := 25769803776) (by kernel_rfl) rfl rfl rfl rfl ?_
         refine C_firstp (i := 33) (W := 17179869184) (by kernel_rfl) rfl rfl rfl rfl rfl ?_
         refine C_one (i := 34) (by kernel_rfl) rfl ?_
         refine S_enter rfl rfl rfl (E_val rfl rfl rfl rfl) load1_ok ?_
         rintro _ _ _ ⟨rfl, rfl⟩
         try dsimp only [List.cons_append, List.nil_append]
         refine S_nil ?_
         refine C_done (by kernel_rfl) ?_
         refine C_region ?_
         refine S_run 1 rfl ?_
         refine S_y rfl rfl rfl (Y_ldS Try.underlying83 rfl ti83 rfl rfl) ?_
         first
           | refine S_lit elCell [⟨(readT s 64).2, [], (min (readS (readT s 64).1 (numR true 0 (readT s 64).1.left)).2 1073741824), 0⟩] rfl rfl rfl rfl u79 ti83 rfl rfl rfl rfl rfl (by decide) (fun ad112 c112 => ?_)
           | refine S_lit elCell [⟨(readT s 64).2, (readT (readS (readT s 64).1 (numR true 0 (readT s 64).1.left)).1 16384).2, (min (readS (readT s 64).1 (numR true 0 (readT s 64).1.left)).2 1073741824), 0⟩] rfl rfl rfl rfl u79 ti83 rfl rfl rfl rfl rfl (by decide) (fun ad112 c112 => ?_)
           | refine S_lit elCell [⟨(readT s 64).2, [], (min (readS (readT s 64).1 (numR true 0 (readT s 64).1.left)).2 1073741824), min (readS (readS (readT s 64).1 (numR true 0 (readT s 64).1.left)).1 (numR true 0 (readS (readT s 64).1 (numR true 0 (readT s 64).1.left)).1.left)).2 16384⟩] rfl rfl rfl rfl u79 ti83 rfl rfl rfl rfl rfl (by decide) (fun ad112 c112 => ?_)
         refine S_pub (by repeat constructor) ?_
         refine S_app rfl rfl rfl rfl u79 ti83 rfl rfl rfl rfl rfl rfl (by repeat constructor) (by repeat constructor) (by simp only [List.length_append, List.length_cons, List.length_nil]; omega) (by simp only [List.length_append, List.length_cons, List.length_nil]; omega) (fun ad113 c113 => ?_)
         refine S_run 1 rfl ?_
         refine S_nil <| C_blk ?_
         obtain ⟨fu, rfl⟩ : ∃ k, fu = k + 1 := ⟨fu - 1, by omega⟩
         refine hJ (fu, _, _, acc ++ [_], (_, _), (_, _)) _ _ _ _ (loadL_next ?_ hr (by omega) h1 h2 h3) (by show fu < fu + 1; omega) (by repeat (first | exact trivial | refine ⟨rfl, ?_⟩ | refine ⟨intE (by omega), ?_⟩)) (by repeat constructor) (by repeat constructor)
         simp only [Go.KX.stepC, Go.KX.stepT, if_true]
         first
           | (rw [if_pos (by omega)]; refine Prod.ext rfl (Prod.ext ?_ rfl); dsimp only [tailOK]; clear hJ hret hend hr; grind)
           | (rw [if_neg (by omega)]; refine Prod.ext rfl (Prod.ext ?_ rfl); dsimp only [tailOK]; clear hJ hret hend hr; grind)
       ·refine C_firstoff (i := 4) (W := 34359738336) (by kernel_rfl) rfl rfl rfl rfl ?_
        refine C_firstoff (i := 5) (W := 34359738304) (by kernel_rfl) rfl rfl rfl rfl ?_
        refine C_firstoff (i := 6) (W := 34359738240) (by kernel_rfl) rfl rfl rfl rfl ?_
        refine C_firstoff (i := 7) (W := 34359738112) (by kernel_rfl) rfl rfl rfl rfl ?_
        refine C_firstoff (i := 8) (W := 34359737856) (by kernel_rfl) rfl rfl rfl rfl ?_
        refine C_firstoff (i := 9) (W := 34359737344) (by kernel_rfl) rfl rfl rfl rfl ?_
        refine C_firstoff (i := 10) (W := 34359736320) (by kernel_rfl) rfl rfl rfl rfl ?_
        refine C_firstoff (i := 11) (W := 34359734272) (by kernel_rfl) rfl rfl rfl rfl ?_
        refine C_firstoff (i := 12) (W := 34359730176) (by kernel_rfl) rfl rfl rfl rfl ?_
        refine C_firstoff (i := 13) (W := 34359721984) (by kernel_rfl) rfl rfl rfl rfl ?_
        refine C_firstoff (i := 14) (W := 34359705600) (by kernel_rfl) rfl rfl rfl rfl ?_
        refine C_firstoff (i := 15) (W := 34359672832) (by kernel_rfl) rfl rfl rfl rfl ?_
        refine C_firstp (i := 16) (W := 34359607296) (by kernel_rfl) rfl rfl rfl rfl rfl ?_
        refine C_firstp (i := 17) (W := 34359476224) (by kernel_rfl) rfl rfl rfl rfl rfl ?_
        refine C_firstoff (i := 18) (W := 34359214080) (by kernel_rfl) rfl rfl rfl rfl ?_
        refine C_firstoff (i := 19) (W := 34358689792) (by kernel_rfl) rfl rfl rfl rfl ?_
        refine C_firstoff (i := 20) (W := 34357641216) (by kernel_rfl) rfl rfl rfl rfl ?_
        refine C_firstoff (i := 21) (W := 34355544064) (by kernel_rfl) rfl rfl rfl rfl ?_
        refine C_firstoff (i := 22) (W := 32682016768) (by kernel_rfl) rfl rfl rfl rfl ?_
        refine C_firstoff (i := 23) (W := 32732348416) (by kernel_rfl) rfl rfl rfl rfl ?_
        refine C_firstoff (i := 24) (W := 32715571200) (by kernel_rfl) rfl rfl rfl rfl ?_
        refine C_firstoff (i := 25) (W := 32682016768) (by kernel_rfl) rfl rfl rfl rfl ?_
        refine C_firstoff (i := 26) (W := 32614907904) (by kernel_rfl) rfl rfl rfl rfl ?_
        refine C_firstoff (i := 27) (W := 32480690176) (by kernel_rfl) rfl rfl rfl rfl ?_
        refine C_firstoff (i := 28) (W := 32212254720) (by kernel_rfl) rfl rfl rfl rfl ?_
        refine C_firstoff (i := 29) (W := 33285996544) (by kernel_rfl) rfl rfl rfl rfl ?_
        refine C_firstoff (i := 30) (W := 32212254720) (by kernel_rfl) rfl rfl rfl rfl ?_
        refine C_firstoff (i := 31) (W := 30064771072) (by kernel_rfl) rfl rfl rfl rfl ?_
        refine C_firstoff (i := 32) (W := 25769803776) (by kernel_rfl) rfl rfl rfl rfl ?_
        refine C_firstp (i := 33) (W := 17179869184) (by kernel_rfl) rfl rfl rfl rfl rfl ?_
        refine C_one (i := 34) (by kernel_rfl) rfl ?_
        refine S_enter rfl rfl rfl (E_val rfl rfl rfl rfl) load1_ok ?_
        rintro _ _ _ ⟨rfl, rfl⟩
        try dsimp only [List.cons_append, List.nil_append]
        refine S_nil ?_
        refine C_done (by kernel_rfl) ?_
        refine C_region ?_
        refine S_run 1 rfl ?_
        refine S_y rfl rfl rfl (Y_ldS Try.underlying83 rfl ti83 rfl rfl) ?_
        first
          | refine S_lit elCell [⟨(readT s 64).2, [], (min (readS (readT s 64).1 (numR true 0 (readT s 64).1.left)).2 1073741824), 0⟩] rfl rfl rfl rfl u79 ti83 rfl rfl rfl rfl rfl (by decide) (fun ad112 c112 => ?_)
          | refine S_lit elCell [⟨(readT s 64).2, (readT (readS (readT s 64).1 (numR true 0 (readT s 64).1.left)).1 16384).2, (min (readS (readT s 64).1 (numR true 0 (readT s 64).1.left)).2 1073741824), 0⟩] rfl rfl rfl rfl u79 ti83 rfl rfl rfl rfl rfl (by decide) (fun ad112 c112 => ?_)
          | refine S_lit elCell [⟨(readT s 64).2, [], (min (readS (readT s 64).1 (numR true 0 (readT s 64).1.left)).2 1073741824), min (readS (readS (readT s 64).1 (numR true 0 (readT s 64).1.left)).1 (numR true 0 (readS (readT s 64).1 (numR true 0 (readT s 64).1.left)).1.left)).2 16384⟩] rfl rfl rfl rfl u79 ti83 rfl rfl rfl rfl rfl (by decide) (fun ad112 c112 => ?_)
        refine S_pub (by repeat constructor) ?_
        refine S_app rfl rfl rfl rfl u79 ti83 rfl rfl rfl rfl rfl rfl (by repeat constructor) (by repeat constructor) (by simp only [List.length_append, List.length_cons, List.length_nil]; omega) (by simp only [List.length_append, List.length_cons, List.length_nil]; omega) (fun ad113 c113 => ?_)
        refine S_run 1 rfl ?_
        refine S_nil <| C_blk ?_
        obtain ⟨fu, rfl⟩ : ∃ k, fu = k + 1 := ⟨fu - 1, by omega⟩
        refine hJ (fu, _, _, acc ++ [_], (_, _), (_, _)) _ _ _ _ (loadL_next ?_ hr (by omega) h1 h2 h3) (by show fu < fu + 1; omega) (by repeat (first | exact trivial | refine ⟨rfl, ?_⟩ | refine ⟨intE (by omega), ?_⟩)) (by repeat constructor) (by repeat constructor)
        simp only [Go.KX.stepC, Go.KX.stepT, if_true]
        first
          | (rw [if_pos (by omega)]; refine Prod.ext rfl (Prod.ext ?_ rfl); dsimp only [tailOK]; clear hJ hret hend hr; grind)
          | (rw [if_neg (by omega)]; refine Prod.ext rfl (Prod.ext ?_ rfl); dsimp only [tailOK]; clear hJ hret hend hr; grind)
     ·refine C_exit rfl <| C_seq <| C_seq <| C_region ?_
      have hR : loadL true fu s ok acc = (ok, acc) := loadL_end (by rintro ⟨q1, q2⟩; first | omega | (rw [q2] at h33; cases h33))
      rw [hr] at hR
      refine S_y rfl rfl rfl (Y_ld u4 rfl rfl rfl) ?_
      refine S_run 2 rfl ?_
      refine S_bool 116 rfl (fun h116 => ?_) (fun h116 => ?_)
      ·refine S_run 4 rfl ?_
       refine S_nil ?_
       refine C_cond_t rfl ?_
       refine C_seq <| C_region ?_
       have e : loadN m n true = (51, []) := by
         unfold loadN; rw [if_neg (by omega)]; dsimp only; rw [hR]; refine if_pos ?_; first | exact .inl (by simpa using h116) | exact .inr (by dsimp only; omega)
       refine S_run 2 rfl ?_
       refine S_nil ?_
       rw [e] at hret
       first
         | exact hret (Res_tmps Try.results35 rfl rfl) (.inr ⟨rfl, adL, cL, rfl, rfl, rfl⟩)
         | exact hret (Res_tmps Try.results35 rfl rfl) (.inl ⟨by first | decide | (dsimp only; omega), rfl, rfl, rfl⟩)
      ·refine S_run 1 rfl ?_
       refine S_y rfl rfl rfl (Y_slen rfl rfl u79) ?_
       refine S_run 2 rfl ?_
       refine S_nil ?_
       refine C_if rfl (fun h120 => ?_) (fun h120 => ?_)
       ·refine C_seq <| C_region ?_
        have e : loadN m n true = (51, []) := by
          unfold loadN; rw [if_neg (by omega)]; dsimp only; rw [hR]; refine if_pos ?_; first | exact .inl (by simpa using h116) | exact .inr (by dsimp only; omega)
        refine S_run 2 rfl ?_
        refine S_nil ?_
        rw [e] at hret
        first
          | exact hret (Res_tmps Try.results35 rfl rfl) (.inr ⟨rfl, adL, cL, rfl, rfl, rfl⟩)
          | exact hret (Res_tmps Try.results35 rfl rfl) (.inl ⟨by first | decide | (dsimp only; omega), rfl, rfl, rfl⟩)
       ·refine C_skip <| C_seq <| C_region ?_
        have e : loadN m n true = (0, acc) := by
          unfold loadN; rw [if_neg (by omega)]; dsimp only; rw [hR]; refine if_neg ?_; rintro (q | q)
          · dsimp only at q; rw [q] at h116; cases h116
          · dsimp only at q; omega
        refine S_run 3 rfl ?_
        refine S_nil ?_
        rw [e] at hret
        first
          | exact hret (Res_tmps Try.results35 rfl rfl) (.inr ⟨rfl, adL, cL, rfl, rfl, rfl⟩)
          | exact hret (Res_tmps Try.results35 rfl rfl) (.inl ⟨by first | decide | (dsimp only; omega), rfl, rfl, rfl⟩)
    ·refine S_run 2 rfl ?_
     refine S_nil ?_
     refine C_cond_f rfl ?_
     refine C_exit rfl <| C_seq <| C_seq <| C_region ?_
     have hR : loadL true fu s ok acc = (ok, acc) := loadL_end (by rintro ⟨q1, q2⟩; first | omega | (rw [q2] at h33; cases h33))
     rw [hr] at hR
     refine S_y rfl rfl rfl (Y_ld u4 rfl rfl rfl) ?_
     refine S_run 2 rfl ?_
     refine S_bool 116 rfl (fun h116 => ?_) (fun h116 => ?_)
     ·refine S_run 4 rfl ?_
      refine S_nil ?_
      refine C_cond_t rfl ?_
      refine C_seq <| C_region ?_
      have e : loadN m n true = (51, []) := by
        unfold loadN; rw [if_neg (by omega)]; dsimp only; rw [hR]; refine if_pos ?_; first | exact .inl (by simpa using h116) | exact .inr (by dsimp only; omega)
      refine S_run 2 rfl ?_
      refine S_nil ?_
      rw [e] at hret
      first
        | exact hret (Res_tmps Try.results35 rfl rfl) (.inr ⟨rfl, adL, cL, rfl, rfl, rfl⟩)
        | exact hret (Res_tmps Try.results35 rfl rfl) (.inl ⟨by first | decide | (dsimp only; omega), rfl, rfl, rfl⟩)
     ·refine S_run 1 rfl ?_
      refine S_y rfl rfl rfl (Y_slen rfl rfl u79) ?_
      refine S_run 2 rfl ?_
      refine S_nil ?_
      refine C_if rfl (fun h120 => ?_) (fun h120 => ?_)
      ·refine C_seq <| C_region ?_
       have e : loadN m n true = (51, []) := by
         unfold loadN; rw [if_neg (by omega)]; dsimp only; rw [hR]; refine if_pos ?_; first | exact .inl (by simpa using h116) | exact .inr (by dsimp only; omega)
       refine S_run 2 rfl ?_
       refine S_nil ?_
       rw [e] at hret
       first
         | exact hret (Res_tmps Try.results35 rfl rfl) (.inr ⟨rfl, adL, cL, rfl, rfl, rfl⟩)
         | exact hret (Res_tmps Try.results35 rfl rfl) (.inl ⟨by first | decide | (dsimp only; omega), rfl, rfl, rfl⟩)
      ·refine C_skip <| C_seq <| C_region ?_
       have e : loadN m n true = (0, acc) := by
         unfold loadN; rw [if_neg (by omega)]; dsimp only; rw [hR]; refine if_neg ?_; rintro (q | q)
         · dsimp only at q; rw [q] at h116; cases h116
         · dsimp only at q; omega
       refine S_run 3 rfl ?_
       refine S_nil ?_
       rw [e] at hret
       first
         | exact hret (Res_tmps Try.results35 rfl rfl) (.inr ⟨rfl, adL, cL, rfl, rfl, rfl⟩)
         | exact hret (Res_tmps Try.results35 rfl rfl) (.inl ⟨by first | decide | (dsimp only; omega), rfl, rfl, rfl⟩)
end Go.Proofs.Ytlgbhceifnjdnaa
