/- Walks: WE. -/
import Derived.Test.YtlgbhceifnjdnaaWD
import Derived.Test.YtlgbhceifnjdnaaProg
import Derived.KernelRfl
namespace Go.Proofs.Ytlgbhceifnjdnaa
open Go.KX
namespace TWE
theorem u3 : Try.prog.underlying 3 = some (.int .i64) := Try.underlying3
theorem u4 : Try.prog.underlying 4 = some (.bool) := Try.underlying4
theorem u5 : Try.prog.underlying 5 = some (.int .u8) := Try.underlying5
theorem u9 : Try.prog.underlying 9 = some (.string) := Try.underlying9
theorem u68 : Try.prog.underlying 68 = some (.slice 5) := Try.underlying68
theorem u79 : Try.prog.underlying 79 = some (.slice 83) := Try.underlying79
theorem u128 : Try.prog.underlying 128 = some (.int .u64) := Try.underlying128
theorem ti4 : TI Try.prog 4 1 1 (.bool false) := TI_of (by kernel_rfl)
theorem ti5 : TI Try.prog 5 1 1 (.int .u8 0) := TI_of (by kernel_rfl)
theorem ti31 : TI Try.prog 31 3 24 (.agg #[.int .i64 0, .int .i64 0, .int .i64 0]) := TI_of (by kernel_rfl)
theorem ti83 : TI Try.prog 83 4 48 (.agg #[str [], str [], .int .i64 0, .int .i64 0]) := TI_of (by kernel_rfl)
theorem ti108 : TI Try.prog 108 2 24 (.agg #[.nilIface, .map none]) := TI_of (by kernel_rfl)
theorem ly31 : LY Try.prog 31 [(0, 1, false), (1, 1, false), (2, 1, false)] := LY_of Try.underlying31 (by kernel_rfl)
theorem ly83 : LY Try.prog 83 [(0, 1, false), (1, 1, false), (2, 1, false), (3, 1, false)] := LY_of Try.underlying83 (by kernel_rfl)
theorem ly108 : LY Try.prog 108 [(0, 1, false), (1, 1, false)] := LY_of Try.underlying108 (by kernel_rfl)
theorem bt31 : BT Try.prog 31 [(0, 1), (1, 1), (2, 1)] [.int .i64 0, .int .i64 0, .int .i64 0] := BT_of (pl := [(0, 1, false), (1, 1, false), (2, 1, false)]) Try.underlying31 (by kernel_rfl) ti31
theorem bt108 : BT Try.prog 108 [(0, 1), (1, 1)] [.nilIface, .map none] := BT_of (pl := [(0, 1, false), (1, 1, false)]) Try.underlying108 (by kernel_rfl) ti108
end TWE
open TWE
set_option maxRecDepth 100000 in
theorem tree_eq {w : World} (a b c a' b' c' : Int) : (Op.eqFields 9999 #[.int .i64 a, .int .i64 b, .int .i64 c] #[.int .i64 a', .int .i64 b', .int .i64 c'] (Try.prog.fieldsOf 31).toList).run Try.prog w = .ok (decide (a = a' ∧ b = b' ∧ c = c')) w := by
  simp only [Program.fieldsOf, Try.underlying31]
  rw [eqF_int (by decide) u3 rfl rfl, eqF_int (by decide) u3 rfl rfl, eqF_int (by decide) u3 rfl rfl]
  by_cases h1 : a = a' <;> by_cases h2 : b = b' <;> by_cases h3 : c = c' <;> simp [h1, h2, h3, Op.eqFields]
set_option maxRecDepth 100000 in
theorem pair_eq {w : World} (a b a' b' : Bytes) : (Op.eqFields 9999 #[str a, str b] #[str a', str b'] (Try.prog.fieldsOf 56).toList).run Try.prog w = .ok (decide (a = a' ∧ b = b')) w := by
  simp only [Program.fieldsOf, Try.underlying56]
  rw [eqF_str (by decide) u9 rfl rfl, eqF_str (by decide) u9 rfl rfl]
  by_cases h1 : a = a' <;> by_cases h2 : b = b' <;> simp [h1, h2, Op.eqFields]
set_option maxRecDepth 100000 in
theorem rkey_ok {key : Bytes} : Spx Try.prog 33 #[str key] [] [] (fun v fs' own' => v = .bool (decide (key ≠ [] ∧ key.length ≤ 64)) ∧ fs' = [] ∧ own' = []) := by
 refine Spx_of_body (fn := Try.f33) 10 Try.func33 rfl (by kernel_rfl) rfl (Nat.le_of_ble_eq_true rfl) (fun g0 Q hret hend => ?_); dsimp only [initL]; refine C_seq <| C_region <| S_run 1 rfl <| S_nil <| C_seq <| C_region <| S_run 1 rfl ?_; refine S_y rfl rfl rfl (Y_strneq rfl rfl rfl) ?_; refine S_run 1 rfl ?_; refine S_prop 5 rfl (fun h5 => ?_) (fun h5 => ?_)
 ·refine S_run 1 rfl ?_; refine S_y rfl rfl rfl (Y_strlen rfl rfl u9) ?_; refine S_run 3 rfl <| S_nil ?_; exact hret (Res_tmps Try.results33 rfl rfl) ⟨by first | exact congrArg Value.bool (decide_eq_decide.2 ⟨fun h => ⟨h5, by omega⟩, fun h => by omega⟩) | exact congrArg Value.bool (decide_eq_false (fun h => h5 h.1)).symm, rfl, rfl⟩
 ·refine S_run 5 rfl <| S_nil ?_; exact hret (Res_tmps Try.results33 rfl rfl) ⟨by first | exact congrArg Value.bool (decide_eq_decide.2 ⟨fun h => ⟨h5, by omega⟩, fun h => by omega⟩) | exact congrArg Value.bool (decide_eq_false (fun h => h5 h.1)).symm, rfl, rfl⟩
set_option maxRecDepth 100000 in
theorem right_ok {t : Tree} : Spx Try.prog 34 #[.agg #[.int .i64 t.root, .int .i64 t.keys, .int .i64 t.deep]] [] [] (fun v fs' own' => v = .bool (rightT t) ∧ fs' = [] ∧ own' = []) := by
 refine Spx_of_body (fn := Try.f34) 26 Try.func34 rfl (by kernel_rfl) rfl (Nat.le_of_ble_eq_true rfl) (fun g0 Q hret hend => ?_); dsimp only [initL]; refine C_seq <| C_region ?_; refine S_box rfl rfl rfl rfl rfl rfl (fun b1 => ?_); refine S_run 1 rfl <| S_nil <| C_seq <| C_region ?_; refine S_y rfl rfl rfl (Y_ldS Try.underlying31 rfl ti31 rfl rfl) ?_; refine S_y rfl rfl rfl (Y_build [.const (.int .i64 0), .const (.int .i64 0), .const (.int .i64 0)] bt31 rfl rfl rfl rfl) ?_; refine S_y rfl rfl rfl (Y_eqlS (fl := Try.prog.fieldsOf 31) rfl rfl rfl (by kernel_rfl) (by kernel_rfl) (fun w => by kernel_rfl) (fun w => tree_eq _ _ _ _ _ _)) ?_; refine S_run 1 rfl ?_; refine S_prop 6 rfl (fun h6 => ?_) (fun h6 => ?_)
 ·refine S_run 20 rfl <| S_nil ?_; exact hret (Res_tmps Try.results34 rfl rfl) ⟨by first | exact congrArg Value.bool (decide_eq_true (by omega)).symm | exact congrArg Value.bool (decide_eq_false (by omega)).symm | exact congrArg Value.bool (decide_eq_decide.2 ⟨fun h => by omega, fun h => by omega⟩), rfl, rfl⟩
 ·refine S_y rfl rfl rfl (Y_fa ly31 rfl rfl rfl) ?_; refine S_y rfl rfl rfl (Y_ld u3 rfl rfl rfl) ?_; refine S_run 2 rfl ?_; refine S_prop 10 rfl (fun h10 => ?_) (fun h10 => ?_)
  ·refine S_y rfl rfl rfl (Y_fa ly31 rfl rfl rfl) ?_; refine S_y rfl rfl rfl (Y_ld u3 rfl rfl rfl) ?_; refine S_run 3 rfl ?_; refine S_prop 15 rfl (fun h15 => ?_) (fun h15 => ?_)
   ·refine S_y rfl rfl rfl (Y_fa ly31 rfl rfl rfl) ?_; refine S_y rfl rfl rfl (Y_ld u3 rfl rfl rfl) ?_; refine S_run 3 rfl ?_; refine S_prop 20 rfl (fun h20 => ?_) (fun h20 => ?_)
    ·refine S_y rfl rfl rfl (Y_fa ly31 rfl rfl rfl) ?_; refine S_y rfl rfl rfl (Y_ld u3 rfl rfl rfl) ?_; refine S_run 4 rfl <| S_nil ?_; exact hret (Res_tmps Try.results34 rfl rfl) ⟨by first | exact congrArg Value.bool (decide_eq_true (by omega)).symm | exact congrArg Value.bool (decide_eq_false (by omega)).symm | exact congrArg Value.bool (decide_eq_decide.2 ⟨fun h => by omega, fun h => by omega⟩), rfl, rfl⟩
    ·refine S_run 6 rfl <| S_nil ?_; exact hret (Res_tmps Try.results34 rfl rfl) ⟨by first | exact congrArg Value.bool (decide_eq_true (by omega)).symm | exact congrArg Value.bool (decide_eq_false (by omega)).symm | exact congrArg Value.bool (decide_eq_decide.2 ⟨fun h => by omega, fun h => by omega⟩), rfl, rfl⟩
   ·refine S_run 11 rfl <| S_nil ?_; exact hret (Res_tmps Try.results34 rfl rfl) ⟨by first | exact congrArg Value.bool (decide_eq_true (by omega)).symm | exact congrArg Value.bool (decide_eq_false (by omega)).symm | exact congrArg Value.bool (decide_eq_decide.2 ⟨fun h => by omega, fun h => by omega⟩), rfl, rfl⟩
  ·refine S_run 16 rfl <| S_nil ?_; exact hret (Res_tmps Try.results34 rfl rfl) ⟨by first | exact congrArg Value.bool (decide_eq_true (by omega)).symm | exact congrArg Value.bool (decide_eq_false (by omega)).symm | exact congrArg Value.bool (decide_eq_decide.2 ⟨fun h => by omega, fun h => by omega⟩), rfl, rfl⟩
set_option maxRecDepth 100000 in
theorem search_ok {n fn : Nat} {c1 c2 : Value} {f1 f2 f3 : MF} {f : Nat → Bool} (hn : n ≤ 4611686018427387904) (hf : ∀ i, i < n → Spx Try.prog fn #[.int .i64 (i : Int), c1, c2] [f1, f2, f3] [] (fun v fs' own' => v = .bool (f i) ∧ fs' = [] ∧ own' = [])) : Spx Try.prog 46 #[.int .i64 (n : Int), .func (.func fn) #[] #[c1, c2]] [f1, f2, f3] [] (fun v fs' own' => v = .int .i64 (searchN n f : Int) ∧ fs' = [] ∧ own' = []) := by
 refine Spx_of_body (fn := Try.f46) 26 Try.func46 rfl (by kernel_rfl) rfl (Nat.le_of_ble_eq_true rfl) (fun g0 Q hret hend => ?_); dsimp only [initL]; refine C_seq <| C_region <| S_run 1 rfl <| S_nil <| C_seq <| C_region <| S_run 3 rfl <| S_nil <| C_seq <| C_block ?_
 refine C_loop (σ := Nat × Nat × Nat) (fun s => s.2.1 ≤ s.2.2 ∧ s.2.2 ≤ n ∧ s.2.2 - s.2.1 ≤ s.1 ∧ bs s.1 f s.2.1 s.2.2 = searchN n f) (fun s => s.2.2 - s.2.1)
   (fun s => [(1, .func (.func fn) #[] #[c1, c2]), (5, .int .i64 (s.2.1 : Int)), (6, .int .i64 (s.2.2 : Int))])
   (fun s => [f1, f2, f3]) (fun s => []) (n, 0, n) ?_ (by repeat (first | exact trivial | refine ⟨rfl, ?_⟩ | refine ⟨intE (by omega), ?_⟩)) (by repeat constructor) (by repeat constructor) ?_
 ·exact ⟨Nat.zero_le _, Nat.le_refl _, by simp, rfl⟩
 ·rintro J ⟨fu, i, j⟩ ⟨hij, hjn, hfu, hr⟩ hJ; dsimp only at hij hjn hfu hr ⊢; refine C_seq <| C_seq <| C_region <| S_run 3 rfl <| S_nil ?_; refine C_if rfl (fun h11 => ?_) (fun h11 => ?_)
  ·refine C_skip <| C_block <| C_seq <| C_region <| S_run 2 rfl ?_; refine S_y rfl rfl rfl (Y_addi rfl rfl rfl (by omega) (by omega)) ?_; refine S_y rfl rfl rfl ((Y_conv rfl rfl u3 u128).as (v' := .int .u64 ((i + j : Nat) : Int)) (by rw [wrap_u64 (by omega) (by omega)]; push_cast; rfl)) ?_; refine S_y rfl rfl rfl ((Y_shr rfl rfl rfl (by decide)).as (v' := .int .u64 (((i + j) / 2 : Nat) : Int)) (by congr 1; show ((i + j : Nat) : Int).fdiv 2 = _; rw [Int.fdiv_eq_ediv_of_nonneg _ (by decide)]; rfl)) ?_; refine S_y rfl rfl rfl ((Y_conv rfl rfl u128 u3).as (v' := .int .i64 (((i + j) / 2 : Nat) : Int)) (by rw [wrap_i64 (by omega) (by omega)])) ?_; refine S_run 1 rfl <| S_nil <| C_seq <| C_region <| S_run 2 rfl ?_; refine S_enter rfl rfl rfl (E_val rfl rfl rfl rfl) (hf ((i + j) / 2) (by omega)) ?_; rintro _ _ _ ⟨rfl, rfl, rfl⟩; (try dsimp only [c_a, n_a]); refine S_run 1 rfl <| S_nil ?_; refine C_cond rfl (fun h21 => ?_) (fun h21 => ?_)
   ·have hfh : f ((i + j) / 2) = false := by simpa using h21
    refine C_region <| S_run 1 rfl ?_; refine S_y rfl rfl rfl (Y_addi rfl rfl rfl (by omega) (by omega)) ?_; refine S_run 1 rfl <| S_nil <| C_blk ?_; obtain ⟨fu, rfl⟩ : ∃ k, fu = k + 1 := ⟨fu - 1, by omega⟩; rw [bs, if_pos (by omega)] at hr; rw [hfh] at hr
    first
      | (rw [if_neg (by decide)] at hr
         exact hJ (fu, (i + j) / 2 + 1, j) ⟨by show (i + j) / 2 + 1 ≤ j; omega, hjn, by show j - ((i + j) / 2 + 1) ≤ fu; omega, hr⟩ (by show j - ((i + j) / 2 + 1) < j - i; omega))
      | (rw [if_pos rfl] at hr
         exact hJ (fu, i, (i + j) / 2) ⟨by show i ≤ (i + j) / 2; omega, by show (i + j) / 2 ≤ n; omega, by show (i + j) / 2 - i ≤ fu; omega, hr⟩ (by show (i + j) / 2 - i < j - i; omega))
   ·have hfh : f ((i + j) / 2) = true := by simpa using h21
    refine C_region <| S_run 2 rfl <| S_nil <| C_blk ?_; obtain ⟨fu, rfl⟩ : ∃ k, fu = k + 1 := ⟨fu - 1, by omega⟩; rw [bs, if_pos (by omega)] at hr; rw [hfh] at hr
    first
      | (rw [if_neg (by decide)] at hr
         exact hJ (fu, (i + j) / 2 + 1, j) ⟨by show (i + j) / 2 + 1 ≤ j; omega, hjn, by show j - ((i + j) / 2 + 1) ≤ fu; omega, hr⟩ (by show j - ((i + j) / 2 + 1) < j - i; omega))
      | (rw [if_pos rfl] at hr
         exact hJ (fu, i, (i + j) / 2) ⟨by show i ≤ (i + j) / 2; omega, by show (i + j) / 2 ≤ n; omega, by show (i + j) / 2 - i ≤ fu; omega, hr⟩ (by show (i + j) / 2 - i < j - i; omega))
  ·refine C_exit rfl <| C_seq <| C_region ?_; rw [bs_end (by omega)] at hr; subst hr; refine S_run 2 rfl <| S_nil ?_; exact hret (Res_tmps Try.results46 rfl rfl) ⟨rfl, rfl, rfl⟩
set_option maxRecDepth 100000 in
theorem child1_ok {bl bk i c : Nat} {ad : Option Addr} {l : List Cell} {key : Bytes} (hi : i < l.length) : Spx Try.prog 62 #[.int .i64 (i : Int), .pointer (some ⟨bl, 0, none⟩), .pointer (some ⟨bk, 0, none⟩)] [PtM bl 0 [.slice ad l.length c], PtM bk 0 [str key], SlM elCell ad c l] [] (fun v fs' own' => v = .bool (gtAt l key i) ∧ fs' = [] ∧ own' = []) := by
 refine Spx_of_body (fn := Try.f62) 12 Try.func62 rfl (by kernel_rfl) rfl (Nat.le_of_ble_eq_true rfl) (fun g0 Q hret hend => ?_); dsimp only [initL]; refine C_seq <| C_region <| S_run 1 rfl <| S_nil <| C_seq ?_; refine C_draw rfl ?_; refine c_r 0 220 (by kernel_rfl) rfl rfl rfl rfl (Y_ld u79 rfl rfl rfl) ?_; refine c_p 1 220 ?_; obtain ⟨y, hy⟩ : ∃ y, l[i]? = some y := ⟨_, List.getElem?_eq_getElem hi⟩; refine C_firstx (i := 2) (W := 216) (by kernel_rfl) rfl rfl rfl rfl (Y_ixA rfl u79 ti83 rfl rfl rfl (by repeat constructor) rfl (by omega) hy) ?_; rintro _ _ ⟨b7, o7, rfl, rfl⟩; refine c_f 3 208 ly83 ?_; refine c_r 4 192 (by kernel_rfl) rfl rfl rfl rfl (Y_ld u9 rfl rfl rfl) ?_; refine c_r 5 192 (by kernel_rfl) rfl rfl rfl rfl (Y_ld u9 rfl rfl rfl) ?_; refine c_r 6 128 (by kernel_rfl) rfl rfl rfl rfl (Y_strgtr rfl rfl rfl) ?_; refine c_p 7 0 ?_; refine c_d ?_; exact hret (Res_tmps Try.results62 rfl rfl) ⟨by unfold gtAt; rw [hy]; first | done | rfl, rfl, rfl⟩
set_option maxRecDepth 100000 in
theorem child_ok {c : Nat} {ad : Option Addr} {l : List Cell} {key : Bytes} (hl : l.length ≤ 4611686018427387904) : Spx Try.prog 36 #[.slice ad l.length c, str key] [SlM elCell ad c l] [] (fun v fs' own' => v = .int .i64 (childI l key : Int) ∧ fs' = [] ∧ own' = []) := by
 refine Spx_of_body (fn := Try.f36) 13 Try.func36 rfl (by kernel_rfl) rfl (Nat.le_of_ble_eq_true rfl) (fun g0 Q hret hend => ?_); dsimp only [initL]; refine C_seq <| C_region ?_; refine S_box rfl rfl rfl rfl rfl rfl (fun b2 => ?_); refine S_box rfl rfl rfl rfl rfl rfl (fun b3 => ?_); refine S_run 1 rfl <| S_nil <| C_seq <| C_region ?_; have hsl := searchN_le l.length (gtAt l key); refine S_frz (b := b2) (by repeat constructor) ?_; refine S_frz (b := b3) (by repeat constructor) ?_; refine S_y rfl rfl rfl (Y_ld u79 rfl rfl rfl) ?_; refine S_y rfl rfl rfl (Y_slen rfl rfl u79) ?_; refine S_run 1 rfl ?_; refine S_enter rfl rfl rfl (E_fn rfl rfl) (search_ok (f := gtAt l key) hl (fun i hi => child1_ok hi)) ?_; rintro _ _ _ ⟨rfl, rfl, rfl⟩; (try dsimp only [c_a, n_a]); refine S_run 1 rfl <| S_nil <| C_seq <| C_region <| S_run 1 rfl ?_; refine S_y rfl rfl rfl (Y_subi rfl rfl rfl (by omega) (by omega)) ?_; refine S_y rfl rfl rfl ((Y_max rfl rfl rfl).as (v' := .int .i64 (childI l key : Int)) (by congr 1; simp only [childI]; omega)) ?_; refine S_run 1 rfl <| S_nil ?_; exact hret (Res_tmps Try.results36 rfl rfl) ⟨rfl, rfl, rfl⟩
set_option maxRecDepth 100000 in
theorem begin_ok {bm : Nat} {m : Mem} {adP : Option Addr} {cP : Nat} : Spx Try.prog 32 #[.iface 26 (.pointer (some ⟨bm, 0, none⟩))] [] [Res.blk bm (.cells (memC m adP cP) 29 (0, 0)), Res.arr elS 9 adP cP (m).pages] (fun v fs' own' => (m.size < 480 ∧ v = .tuple #[.pointer none, .int .i64 2] ∧ fs' = [] ∧ own' = [Res.blk bm (.cells (memC m adP cP) 29 (0, 0)), Res.arr elS 9 adP cP (m).pages]) ∨ (480 ≤ m.size ∧ ∃ bw bg, v = .tuple #[.pointer (some ⟨bw, 0, none⟩), .int .i64 0] ∧ fs' = [PtM bw 0 [.iface 26 (.pointer (some ⟨bm, 0, none⟩)), .map (some bg)]] ∧ own' = [Res.mp (fun n : Int => Value.int .i64 n) (fun _ : Unit => Value.bool true) bg [], Res.blk bm (.cells (memC m adP cP) 29 (0, 0)), Res.arr elS 9 adP cP (m).pages])) := by
 refine Spx_of_body (fn := Try.f32) 15 Try.func32 rfl (by kernel_rfl) rfl (Nat.le_of_ble_eq_true rfl) (fun g0 Q hret hend => ?_); dsimp only [initL]; refine C_seq <| C_region <| S_run 2 rfl <| S_nil <| C_seq <| C_block <| C_seq <| C_region <| S_run 1 rfl ?_; refine S_y rfl rfl rfl (Y_eql1 rfl rfl rfl Try.underlying73 (by rfl) (fun _ => rfl) rfl) ?_; refine S_run 1 rfl <| S_nil ?_; refine C_cond_f rfl ?_; refine C_seq <| C_region <| S_run 1 rfl ?_; refine S_enter rfl rfl rfl (E_inv rfl rfl rfl (by intro w; kernel_rfl)) mroom_ok ?_; rintro _ _ _ ⟨rfl, rfl, rfl⟩; (try dsimp only [c_a, n_a]); refine S_run 2 rfl <| S_nil ?_; refine C_if rfl (fun h7 => ?_) (fun h7 => ?_)
 ·refine C_seq <| C_region <| S_run 2 rfl <| S_nil ?_
  first
    | exact hret (Res_tmps Try.results32 rfl rfl) (.inl ⟨by omega, rfl, rfl, rfl⟩)
    | exact hret (Res_tmps Try.results32 rfl rfl) (.inr ⟨by omega, b14, b12, rfl, rfl, rfl⟩)
 ·refine C_skip <| C_blk <| C_seq <| C_region <| S_run 1 rfl ?_; refine S_mkmap (fun n : Int => Value.int .i64 n) (fun _ : Unit => Value.bool true) rfl rfl rfl rfl (fun b12 => ?_); refine S_y rfl rfl rfl (Y_build [.tmp 12, .tmp 11] bt108 rfl rfl rfl rfl) ?_; refine S_box rfl rfl rfl rfl rfl rfl (fun b14 => ?_); refine S_frz (b := b14) (by repeat constructor) ?_; refine S_run 2 rfl <| S_nil ?_
  first
    | exact hret (Res_tmps Try.results32 rfl rfl) (.inl ⟨by omega, rfl, rfl, rfl⟩)
    | exact hret (Res_tmps Try.results32 rfl rfl) (.inr ⟨by omega, b14, b12, rfl, rfl, rfl⟩)
set_option maxRecDepth 100000 in
theorem beginNil_ok  : Spx Try.prog 32 #[.nilIface] [] [] (fun v fs' own' => v = .tuple #[.pointer none, .int .i64 7] ∧ fs' = [] ∧ own' = []) := by
 refine Spx_of_body (fn := Try.f32) 15 Try.func32 rfl (by kernel_rfl) rfl (Nat.le_of_ble_eq_true rfl) (fun g0 Q hret hend => ?_); dsimp only [initL]; refine C_seq <| C_region <| S_run 2 rfl <| S_nil <| C_seq <| C_block <| C_seq <| C_region <| S_run 1 rfl ?_; refine S_y rfl rfl rfl (Y_eql1 rfl rfl rfl Try.underlying73 (by rfl) (fun _ => rfl) rfl) ?_; refine S_run 1 rfl <| S_nil ?_; refine C_cond_t rfl ?_; refine C_seq <| C_region <| S_run 2 rfl <| S_nil ?_; exact hret (Res_tmps Try.results32 rfl rfl) ⟨rfl, rfl, rfl⟩
set_option maxRecDepth 100000 in
theorem load1_ok {bo : Nat} {p q : Bool} : Spx Try.prog 57 #[.bool q, .pointer (some ⟨bo, 0, none⟩)] [] [Res.blk bo (.cells #[.bool p] 4 (0, 0))] (fun _ fs' own' => fs' = [] ∧ own' = [Res.blk bo (.cells #[.bool (p && q)] 4 (0, 0))]) := by
 refine Spx_of_body (fn := Try.f57) 7 Try.func57 rfl (by kernel_rfl) rfl (Nat.le_of_ble_eq_true rfl) (fun g0 Q hret hend => ?_); dsimp only [initL]; refine C_region ?_; refine S_y rfl rfl rfl (Y_ld u4 rfl rfl rfl) ?_; refine S_run 1 rfl ?_; refine S_bool 4 rfl (fun h4 => ?_) (fun h4 => ?_)
 ·refine S_run 2 rfl ?_; refine S_st rfl rfl rfl ti4 rfl rfl rfl (by repeat constructor) (by rfl) ?_; refine S_nil ?_
  cases p <;> first | exact hend (Res_tmps Try.results57 rfl rfl) ⟨rfl, rfl⟩ | (simp at *; done)
 ·refine S_run 2 rfl ?_; refine S_st rfl rfl rfl ti4 rfl rfl rfl (by repeat constructor) (by rfl) ?_; refine S_nil ?_
  cases p <;> first | exact hend (Res_tmps Try.results57 rfl rfl) ⟨rfl, rfl⟩ | (simp at *; done)
set_option maxRecDepth 100000 in
theorem page_ok {bm : Nat} {m : Mem} {adP : Option Addr} {cP : Nat} {bw bg : Nat} (hm : MOK m) {n kind : Int} : Spx Try.prog 56 #[.pointer (some ⟨bw, 0, none⟩), .int .i64 n, .int .i64 kind] [PtM bw 0 [.iface 26 (.pointer (some ⟨bm, 0, none⟩)), .map (some bg)]] [Res.blk bm (.cells (memC m adP cP) 29 (0, 0)), Res.arr elS 9 adP cP (m).pages] (fun v fs' own' => ((pageM m n kind).1 ≠ 0 ∧ v = .tuple #[.pointer none, .int .i64 (pageM m n kind).1] ∧ fs' = [] ∧ own' = [Res.blk bm (.cells (memC m adP cP) 29 (0, 0)), Res.arr elS 9 adP cP (m).pages]) ∨ ((pageM m n kind).1 = 0 ∧ ∃ b ad c, v = .tuple #[.pointer (some ⟨b, 0, none⟩), .int .i64 0] ∧ fs' = [SlM elB ad c (pageM m n kind).2] ∧ own' = [Res.blk b (.cells (stripC ⟨(pageM m n kind).2, (pageM m n kind).2.length, 0, 0⟩ ad c) 134 (0, 0)), Res.blk bm (.cells (memC m adP cP) 29 (0, 0)), Res.arr elS 9 adP cP (m).pages])) := by
 refine Spx_of_body (fn := Try.f56) 36 Try.func56 rfl (by kernel_rfl) rfl (Nat.le_of_ble_eq_true rfl) (fun g0 Q hret hend => ?_); dsimp only [initL]; refine C_seq <| C_region <| S_run 2 rfl <| S_nil <| C_seq <| C_region <| S_run 2 rfl ?_; refine S_y rfl rfl rfl (Y_fa ly108 rfl rfl rfl) ?_; refine S_y rfl rfl rfl (Y_ld Try.underlying73 rfl rfl rfl) ?_; refine S_run 1 rfl ?_; have hls := loadM_small hm n; refine S_enter rfl rfl rfl (E_inv rfl rfl rfl (by intro w; kernel_rfl)) (mload_ok hm) ?_; rintro _ _ _ ⟨ad16, c16, rfl, rfl, rfl⟩; (try dsimp only [c_a, n_a]); refine S_run 5 rfl <| S_nil <| C_seq <| C_seq <| C_region <| S_run 2 rfl <| S_nil ?_; refine C_if rfl (fun h20 => ?_) (fun h20 => ?_)
 ·refine C_seq <| C_region ?_; have e : pageM m n kind = ((loadM m n).1, []) := by unfold pageM; rw [if_pos (by omega)]
  refine S_run 3 rfl <| S_nil ?_; rw [e] at hret
  first
    | exact hret (Res_tmps Try.results56 rfl rfl) (.inr ⟨rfl, b35, ad35, c35, rfl, rfl, rfl⟩)
    | exact hret (Res_tmps Try.results56 rfl rfl) (.inl ⟨by first | decide | (dsimp only; omega), rfl, rfl, rfl⟩)
 ·refine C_skip <| C_seq <| C_seq <| C_region <| S_run 1 rfl ?_; refine S_y rfl rfl rfl (Y_slen rfl rfl u68) ?_; refine S_run 2 rfl ?_; refine S_prop 25 rfl (fun h25 => ?_) (fun h25 => ?_)
  ·refine S_run 1 rfl <| S_run 2 rfl <| S_run 4 rfl <| S_nil ?_; refine C_cond_t rfl ?_; refine C_seq <| C_region ?_
   have e : pageM m n kind = (51, []) := by
     unfold pageM; rw [if_neg (by omega)]
     first
       | (rw [hkr]; show (if (k0.toNat : Int) ≠ kind then ((51, []) : Nat × Bytes) else (0, r0)) = (51, []); exact if_pos (by omega))
       | rw [List.eq_nil_of_length_eq_zero (show (loadM m n).2.length = 0 by omega)]
   refine S_run 2 rfl <| S_nil ?_; rw [e] at hret
   first
     | exact hret (Res_tmps Try.results56 rfl rfl) (.inr ⟨rfl, b35, ad35, c35, rfl, rfl, rfl⟩)
     | exact hret (Res_tmps Try.results56 rfl rfl) (.inl ⟨by first | decide | (dsimp only; omega), rfl, rfl, rfl⟩)
  ·refine S_run 1 rfl ?_; obtain ⟨k0, r0, hkr⟩ : ∃ k r, (loadM m n).2 = k :: r := List.exists_cons_of_length_pos (by omega); have hk0 := k0.toNat_lt; refine S_yx rfl rfl rfl (Y_ixA rfl u68 ti5 rfl rfl rfl (by repeat constructor) rfl (by omega) (show (loadM m n).2[(0 : Int).toNat]? = some k0 by rw [hkr]; rfl)) ?_; rintro _ _ ⟨b27, o27, rfl, rfl⟩; refine S_y rfl rfl rfl (Y_ld u5 rfl rfl rfl) ?_; refine S_y rfl rfl rfl ((Y_conv rfl rfl u5 u3).as (v' := .int .i64 (k0.toNat : Int)) (by rw [wrap_i64 (by omega) (by omega)])) ?_; refine S_run 3 rfl <| S_nil ?_; refine C_if rfl (fun h32 => ?_) (fun h32 => ?_)
   ·refine C_seq <| C_region ?_
    have e : pageM m n kind = (51, []) := by
      unfold pageM; rw [if_neg (by omega)]
      first
        | (rw [hkr]; show (if (k0.toNat : Int) ≠ kind then ((51, []) : Nat × Bytes) else (0, r0)) = (51, []); exact if_pos (by omega))
        | rw [List.eq_nil_of_length_eq_zero (show (loadM m n).2.length = 0 by omega)]
    refine S_run 2 rfl <| S_nil ?_; rw [e] at hret
    first
      | exact hret (Res_tmps Try.results56 rfl rfl) (.inr ⟨rfl, b35, ad35, c35, rfl, rfl, rfl⟩)
      | exact hret (Res_tmps Try.results56 rfl rfl) (.inl ⟨by first | decide | (dsimp only; omega), rfl, rfl, rfl⟩)
   ·refine C_skip <| C_seq <| C_region ?_
    have e : pageM m n kind = (0, r0) := by
      unfold pageM; rw [if_neg (by omega), hkr]; show (if (k0.toNat : Int) ≠ kind then ((51, []) : Nat × Bytes) else (0, r0)) = (0, r0); exact if_neg (by omega)
    have hrl : r0.length ≤ 1000000 := by rw [hkr] at hls; simp at hls; omega
    refine S_run 1 rfl ?_; refine S_yx rfl rfl rfl (Y_reslice rfl u68 ti5 rfl rfl (by repeat constructor) rfl ⟨_, rfl⟩ rfl (by decide) (by rw [hkr, List.length_cons]; omega) (by omega)) ?_; rintro _ _ ⟨ad34, c34, rfl, rfl⟩; rw [show ((loadM m n).2.drop (1 : Int).toNat).take (((loadM m n).2.length : Int).toNat - (1 : Int).toNat) = r0 by rw [hkr]; simp]; refine S_enter rfl rfl rfl (E_fn rfl rfl) (unroll_ok (by omega)) ?_; rintro _ _ _ ⟨b35, ad35, c35, rfl, rfl, rfl⟩; (try dsimp only [c_a, n_a]); refine S_run 2 rfl <| S_nil ?_; rw [e] at hret
    first
      | exact hret (Res_tmps Try.results56 rfl rfl) (.inr ⟨rfl, b35, ad35, c35, rfl, rfl, rfl⟩)
      | exact hret (Res_tmps Try.results56 rfl rfl) (.inl ⟨by first | decide | (dsimp only; omega), rfl, rfl, rfl⟩)
end Go.Proofs.Ytlgbhceifnjdnaa
