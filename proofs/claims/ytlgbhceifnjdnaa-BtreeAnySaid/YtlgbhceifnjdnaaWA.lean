/- Walks: WA. -/
import Derived.Test.YtlgbhceifnjdnaaPX
import Derived.Test.YtlgbhceifnjdnaaBY
import Derived.Test.YtlgbhceifnjdnaaProg
import Derived.KernelRfl
namespace Go.Proofs.Ytlgbhceifnjdnaa
open Go.KX
namespace TWA
theorem u3 : Try.prog.underlying 3 = some (.int .i64) := Try.underlying3
theorem u5 : Try.prog.underlying 5 = some (.int .u8) := Try.underlying5
theorem u9 : Try.prog.underlying 9 = some (.string) := Try.underlying9
theorem u27 : Try.prog.underlying 27 = some (.slice 9) := Try.underlying27
theorem u68 : Try.prog.underlying 68 = some (.slice 5) := Try.underlying68
theorem u121 : Try.prog.underlying 121 = some (.int .u64) := Try.underlying121
theorem u141 : Try.prog.underlying 141 = some (.slice 121) := Try.underlying141
theorem ti5 : TI Try.prog 5 1 1 (.int .u8 0) := TI_of (by kernel_rfl)
theorem ti9 : TI Try.prog 9 1 16 (str []) := TI_of (by kernel_rfl)
theorem ti83 : TI Try.prog 83 4 48 (.agg #[str [], str [], .int .i64 0, .int .i64 0]) := TI_of (by kernel_rfl)
theorem ti121 : TI Try.prog 121 1 8 (.int .u64 0) := TI_of (by kernel_rfl)
theorem ti148 : TI Try.prog 148 10 10 (.agg #[.int .u8 0, .int .u8 0, .int .u8 0, .int .u8 0, .int .u8 0, .int .u8 0, .int .u8 0, .int .u8 0, .int .u8 0, .int .u8 0]) := TI_of (by kernel_rfl)
theorem ly83 : LY Try.prog 83 [(0, 1, false), (1, 1, false), (2, 1, false), (3, 1, false)] := LY_of Try.underlying83 (by kernel_rfl)
end TWA
open TWA
set_option maxRecDepth 100000 in
theorem digits_ok {ad : Option Addr} {c : Nat} {xs : Bytes} {n : Nat} (hn : n < 18446744073709551616) (hb : xs.length + 10 ≤ 140737488355328) : Spx Try.prog 79 #[.slice ad xs.length c, .int .u64 n] [] [Res.arr elB 5 ad c xs] (fun v fs' own' => ∃ ad' c', v = .slice ad' (xs ++ dg n).length c' ∧ fs' = [] ∧ own' = [Res.arr elB 5 ad' c' (xs ++ dg n)]) := by
 refine Spx_of_body (fn := Try.f79) 30 Try.func79 rfl (by kernel_rfl) rfl (Nat.le_of_ble_eq_true rfl) (fun g0 Q hret hend => ?_)
 dsimp only [initL]
 refine C_seq <| C_region ?_
 refine S_run 1 rfl ?_
 refine S_nil <| C_seq <| C_region ?_
 refine S_alloc rfl rfl rfl rfl ti148 rfl (fun b5 => ?_)
 refine S_nil <| C_seq <| C_region ?_
 refine S_run 1 rfl ?_
 refine S_nil <| C_seq <| C_region ?_
 refine S_run 2 rfl ?_
 refine S_y rfl rfl rfl ((Y_rem rfl rfl rfl (by decide)).as (v' := .int .u64 ((n % 128 : Nat) : Int)) (by rw [Int.tmod_eq_emod_of_nonneg (by omega)]; rfl)) ?_
 refine S_y rfl rfl rfl ((Y_conv rfl rfl u121 u5).as (v' := .int .u8 ((n % 128 : Nat) : Int)) (by rw [wrap_u8 (by omega) (by omega)])) ?_
 refine S_y rfl rfl rfl (Y_ixArr rfl Try.underlying148 ti5 rfl rfl (by decide) (by decide)) ?_
 refine S_st rfl rfl rfl ti5 rfl rfl rfl (by repeat constructor) (by rfl) ?_
 refine S_nil <| C_seq <| C_seq <| C_region ?_
 refine S_run 1 rfl ?_
 refine S_y rfl rfl rfl ((Y_quo rfl rfl rfl (by decide)).as (v' := .int .u64 ((n / 128 : Nat) : Int)) (by rw [Int.tdiv_eq_ediv_of_nonneg (by omega), wrap_u64 (by omega) (by omega)]; rfl)) ?_
 refine S_run 1 rfl ?_
 refine S_nil <| C_block ?_
 refine C_blkAs (b := b5) (cs' := (flat elB (List.replicate 9 0 ++ [UInt8.ofNat (n % 128)])).toArray) (by repeat (first | exact .head | apply Has.tail | apply Pick.tail)) (by rw [← ofNat_toNat_lt (n := n % 128) (by omega)]; rfl) ?_
 refine C_loop (σ := Nat × Nat × Bytes) (fun s => s.1 ≤ 9 ∧ s.2.1 < 128 ^ s.1 ∧ dgH s.1 s.2.1 ++ s.2.2 = dg n ∧ s.1 + s.2.2.length = 10) (fun s => s.2.1)
   (fun s => [(0, .slice ad xs.length c), (1, .int .u64 (s.2.1 : Int)), (5, .pointer (some ⟨b5, 0, none⟩)), (6, .int .i64 (s.1 : Int))])
   (fun s => []) (fun s => [Res.blk b5 (.cells (flat elB (List.replicate s.1 0 ++ s.2.2)).toArray 148 (0, 0)), Res.arr elB 5 ad c xs]) (9, n / 128, [UInt8.ofNat (n % 128)]) ?_ (by repeat (first | exact trivial | refine ⟨rfl, ?_⟩ | refine ⟨intE (by omega), ?_⟩)) (by repeat constructor) (by repeat constructor) ?_
 ·exact ⟨Nat.le_refl 9, by show n / 128 < 128 ^ 9; omega, rfl, rfl⟩
 ·rintro J ⟨i, m, out⟩ ⟨hi, hlt, heq, hlen⟩ hJ
  dsimp only at hi hlt heq hlen ⊢
  refine C_seq <| C_seq <| C_region ?_
  refine S_run 2 rfl ?_
  refine S_nil ?_
  refine C_if rfl (fun h15 => ?_) (fun h15 => ?_)
  ·refine C_skip <| C_seq <| C_block <| C_seq <| C_region ?_
   refine S_run 1 rfl ?_
   refine S_y rfl rfl rfl (Y_subi rfl rfl rfl (by omega) (by omega)) ?_
   refine S_run 1 rfl ?_
   refine S_nil <| C_region ?_
   refine S_run 2 rfl ?_
   refine S_y rfl rfl rfl ((Y_rem rfl rfl rfl (by decide)).as (v' := .int .u64 ((m % 128 : Nat) : Int)) (by rw [Int.tmod_eq_emod_of_nonneg (by omega)]; rfl)) ?_
   refine S_y rfl rfl rfl ((Y_conv rfl rfl u121 u5).as (v' := .int .u8 ((m % 128 : Nat) : Int)) (by rw [wrap_u8 (by omega) (by omega)])) ?_
   refine S_y rfl rfl rfl (Y_bits (v := .int .u8 ((128 + m % 128 : Nat) : Int)) rfl rfl rfl (.inr (.inl ⟨rfl, by rw [or_128 _ (by omega)]⟩))) ?_
   have hi0 : i ≠ 0 := by intro e; subst e; simp at hlt; omega
   refine S_y rfl rfl rfl (Y_ixArr rfl Try.underlying148 ti5 rfl rfl (by omega) (by omega)) ?_
   refine S_st rfl rfl rfl ti5 rfl rfl rfl (by repeat (first | exact .head | apply Has.tail | apply Pick.tail)) (by rw [List.size_toArray, flat_len]; simp [elB] at hlen ⊢; omega) ?_
   refine S_nil <| C_blk <| C_region ?_
   refine S_run 1 rfl ?_
   refine S_y rfl rfl rfl ((Y_quo rfl rfl rfl (by decide)).as (v' := .int .u64 ((m / 128 : Nat) : Int)) (by rw [Int.tdiv_eq_ediv_of_nonneg (by omega), wrap_u64 (by omega) (by have := Nat.pow_le_pow_right (n := 128) (by decide) hi; omega)]; rfl)) ?_
   refine S_run 1 rfl ?_
   refine S_nil ?_
   have hm : m ≠ 0 := by omega
   have hi0 : i ≠ 0 := by intro e; subst e; simp at hlt; omega
   obtain ⟨i, rfl⟩ : ∃ j, i = j + 1 := ⟨i - 1, by omega⟩
   refine hJ (i, m / 128, UInt8.ofNat (128 + m % 128) :: out) _ _ _ _ ⟨by omega, ?_, ?_, by simp at hlen ⊢; omega⟩ (by show m / 128 < m; omega) (by repeat (first | exact trivial | refine ⟨rfl, ?_⟩ | refine ⟨intE (by omega), ?_⟩)) .nil (by
     have e : ((flat elB (List.replicate (i + 1) 0 ++ out)).toArray.setIfInBounds (0 + (((i + 1 : Nat) : Int) - 1).toNat * 1) (.int .u8 ((128 + m % 128 : Nat) : Int))) = (flat elB (List.replicate i 0 ++ (UInt8.ofNat (128 + m % 128) :: out))).toArray := by
       rw [show (0 + (((i + 1 : Nat) : Int) - 1).toNat * 1) = i by omega, ← ofNat_toNat_lt (n := 128 + m % 128) (by omega)]
       apply Array.ext'
       simp [flat, elB, List.replicate_succ', List.set_append]
     rw [e]
     exact .cons .head (.cons .head .nil))
   · show m / 128 < 128 ^ i
     rw [Nat.pow_succ] at hlt; omega
   · show dgH i (m / 128) ++ (UInt8.ofNat (128 + m % 128) :: out) = dg n
     rw [← heq]; simp [dgH, hm]
  ·refine C_exit rfl <| C_seq <| C_region ?_
   have hm : m = 0 := by omega
   subst hm
   rw [dgH_zero, List.nil_append] at heq
   subst heq
   refine S_frz (b := b5) (by repeat (first | exact .head | apply Has.tail | apply Pick.tail)) ?_
   refine S_run 2 rfl ?_
   refine S_yx rfl rfl rfl (Y_slArr (E := elB) (List.replicate i 0 ++ dg n) rfl Try.underlying148 ti5 rfl rfl (by repeat (first | exact .head | apply Has.tail | apply Pick.tail)) (by simp) (by simpa using hlen) (by decide) ⟨_, rfl⟩ (by omega) (by omega)) ?_
   rintro _ _ ⟨ad28, c28, rfl, rfl⟩
   rw [show (List.replicate i (0 : UInt8) ++ dg n).drop ((i : Int)).toNat = dg n by simp]
   have hdl := dg_len n
   refine S_app rfl rfl rfl rfl u68 ti5 rfl rfl rfl rfl rfl rfl (by repeat (first | exact .head | apply Has.tail | apply Pick.tail)) (by repeat (first | exact .head | apply Has.tail | apply Pick.tail)) (by omega) (by omega) (fun ad29 c29 => ?_)
   refine S_run 1 rfl ?_
   refine S_nil ?_
   exact hret (Res_tmps Try.results79 rfl rfl) ⟨ad29, c29, rfl, rfl, rfl⟩
set_option maxRecDepth 100000 in
theorem number_ok {ad ad2 : Option Addr} {c c2 : Nat} {xs : Bytes} {ls : List Nat} (hn : ∀ x ∈ ls, x < 18446744073709551616) (hb : xs.length + 10 * ls.length + 10 ≤ 140737488355328) : Spx Try.prog 65 #[.slice ad xs.length c, .slice ad2 ls.length c2] [SlM (elN .u64) ad2 c2 ls] [Res.arr elB 5 ad c xs] (fun v fs' own' => ∃ ad' c', v = .slice ad' (xs ++ ls.flatMap dg).length c' ∧ fs' = [] ∧ own' = [Res.arr elB 5 ad' c' (xs ++ ls.flatMap dg)]) := by
 refine Spx_of_body (fn := Try.f65) 18 Try.func65 rfl (by kernel_rfl) rfl (Nat.le_of_ble_eq_true rfl) (fun g0 Q hret hend => ?_)
 dsimp only [initL]
 refine C_seq <| C_region ?_
 refine S_run 1 rfl ?_
 refine S_nil <| C_seq <| C_seq <| C_region ?_
 refine S_run 1 rfl ?_
 refine S_y rfl rfl rfl (Y_slen rfl rfl u141) ?_
 refine S_run 1 rfl ?_
 refine S_nil <| C_block ?_
 refine C_loop (σ := Nat × Option Addr × Nat × Bytes) (fun s => s.1 ≤ ls.length ∧ s.2.2.2 = xs ++ (ls.take s.1).flatMap dg) (fun s => ls.length - s.1)
   (fun s => [(0, .slice s.2.1 s.2.2.2.length s.2.2.1), (7, .slice ad2 ls.length c2), (8, .int .i64 (ls.length : Int)), (9, .int .i64 (s.1 : Int))])
   (fun s => [SlM (elN .u64) ad2 c2 ls]) (fun s => [Res.arr elB 5 s.2.1 s.2.2.1 s.2.2.2]) (0, ad, c, xs) ?_ (by repeat (first | exact trivial | refine ⟨rfl, ?_⟩ | refine ⟨intE (by omega), ?_⟩)) (by repeat constructor) (by repeat constructor) ?_
 ·exact ⟨Nat.zero_le _, by simp⟩
 ·rintro J ⟨i, ad0, c0, out⟩ ⟨hi, hout⟩ hJ
  dsimp only at hi hout ⊢
  refine C_seq <| C_region ?_
  refine S_run 1 rfl ?_
  refine S_nil <| C_seq ?_
  refine C_if rfl (fun h10 => ?_) (fun h10 => ?_)
  ·refine C_skip <| C_seq <| C_block <| C_seq <| C_region ?_
   obtain ⟨y, hy⟩ : ∃ y, ls[i]? = some y := ⟨_, List.getElem?_eq_getElem (by omega)⟩
   refine S_yx rfl rfl rfl (Y_ixA rfl u141 ti121 rfl rfl rfl (by repeat constructor) rfl (by omega) hy) ?_
   rintro _ _ ⟨b11, o11, rfl, rfl⟩
   refine S_y rfl rfl rfl (Y_ld u121 rfl rfl rfl) ?_
   refine S_run 1 rfl ?_
   refine S_nil <| C_region ?_
   refine S_run 2 rfl ?_
   refine S_enter rfl rfl rfl (E_fn rfl rfl) (digits_ok (hn _ (List.mem_of_getElem? hy)) (by have := flatMap_dg_len (ls.take i); rw [hout]; simp at this ⊢; omega)) ?_
   rintro _ _ _ ⟨ad1, c1, rfl, rfl, rfl⟩
   try dsimp only [List.cons_append, List.nil_append]
   refine S_run 1 rfl ?_
   refine S_nil <| C_blk <| C_region ?_
   refine S_y rfl rfl rfl (Y_addi rfl rfl rfl (by omega) (by omega)) ?_
   refine S_run 1 rfl ?_
   refine S_nil ?_
   refine hJ (i + 1, ad1, c1, _) _ _ _ _ ⟨by show i + 1 ≤ _; omega, ?_⟩ (by show ls.length - (i + 1) < ls.length - i; omega) (by repeat (first | exact trivial | refine ⟨rfl, ?_⟩ | refine ⟨intE (by omega), ?_⟩)) (by repeat constructor) (by repeat constructor)
   show _ = xs ++ (ls.take (i + 1)).flatMap dg
   rw [take_succ_snoc hy, hout]
   simp [dg]
  ·refine C_exit rfl <| C_seq <| C_region ?_
   have hi2 : i = ls.length := by omega
   subst hi2
   rw [List.take_length] at hout
   subst hout
   refine S_run 2 rfl ?_
   refine S_nil ?_
   exact hret (Res_tmps Try.results65 rfl rfl) ⟨ad0, c0, rfl, rfl, rfl⟩
set_option maxRecDepth 100000 in
theorem text_ok {ad ad2 : Option Addr} {c c2 : Nat} {xs : Bytes} {ls : List Bytes} (hb : xs.length + (ls.flatMap txt).length + 10 ≤ 140737488355328) : Spx Try.prog 99 #[.slice ad xs.length c, .slice ad2 ls.length c2] [SlM elS ad2 c2 ls] [Res.arr elB 5 ad c xs] (fun v fs' own' => ∃ ad' c', v = .slice ad' (xs ++ ls.flatMap txt).length c' ∧ fs' = [] ∧ own' = [Res.arr elB 5 ad' c' (xs ++ ls.flatMap txt)]) := by
 refine Spx_of_body (fn := Try.f99) 22 Try.func99 rfl (by kernel_rfl) rfl (Nat.le_of_ble_eq_true rfl) (fun g0 Q hret hend => ?_)
 dsimp only [initL]
 refine C_pure (f := SlM elS ad2 c2 ls) (by repeat constructor) SlM.le (fun hls => ?_)
 refine C_seq <| C_region ?_
 refine S_run 1 rfl ?_
 refine S_nil <| C_seq <| C_seq <| C_region ?_
 refine S_run 1 rfl ?_
 refine S_y rfl rfl rfl (Y_slen rfl rfl u27) ?_
 refine S_run 1 rfl ?_
 refine S_nil <| C_block ?_
 refine C_loop (σ := Nat × Option Addr × Nat × Bytes) (fun s => s.1 ≤ ls.length ∧ s.2.2.2 = xs ++ (ls.take s.1).flatMap txt) (fun s => ls.length - s.1)
   (fun s => [(0, .slice s.2.1 s.2.2.2.length s.2.2.1), (7, .slice ad2 ls.length c2), (8, .int .i64 (ls.length : Int)), (9, .int .i64 (s.1 : Int))])
   (fun s => [SlM elS ad2 c2 ls]) (fun s => [Res.arr elB 5 s.2.1 s.2.2.1 s.2.2.2]) (0, ad, c, xs) ?_ (by repeat (first | exact trivial | refine ⟨rfl, ?_⟩ | refine ⟨intE (by omega), ?_⟩)) (by repeat constructor) (by repeat constructor) ?_
 ·exact ⟨Nat.zero_le _, by simp⟩
 ·rintro J ⟨i, ad0, c0, out⟩ ⟨hi, hout⟩ hJ
  dsimp only at hi hout ⊢
  refine C_seq <| C_region ?_
  refine S_run 1 rfl ?_
  refine S_nil <| C_seq ?_
  refine C_if rfl (fun h10 => ?_) (fun h10 => ?_)
  ·refine C_skip <| C_seq <| C_block <| C_seq <| C_region ?_
   obtain ⟨y, hy⟩ : ∃ y, ls[i]? = some y := ⟨_, List.getElem?_eq_getElem (by omega)⟩
   refine S_yx rfl rfl rfl (Y_ixA rfl u27 ti9 rfl rfl rfl (by repeat constructor) rfl (by omega) hy) ?_
   rintro _ _ ⟨b11, o11, rfl, rfl⟩
   refine S_y rfl rfl rfl (Y_ld u9 rfl rfl rfl) ?_
   refine S_run 1 rfl ?_
   refine S_nil <| C_region ?_
   have hle := take_flatMap_len txt hy
   have htl : (txt y).length = (dg y.length).length + y.length := by simp [txt]
   have hol := congrArg List.length hout
   simp only [List.length_append] at hol
   refine S_run 2 rfl ?_
   refine S_y rfl rfl rfl (Y_strlen rfl rfl u9) ?_
   refine S_y rfl rfl rfl ((Y_conv rfl rfl u3 u121).as (v' := .int .u64 (y.length : Int)) (by rw [wrap_u64 (by omega) (by omega)])) ?_
   refine S_enter rfl rfl rfl (E_fn rfl rfl) (digits_ok (by omega) (by omega)) ?_
   rintro _ _ _ ⟨ad1, c1, rfl, rfl, rfl⟩
   try dsimp only [List.cons_append, List.nil_append]
   refine S_run 1 rfl ?_
   refine S_appS rfl rfl rfl rfl u68 u9 ti5 rfl rfl rfl (by repeat constructor) (by simp only [List.length_append]; omega) (fun ad1 c1 => ?_)
   refine S_run 1 rfl ?_
   refine S_nil <| C_blk <| C_region ?_
   refine S_y rfl rfl rfl (Y_addi rfl rfl rfl (by omega) (by omega)) ?_
   refine S_run 1 rfl ?_
   refine S_nil ?_
   refine hJ (i + 1, ad1, c1, _) _ _ _ _ ⟨by show i + 1 ≤ _; omega, ?_⟩ (by show ls.length - (i + 1) < ls.length - i; omega) (by repeat (first | exact trivial | refine ⟨rfl, ?_⟩ | refine ⟨intE (by omega), ?_⟩)) (by repeat constructor) (by repeat constructor)
   show _ = xs ++ (ls.take (i + 1)).flatMap txt
   rw [take_succ_snoc hy, hout]
   simp [txt]
  ·refine C_exit rfl <| C_seq <| C_region ?_
   have hi2 : i = ls.length := by omega
   subst hi2
   rw [List.take_length] at hout
   subst hout
   refine S_run 2 rfl ?_
   refine S_nil ?_
   exact hret (Res_tmps Try.results99 rfl rfl) ⟨ad0, c0, rfl, rfl, rfl⟩
set_option maxRecDepth 100000 in
theorem put_ok {ad : Option Addr} {c : Nat} {xs : Bytes} {cl : Cell} {leaf : Bool} (hp : cl.page < 9223372036854775808) (hs : cl.size < 9223372036854775808) (hb : xs.length + cl.key.length + cl.value.length + 60 ≤ 140737488355328) : Spx Try.prog 87 #[.agg (encCell cl).toArray, .slice ad xs.length c, .bool leaf] [] [Res.arr elB 5 ad c xs] (fun v fs' own' => ∃ ad' c', v = .slice ad' (xs ++ cellB cl leaf).length c' ∧ fs' = [] ∧ own' = [Res.arr elB 5 ad' c' (xs ++ cellB cl leaf)]) := by
 refine Spx_of_body (fn := Try.f87) 40 Try.func87 rfl (by kernel_rfl) rfl (Nat.le_of_ble_eq_true rfl) (fun g0 Q hret hend => ?_)
 dsimp only [initL]
 have hkl := txt_len cl.key
 have hvl := txt_len cl.value
 have hdl := dg_len cl.page
 refine C_seq <| C_region ?_
 refine S_box rfl rfl rfl rfl rfl rfl (fun b3 => ?_)
 refine S_run 1 rfl ?_
 refine S_nil <| C_seq <| C_region ?_
 refine S_run 1 rfl ?_
 refine S_y rfl rfl rfl (Y_fa ly83 rfl rfl rfl) ?_
 refine S_y rfl rfl rfl (Y_ld u9 rfl rfl rfl) ?_
 refine S_lit1 elS (fun s => rfl) rfl rfl rfl rfl u27 ti9 rfl rfl rfl rfl (fun ad10 c10 => ?_)
 refine S_pub (by repeat constructor) ?_
 refine S_enter rfl rfl rfl (E_fn rfl rfl) (text_ok (ls := [cl.key]) (by simp; omega)) ?_
 rintro _ _ _ ⟨ad5, c5, rfl, rfl, rfl⟩
 try dsimp only [List.cons_append, List.nil_append]
 refine S_run 1 rfl ?_
 refine S_nil <| C_seq <| C_seq <| C_region ?_
 refine S_run 2 rfl ?_
 refine S_nil ?_
 refine C_cond rfl (fun h13 => ?_) (fun h13 => ?_)
 ·refine C_seq <| C_region ?_
  refine S_run 1 rfl ?_
  refine S_y rfl rfl rfl (Y_fa ly83 rfl rfl rfl) ?_
  refine S_y rfl rfl rfl (Y_ld u3 rfl rfl rfl) ?_
  refine S_y rfl rfl rfl ((Y_conv rfl rfl u3 u121).as (v' := .int .u64 (cl.page : Int)) (by rw [wrap_u64 (by omega) (by omega)])) ?_
  refine S_lit1 (elN .u64) (fun s => rfl) rfl rfl rfl rfl u141 ti121 rfl rfl rfl rfl (fun ad18 c18 => ?_)
  refine S_pub (by repeat constructor) ?_
  refine S_enter rfl rfl rfl (E_fn rfl rfl) (number_ok (ls := [cl.page]) (by simp; omega) (by simp; omega)) ?_
  rintro _ _ _ ⟨ad6, c6, rfl, rfl, rfl⟩
  try dsimp only [List.cons_append, List.nil_append]
  have e : xs ++ [cl.key].flatMap txt ++ [cl.page].flatMap dg = xs ++ cellB cl leaf := by simp [cellB, show leaf = false by simpa using h13]
  rw [e]
  refine S_run 1 rfl ?_
  refine S_nil ?_
  exact hret (Res_tmps Try.results87 rfl rfl) ⟨_, _, rfl, rfl, rfl⟩
 ·refine C_skip <| C_seq <| C_region ?_
  refine S_run 1 rfl ?_
  refine S_y rfl rfl rfl (Y_fa ly83 rfl rfl rfl) ?_
  refine S_y rfl rfl rfl (Y_ld u3 rfl rfl rfl) ?_
  refine S_y rfl rfl rfl ((Y_conv rfl rfl u3 u121).as (v' := .int .u64 (cl.page : Int)) (by rw [wrap_u64 (by omega) (by omega)])) ?_
  refine S_lit1 (elN .u64) (fun s => rfl) rfl rfl rfl rfl u141 ti121 rfl rfl rfl rfl (fun ad24 c24 => ?_)
  refine S_pub (by repeat constructor) ?_
  refine S_enter rfl rfl rfl (E_fn rfl rfl) (number_ok (ls := [cl.page]) (by simp; omega) (by simp; omega)) ?_
  rintro _ _ _ ⟨ad6, c6, rfl, rfl, rfl⟩
  try dsimp only [List.cons_append, List.nil_append]
  refine S_run 1 rfl ?_
  refine S_nil <| C_seq <| C_seq <| C_region ?_
  refine S_y rfl rfl rfl (Y_fa ly83 rfl rfl rfl) ?_
  refine S_y rfl rfl rfl (Y_ld u3 rfl rfl rfl) ?_
  refine S_run 1 rfl ?_
  refine S_nil ?_
  refine C_if rfl (fun h28 => ?_) (fun h28 => ?_)
  ·refine C_seq <| C_region ?_
   refine S_run 1 rfl ?_
   refine S_y rfl rfl rfl (Y_fa ly83 rfl rfl rfl) ?_
   refine S_y rfl rfl rfl (Y_ld u9 rfl rfl rfl) ?_
   refine S_lit1 elS (fun s => rfl) rfl rfl rfl rfl u27 ti9 rfl rfl rfl rfl (fun ad32 c32 => ?_)
   refine S_pub (by repeat constructor) ?_
   refine S_enter rfl rfl rfl (E_fn rfl rfl) (text_ok (ls := [cl.value]) (by simp; omega)) ?_
   rintro _ _ _ ⟨ad7, c7, rfl, rfl, rfl⟩
   try dsimp only [List.cons_append, List.nil_append]
   have e : xs ++ [cl.key].flatMap txt ++ [cl.page].flatMap dg ++ [cl.value].flatMap txt = xs ++ cellB cl leaf := by simp [cellB, show leaf = true by simpa using h13, show cl.page = 0 by omega]
   rw [e]
   refine S_run 1 rfl ?_
   refine S_nil ?_
   exact hret (Res_tmps Try.results87 rfl rfl) ⟨_, _, rfl, rfl, rfl⟩
  ·refine C_skip <| C_seq <| C_region ?_
   refine S_run 1 rfl ?_
   refine S_y rfl rfl rfl (Y_fa ly83 rfl rfl rfl) ?_
   refine S_y rfl rfl rfl (Y_ld u3 rfl rfl rfl) ?_
   refine S_y rfl rfl rfl ((Y_conv rfl rfl u3 u121).as (v' := .int .u64 (cl.size : Int)) (by rw [wrap_u64 (by omega) (by omega)])) ?_
   refine S_lit1 (elN .u64) (fun s => rfl) rfl rfl rfl rfl u141 ti121 rfl rfl rfl rfl (fun ad38 c38 => ?_)
   refine S_pub (by repeat constructor) ?_
   refine S_enter rfl rfl rfl (E_fn rfl rfl) (number_ok (ls := [cl.size]) (by simp; omega) (by simp; omega)) ?_
   rintro _ _ _ ⟨ad7, c7, rfl, rfl, rfl⟩
   try dsimp only [List.cons_append, List.nil_append]
   have e : xs ++ [cl.key].flatMap txt ++ [cl.page].flatMap dg ++ [cl.size].flatMap dg = xs ++ cellB cl leaf := by simp [cellB, show leaf = true by simpa using h13, show ¬ cl.page = 0 by omega]
   rw [e]
   refine S_run 1 rfl ?_
   refine S_nil ?_
   exact hret (Res_tmps Try.results87 rfl rfl) ⟨_, _, rfl, rfl, rfl⟩
set_option maxRecDepth 100000 in
theorem bytes_ok {cl : Cell} {leaf : Bool} (hp : cl.page < 9223372036854775808) (hs : cl.size < 9223372036854775808) (hb : cl.key.length + cl.value.length + 60 ≤ 140737488355328) : Spx Try.prog 86 #[.agg (encCell cl).toArray, .bool leaf] [] [] (fun v fs' own' => v = .int .i64 ((cellB cl leaf).length : Int) ∧ fs' = [] ∧ own' = []) := by
 refine Spx_of_body (fn := Try.f86) 9 Try.func86 rfl (by kernel_rfl) rfl (Nat.le_of_ble_eq_true rfl) (fun g0 Q hret hend => ?_)
 dsimp only [initL]
 refine C_seq <| C_region ?_
 refine S_box rfl rfl rfl rfl rfl rfl (fun b2 => ?_)
 refine S_run 1 rfl ?_
 refine S_nil <| C_seq <| C_region ?_
 refine S_y rfl rfl rfl (Y_ldS Try.underlying83 rfl ti83 rfl rfl) ?_
 refine S_run 1 rfl ?_
 refine S_nilarr elB 5 ?_
 refine S_enter rfl rfl rfl (E_fn rfl rfl) (put_ok (xs := []) hp hs (by simp; omega)) ?_
 rintro _ _ _ ⟨ad5, c5, rfl, rfl, rfl⟩
 try dsimp only [List.cons_append, List.nil_append]
 refine S_y rfl rfl rfl (Y_slen rfl rfl u68) ?_
 refine S_run 1 rfl ?_
 refine S_nil ?_
 exact hret (Res_tmps Try.results86 rfl rfl) ⟨rfl, rfl, rfl⟩
end Go.Proofs.Ytlgbhceifnjdnaa
