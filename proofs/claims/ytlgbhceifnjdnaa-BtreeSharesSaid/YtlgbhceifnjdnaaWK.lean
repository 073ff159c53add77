/- Walks: WK. -/
import Derived.Test.YtlgbhceifnjdnaaPX
import Derived.Test.YtlgbhceifnjdnaaWJ
import Derived.Test.YtlgbhceifnjdnaaProg
import Derived.KernelRfl
namespace Go.Proofs.Ytlgbhceifnjdnaa
open Go.KX
namespace TWK
theorem u3 : Try.prog.underlying 3 = some (.int .i64) := Try.underlying3
theorem u79 : Try.prog.underlying 79 = some (.slice 83) := Try.underlying79
theorem u129 : Try.prog.underlying 129 = some (.slice 79) := Try.underlying129
theorem ti79 : TI Try.prog 79 1 24 (.slice none 0 0) := TI_of (by kernel_rfl)
theorem ti83 : TI Try.prog 83 4 48 (.agg #[str [], str [], .int .i64 0, .int .i64 0]) := TI_of (by kernel_rfl)
end TWK
open TWK
set_option maxRecDepth 100000 in
theorem grow_ok {n : Nat} (hn : n ≤ 4000000000) : Spx Try.prog 68 #[.slice none 0 0, .int .i64 (n : Int)] [] [] (fun v fs' own' => ∃ ad c, v = .slice ad 0 c ∧ fs' = [] ∧ own' = [Res.arr elCell 83 ad c []]) := by
 refine Spx_of_body (fn := Try.f68) 27 Try.func68 rfl (by kernel_rfl) rfl (Nat.le_of_ble_eq_true rfl) (fun g0 Q hret hend => ?_); dsimp only [initL]; refine C_seq <| C_region <| S_run 1 rfl <| S_nil <| C_seq <| C_seq <| C_region <| S_run 2 rfl <| S_nil ?_; refine C_if rfl (fun h6 => ?_) (fun h6 => ?_)
 ·omega
 ·refine C_skip <| C_seq <| C_seq <| C_region <| S_run 2 rfl ?_; refine S_y rfl rfl rfl (Y_cap rfl rfl u79) ?_; refine S_run 1 rfl ?_; refine S_y rfl rfl rfl (Y_slen rfl rfl u79) ?_; refine S_y rfl rfl rfl ((Y_subi rfl rfl rfl (by decide) (by decide)).as (v' := .int .i64 0) (by rfl)) ?_; refine S_y rfl rfl rfl ((Y_subi rfl rfl rfl (by omega) (by omega)).as (v' := .int .i64 (n : Int)) (by congr 1 <;> omega)) ?_
  refine S_run 1 rfl <| S_nil <| C_seq <| C_region <| S_run 2 rfl <| S_nil ?_; refine C_if rfl (fun h16 => ?_) (fun h16 => ?_)
  ·refine C_region <| S_run 2 rfl ?_; refine S_y rfl rfl rfl (Y_cap rfl rfl u79) ?_; refine S_y rfl rfl rfl ((Y_cut rfl u79 ti83 rfl rfl (by decide) (by decide)).as (v' := .slice none 0 0) (by rfl)) ?_; refine S_run 1 rfl ?_; refine S_app0 elCell rfl rfl rfl rfl u79 u3 ti83 rfl rfl rfl rfl (by omega) (by omega) (by omega) (fun ad22 c22 hc22 => ?_); refine S_run 1 rfl ?_; refine S_y rfl rfl rfl (Y_slen rfl rfl u79) ?_; refine S_y rfl rfl rfl ((Y_cut rfl u79 ti83 rfl rfl (by decide) (by omega)).as (v' := .slice ad22 0 c22) (by rfl)) ?_; refine S_run 1 rfl <| S_nil <| C_seq <| C_region <| S_run 2 rfl <| S_nil ?_
   first
     | exact hret (Res_tmps Try.results68 rfl rfl) ⟨ad22, c22, rfl, rfl, rfl⟩
     | (refine C_nilarr elCell 83 ?_; exact hret (Res_tmps Try.results68 rfl rfl) ⟨none, 0, rfl, rfl, rfl⟩)
  ·refine C_skip <| C_seq <| C_region <| S_run 2 rfl <| S_nil ?_
   first
     | exact hret (Res_tmps Try.results68 rfl rfl) ⟨ad22, c22, rfl, rfl, rfl⟩
     | (refine C_nilarr elCell 83 ?_; exact hret (Res_tmps Try.results68 rfl rfl) ⟨none, 0, rfl, rfl, rfl⟩)
set_option maxRecDepth 100000 in
set_option maxHeartbeats 1000000 in
theorem concat_ok {ad : Option Addr} {c : Nat} {xs : List (SlE Cell)} (hx : xs.length ≤ 3) (hl : (catS xs).length ≤ 3000000000) : Spx Try.prog 48 #[.slice ad xs.length c] [SlM (elSl Cell) ad c xs, AllSl elCell xs] [] (fun v fs' own' => ∃ ad' c', v = .slice ad' (catS xs).length c' ∧ fs' = [] ∧ own' = [Res.arr elCell 83 ad' c' (catS xs)]) := by
 refine Spx_of_body (fn := Try.f48) 36 Try.func48 rfl (by kernel_rfl) rfl (Nat.le_of_ble_eq_true rfl) (fun g0 Q hret hend => ?_); dsimp only [initL]; refine C_seq <| C_region <| S_run 1 rfl <| S_nil <| C_seq <| C_region <| S_run 1 rfl <| S_nil <| C_seq <| C_seq <| C_region <| S_run 1 rfl ?_; refine S_y rfl rfl rfl (Y_slen rfl rfl u129) ?_; refine S_run 1 rfl <| S_nil <| C_block ?_
 refine C_loop (σ := Nat × Nat) (fun s => s.1 ≤ xs.length ∧ s.2 = (catS (xs.take s.1)).length) (fun s => xs.length - s.1)
   (fun s => [(0, .slice ad xs.length c), (3, .int .i64 (s.2 : Int)), (9, .slice ad xs.length c), (10, .int .i64 (xs.length : Int)), (11, .int .i64 (s.1 : Int))])
   (fun s => [SlM (elSl Cell) ad c xs, AllSl elCell xs]) (fun s => []) (0, 0) ?_ (by repeat (first | exact trivial | refine ⟨rfl, ?_⟩ | refine ⟨intE (by omega), ?_⟩)) (by repeat constructor) (by repeat constructor) ?_
 ·exact ⟨Nat.zero_le _, rfl⟩
 ·rintro J ⟨i, n⟩ ⟨hi, hn⟩ hJ; dsimp only at hi hn ⊢; refine C_seq <| C_region <| S_run 1 rfl <| S_nil <| C_seq ?_; refine C_if rfl (fun h12 => ?_) (fun h12 => ?_)
  ·refine C_skip <| C_seq <| C_block <| C_seq <| C_region ?_; obtain ⟨y, hy⟩ : ∃ y, xs[i]? = some y := ⟨_, List.getElem?_eq_getElem (by omega)⟩; have hct := catS_take hy; refine S_yx rfl rfl rfl (Y_ixA rfl u129 ti79 rfl rfl rfl (by repeat constructor) rfl (by omega) hy) ?_; rintro _ _ ⟨b13, o13, rfl, rfl⟩; refine S_y rfl rfl rfl (Y_ld u79 rfl rfl rfl) ?_; refine S_run 1 rfl <| S_nil <| C_seq <| C_region <| S_run 2 rfl ?_; refine S_y rfl rfl rfl (Y_slen rfl rfl u79) ?_; refine S_y rfl rfl rfl (Y_addi rfl rfl rfl (by omega) (by omega)) ?_; refine S_run 1 rfl <| S_nil <| C_seq <| C_region <| S_run 2 rfl <| S_nil ?_; refine C_if rfl (fun h20 => ?_) (fun h20 => ?_)
   ·omega
   ·refine C_skip <| C_blk <| C_region ?_; refine S_y rfl rfl rfl (Y_addi rfl rfl rfl (by omega) (by omega)) ?_; refine S_run 1 rfl <| S_nil ?_; refine hJ (i + 1, n + y.2.2.length) ⟨by show i + 1 ≤ _; omega, ?_⟩ (by show xs.length - (i + 1) < xs.length - i; omega)
    show n + _ = (catS (xs.take (i + 1))).length; rw [take_succ_snoc hy, catS_snoc, List.length_append, hn]
  ·refine C_exit rfl <| C_seq <| C_region ?_; have hi2 : i = xs.length := by omega
   subst hi2; rw [List.take_length] at hn; subst hn; refine S_run 1 rfl ?_; refine S_enter rfl rfl rfl (E_fn rfl rfl) (grow_ok (by omega)) ?_; rintro _ _ _ ⟨adG, cG, rfl, rfl, rfl⟩; (try dsimp only [c_a, n_a]); refine S_run 1 rfl <| S_nil <| C_seq <| C_seq <| C_region <| S_run 1 rfl ?_; refine S_y rfl rfl rfl (Y_slen rfl rfl u129) ?_; refine S_run 1 rfl <| S_nil <| C_block ?_
   refine C_loop (σ := Nat × List Cell × (Option Addr × Nat)) (fun s => s.1 ≤ xs.length ∧ s.2.1 = catS (xs.take s.1)) (fun s => xs.length - s.1)
     (fun s => [(6, .slice s.2.2.1 s.2.1.length s.2.2.2), (25, .slice ad xs.length c), (26, .int .i64 (xs.length : Int)), (27, .int .i64 (s.1 : Int))])
     (fun s => [SlM (elSl Cell) ad c xs, AllSl elCell xs]) (fun s => [Res.arr elCell 83 s.2.2.1 s.2.2.2 s.2.1]) (0, [], (adG, cG)) ?_ (by repeat (first | exact trivial | refine ⟨rfl, ?_⟩ | refine ⟨intE (by omega), ?_⟩)) (by repeat constructor) (by repeat constructor) ?_
   ·exact ⟨Nat.zero_le _, rfl⟩
   ·rintro J ⟨i, out, ⟨adO, cO⟩⟩ ⟨hi, hn⟩ hK; dsimp only at hi hn ⊢; refine C_seq <| C_region <| S_run 1 rfl <| S_nil <| C_seq ?_; refine C_if rfl (fun h28 => ?_) (fun h28 => ?_)
    ·refine C_skip <| C_seq <| C_block <| C_seq <| C_region ?_; obtain ⟨y, hy⟩ : ∃ y, xs[i]? = some y := ⟨_, List.getElem?_eq_getElem (by omega)⟩; have hct := catS_take hy; rw [← hn] at hct; refine S_yx rfl rfl rfl (Y_ixA rfl u129 ti79 rfl rfl rfl (by repeat constructor) rfl (by omega) hy) ?_; rintro _ _ ⟨b29, o29, rfl, rfl⟩; refine S_y rfl rfl rfl (Y_ld u79 rfl rfl rfl) ?_; refine S_run 1 rfl <| S_nil <| C_region <| S_run 2 rfl ?_; refine S_sl (E := elCell) (by repeat constructor) hy ?_; refine S_app (zs := y.2.2) rfl rfl rfl rfl u79 ti83 rfl rfl rfl rfl rfl rfl (by repeat constructor) (by repeat constructor) (by omega) (by omega) (fun ad33 c33 => ?_); refine S_run 1 rfl <| S_nil <| C_blk <| C_region ?_; refine S_y rfl rfl rfl (Y_addi rfl rfl rfl (by omega) (by omega)) ?_; refine S_run 1 rfl <| S_nil ?_; refine hK (i + 1, out ++ y.2.2, (_, _)) ⟨by show i + 1 ≤ _; omega, ?_⟩ (by show xs.length - (i + 1) < xs.length - i; omega)
     show out ++ _ = catS (xs.take (i + 1)); rw [take_succ_snoc hy, catS_snoc, hn]
    ·refine C_exit rfl <| C_seq <| C_region ?_; have hi2 : i = xs.length := by omega
     subst hi2; rw [List.take_length] at hn; subst hn; refine S_run 2 rfl <| S_nil ?_; exact hret (Res_tmps Try.results48 rfl rfl) ⟨adO, cO, rfl, rfl, rfl⟩
end Go.Proofs.Ytlgbhceifnjdnaa
