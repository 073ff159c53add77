/- Walks: XE. -/
import Derived.Test.YtlgbhceifnjdnaaWV
import Derived.Test.YtlgbhceifnjdnaaTN
import Derived.Test.YtlgbhceifnjdnaaProg
import Derived.KernelRfl
namespace Go.Proofs.Ytlgbhceifnjdnaa
open Go.KX
namespace TXE
theorem u3 : Try.prog.underlying 3 = some (.int .i64) := Try.underlying3
theorem u9 : Try.prog.underlying 9 = some (.string) := Try.underlying9
theorem u32 : Try.prog.underlying 32 = some (.slice 56) := Try.underlying32
theorem u33 : Try.prog.underlying 33 = some (.slice 3) := Try.underlying33
theorem ti3 : TI Try.prog 3 1 8 (.int .i64 0) := TI_of (by kernel_rfl)
theorem ti56 : TI Try.prog 56 2 32 (.agg #[str [], str []]) := TI_of (by kernel_rfl)
theorem ly56 : LY Try.prog 56 [(0, 1, false), (1, 1, false)] := LY_of Try.underlying56 (by kernel_rfl)
end TXE
open TXE
set_option maxRecDepth 100000 in
theorem rising_ok {ad : Option Addr} {c : Nat} {l : List Int} (hp : l.Pairwise (· < ·)) : Spx Try.prog 27 #[.slice ad l.length c] [SlM (elI .i64) ad c l] [] (fun v fs' own' => v = .bool true ∧ fs' = [] ∧ own' = []) := by
 refine Spx_of_body (fn := Try.f27) 20 Try.func27 rfl (by kernel_rfl) rfl (Nat.le_of_ble_eq_true rfl) (fun g0 Q hret hend => ?_); dsimp only [initL]; refine C_pure (f := SlM (elI .i64) ad c l) (by repeat constructor) SlM.le (fun hls => ?_); refine C_seq <| C_region <| S_run 1 rfl <| S_nil <| C_seq <| C_seq <| C_region <| S_run 1 rfl <| S_nil <| C_block ?_
 refine C_loop (σ := Nat) (fun i => 1 ≤ i ∧ (i ≤ l.length ∨ i = 1)) (fun i => l.length - i)
   (fun i => [(0, .slice ad l.length c), (3, .int .i64 (i : Int))])
   (fun i => [SlM (elI .i64) ad c l]) (fun i => []) 1 ?_ (by repeat (first | exact trivial | refine ⟨rfl, ?_⟩ | refine ⟨intE (by omega), ?_⟩)) (by repeat constructor) (by repeat constructor) ?_
 ·exact ⟨Nat.le_refl _, .inr rfl⟩
 ·rintro J i ⟨hi0, hi⟩ hJ; refine C_seq <| C_seq <| C_region <| S_run 2 rfl ?_; refine S_y rfl rfl rfl (Y_slen rfl rfl u33) ?_; refine S_run 1 rfl <| S_nil ?_; refine C_if rfl (fun h7 => ?_) (fun h7 => ?_)
  ·obtain ⟨y, hy⟩ : ∃ y, l[i]? = some y := ⟨_, List.getElem?_eq_getElem (by omega)⟩; obtain ⟨z, hz⟩ : ∃ z, l[((i : Int) - 1).toNat]? = some z := ⟨_, List.getElem?_eq_getElem (by omega)⟩
   have hlt : z < y := by
     obtain ⟨h1, e1⟩ := List.getElem?_eq_some_iff.1 hz; obtain ⟨h2, e2⟩ := List.getElem?_eq_some_iff.1 hy; rw [← e1, ← e2]; exact List.pairwise_iff_getElem.1 hp _ _ h1 h2 (by omega)
   refine C_skip <| C_seq <| C_block <| C_seq ?_; refine C_draw rfl ?_; refine c_p 0 524 ?_; refine c_p 1 524 ?_; refine C_firstw (i := 2) (W := 520) (by kernel_rfl) rfl rfl rfl rfl (Y_ixAW rfl u33 ti3 rfl rfl rfl (by repeat constructor) rfl (by omega) hy) ?_; rintro _ _ ⟨b12, o12, rfl, rfl⟩; refine c_p 4 896 ?_; refine c_p 5 960 ?_; refine c_r 6 896 (by kernel_rfl) rfl rfl rfl rfl (Y_subi rfl rfl rfl (by omega) (by omega)) ?_; refine c_r 3 512 (by kernel_rfl) rfl rfl rfl rfl (Y_ld u3 rfl rfl rfl) ?_; refine C_firstx (i := 7) (W := 768) (by kernel_rfl) rfl rfl rfl rfl (Y_ixA rfl u33 ti3 rfl rfl rfl (by repeat constructor) rfl (by omega) hz) ?_; rintro _ _ ⟨b17, o17, rfl, rfl⟩; refine c_r 8 512 (by kernel_rfl) rfl rfl rfl rfl (Y_ld u3 rfl rfl rfl) ?_; refine c_p 9 0 ?_; refine c_d ?_; refine C_if rfl (fun h19 => ?_) (fun h19 => ?_)
   ·omega
   ·refine C_skip <| C_blk <| C_region <| S_run 1 rfl ?_; refine S_y rfl rfl rfl (Y_addi rfl rfl rfl (by omega) (by omega)) ?_; refine S_run 1 rfl <| S_nil ?_; exact hJ (i + 1) ⟨by omega, .inl (by omega)⟩ (by show l.length - (i + 1) < l.length - i; omega)
  ·refine C_exit rfl <| C_seq <| C_region <| S_run 1 rfl <| S_nil ?_; exact hret (Res_tmps Try.results27 rfl rfl) ⟨rfl, rfl, rfl⟩
set_option maxRecDepth 100000 in
theorem in_ok {ad : Option Addr} {c : Nat} {l : List Int} {x : Int} : Spx Try.prog 30 #[.slice ad l.length c, .int .i64 x] [SlM (elI .i64) ad c l] [] (fun v fs' own' => v = .bool (decide (x ∈ l)) ∧ fs' = [] ∧ own' = []) := by
 refine Spx_of_body (fn := Try.f30) 18 Try.func30 rfl (by kernel_rfl) rfl (Nat.le_of_ble_eq_true rfl) (fun g0 Q hret hend => ?_); dsimp only [initL]; refine C_pure (f := SlM (elI .i64) ad c l) (by repeat constructor) SlM.le (fun hls => ?_); refine C_seq <| C_region <| S_run 1 rfl <| S_nil <| C_seq <| C_seq <| C_region <| S_run 1 rfl <| S_nil <| C_block ?_
 refine C_loop (σ := Nat) (fun i => i ≤ l.length ∧ x ∉ l.take i) (fun i => l.length - i)
   (fun i => [(0, .slice ad l.length c), (1, .int .i64 x), (5, .int .i64 (i : Int))])
   (fun i => [SlM (elI .i64) ad c l]) (fun i => []) 0 ?_ (by repeat (first | exact trivial | refine ⟨rfl, ?_⟩ | refine ⟨intE (by omega), ?_⟩)) (by repeat constructor) (by repeat constructor) ?_
 ·exact ⟨Nat.zero_le _, by simp⟩
 ·rintro J i ⟨hi, hn⟩ hJ; refine C_seq <| C_seq <| C_region <| S_run 2 rfl ?_; refine S_y rfl rfl rfl (Y_slen rfl rfl u33) ?_; refine S_run 1 rfl <| S_nil ?_; refine C_if rfl (fun h9 => ?_) (fun h9 => ?_)
  ·obtain ⟨y, hy⟩ : ∃ y, l[i]? = some y := ⟨_, List.getElem?_eq_getElem (by omega)⟩; refine C_skip <| C_seq <| C_block <| C_seq <| C_region <| S_run 2 rfl ?_; refine S_yx rfl rfl rfl (Y_ixA rfl u33 ti3 rfl rfl rfl (by repeat constructor) rfl (by omega) hy) ?_; rintro _ _ ⟨b14, o14, rfl, rfl⟩; refine S_y rfl rfl rfl (Y_ld u3 rfl rfl rfl) ?_; refine S_run 2 rfl <| S_nil ?_; refine C_if rfl (fun h17 => ?_) (fun h17 => ?_)
   ·refine C_seq <| C_region ?_; have hyx : y = x := by omega
    have e : decide (x ∈ l) = true := decide_eq_true (by rw [← hyx]; exact List.mem_of_getElem? hy); refine S_run 1 rfl <| S_nil ?_; rw [e] at hret; exact hret (Res_tmps Try.results30 rfl rfl) ⟨rfl, rfl, rfl⟩
   ·refine C_skip <| C_blk <| C_region <| S_run 1 rfl ?_; refine S_y rfl rfl rfl (Y_addi rfl rfl rfl (by omega) (by omega)) ?_; refine S_run 1 rfl <| S_nil ?_; exact hJ (i + 1) ⟨by omega, by rw [take_succ_snoc hy]; simp only [List.mem_append, List.mem_singleton, not_or]; exact ⟨hn, by omega⟩⟩ (by show l.length - (i + 1) < l.length - i; omega)
  ·refine C_exit rfl <| C_seq <| C_region ?_; have e : decide (x ∈ l) = false := decide_eq_false (by rw [List.take_of_length_le (by omega)] at hn; exact hn); refine S_run 1 rfl <| S_nil ?_; rw [e] at hret; exact hret (Res_tmps Try.results30 rfl rfl) ⟨rfl, rfl, rfl⟩
set_option maxRecDepth 100000 in
theorem most_ok {ad : Option Addr} {c : Nat} {l : List KV} {room : Int} (hr : 480 ≤ room) (hr2 : room ≤ 4000) (hl : l.length ≤ 1000) (hv : ∀ p ∈ l, p.value.length ≤ 16384) : Spx Try.prog 28 #[.slice ad l.length c, .int .i64 room] [SlM elKV ad c l] [] (fun v fs' own' => v = .int .i64 (mostN l room) ∧ fs' = [] ∧ own' = []) := by
 refine Spx_of_body (fn := Try.f28) 38 Try.func28 rfl (by kernel_rfl) rfl (Nat.le_of_ble_eq_true rfl) (fun g0 Q hret hend => ?_); dsimp only [initL]; refine C_seq <| C_region <| S_run 1 rfl <| S_nil <| C_seq <| C_region <| S_run 1 rfl ?_; refine S_y rfl rfl rfl (Y_subi rfl rfl rfl (by omega) (by omega)) ?_; refine S_run 1 rfl <| S_nil <| C_seq <| C_region <| S_run 1 rfl ?_; refine S_y rfl rfl rfl (Y_slen rfl rfl u32) ?_; refine S_y rfl rfl rfl (Y_muli rfl rfl rfl (by omega) (by omega)) ?_; refine S_run 1 rfl <| S_nil <| C_seq <| C_seq <| C_region <| S_run 1 rfl <| S_nil <| C_block ?_
 refine C_loop (σ := Nat) (fun i => i ≤ l.length) (fun i => l.length - i)
   (fun i => [(0, .slice ad l.length c), (5, .int .i64 (room - 8)), (6, .int .i64 (2 * (l.length : Int) + mostS (l.take i) room)), (7, .int .i64 (i : Int))])
   (fun i => [SlM elKV ad c l]) (fun i => []) 0 ?_ (by repeat (first | exact trivial | refine ⟨rfl, ?_⟩ | refine ⟨intE (by omega), ?_⟩)) (by repeat constructor) (by repeat constructor) ?_
 ·exact Nat.zero_le _
 ·rintro J i hi hJ; refine C_seq <| C_seq <| C_region <| S_run 2 rfl ?_; refine S_y rfl rfl rfl (Y_slen rfl rfl u32) ?_; refine S_run 1 rfl <| S_nil ?_; refine C_if rfl (fun h17 => ?_) (fun h17 => ?_)
  ·obtain ⟨y, hy⟩ : ∃ y, l[i]? = some y := ⟨_, List.getElem?_eq_getElem (by omega)⟩; have hyl := hv y (List.mem_of_getElem? hy); have hms := mostS_snoc hy room; have hb := mostS_le hr (l := l.take i) (fun p hp => hv p (List.mem_of_mem_take hp)); have htl : (l.take i).length ≤ i := by rw [List.length_take]; omega
   have hq8 : (room - 8).tdiv 8 = (room - 8) / 8 := Int.tdiv_eq_ediv_of_nonneg (by omega); unfold mostI at hms; refine C_skip <| C_seq <| C_block <| C_seq <| C_region <| S_run 2 rfl ?_; refine S_yx rfl rfl rfl (Y_ixA rfl u32 ti56 rfl rfl rfl (by repeat constructor) rfl (by omega) hy) ?_; rintro _ _ ⟨b22, o22, rfl, rfl⟩; refine S_y rfl rfl rfl (Y_fa ly56 rfl rfl rfl) ?_; refine S_y rfl rfl rfl (Y_ld u9 rfl rfl rfl) ?_; refine S_y rfl rfl rfl (Y_strlen rfl rfl u9) ?_; refine S_run 1 rfl <| S_nil <| C_seq <| C_region <| S_run 2 rfl ?_; refine S_y rfl rfl rfl ((Y_quo rfl rfl rfl (by decide)).as (v' := .int .i64 ((room - 8).tdiv 8)) (by rw [wrap_i64 (by omega) (by omega)])) ?_; refine S_run 1 rfl <| S_nil ?_; refine C_if rfl (fun h29 => ?_) (fun h29 => ?_)
   ·rw [if_pos (by omega)] at hms; have hd0 : 0 ≤ ((y.value.length : Int) - 1).tdiv (room - 8) := Int.tdiv_nonneg (by omega) (by omega); have hd1 : ((y.value.length : Int) - 1).tdiv (room - 8) ≤ (y.value.length : Int) - 1 := Int.tdiv_le_self _ (by omega); refine C_region <| S_run 2 rfl ?_; refine S_y rfl rfl rfl (Y_subi rfl rfl rfl (by omega) (by omega)) ?_; refine S_run 1 rfl ?_; refine S_y rfl rfl rfl ((Y_quo rfl rfl rfl (by omega)).as (v' := .int .i64 (((y.value.length : Int) - 1).tdiv (room - 8))) (by rw [wrap_i64 (by omega) (by omega)])) ?_; refine S_y rfl rfl rfl (Y_addi rfl rfl rfl (by omega) (by omega)) ?_; refine S_y rfl rfl rfl (Y_addi rfl rfl rfl (by omega) (by omega)) ?_; refine S_run 1 rfl <| S_nil <| C_blk <| C_region <| S_run 1 rfl ?_; refine S_y rfl rfl rfl (Y_addi rfl rfl rfl (by omega) (by omega)) ?_; refine S_run 1 rfl <| S_nil ?_; exact hJ (i + 1) (by omega) (by show l.length - (i + 1) < l.length - i; omega)
   ·rw [if_neg (by omega)] at hms; refine C_skip <| C_blk <| C_region <| S_run 1 rfl ?_; refine S_y rfl rfl rfl (Y_addi rfl rfl rfl (by omega) (by omega)) ?_; refine S_run 1 rfl <| S_nil ?_; exact hJ (i + 1) (by omega) (by show l.length - (i + 1) < l.length - i; omega)
  ·refine C_exit rfl <| C_seq <| C_region ?_; have hi2 : i = l.length := by omega
   subst hi2; rw [List.take_length]; refine S_run 2 rfl <| S_nil ?_; exact hret (Res_tmps Try.results28 rfl rfl) ⟨rfl, rfl, rfl⟩
set_option maxRecDepth 100000 in
theorem deep_ok {keys : Nat} (hk : keys ≤ 1000000) : Spx Try.prog 29 #[.int .i64 (keys : Int)] [] [] (fun v fs' own' => v = .int .i64 (deepN keys : Int) ∧ fs' = [] ∧ own' = []) := by
 refine Spx_of_body (fn := Try.f29) 11 Try.func29 rfl (by kernel_rfl) rfl (Nat.le_of_ble_eq_true rfl) (fun g0 Q hret hend => ?_); dsimp only [initL]; refine C_seq <| C_region <| S_run 1 rfl <| S_nil <| C_seq <| C_region <| S_run 1 rfl <| S_nil <| C_seq <| C_block ?_
 refine C_loop (σ := Nat × Nat × Nat) (fun s => s.2.1 ≤ s.1 ∧ s.2.1 ≤ 1000000 ∧ s.2.2 + s.2.1 ≤ 1000002 ∧ deepL s.1 (s.2.1 : Int) s.2.2 = deepN keys) (fun s => s.2.1)
   (fun s => [(0, .int .i64 (s.2.1 : Int)), (3, .int .i64 (s.2.2 : Int))])
   (fun s => []) (fun s => []) (keys + 1, keys, 2) ?_ (by repeat (first | exact trivial | refine ⟨rfl, ?_⟩ | refine ⟨intE (by omega), ?_⟩)) (by repeat constructor) (by repeat constructor) ?_
 ·exact ⟨by dsimp only; omega, hk, by dsimp only; omega, rfl⟩
 ·rintro J ⟨f, k, n⟩ ⟨hf, hk2, hn, hd⟩ hJ; dsimp only at hf hk2 hn hd ⊢; refine C_seq <| C_seq <| C_region <| S_run 2 rfl <| S_nil ?_; refine C_if rfl (fun h5 => ?_) (fun h5 => ?_)
  ·obtain ⟨f2, rfl⟩ : ∃ q, f = q + 1 := ⟨f - 1, by omega⟩; unfold deepL at hd; rw [if_pos (by omega)] at hd; refine C_skip <| C_block <| C_seq <| C_region <| S_run 1 rfl ?_; refine S_y rfl rfl rfl ((Y_quo rfl rfl rfl (by decide)).as (v' := .int .i64 ((k / 2 : Nat) : Int)) (by rw [Int.tdiv_eq_ediv_of_nonneg (by omega), wrap_i64 (by omega) (by omega)]; rfl)) ?_; refine S_run 1 rfl <| S_nil <| C_region <| S_run 1 rfl ?_; refine S_y rfl rfl rfl (Y_addi rfl rfl rfl (by omega) (by omega)) ?_; refine S_run 1 rfl <| S_nil <| C_blk ?_; exact hJ (f2, k / 2, n + 1) ⟨by show k / 2 ≤ f2; omega, by show k / 2 ≤ _; omega, by show n + 1 + k / 2 ≤ _; omega, hd⟩ (by show k / 2 < k; omega)
  ·refine C_exit rfl <| C_seq <| C_region ?_
   have e : n = deepN keys := by
     rw [← hd]
     cases f with
     | zero => rfl
     | succ f => unfold deepL; rw [if_neg (by omega)]
   subst e; refine S_run 2 rfl <| S_nil ?_; exact hret (Res_tmps Try.results29 rfl rfl) ⟨rfl, rfl, rfl⟩
end Go.Proofs.Ytlgbhceifnjdnaa
