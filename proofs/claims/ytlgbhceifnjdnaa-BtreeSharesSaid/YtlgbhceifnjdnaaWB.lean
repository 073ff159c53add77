/- Walks: WB. -/
import Derived.Test.YtlgbhceifnjdnaaPX
import Derived.Test.YtlgbhceifnjdnaaWA
import Derived.Test.YtlgbhceifnjdnaaProg
import Derived.KernelRfl
namespace Go.Proofs.Ytlgbhceifnjdnaa
open Go.KX
namespace TWB
theorem u5 : Try.prog.underlying 5 = some (.int .u8) := Try.underlying5
theorem u68 : Try.prog.underlying 68 = some (.slice 5) := Try.underlying68
theorem u121 : Try.prog.underlying 121 = some (.int .u64) := Try.underlying121
theorem ti5 : TI Try.prog 5 1 1 (.int .u8 0) := TI_of (by kernel_rfl)
theorem ti137 : TI Try.prog 137 3 40 (.agg #[.int .u64 0, .slice none 0 0, .int .i64 0]) := TI_of (by kernel_rfl)
theorem ly137 : LY Try.prog 137 [(0, 1, false), (1, 1, false), (2, 1, false)] := LY_of Try.underlying137 (by kernel_rfl)
theorem bt137 : BT Try.prog 137 [(0, 1), (1, 1), (2, 1)] [.int .u64 0, .slice none 0 0, .int .i64 0] := BT_of (pl := [(0, 1, false), (1, 1, false), (2, 1, false)]) Try.underlying137 (by kernel_rfl) ti137
end TWB
open TWB
set_option maxRecDepth 100000 in
theorem rnum_ok {ad : Option Addr} {c : Nat} {p : Bytes} : Spx Try.prog 76 #[.slice ad p.length c] [SlM elB ad c p] [] (fun v fs' own' => ∃ ad' c', v = pcV (numR true 0 p) ad' c' ∧ fs' = [SlM elB ad' c' (numR true 0 p).left] ∧ own' = []) := by
 refine Spx_of_body (fn := Try.f76) 41 Try.func76 rfl (by kernel_rfl) rfl (Nat.le_of_ble_eq_true rfl) (fun g0 Q hret hend => ?_); dsimp only [initL]; refine C_pure (f := SlM elB ad c p) (by repeat constructor) SlM.le (fun hls => ?_); refine C_seq <| C_region ?_; refine S_alloc rfl rfl rfl rfl ti137 rfl (fun b2 => ?_); refine S_nil <| C_seq <| C_region <| S_run 1 rfl <| S_nil <| C_seq <| C_seq <| C_region <| S_run 1 rfl ?_; refine S_y rfl rfl rfl (Y_slen rfl rfl u68) ?_; refine S_run 1 rfl <| S_nil <| C_block ?_
 refine C_loop (σ := Nat × Nat) (fun s => s.1 ≤ p.length ∧ numR (decide (s.1 = 0)) s.2 (p.drop s.1) = numR true 0 p ∧ s.2 < 18446744073709551616) (fun s => p.length - s.1)
   (fun s => [(0, .slice ad p.length c), (2, .pointer (some ⟨b2, 0, none⟩)), (3, .int .u64 (s.2 : Int)), (6, .slice ad p.length c), (7, .int .i64 (p.length : Int)), (8, .int .i64 (s.1 : Int))])
   (fun s => [SlM elB ad c p]) (fun s => [Res.blk b2 (.cells #[.int .u64 0, .slice none 0 0, .int .i64 0] 137 (0, 0))]) (0, 0) ?_ (by repeat (first | exact trivial | refine ⟨rfl, ?_⟩ | refine ⟨intE (by omega), ?_⟩)) (by repeat constructor) (by repeat constructor) ?_
 ·exact ⟨Nat.zero_le _, rfl, by decide⟩
 ·rintro J ⟨i, m⟩ ⟨hi, hr, hm⟩ hJ; dsimp only at hi hr hm ⊢; refine C_seq <| C_region <| S_run 1 rfl <| S_nil <| C_seq ?_; refine C_if rfl (fun h9 => ?_) (fun h9 => ?_)
  ·refine C_skip <| C_seq <| C_block <| C_seq <| C_region ?_; obtain ⟨y, hy⟩ : ∃ y, p[i]? = some y := ⟨_, List.getElem?_eq_getElem (by omega)⟩; have hdr : p.drop i = y :: p.drop (i + 1) := drop_cons hy; have hyl := y.toNat_lt; refine S_run 1 rfl ?_; refine S_yx rfl rfl rfl (Y_ixA rfl u68 ti5 rfl rfl rfl (by repeat constructor) rfl (by omega) hy) ?_; rintro _ _ ⟨b11, o11, rfl, rfl⟩; refine S_y rfl rfl rfl (Y_ld u5 rfl rfl rfl) ?_; refine S_run 2 rfl <| S_nil <| C_seq <| C_block <| C_seq <| C_region <| S_run 3 rfl ?_; refine S_prop 16 rfl (fun h16 => ?_) (fun h16 => ?_)
   ·refine S_run 4 rfl <| S_nil ?_; refine C_if rfl (fun h13 => ?_) (fun h13 => ?_)
    ·refine C_seq <| C_region ?_; have e : numR true 0 p = ⟨0, [], 10⟩ := by rw [← hr, hdr]; simp only [numR]; rw [if_pos ⟨by simp; omega, by omega⟩]
     refine S_fact (f := SlM elB none 0 []) (fun g _ => SlM.nil _ _ _ g) ?_
     
     refine S_y rfl rfl rfl (Y_build [.const (.int .i64 10), .const (.slice none 0 0), .const (.int .u64 0)] bt137 rfl rfl rfl rfl) ?_; refine S_stS rfl rfl rfl ti137 rfl rfl rfl rfl (by repeat constructor) (by rfl) ?_; refine S_nil ?_; rw [e] at hret
     first
       | exact hret (Res_cellS Try.results76 Try.underlying137 rfl ti137 rfl (by repeat constructor) rfl) ⟨none, 0, rfl, rfl, rfl⟩
       | exact hret (Res_cellS Try.results76 Try.underlying137 rfl ti137 rfl (by repeat constructor) rfl) ⟨ad37, c37, rfl, rfl, rfl⟩
    ·refine C_seq <| C_region ?_; have hfst : ¬ (decide (i = 0) = true ∧ y.toNat = 128) := fun h => by have := of_decide_eq_true h.1; omega
     refine S_run 3 rfl <| S_nil ?_; refine C_if rfl (fun h21 => ?_) (fun h21 => ?_)
     ·refine C_seq <| C_region ?_; have e : numR true 0 p = ⟨0, [], 11⟩ := by rw [← hr, hdr]; simp only [numR]; rw [if_neg hfst, if_pos (by omega)]
      refine S_fact (f := SlM elB none 0 []) (fun g _ => SlM.nil _ _ _ g) ?_
      
      refine S_y rfl rfl rfl (Y_build [.const (.int .i64 11), .const (.slice none 0 0), .const (.int .u64 0)] bt137 rfl rfl rfl rfl) ?_; refine S_stS rfl rfl rfl ti137 rfl rfl rfl rfl (by repeat constructor) (by rfl) ?_; refine S_nil ?_; rw [e] at hret
      first
        | exact hret (Res_cellS Try.results76 Try.underlying137 rfl ti137 rfl (by repeat constructor) rfl) ⟨none, 0, rfl, rfl, rfl⟩
        | exact hret (Res_cellS Try.results76 Try.underlying137 rfl ti137 rfl (by repeat constructor) rfl) ⟨ad37, c37, rfl, rfl, rfl⟩
     ·refine C_skip <| C_blk <| C_seq <| C_region <| S_run 1 rfl ?_; refine S_y rfl rfl rfl ((Y_mul rfl rfl rfl).as (v' := .int .u64 ((m * 128 : Nat) : Int)) (by rw [wrap_u64 (by omega) (by omega)]; push_cast; rfl)) ?_; refine S_run 1 rfl ?_; refine S_y rfl rfl rfl (Y_bits (v := .int .u8 ((y.toNat % 128 : Nat) : Int)) rfl rfl rfl (.inl ⟨rfl, by rw [and_127]⟩)) ?_; refine S_y rfl rfl rfl ((Y_conv rfl rfl u5 u121).as (v' := .int .u64 ((y.toNat % 128 : Nat) : Int)) (by rw [wrap_u64 (by omega) (by omega)])) ?_; refine S_y rfl rfl rfl ((Y_add rfl rfl rfl).as (v' := .int .u64 ((m * 128 + y.toNat % 128 : Nat) : Int)) (by rw [wrap_u64 (by omega) (by omega)]; push_cast; rfl)) ?_; refine S_run 1 rfl <| S_nil <| C_seq <| C_region <| S_run 2 rfl <| S_nil ?_; refine C_if rfl (fun h32 => ?_) (fun h32 => ?_)
      ·refine C_seq <| C_region ?_; have e : numR true 0 p = ⟨m * 128 + y.toNat % 128, p.drop (i + 1), 0⟩ := by rw [← hr, hdr]; simp only [numR]; rw [if_neg hfst, if_neg (by omega), if_pos (by omega)]
       refine S_run 3 rfl ?_; refine S_y rfl rfl rfl (Y_addi rfl rfl rfl (by omega) (by omega)) ?_; refine S_yx rfl rfl rfl (Y_reslice rfl u68 ti5 rfl rfl (by repeat constructor) rfl ⟨_, rfl⟩ rfl (by omega) (by omega) (by omega)) ?_; rintro _ _ ⟨ad37, c37, rfl, rfl⟩; have e2 : (p.drop ((i : Int) + 1).toNat).take ((p.length : Int).toNat - ((i : Int) + 1).toNat) = p.drop (i + 1) := by rw [show ((i : Int) + 1).toNat = i + 1 by omega]; exact List.take_of_length_le (by simp)
       rw [e2]; refine S_y rfl rfl rfl (Y_build [.const (.int .i64 0), .tmp 37, .tmp 33] bt137 rfl rfl rfl rfl) ?_; refine S_stS rfl rfl rfl ti137 rfl rfl rfl rfl (by repeat constructor) (by rfl) ?_; refine S_nil ?_; rw [e] at hret
       first
         | exact hret (Res_cellS Try.results76 Try.underlying137 rfl ti137 rfl (by repeat constructor) rfl) ⟨none, 0, rfl, rfl, rfl⟩
         | exact hret (Res_cellS Try.results76 Try.underlying137 rfl ti137 rfl (by repeat constructor) rfl) ⟨ad37, c37, rfl, rfl, rfl⟩
      ·refine C_skip <| C_blk <| C_region ?_; refine S_y rfl rfl rfl (Y_addi rfl rfl rfl (by omega) (by omega)) ?_; refine S_run 1 rfl <| S_nil ?_; refine hJ (i + 1, m * 128 + y.toNat % 128) ⟨by show i + 1 ≤ _; omega, ?_, by show _ < _; omega⟩ (by show p.length - (i + 1) < p.length - i; omega)
       show numR (decide (i + 1 = 0)) (m * 128 + y.toNat % 128) (p.drop (i + 1)) = _; rw [← hr, hdr]; simp only [numR]; rw [if_neg hfst, if_neg (by omega), if_neg (by omega)]; simp
   ·refine S_run 4 rfl <| S_nil ?_; refine C_cond_f rfl ?_; refine C_seq <| C_region ?_; have hfst : ¬ (decide (i = 0) = true ∧ y.toNat = 128) := fun h => by have := of_decide_eq_true h.1; omega
    refine S_run 3 rfl <| S_nil ?_; refine C_if rfl (fun h21 => ?_) (fun h21 => ?_)
    ·refine C_seq <| C_region ?_; have e : numR true 0 p = ⟨0, [], 11⟩ := by rw [← hr, hdr]; simp only [numR]; rw [if_neg hfst, if_pos (by omega)]
     refine S_fact (f := SlM elB none 0 []) (fun g _ => SlM.nil _ _ _ g) ?_
     
     refine S_y rfl rfl rfl (Y_build [.const (.int .i64 11), .const (.slice none 0 0), .const (.int .u64 0)] bt137 rfl rfl rfl rfl) ?_; refine S_stS rfl rfl rfl ti137 rfl rfl rfl rfl (by repeat constructor) (by rfl) ?_; refine S_nil ?_; rw [e] at hret
     first
       | exact hret (Res_cellS Try.results76 Try.underlying137 rfl ti137 rfl (by repeat constructor) rfl) ⟨none, 0, rfl, rfl, rfl⟩
       | exact hret (Res_cellS Try.results76 Try.underlying137 rfl ti137 rfl (by repeat constructor) rfl) ⟨ad37, c37, rfl, rfl, rfl⟩
    ·refine C_skip <| C_blk <| C_seq <| C_region <| S_run 1 rfl ?_; refine S_y rfl rfl rfl ((Y_mul rfl rfl rfl).as (v' := .int .u64 ((m * 128 : Nat) : Int)) (by rw [wrap_u64 (by omega) (by omega)]; push_cast; rfl)) ?_; refine S_run 1 rfl ?_; refine S_y rfl rfl rfl (Y_bits (v := .int .u8 ((y.toNat % 128 : Nat) : Int)) rfl rfl rfl (.inl ⟨rfl, by rw [and_127]⟩)) ?_; refine S_y rfl rfl rfl ((Y_conv rfl rfl u5 u121).as (v' := .int .u64 ((y.toNat % 128 : Nat) : Int)) (by rw [wrap_u64 (by omega) (by omega)])) ?_; refine S_y rfl rfl rfl ((Y_add rfl rfl rfl).as (v' := .int .u64 ((m * 128 + y.toNat % 128 : Nat) : Int)) (by rw [wrap_u64 (by omega) (by omega)]; push_cast; rfl)) ?_; refine S_run 1 rfl <| S_nil <| C_seq <| C_region <| S_run 2 rfl <| S_nil ?_; refine C_if rfl (fun h32 => ?_) (fun h32 => ?_)
     ·refine C_seq <| C_region ?_; have e : numR true 0 p = ⟨m * 128 + y.toNat % 128, p.drop (i + 1), 0⟩ := by rw [← hr, hdr]; simp only [numR]; rw [if_neg hfst, if_neg (by omega), if_pos (by omega)]
      refine S_run 3 rfl ?_; refine S_y rfl rfl rfl (Y_addi rfl rfl rfl (by omega) (by omega)) ?_; refine S_yx rfl rfl rfl (Y_reslice rfl u68 ti5 rfl rfl (by repeat constructor) rfl ⟨_, rfl⟩ rfl (by omega) (by omega) (by omega)) ?_; rintro _ _ ⟨ad37, c37, rfl, rfl⟩; have e2 : (p.drop ((i : Int) + 1).toNat).take ((p.length : Int).toNat - ((i : Int) + 1).toNat) = p.drop (i + 1) := by rw [show ((i : Int) + 1).toNat = i + 1 by omega]; exact List.take_of_length_le (by simp)
      rw [e2]; refine S_y rfl rfl rfl (Y_build [.const (.int .i64 0), .tmp 37, .tmp 33] bt137 rfl rfl rfl rfl) ?_; refine S_stS rfl rfl rfl ti137 rfl rfl rfl rfl (by repeat constructor) (by rfl) ?_; refine S_nil ?_; rw [e] at hret
      first
        | exact hret (Res_cellS Try.results76 Try.underlying137 rfl ti137 rfl (by repeat constructor) rfl) ⟨none, 0, rfl, rfl, rfl⟩
        | exact hret (Res_cellS Try.results76 Try.underlying137 rfl ti137 rfl (by repeat constructor) rfl) ⟨ad37, c37, rfl, rfl, rfl⟩
     ·refine C_skip <| C_blk <| C_region ?_; refine S_y rfl rfl rfl (Y_addi rfl rfl rfl (by omega) (by omega)) ?_; refine S_run 1 rfl <| S_nil ?_; refine hJ (i + 1, m * 128 + y.toNat % 128) ⟨by show i + 1 ≤ _; omega, ?_, by show _ < _; omega⟩ (by show p.length - (i + 1) < p.length - i; omega)
      show numR (decide (i + 1 = 0)) (m * 128 + y.toNat % 128) (p.drop (i + 1)) = _; rw [← hr, hdr]; simp only [numR]; rw [if_neg hfst, if_neg (by omega), if_neg (by omega)]; simp
  ·refine C_exit rfl <| C_seq <| C_region ?_; have hi2 : i = p.length := by omega
   have e : numR true 0 p = ⟨0, [], 3⟩ := by rw [← hr, hi2]; simp [numR]
   refine S_fact (f := SlM elB none 0 []) (fun g _ => SlM.nil _ _ _ g) ?_
   
   refine S_y rfl rfl rfl (Y_build [.const (.int .i64 3), .const (.slice none 0 0), .const (.int .u64 0)] bt137 rfl rfl rfl rfl) ?_; refine S_stS rfl rfl rfl ti137 rfl rfl rfl rfl (by repeat constructor) (by rfl) ?_; refine S_nil ?_; rw [e] at hret
   first
     | exact hret (Res_cellS Try.results76 Try.underlying137 rfl ti137 rfl (by repeat constructor) rfl) ⟨none, 0, rfl, rfl, rfl⟩
     | exact hret (Res_cellS Try.results76 Try.underlying137 rfl ti137 rfl (by repeat constructor) rfl) ⟨ad37, c37, rfl, rfl, rfl⟩
end Go.Proofs.Ytlgbhceifnjdnaa
