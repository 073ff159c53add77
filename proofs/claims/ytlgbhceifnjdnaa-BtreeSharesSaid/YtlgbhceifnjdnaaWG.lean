/- Walks: WG. -/
import Derived.Test.YtlgbhceifnjdnaaPX
import Derived.Test.YtlgbhceifnjdnaaWF
import Derived.Test.YtlgbhceifnjdnaaProg
import Derived.KernelRfl
namespace Go.Proofs.Ytlgbhceifnjdnaa
open Go.KX
namespace TWG
theorem u3 : Try.prog.underlying 3 = some (.int .i64) := Try.underlying3
theorem u5 : Try.prog.underlying 5 = some (.int .u8) := Try.underlying5
theorem u9 : Try.prog.underlying 9 = some (.string) := Try.underlying9
theorem u68 : Try.prog.underlying 68 = some (.slice 5) := Try.underlying68
theorem ti5 : TI Try.prog 5 1 1 (.int .u8 0) := TI_of (by kernel_rfl)
theorem ly83 : LY Try.prog 83 [(0, 1, false), (1, 1, false), (2, 1, false), (3, 1, false)] := LY_of Try.underlying83 (by kernel_rfl)
theorem ly108 : LY Try.prog 108 [(0, 1, false), (1, 1, false)] := LY_of Try.underlying108 (by kernel_rfl)
end TWG
open TWG
set_option maxRecDepth 100000 in
theorem tell_ok {bm : Nat} {m : Mem} {adP : Option Addr} {cP : Nat} {bw bg fn : Nat} {fi ca : Array Value} {fA : MF} {gone : Gone} {cl : Cell} {mt : Met} (hm : MOK m) (hco : CellOK cl) (hmet : ∀ (g : Gone) (n : Nat), Spx Try.prog fn (fi ++ #[.int .i64 (n : Int)] ++ ca) [fA] [Res.mp (fun n : Int => Value.int .i64 n) (fun _ : Unit => Value.bool true) bg g] (fun v fs' own' => v = .int .i64 ((mt g n).1 : Int) ∧ fs' = [] ∧ own' = [Res.mp (fun n : Int => Value.int .i64 n) (fun _ : Unit => Value.bool true) bg (mt g n).2])) : Spx Try.prog 37 #[.pointer (some ⟨bw, 0, none⟩), .agg (encCell cl).toArray, .func (.func fn) fi ca] [PtM bw 0 [.iface 26 (.pointer (some ⟨bm, 0, none⟩)), .map (some bg)], fA] [Res.mp (fun n : Int => Value.int .i64 n) (fun _ : Unit => Value.bool true) bg gone, Res.blk bm (.cells (memC m adP cP) 29 (0, 0)), Res.arr elS 9 adP cP (m).pages] (fun v fs' own' => v = .tuple #[str (tellN mt m gone cl).2.2, .int .i64 (tellN mt m gone cl).2.1] ∧ fs' = [] ∧ own' = [Res.mp (fun n : Int => Value.int .i64 n) (fun _ : Unit => Value.bool true) bg (tellN mt m gone cl).1, Res.blk bm (.cells (memC m adP cP) 29 (0, 0)), Res.arr elS 9 adP cP (m).pages]) := by
 refine Spx_of_body (fn := Try.f37) 98 Try.func37 rfl (by kernel_rfl) rfl (Nat.le_of_ble_eq_true rfl) (fun g0 Q hret hend => ?_); dsimp only [initL]; refine C_seq <| C_region ?_; refine S_box rfl rfl rfl rfl rfl rfl (fun b4 => ?_); refine S_run 2 rfl <| S_nil <| C_seq <| C_seq <| C_region ?_; refine S_y rfl rfl rfl (Y_fa ly83 rfl rfl rfl) ?_; refine S_y rfl rfl rfl (Y_ld u3 rfl rfl rfl) ?_; refine S_run 1 rfl <| S_nil ?_; refine C_if rfl (fun h20 => ?_) (fun h20 => ?_)
 ·refine C_seq <| C_region ?_; have e : tellN mt m gone cl = (gone, 0, cl.value) := by unfold tellN; rw [if_pos (by omega)]
  refine S_y rfl rfl rfl (Y_fa ly83 rfl rfl rfl) ?_; refine S_y rfl rfl rfl (Y_ld u9 rfl rfl rfl) ?_; refine S_run 2 rfl <| S_nil ?_; rw [e] at hret; exact hret (Res_tmps Try.results37 rfl rfl) ⟨rfl, rfl, rfl⟩
 ·refine C_skip <| C_seq <| C_region ?_; refine S_nilarr elB 5 ?_; have hszo := hco.size; refine S_run 1 rfl <| S_nil <| C_seq <| C_seq <| C_region ?_; refine S_y rfl rfl rfl (Y_fa ly83 rfl rfl rfl) ?_; refine S_y rfl rfl rfl (Y_ld u3 rfl rfl rfl) ?_; refine S_run 1 rfl <| S_nil <| C_block ?_
  refine C_loop (σ := Nat × Gone × Nat × Bytes × (Option Addr × Nat)) (fun s => s.2.2.2.1.length ≤ cl.size ∧ cl.size - s.2.2.2.1.length < s.1 ∧ tellL mt m cl.size s.1 s.2.1 s.2.2.1 s.2.2.2.1 = tellN mt m gone cl) (fun s => s.1)
    (fun s => [(0, .pointer (some ⟨bw, 0, none⟩)), (2, .func (.func fn) fi ca), (4, .pointer (some ⟨b4, 0, none⟩)), (8, .slice s.2.2.2.2.1 s.2.2.2.1.length s.2.2.2.2.2), (9, .int .i64 (s.2.2.1 : Int))])
    (fun s => [PtM bw 0 [.iface 26 (.pointer (some ⟨bm, 0, none⟩)), .map (some bg)], fA]) (fun s => [Res.arr elB 5 s.2.2.2.2.1 s.2.2.2.2.2 s.2.2.2.1, Res.blk b4 (.cells (encCell cl).toArray 83 (0, 0)), Res.mp (fun n : Int => Value.int .i64 n) (fun _ : Unit => Value.bool true) bg s.2.1, Res.blk bm (.cells (memC m adP cP) 29 (0, 0)), Res.arr elS 9 adP cP (m).pages]) (cl.size + 1, gone, cl.page, [], (none, 0)) ?_ (by repeat (first | exact trivial | refine ⟨rfl, ?_⟩ | refine ⟨intE (by omega), ?_⟩)) (by repeat constructor) (by repeat constructor) ?_
  ·exact ⟨Nat.zero_le _, by show cl.size - 0 < cl.size + 1; omega, by unfold tellN; rw [if_neg (by omega)]⟩
  ·rintro J ⟨fu, g, n, b, ⟨adB, cB⟩⟩ ⟨h1, h2, hr⟩ hJ; dsimp only at h1 h2 hr ⊢; refine C_seq <| C_seq <| C_region <| S_run 2 rfl <| S_nil ?_; refine C_if rfl (fun h26 => ?_) (fun h26 => ?_)
   ·refine C_skip <| C_block <| C_seq <| C_seq <| C_region ?_; obtain ⟨fu, rfl⟩ : ∃ k, fu = k + 1 := ⟨fu - 1, by omega⟩; have hls := loadM_small hm n; refine S_run 2 rfl ?_; refine S_enter rfl rfl rfl (E_val rfl rfl rfl rfl) (hmet g n) ?_; rintro _ _ _ ⟨rfl, rfl, rfl⟩; (try dsimp only [c_a, n_a]); refine S_run 1 rfl <| S_nil <| C_seq <| C_region <| S_run 2 rfl <| S_nil ?_; refine C_if rfl (fun h31 => ?_) (fun h31 => ?_)
    ·refine C_seq <| C_region ?_
     have hs : tellS mt m cl.size g n b = ((mt g n).2, (mt g n).1, 0, []) := by
       unfold tellS; exact if_pos (by omega)
     have e : tellN mt m gone cl = ((mt g n).2, (mt g n).1, []) := by
       rw [← hr, tellL, if_neg (by omega), hs]; exact if_pos (by first | decide | (dsimp only; omega))
     refine S_run 3 rfl <| S_nil ?_; rw [e] at hret; exact hret (Res_tmps Try.results37 rfl rfl) ⟨rfl, rfl, rfl⟩
    ·refine C_skip <| C_seq <| C_region <| S_run 2 rfl ?_; refine S_y rfl rfl rfl (Y_fa ly108 rfl rfl rfl) ?_; refine S_y rfl rfl rfl (Y_ld Try.underlying73 rfl rfl rfl) ?_; refine S_run 1 rfl ?_; refine S_enter rfl rfl rfl (E_inv rfl rfl rfl (by intro w; kernel_rfl)) (mload_ok hm) ?_; rintro _ _ _ ⟨ad39, c39, rfl, rfl, rfl⟩; (try dsimp only [c_a, n_a]); refine S_run 5 rfl <| S_nil <| C_seq <| C_seq <| C_region <| S_run 2 rfl <| S_nil ?_; refine C_if rfl (fun h43 => ?_) (fun h43 => ?_)
     ·refine C_seq <| C_region ?_
      have hs : tellS mt m cl.size g n b = ((mt g n).2, (loadM m n).1, 0, []) := by
        unfold tellS; rw [if_neg (by omega)]; exact if_pos (by omega)
      have e : tellN mt m gone cl = ((mt g n).2, (loadM m n).1, []) := by
        rw [← hr, tellL, if_neg (by omega), hs]; exact if_pos (by first | decide | (dsimp only; omega))
      refine S_run 3 rfl <| S_nil ?_; rw [e] at hret; exact hret (Res_tmps Try.results37 rfl rfl) ⟨rfl, rfl, rfl⟩
     ·refine C_skip <| C_seq <| C_seq <| C_region <| S_run 1 rfl ?_; refine S_y rfl rfl rfl (Y_slen rfl rfl u68) ?_; refine S_run 2 rfl ?_; refine S_prop 48 rfl (fun h48 => ?_) (fun h48 => ?_)
      ·refine S_run 1 rfl <| S_run 4 rfl <| S_nil ?_; refine C_cond_t rfl ?_; refine C_seq <| C_region ?_
       have hs : tellS mt m cl.size g n b = ((mt g n).2, 51, 0, []) := by
         unfold tellS; rw [if_neg (by omega)]; rw [if_neg (by omega)]; refine if_pos ?_
         first | (rw [hk0]; simp only [Option.map_some, ne_eq, Option.some.injEq]; omega) | (rw [List.getElem?_eq_none (by omega)]; simp)
       have e : tellN mt m gone cl = ((mt g n).2, 51, []) := by
         rw [← hr, tellL, if_neg (by omega), hs]; exact if_pos (by first | decide | (dsimp only; omega))
       refine S_run 2 rfl <| S_nil ?_; rw [e] at hret; exact hret (Res_tmps Try.results37 rfl rfl) ⟨rfl, rfl, rfl⟩
      ·refine S_run 1 rfl ?_; obtain ⟨k0, hk0⟩ : ∃ k, (loadM m n).2[0]? = some k := ⟨_, List.getElem?_eq_getElem (by omega)⟩; refine S_yx rfl rfl rfl (Y_ixA rfl u68 ti5 rfl rfl rfl (by repeat constructor) rfl (by omega) (show (loadM m n).2[(0 : Int).toNat]? = some k0 from hk0)) ?_; rintro _ _ ⟨b50, o50, rfl, rfl⟩; refine S_y rfl rfl rfl (Y_ld u5 rfl rfl rfl) ?_; refine S_run 2 rfl <| S_nil ?_; refine C_if rfl (fun h53 => ?_) (fun h53 => ?_)
       ·refine C_seq <| C_region ?_
        have hs : tellS mt m cl.size g n b = ((mt g n).2, 51, 0, []) := by
          unfold tellS; rw [if_neg (by omega)]; rw [if_neg (by omega)]; refine if_pos ?_
          first | (rw [hk0]; simp only [Option.map_some, ne_eq, Option.some.injEq]; omega) | (rw [List.getElem?_eq_none (by omega)]; simp)
        have e : tellN mt m gone cl = ((mt g n).2, 51, []) := by
          rw [← hr, tellL, if_neg (by omega), hs]; exact if_pos (by first | decide | (dsimp only; omega))
        refine S_run 2 rfl <| S_nil ?_; rw [e] at hret; exact hret (Res_tmps Try.results37 rfl rfl) ⟨rfl, rfl, rfl⟩
       ·refine C_skip <| C_seq <| C_region ?_; have hk3 : ((loadM m n).2[0]?).map (fun k => k.toNat) = some 3 := by rw [hk0]; simp only [Option.map_some, Option.some.injEq]; omega
        refine S_run 1 rfl ?_; refine S_yx rfl rfl rfl (Y_reslice rfl u68 ti5 rfl rfl (by repeat constructor) rfl ⟨_, rfl⟩ rfl (by decide) (by omega) (by omega)) ?_; rintro _ _ ⟨ad55, c55, rfl, rfl⟩; have hpl : ((loadM m n).2.drop 1).length = (loadM m n).2.length - 1 := by simp
        rw [show ((loadM m n).2.drop (1 : Int).toNat).take (((loadM m n).2.length : Int).toNat - (1 : Int).toNat) = ((loadM m n).2.drop 1) from List.take_of_length_le (by simp)]; refine S_enter rfl rfl rfl (E_fn rfl rfl) (unroll_ok (by omega)) ?_; rintro _ _ _ ⟨b13, ad13, c13, rfl, rfl, rfl⟩; (try dsimp only [c_a, n_a]); refine S_run 1 rfl <| S_nil <| C_seq <| C_region <| S_run 1 rfl ?_; have hA1 : (readS (⟨((loadM m n).2.drop 1), ((loadM m n).2.drop 1).length, 0, 0⟩ : Strip) (numR true 0 ((loadM m n).2.drop 1))).1.left.length ≤ ((loadM m n).2.drop 1).length := readN_left (⟨((loadM m n).2.drop 1), ((loadM m n).2.drop 1).length, 0, 0⟩ : Strip); have hA2 : (readS (⟨((loadM m n).2.drop 1), ((loadM m n).2.drop 1).length, 0, 0⟩ : Strip) (numR true 0 ((loadM m n).2.drop 1))).1.size = ((loadM m n).2.drop 1).length := readS_size _ _; refine S_enter rfl rfl rfl (E_fn rfl rfl) (small_ok (most := 1073741824) (s := (⟨((loadM m n).2.drop 1), ((loadM m n).2.drop 1).length, 0, 0⟩ : Strip)) (Nat.le_refl _) (by show ((loadM m n).2.drop 1).length ≤ _; omega) (by decide)) ?_; rintro _ _ _ ⟨ad14, c14, rfl, rfl, rfl⟩; (try dsimp only [c_a, n_a]); refine S_run 5 rfl <| S_nil <| C_seq <| C_region <| S_run 1 rfl ?_; refine S_enter rfl rfl rfl (E_fn rfl rfl) sbad_ok ?_; rintro _ _ _ ⟨rfl, rfl, rfl⟩; (try dsimp only [c_a, n_a]); refine S_run 5 rfl <| S_nil <| C_seq <| C_seq <| C_region <| S_run 3 rfl ?_; refine S_bool 69 rfl (fun h69 => ?_) (fun h69 => ?_)
        ·have h69p : ¬ (((readS (⟨((loadM m n).2.drop 1), ((loadM m n).2.drop 1).length, 0, 0⟩ : Strip) (numR true 0 ((loadM m n).2.drop 1))).2 : Int) ≤ ((1073741824 : Nat) : Int)) := by intro hp; rw [decide_eq_true hp] at h69; cases h69
         refine S_run 8 rfl <| S_nil ?_; refine C_cond_t rfl ?_; refine C_seq <| C_region ?_
         have hs : tellS mt m cl.size g n b = ((mt g n).2, 51, 0, []) := by
           unfold tellS; rw [if_neg (by omega)]; rw [if_neg (by omega)]; rw [if_neg (by rw [hk3]; simp)]; refine if_pos ?_
           first | (left; omega) | (right; left; omega) | (right; right; omega)
         have e : tellN mt m gone cl = ((mt g n).2, 51, []) := by
           rw [← hr, tellL, if_neg (by omega), hs]; exact if_pos (by first | decide | (dsimp only; omega))
         refine S_run 2 rfl <| S_nil ?_; rw [e] at hret; exact hret (Res_tmps Try.results37 rfl rfl) ⟨rfl, rfl, rfl⟩
        ·have h69p : (((readS (⟨((loadM m n).2.drop 1), ((loadM m n).2.drop 1).length, 0, 0⟩ : Strip) (numR true 0 ((loadM m n).2.drop 1))).2 : Int) ≤ ((1073741824 : Nat) : Int)) := Decidable.byContradiction fun hp => by rw [decide_eq_false hp] at h69; cases h69
         refine S_run 4 rfl ?_; refine S_prop 73 rfl (fun h73 => ?_) (fun h73 => ?_)
         ·refine S_run 4 rfl <| S_nil ?_; refine C_cond_t rfl ?_; refine C_seq <| C_region ?_
          have hs : tellS mt m cl.size g n b = ((mt g n).2, 51, 0, []) := by
            unfold tellS; rw [if_neg (by omega)]; rw [if_neg (by omega)]; rw [if_neg (by rw [hk3]; simp)]; refine if_pos ?_
            first | (left; omega) | (right; left; omega) | (right; right; omega)
          have e : tellN mt m gone cl = ((mt g n).2, 51, []) := by
            rw [← hr, tellL, if_neg (by omega), hs]; exact if_pos (by first | decide | (dsimp only; omega))
          refine S_run 2 rfl <| S_nil ?_; rw [e] at hret; exact hret (Res_tmps Try.results37 rfl rfl) ⟨rfl, rfl, rfl⟩
         ·refine S_run 1 rfl ?_; refine S_enter rfl rfl rfl (E_fn rfl rfl) smore_ok ?_; rintro _ _ _ ⟨rfl, rfl, rfl⟩; (try dsimp only [c_a, n_a]); refine S_run 2 rfl <| S_nil ?_; refine C_if rfl (fun h77 => ?_) (fun h77 => ?_)
          ·refine C_seq <| C_region ?_
           have hs : tellS mt m cl.size g n b = ((mt g n).2, 51, 0, []) := by
             unfold tellS; rw [if_neg (by omega)]; rw [if_neg (by omega)]; rw [if_neg (by rw [hk3]; simp)]; refine if_pos ?_
             first | (left; omega) | (right; left; omega) | (right; right; omega)
           have e : tellN mt m gone cl = ((mt g n).2, 51, []) := by
             rw [← hr, tellL, if_neg (by omega), hs]; exact if_pos (by first | decide | (dsimp only; omega))
           refine S_run 2 rfl <| S_nil ?_; rw [e] at hret; exact hret (Res_tmps Try.results37 rfl rfl) ⟨rfl, rfl, rfl⟩
          ·refine C_skip <| C_seq <| C_region ?_
           have hng : ¬ (¬ (readS (⟨((loadM m n).2.drop 1), ((loadM m n).2.drop 1).length, 0, 0⟩ : Strip) (numR true 0 ((loadM m n).2.drop 1))).2 ≤ 1073741824 ∨ (readS (⟨((loadM m n).2.drop 1), ((loadM m n).2.drop 1).length, 0, 0⟩ : Strip) (numR true 0 ((loadM m n).2.drop 1))).1.bad ≠ 0 ∨ (readS (⟨((loadM m n).2.drop 1), ((loadM m n).2.drop 1).length, 0, 0⟩ : Strip) (numR true 0 ((loadM m n).2.drop 1))).1.left.length = 0) := by
             rintro (q | q | q) <;> omega
           refine S_run 3 rfl ?_; refine S_enter rfl rfl rfl (E_fn rfl rfl) (swhere_ok (by rw [hA2]; exact hA1) (by rw [hA2]; omega)) ?_; rintro _ _ _ ⟨rfl, rfl, rfl⟩; (try dsimp only [c_a, n_a]); refine S_y rfl rfl rfl ((Y_addi rfl rfl rfl (by omega) (by omega)).as (v' := .int .i64 (((1 + ((readS (⟨((loadM m n).2.drop 1), ((loadM m n).2.drop 1).length, 0, 0⟩ : Strip) (numR true 0 ((loadM m n).2.drop 1))).1.size - (readS (⟨((loadM m n).2.drop 1), ((loadM m n).2.drop 1).length, 0, 0⟩ : Strip) (numR true 0 ((loadM m n).2.drop 1))).1.left.length)) : Nat) : Int)) (by rw [Int.natCast_add]; rfl)) ?_; refine S_yx rfl rfl rfl (Y_reslice rfl u68 ti5 rfl rfl (by repeat constructor) rfl ⟨_, rfl⟩ rfl (by omega) (by omega) (by omega)) ?_; rintro _ _ ⟨ad83, c83, rfl, rfl⟩; rw [show ((loadM m n).2.drop (((1 + ((readS (⟨((loadM m n).2.drop 1), ((loadM m n).2.drop 1).length, 0, 0⟩ : Strip) (numR true 0 ((loadM m n).2.drop 1))).1.size - (readS (⟨((loadM m n).2.drop 1), ((loadM m n).2.drop 1).length, 0, 0⟩ : Strip) (numR true 0 ((loadM m n).2.drop 1))).1.left.length)) : Nat) : Int).toNat).take (((loadM m n).2.length : Int).toNat - (((1 + ((readS (⟨((loadM m n).2.drop 1), ((loadM m n).2.drop 1).length, 0, 0⟩ : Strip) (numR true 0 ((loadM m n).2.drop 1))).1.size - (readS (⟨((loadM m n).2.drop 1), ((loadM m n).2.drop 1).length, 0, 0⟩ : Strip) (numR true 0 ((loadM m n).2.drop 1))).1.left.length)) : Nat) : Int).toNat) = (loadM m n).2.drop (1 + ((readS (⟨((loadM m n).2.drop 1), ((loadM m n).2.drop 1).length, 0, 0⟩ : Strip) (numR true 0 ((loadM m n).2.drop 1))).1.size - (readS (⟨((loadM m n).2.drop 1), ((loadM m n).2.drop 1).length, 0, 0⟩ : Strip) (numR true 0 ((loadM m n).2.drop 1))).1.left.length)) from List.take_of_length_le (by simp)]; refine S_app rfl rfl rfl rfl u68 ti5 rfl rfl rfl rfl rfl rfl (by repeat constructor) (by repeat constructor) (by simp only [List.length_drop]; omega) (by simp only [List.length_drop]; omega) (fun ad84 c84 => ?_); refine S_run 1 rfl <| S_nil <| C_seq <| C_seq <| C_region <| S_run 1 rfl ?_; refine S_y rfl rfl rfl (Y_slen rfl rfl u68) ?_; refine S_y rfl rfl rfl (Y_fa ly83 rfl rfl rfl) ?_; refine S_y rfl rfl rfl (Y_ld u3 rfl rfl rfl) ?_; refine S_run 1 rfl <| S_nil ?_; refine C_if rfl (fun h89 => ?_) (fun h89 => ?_)
           ·refine C_seq <| C_region ?_
            have hs : tellS mt m cl.size g n b = ((mt g n).2, 51, 0, []) := by
              unfold tellS; rw [if_neg (by omega)]; rw [if_neg (by omega)]; rw [if_neg (by rw [hk3]; simp)]; dsimp only; rw [if_neg hng]; exact if_pos (by omega)
            have e : tellN mt m gone cl = ((mt g n).2, 51, []) := by
              rw [← hr, tellL, if_neg (by omega), hs]; exact if_pos (by first | decide | (dsimp only; omega))
            refine S_run 2 rfl <| S_nil ?_; rw [e] at hret; exact hret (Res_tmps Try.results37 rfl rfl) ⟨rfl, rfl, rfl⟩
           ·refine C_skip <| C_region ?_
            have hs : tellS mt m cl.size g n b = ((mt g n).2, 0, min (readS (⟨((loadM m n).2.drop 1), ((loadM m n).2.drop 1).length, 0, 0⟩ : Strip) (numR true 0 ((loadM m n).2.drop 1))).2 1073741824, b ++ (loadM m n).2.drop (1 + ((readS (⟨((loadM m n).2.drop 1), ((loadM m n).2.drop 1).length, 0, 0⟩ : Strip) (numR true 0 ((loadM m n).2.drop 1))).1.size - (readS (⟨((loadM m n).2.drop 1), ((loadM m n).2.drop 1).length, 0, 0⟩ : Strip) (numR true 0 ((loadM m n).2.drop 1))).1.left.length))) := by
              unfold tellS; rw [if_neg (by omega), if_neg (by omega), if_neg (by rw [hk3]; simp)]; dsimp only; rw [if_neg hng]; exact if_neg (by omega)
            have hbl : (b ++ (loadM m n).2.drop (1 + ((readS (⟨((loadM m n).2.drop 1), ((loadM m n).2.drop 1).length, 0, 0⟩ : Strip) (numR true 0 ((loadM m n).2.drop 1))).1.size - (readS (⟨((loadM m n).2.drop 1), ((loadM m n).2.drop 1).length, 0, 0⟩ : Strip) (numR true 0 ((loadM m n).2.drop 1))).1.left.length))).length ≤ cl.size := by omega
            have hdl : ((loadM m n).2.drop (1 + ((readS (⟨((loadM m n).2.drop 1), ((loadM m n).2.drop 1).length, 0, 0⟩ : Strip) (numR true 0 ((loadM m n).2.drop 1))).1.size - (readS (⟨((loadM m n).2.drop 1), ((loadM m n).2.drop 1).length, 0, 0⟩ : Strip) (numR true 0 ((loadM m n).2.drop 1))).1.left.length))).length = (readS (⟨((loadM m n).2.drop 1), ((loadM m n).2.drop 1).length, 0, 0⟩ : Strip) (numR true 0 ((loadM m n).2.drop 1))).1.left.length := by rw [List.length_drop]; omega
            refine S_run 2 rfl <| S_nil <| C_blk ?_; rw [tellL, if_neg (by omega), hs, if_neg (by dsimp only; omega)] at hr; refine hJ (fu, _, _, b ++ _, (_, _)) ⟨?_, ?_, hr⟩ (by show fu < fu + 1; omega)
            · show (b ++ _).length ≤ cl.size
              omega
            · show cl.size - (b ++ _).length < fu
              rw [List.length_append, hdl] at hbl ⊢; omega
   ·refine C_exit rfl <| C_seq <| C_seq <| C_region <| S_run 1 rfl ?_; refine S_y rfl rfl rfl (Y_slen rfl rfl u68) ?_; refine S_y rfl rfl rfl (Y_fa ly83 rfl rfl rfl) ?_; refine S_y rfl rfl rfl (Y_ld u3 rfl rfl rfl) ?_; refine S_run 1 rfl <| S_nil ?_; refine C_if rfl (fun h95 => ?_) (fun h95 => ?_)
    ·refine C_seq <| C_region ?_; obtain ⟨fu, rfl⟩ : ∃ k, fu = k + 1 := ⟨fu - 1, by omega⟩; have e : tellN mt m gone cl = (g, 51, []) := by rw [← hr, tellL, if_pos (by omega)]; exact if_pos (by omega)
     refine S_run 2 rfl <| S_nil ?_; rw [e] at hret; exact hret (Res_tmps Try.results37 rfl rfl) ⟨rfl, rfl, rfl⟩
    ·refine C_skip <| C_seq <| C_region ?_; obtain ⟨fu, rfl⟩ : ∃ k, fu = k + 1 := ⟨fu - 1, by omega⟩; have e : tellN mt m gone cl = (g, 0, b) := by rw [← hr, tellL, if_pos (by omega)]; exact if_neg (by omega)
     refine S_pub (E := elB) (by repeat constructor) ?_; refine S_run 1 rfl ?_; refine S_y rfl rfl rfl (Y_b2s rfl rfl rfl (by repeat constructor) u68 u5 u9) ?_; refine S_run 2 rfl <| S_nil ?_; rw [e] at hret; exact hret (Res_tmps Try.results37 rfl rfl) ⟨rfl, rfl, rfl⟩
end Go.Proofs.Ytlgbhceifnjdnaa
