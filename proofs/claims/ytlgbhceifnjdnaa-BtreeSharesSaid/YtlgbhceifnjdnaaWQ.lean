/- Walks: WQ. -/
import Derived.Test.YtlgbhceifnjdnaaPX
import Derived.Test.YtlgbhceifnjdnaaWH
import Derived.Test.YtlgbhceifnjdnaaWF
import Derived.Test.YtlgbhceifnjdnaaWG
import Derived.Test.YtlgbhceifnjdnaaWE
import Derived.Test.YtlgbhceifnjdnaaProg
import Derived.KernelRfl
namespace Go.Proofs.Ytlgbhceifnjdnaa
open Go.KX
namespace TWQ
theorem u3 : Try.prog.underlying 3 = some (.int .i64) := Try.underlying3
theorem u9 : Try.prog.underlying 9 = some (.string) := Try.underlying9
theorem u79 : Try.prog.underlying 79 = some (.slice 83) := Try.underlying79
theorem ti31 : TI Try.prog 31 3 24 (.agg #[.int .i64 0, .int .i64 0, .int .i64 0]) := TI_of (by kernel_rfl)
theorem ti83 : TI Try.prog 83 4 48 (.agg #[str [], str [], .int .i64 0, .int .i64 0]) := TI_of (by kernel_rfl)
theorem ly31 : LY Try.prog 31 [(0, 1, false), (1, 1, false), (2, 1, false)] := LY_of Try.underlying31 (by kernel_rfl)
theorem ly83 : LY Try.prog 83 [(0, 1, false), (1, 1, false), (2, 1, false), (3, 1, false)] := LY_of Try.underlying83 (by kernel_rfl)
end TWQ
open TWQ
set_option maxRecDepth 100000 in
set_option maxHeartbeats 2000000 in
theorem get_ok {bm : Nat} {m : Mem} {adP : Option Addr} {cP : Nat} {t : Tree} {key : Bytes} (hm : MOK m) : Spx Try.prog 17 #[.iface 26 (.pointer (some ⟨bm, 0, none⟩)), .agg (treeC t), str key] [] [Res.blk bm (.cells (memC m adP cP) 29 (0, 0)), Res.arr elS 9 adP cP (m).pages] (fun v fs' own' => v = .tuple #[str (getN m t key).1, .bool (getN m t key).2.1, .int .i64 (getN m t key).2.2] ∧ fs' = [] ∧ own' = [Res.blk bm (.cells (memC m adP cP) 29 (0, 0)), Res.arr elS 9 adP cP (m).pages]) := by
 refine Spx_of_body (fn := Try.f17) 91 Try.func17 rfl (by kernel_rfl) rfl (Nat.le_of_ble_eq_true rfl) (fun g0 Q hret hend => ?_); dsimp only [initL]; refine C_seq <| C_region ?_; refine S_box rfl rfl rfl rfl rfl rfl (fun b4 => ?_); refine S_run 3 rfl <| S_nil <| C_seq <| C_region <| S_run 1 rfl ?_; refine S_enter rfl rfl rfl (E_fn rfl rfl) begin_ok ?_; rintro _ _ _ (⟨hsz, rfl, rfl, rfl⟩ | ⟨hsz, bw, bg, rfl, rfl, rfl⟩)
 ·try dsimp only [c_a, n_a]
  refine S_run 5 rfl <| S_nil <| C_seq <| C_block <| C_seq <| C_region <| S_run 3 rfl <| S_nil ?_; refine C_if rfl (fun h22 => ?_) (fun h22 => ?_)
  ·refine C_seq <| C_region ?_; have e : (getN m t key) = ([], false, 2) := by unfold getN; exact if_pos hsz
   refine S_run 4 rfl <| S_nil ?_; rw [e] at hret; exact hret (Res_tmps Try.results17 rfl rfl) ⟨rfl, rfl, rfl⟩
  ·omega
 ·try dsimp only [c_a, n_a]
  refine S_run 5 rfl <| S_nil <| C_seq <| C_block <| C_seq <| C_region <| S_run 3 rfl <| S_nil ?_; refine C_if rfl (fun h22 => ?_) (fun h22 => ?_)
  ·omega
  ·refine C_seq <| C_region <| S_run 1 rfl ?_; refine S_enter rfl rfl rfl (E_fn rfl rfl) rkey_ok ?_; rintro _ _ _ ⟨rfl, rfl, rfl⟩; (try dsimp only [c_a, n_a]); refine S_run 2 rfl <| S_nil ?_; refine C_cond rfl (fun h26 => ?_) (fun h26 => ?_)
   ·refine C_seq <| C_region ?_
    have e : (getN m t key) = ([], false, 50) := by
      unfold getN; rw [if_neg (by omega)]; exact if_pos (fun hp => by rw [decide_eq_true hp] at h26; cases h26)
    refine S_run 3 rfl <| S_nil ?_; rw [e] at hret; exact hret (Res_tmps Try.results17 rfl rfl) ⟨rfl, rfl, rfl⟩
   ·have hkey : key ≠ [] ∧ key.length ≤ 64 := Decidable.byContradiction fun hp => by rw [decide_eq_false hp] at h26; cases h26
    refine C_seq <| C_region ?_; refine S_y rfl rfl rfl (Y_ldS Try.underlying31 rfl ti31 rfl rfl) ?_; refine S_enter rfl rfl rfl (E_fn rfl rfl) (right_ok (t := t)) ?_; rintro _ _ _ ⟨rfl, rfl, rfl⟩; (try dsimp only [c_a, n_a]); refine S_run 2 rfl <| S_nil ?_; refine C_cond rfl (fun h30 => ?_) (fun h30 => ?_)
    ·refine C_seq <| C_region ?_
     have e : (getN m t key) = ([], false, 51) := by
       unfold getN; rw [if_neg (by omega)]; rw [if_neg (by rw [Classical.not_not]; exact hkey)]; exact if_pos (by cases hq : rightT t with | false => rfl | true => (rw [hq] at h30; cases h30))
     refine S_run 3 rfl <| S_nil ?_; rw [e] at hret; exact hret (Res_tmps Try.results17 rfl rfl) ⟨rfl, rfl, rfl⟩
    ·have hright : rightT t = true := by cases hq : rightT t with | true => rfl | false => (rw [hq] at h30; cases h30)
     refine C_seq <| C_region ?_; refine S_y rfl rfl rfl (Y_fa ly31 rfl rfl rfl) ?_; refine S_y rfl rfl rfl (Y_ld u3 rfl rfl rfl) ?_; refine S_run 2 rfl <| S_nil ?_; refine C_if rfl (fun h34 => ?_) (fun h34 => ?_)
     ·refine C_seq <| C_region ?_
      have e : (getN m t key) = ([], false, 0) := by
        unfold getN; rw [if_neg (by omega)]; rw [if_neg (by rw [Classical.not_not]; exact hkey)]; rw [if_neg (by rw [hright]; decide)]; exact if_pos (by omega)
      refine S_run 3 rfl <| S_nil ?_; rw [e] at hret; exact hret (Res_tmps Try.results17 rfl rfl) ⟨rfl, rfl, rfl⟩
     ·refine C_skip <| C_blk <| C_seq <| C_region ?_; have hr0 := of_decide_eq_true hright; refine S_y rfl rfl rfl (Y_fa ly31 rfl rfl rfl) ?_; refine S_y rfl rfl rfl (Y_ld u3 rfl rfl rfl) ?_; refine S_run 1 rfl <| S_nil <| C_seq <| C_seq <| C_region ?_; refine S_y rfl rfl rfl (Y_fa ly31 rfl rfl rfl) ?_; refine S_y rfl rfl rfl (Y_ld u3 rfl rfl rfl) ?_; refine S_y rfl rfl rfl (Y_subi rfl rfl rfl (by omega) (by omega)) ?_; refine S_run 1 rfl <| S_nil <| C_block ?_
      refine C_loop (σ := Nat × Int) (fun s => s.1 ≤ (t.deep - 1).toNat ∧ descN key m ((t.deep - 1).toNat - s.1) s.2 = (descN key m (t.deep - 1).toNat t.root)) (fun s => (t.deep - 1).toNat - s.1)
        (fun s => [(2, str key), (9, .pointer (some ⟨bw, 0, none⟩)), (11, .int .i64 s.2), (42, .int .i64 (t.deep - 1)), (43, .int .i64 (s.1 : Int))])
        (fun s => [PtM bw 0 [.iface 26 (.pointer (some ⟨bm, 0, none⟩)), .map (some bg)]]) (fun s => [Res.mp (fun n : Int => Value.int .i64 n) (fun _ : Unit => Value.bool true) bg [], Res.blk bm (.cells (memC m adP cP) 29 (0, 0)), Res.arr elS 9 adP cP (m).pages]) (0, t.root) ?_ (by repeat (first | exact trivial | refine ⟨rfl, ?_⟩ | refine ⟨intE (by omega), ?_⟩)) (by repeat constructor) (by repeat constructor) ?_
      ·exact ⟨Nat.zero_le _, rfl⟩
      ·rintro J ⟨i, at_⟩ ⟨hi, hd⟩ hJ; dsimp only at hi hd ⊢; refine C_seq <| C_region <| S_run 1 rfl <| S_nil <| C_seq ?_; refine C_if rfl (fun h44 => ?_) (fun h44 => ?_)
       ·refine C_skip <| C_seq <| C_block <| C_seq <| C_region <| S_run 2 rfl ?_; have hld := loadN_ok hm at_ false; refine S_enter rfl rfl rfl (E_fn rfl rfl) (loadF_ok (n := at_) hm) ?_; rintro _ _ _ (⟨hle, rfl, rfl, rfl⟩ | ⟨hle, adL, cL, rfl, rfl, rfl⟩)
        ·try dsimp only [c_a, n_a]
         refine S_run 5 rfl <| S_nil <| C_seq <| C_seq <| C_region <| S_run 2 rfl <| S_nil ?_; refine C_if rfl (fun h52 => ?_) (fun h52 => ?_)
         ·refine C_seq <| C_region ?_
          have hds : (descN key m (t.deep - 1).toNat t.root) = ((loadN m at_ false).1, 0) := by
            rw [← hd, show (t.deep - 1).toNat - i = ((t.deep - 1).toNat - (i + 1)) + 1 by omega, descN]; exact if_pos hle
          have e : (getN m t key) = ([], false, (loadN m at_ false).1) := by
            unfold getN; rw [if_neg (by omega)]; rw [if_neg (by rw [Classical.not_not]; exact hkey)]; rw [if_neg (by rw [hright]; decide)]; rw [if_neg (by omega)]; dsimp only; rw [hds]; exact if_pos hle
          refine S_run 4 rfl <| S_nil ?_; rw [e] at hret; exact hret (Res_tmps Try.results17 rfl rfl) ⟨rfl, rfl, rfl⟩
         ·omega
        ·try dsimp only [c_a, n_a]
         refine S_run 5 rfl <| S_nil <| C_seq <| C_seq <| C_region <| S_run 2 rfl <| S_nil ?_; refine C_if rfl (fun h52 => ?_) (fun h52 => ?_)
         ·omega
         ·refine C_skip <| C_region ?_; refine S_pub (E := elCell) (by repeat constructor) ?_; obtain ⟨y, hy⟩ : ∃ y, (loadN m at_ false).2[childI (loadN m at_ false).2 key]? = some y := ⟨_, List.getElem?_eq_getElem (childI_lt key (loadN_pos hle))⟩; refine S_run 3 rfl ?_; refine S_enter rfl rfl rfl (E_fn rfl rfl) (child_ok (by omega)) ?_; rintro _ _ _ ⟨rfl, rfl, rfl⟩; (try dsimp only [c_a, n_a]); refine S_yx rfl rfl rfl (Y_ixA rfl u79 ti83 rfl rfl rfl (by repeat constructor) rfl (by omega) hy) ?_; rintro _ _ ⟨b58, o58, rfl, rfl⟩; refine S_y rfl rfl rfl (Y_fa ly83 rfl rfl rfl) ?_; refine S_y rfl rfl rfl (Y_ld u3 rfl rfl rfl) ?_; refine S_run 1 rfl <| S_nil <| C_blk <| C_region ?_; refine S_y rfl rfl rfl (Y_addi rfl rfl rfl (by omega) (by omega)) ?_; refine S_run 1 rfl <| S_nil ?_; rw [show (t.deep - 1).toNat - i = ((t.deep - 1).toNat - (i + 1)) + 1 by omega, descN, if_neg (by omega), pageAt_of hy] at hd; exact hJ (i + 1, (y.page : Int)) ⟨by show i + 1 ≤ _; omega, hd⟩ (by show (t.deep - 1).toNat - (i + 1) < (t.deep - 1).toNat - i; omega)
       ·refine C_exit rfl <| C_seq <| C_region <| S_run 2 rfl ?_; have hi2 : i = (t.deep - 1).toNat := by omega
        subst hi2; rw [Nat.sub_self, descN] at hd; have hld := loadN_ok hm at_ true; refine S_enter rfl rfl rfl (E_fn rfl rfl) (loadT_ok (n := at_) hm) ?_; rintro _ _ _ (⟨hle, rfl, rfl, rfl⟩ | ⟨hle, adL, cL, rfl, rfl, rfl⟩)
        ·try dsimp only [c_a, n_a]
         refine S_run 5 rfl <| S_nil <| C_seq <| C_seq <| C_region <| S_run 2 rfl <| S_nil ?_; refine C_if rfl (fun h69 => ?_) (fun h69 => ?_)
         ·refine C_seq <| C_region ?_
          have e : (getN m t key) = ([], false, (loadN m at_ true).1) := by
            unfold getN; rw [if_neg (by omega)]; rw [if_neg (by rw [Classical.not_not]; exact hkey)]; rw [if_neg (by rw [hright]; decide)]; rw [if_neg (by omega)]; dsimp only; rw [← hd]; dsimp only; rw [if_neg (by decide)]; exact if_pos hle
          refine S_run 4 rfl <| S_nil ?_; rw [e] at hret; exact hret (Res_tmps Try.results17 rfl rfl) ⟨rfl, rfl, rfl⟩
         ·omega
        ·try dsimp only [c_a, n_a]
         refine S_run 5 rfl <| S_nil <| C_seq <| C_seq <| C_region <| S_run 2 rfl <| S_nil ?_; refine C_if rfl (fun h69 => ?_) (fun h69 => ?_)
         ·omega
         ·refine C_skip <| C_seq <| C_region ?_; refine S_pub (E := elCell) (by repeat constructor) ?_; obtain ⟨y, hy⟩ : ∃ y, (loadN m at_ true).2[childI (loadN m at_ true).2 key]? = some y := ⟨_, List.getElem?_eq_getElem (childI_lt key (loadN_pos hle))⟩; have hco := hld.1 y (List.mem_of_getElem? hy)
          have e0 : (getN m t key) = if y.key ≠ key then ([], false, 0) else ((tellN getF m [] y).2.2, decide (((tellN getF m [] y).2.1 : Int) = 0), (tellN getF m [] y).2.1) := by
            unfold getN; rw [if_neg (by omega)]; rw [if_neg (by rw [Classical.not_not]; exact hkey)]; rw [if_neg (by rw [hright]; decide)]; rw [if_neg (by omega)]; dsimp only; rw [← hd]; dsimp only; rw [if_neg (by decide), if_neg (by omega), hy]
          refine S_run 3 rfl ?_; refine S_enter rfl rfl rfl (E_fn rfl rfl) (child_ok (by omega)) ?_; rintro _ _ _ ⟨rfl, rfl, rfl⟩; (try dsimp only [c_a, n_a]); refine S_yx rfl rfl rfl (Y_ixA rfl u79 ti83 rfl rfl rfl (by repeat constructor) rfl (by omega) hy) ?_; rintro _ _ ⟨b75, o75, rfl, rfl⟩; refine S_y rfl rfl rfl (Y_ldS Try.underlying83 rfl ti83 rfl rfl) ?_; refine S_alloc rfl rfl rfl rfl ti83 rfl (fun b15 => ?_); refine S_stS rfl rfl rfl ti83 rfl rfl rfl rfl (by repeat constructor) (by rfl) ?_; refine S_nil <| C_seq <| C_seq <| C_region ?_; refine S_y rfl rfl rfl (Y_fa ly83 rfl rfl rfl) ?_; refine S_y rfl rfl rfl (Y_ld u9 rfl rfl rfl) ?_; refine S_run 1 rfl ?_; refine S_y rfl rfl rfl (Y_strneq rfl rfl rfl) ?_; refine S_nil ?_; refine C_if rfl (fun h80 => ?_) (fun h80 => ?_)
          ·refine C_seq <| C_region ?_; have e := e0; rw [if_pos h80] at e; refine S_run 3 rfl <| S_nil ?_; rw [e] at hret; exact hret (Res_tmps Try.results17 rfl rfl) ⟨rfl, rfl, rfl⟩
          ·refine C_skip <| C_seq <| C_region <| S_run 1 rfl ?_; refine S_y rfl rfl rfl (Y_ldS Try.underlying83 rfl ti83 rfl rfl) ?_; have e := e0; rw [if_neg h80] at e; refine S_enter rfl rfl rfl (E_fn rfl rfl) (tell_ok (fi := #[]) (ca := #[]) (fA := PtM bw 0 [.iface 26 (.pointer (some ⟨bm, 0, none⟩)), .map (some bg)]) (mt := getF) hm hco (fun g n => get1_ok)) ?_; rintro _ _ _ ⟨rfl, rfl, rfl⟩; (try dsimp only [c_a, n_a]); refine S_run 5 rfl <| S_nil <| C_seq <| C_region <| S_run 7 rfl <| S_nil ?_; rw [e] at hret; exact hret (Res_tmps Try.results17 rfl rfl) ⟨rfl, rfl, rfl⟩
end Go.Proofs.Ytlgbhceifnjdnaa
