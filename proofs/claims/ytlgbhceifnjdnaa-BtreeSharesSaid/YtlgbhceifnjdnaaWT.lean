/- Walks: WT. -/
import Derived.Test.YtlgbhceifnjdnaaWS
import Derived.Test.YtlgbhceifnjdnaaWO
import Derived.Test.YtlgbhceifnjdnaaWE
import Derived.Test.YtlgbhceifnjdnaaWJ
import Derived.Test.YtlgbhceifnjdnaaProg
import Derived.KernelRfl
namespace Go.Proofs.Ytlgbhceifnjdnaa
open Go.KX
namespace TWT
theorem u3 : Try.prog.underlying 3 = some (.int .i64) := Try.underlying3
theorem u106 : Try.prog.underlying 106 = some (.map 3 4) := Try.underlying106
theorem ti3 : TI Try.prog 3 1 8 (.int .i64 0) := TI_of (by kernel_rfl)
theorem ti31 : TI Try.prog 31 3 24 (.agg #[.int .i64 0, .int .i64 0, .int .i64 0]) := TI_of (by kernel_rfl)
theorem ly31 : LY Try.prog 31 [(0, 1, false), (1, 1, false), (2, 1, false)] := LY_of Try.underlying31 (by kernel_rfl)
theorem ly108 : LY Try.prog 108 [(0, 1, false), (1, 1, false)] := LY_of Try.underlying108 (by kernel_rfl)
theorem bt31 : BT Try.prog 31 [(0, 1), (1, 1), (2, 1)] [.int .i64 0, .int .i64 0, .int .i64 0] := BT_of (pl := [(0, 1, false), (1, 1, false), (2, 1, false)]) Try.underlying31 (by kernel_rfl) ti31
end TWT
open TWT
theorem change_ok {bm : Nat} {m : Mem} {adP : Option Addr} {cP : Nat} {bw bg bo fn : Nat} {fi ca : Array Value} {fA fB : MF} {key : Bytes} {E : Edit} (hm : MOL m) (hsz : 480 ≤ m.size) (hE : EditOK E) (hf : ∀ (ad : Option Addr) (c : Nat) (l : List Cell), (∀ x ∈ l, CellOK x) → l.length ≤ 1000000 → Spx Try.prog fn (fi ++ #[.slice ad l.length c] ++ ca) [fA, fB] [Res.arr elCell 83 ad c l, Res.blk bo (.cells #[oldV none] 95 (0, 0))] (fun v fs' own' => ∃ ad' c' x, v = .tuple #[.slice ad' (E l).1.length c', .int .i64 (E l).2.1, .int .i64 (E l).2.2.1] ∧ fs' = [OldF x (E l).2.2.2] ∧ own' = [Res.arr elCell 83 ad' c' (E l).1, Res.blk bo (.cells #[oldV x] 95 (0, 0))])) : ∀ (d : Nat), d ≤ 100 → ∀ (g : Gone) (at_ : Int),
    Spx Try.prog 66 #[.pointer (some ⟨bw, 0, none⟩), .int .i64 at_, .int .i64 ((d + 1 : Nat) : Int), str key, .func (.func fn) fi ca] [PtM bw 0 [.iface 26 (.pointer (some ⟨bm, 0, none⟩)), .map (some bg)], fA, fB] [Res.mp (fun n : Int => Value.int .i64 n) (fun _ : Unit => Value.bool true) bg g, Res.blk bm (.cells (memC m adP cP) 29 (0, 0)), Res.arr elS 9 adP cP (m).pages, Res.blk bo (.cells #[oldV none] 95 (0, 0))] (fun v fs' own' => ∃ ad' c' adP' cP' x, v = .tuple #[.slice ad' (changeN E key d m g at_).l.length c', .int .i64 (changeN E key d m g at_).more, .int .i64 (changeN E key d m g at_).e] ∧ fs' = [OldF x (changeN E key d m g at_).old] ∧ own' = [Res.arr elCell 83 ad' c' (changeN E key d m g at_).l, Res.mp (fun n : Int => Value.int .i64 n) (fun _ : Unit => Value.bool true) bg (changeN E key d m g at_).g, Res.blk bm (.cells (memC (changeN E key d m g at_).m adP' cP') 29 (0, 0)), Res.arr elS 9 adP' cP' ((changeN E key d m g at_).m).pages, Res.blk bo (.cells #[oldV x] 95 (0, 0))])
  | 0, _, _, _ => change0_ok hm hsz hf
  | d + 1, hd, _, _ => changeS_ok hm hsz hE (by omega) (fun g' at' => change_ok hm hsz hE hf d (by omega) g' at')
set_option maxRecDepth 100000 in
set_option maxHeartbeats 4000000 in
theorem turnZ_ok {bm : Nat} {m : Mem} {adP : Option Addr} {cP : Nat} {bo fn : Nat} {fi ca : Array Value} {fA fB : MF} {t : Tree} {key : Bytes} {E : Edit} (hm : MOL m) (hE : EditOK E) (hf : ∀ (ad : Option Addr) (c : Nat) (l : List Cell), (∀ x ∈ l, CellOK x) → l.length ≤ 1000000 → Spx Try.prog fn (fi ++ #[.slice ad l.length c] ++ ca) [fA, fB] [Res.arr elCell 83 ad c l, Res.blk bo (.cells #[oldV none] 95 (0, 0))] (fun v fs' own' => ∃ ad' c' x, v = .tuple #[.slice ad' (E l).1.length c', .int .i64 (E l).2.1, .int .i64 (E l).2.2.1] ∧ fs' = [OldF x (E l).2.2.2] ∧ own' = [Res.arr elCell 83 ad' c' (E l).1, Res.blk bo (.cells #[oldV x] 95 (0, 0))])) (hz : t.root = 0) : Spx Try.prog 44 #[.iface 26 (.pointer (some ⟨bm, 0, none⟩)), .agg (treeC t), str key, .func (.func fn) fi ca] [fA, fB] [Res.blk bm (.cells (memC m adP cP) 29 (0, 0)), Res.arr elS 9 adP cP (m).pages, Res.blk bo (.cells #[oldV none] 95 (0, 0))] (fun v fs' own' => ∃ ad' c' adP' cP' x, v = .tuple #[.agg (treeC (turnN E m t key).t), .slice ad' (turnN E m t key).gone.length c', .int .i64 (turnN E m t key).e] ∧ fs' = [OldF x (turnN E m t key).old] ∧ own' = [Res.arr (elI .i64) 3 ad' c' (turnN E m t key).gone, Res.blk bm (.cells (memC (turnN E m t key).m adP' cP') 29 (0, 0)), Res.arr elS 9 adP' cP' ((turnN E m t key).m).pages, Res.blk bo (.cells #[oldV x] 95 (0, 0))]) := by
 refine Spx_of_body (fn := Try.f44) 116 Try.func44 rfl (by kernel_rfl) rfl (Nat.le_of_ble_eq_true rfl) (fun g0 Q hret hend => ?_); dsimp only [initL]; refine C_seq <| C_region ?_; refine S_box rfl rfl rfl rfl rfl rfl (fun b5 => ?_); refine S_alloc rfl rfl rfl rfl ti31 rfl (fun b8 => ?_); refine S_run 2 rfl <| S_nil <| C_seq <| C_region <| S_run 1 rfl ?_; refine S_enter rfl rfl rfl (E_fn rfl rfl) begin_ok ?_; rintro _ _ _ (⟨hsz, rfl, rfl, rfl⟩ | ⟨hsz, bw, bg, rfl, rfl, rfl⟩)
 ·try dsimp only [c_a, n_a]
  refine S_run 5 rfl <| S_nil <| C_seq <| C_block <| C_seq <| C_region <| S_run 3 rfl <| S_nil ?_; refine C_if rfl (fun h21 => ?_) (fun h21 => ?_)
  ·refine C_seq <| C_region ?_; refine S_nilarr (elI .i64) 3 ?_; refine S_fact (f := PF True) (fun _ _ => trivial) ?_; have e : (turnN E m t key) = ⟨m, tree0, [], 2, none⟩ := by unfold turnN; exact if_pos hsz
   refine S_y rfl rfl rfl (Y_build [.const (.int .i64 0), .const (.int .i64 0), .const (.int .i64 0)] bt31 rfl rfl rfl rfl) ?_; refine S_run 1 rfl ?_; refine S_stS rfl rfl rfl ti31 rfl rfl rfl rfl (by repeat constructor) (by rfl) ?_; refine S_run 2 rfl <| S_nil ?_; rw [e] at hret
   first
     | exact hret (Res_c3 Try.results44 rfl (LdV_S Try.underlying31 rfl ti31 (by repeat constructor) rfl) rfl rfl) ⟨none, 0, adP, cP, none, rfl, rfl, rfl⟩
     | exact hret (Res_c3 Try.results44 rfl (LdV_S Try.underlying31 rfl ti31 (by repeat constructor) rfl) rfl rfl) ⟨none, 0, adP, cP, xO, rfl, rfl, rfl⟩
     | exact hret (Res_c3 Try.results44 rfl (LdV_S Try.underlying31 rfl ti31 (by repeat constructor) rfl) rfl rfl) ⟨none, 0, adQ, cQ, xO, rfl, rfl, rfl⟩
     | exact hret (Res_c3 Try.results44 rfl (LdV_S Try.underlying31 rfl ti31 (by repeat constructor) rfl) rfl rfl) ⟨adK, cK, adQ, cQ, xO, rfl, rfl, rfl⟩
  ·omega
 ·try dsimp only [c_a, n_a]
  refine S_run 5 rfl <| S_nil <| C_seq <| C_block <| C_seq <| C_region <| S_run 3 rfl <| S_nil ?_; refine C_if rfl (fun h21 => ?_) (fun h21 => ?_)
  ·omega
  ·refine C_seq <| C_region <| S_run 1 rfl ?_; refine S_enter rfl rfl rfl (E_fn rfl rfl) rkey_ok ?_; rintro _ _ _ ⟨rfl, rfl, rfl⟩; (try dsimp only [c_a, n_a]); refine S_run 2 rfl <| S_nil ?_; refine C_cond rfl (fun h26 => ?_) (fun h26 => ?_)
   ·refine C_seq <| C_region ?_; refine S_nilarr (elI .i64) 3 ?_; refine S_fact (f := PF True) (fun _ _ => trivial) ?_
    have e : (turnN E m t key) = ⟨m, tree0, [], 50, none⟩ := by
      unfold turnN; rw [if_neg (by omega)]; exact if_pos (fun hp => by rw [decide_eq_true hp] at h26; cases h26)
    refine S_y rfl rfl rfl (Y_build [.const (.int .i64 0), .const (.int .i64 0), .const (.int .i64 0)] bt31 rfl rfl rfl rfl) ?_; refine S_stS rfl rfl rfl ti31 rfl rfl rfl rfl (by repeat constructor) (by rfl) ?_; refine S_run 2 rfl <| S_nil ?_; rw [e] at hret
    first
      | exact hret (Res_c3 Try.results44 rfl (LdV_S Try.underlying31 rfl ti31 (by repeat constructor) rfl) rfl rfl) ⟨none, 0, adP, cP, none, rfl, rfl, rfl⟩
      | exact hret (Res_c3 Try.results44 rfl (LdV_S Try.underlying31 rfl ti31 (by repeat constructor) rfl) rfl rfl) ⟨none, 0, adP, cP, xO, rfl, rfl, rfl⟩
      | exact hret (Res_c3 Try.results44 rfl (LdV_S Try.underlying31 rfl ti31 (by repeat constructor) rfl) rfl rfl) ⟨none, 0, adQ, cQ, xO, rfl, rfl, rfl⟩
      | exact hret (Res_c3 Try.results44 rfl (LdV_S Try.underlying31 rfl ti31 (by repeat constructor) rfl) rfl rfl) ⟨adK, cK, adQ, cQ, xO, rfl, rfl, rfl⟩
   ·have hkey : key ≠ [] ∧ key.length ≤ 64 := Decidable.byContradiction fun hp => by rw [decide_eq_false hp] at h26; cases h26
    refine C_seq <| C_region ?_; refine S_y rfl rfl rfl (Y_ldS Try.underlying31 rfl ti31 rfl rfl) ?_; refine S_enter rfl rfl rfl (E_fn rfl rfl) (right_ok (t := t)) ?_; rintro _ _ _ ⟨rfl, rfl, rfl⟩; (try dsimp only [c_a, n_a]); refine S_run 2 rfl <| S_nil ?_; refine C_cond rfl (fun h31 => ?_) (fun h31 => ?_)
    ·refine C_seq <| C_region ?_; refine S_nilarr (elI .i64) 3 ?_; refine S_fact (f := PF True) (fun _ _ => trivial) ?_
     have e : (turnN E m t key) = ⟨m, tree0, [], 51, none⟩ := by
       unfold turnN; rw [if_neg (by omega), if_neg (by rw [Classical.not_not]; exact hkey)]; exact if_pos (by cases hq : rightT t with | false => rfl | true => (rw [hq] at h31; cases h31))
     refine S_y rfl rfl rfl (Y_build [.const (.int .i64 0), .const (.int .i64 0), .const (.int .i64 0)] bt31 rfl rfl rfl rfl) ?_; refine S_stS rfl rfl rfl ti31 rfl rfl rfl rfl (by repeat constructor) (by rfl) ?_; refine S_run 2 rfl <| S_nil ?_; rw [e] at hret
     first
       | exact hret (Res_c3 Try.results44 rfl (LdV_S Try.underlying31 rfl ti31 (by repeat constructor) rfl) rfl rfl) ⟨none, 0, adP, cP, none, rfl, rfl, rfl⟩
       | exact hret (Res_c3 Try.results44 rfl (LdV_S Try.underlying31 rfl ti31 (by repeat constructor) rfl) rfl rfl) ⟨none, 0, adP, cP, xO, rfl, rfl, rfl⟩
       | exact hret (Res_c3 Try.results44 rfl (LdV_S Try.underlying31 rfl ti31 (by repeat constructor) rfl) rfl rfl) ⟨none, 0, adQ, cQ, xO, rfl, rfl, rfl⟩
       | exact hret (Res_c3 Try.results44 rfl (LdV_S Try.underlying31 rfl ti31 (by repeat constructor) rfl) rfl rfl) ⟨adK, cK, adQ, cQ, xO, rfl, rfl, rfl⟩
    ·have hright : rightT t = true := by cases hq : rightT t with | true => rfl | false => (rw [hq] at h31; cases h31)
     have hr0 := of_decide_eq_true hright; have hdt : ((depthT t : Nat) : Int) = max t.deep 1 := by unfold depthT; omega
     have hdt2 : 1 ≤ depthT t ∧ depthT t ≤ 64 := by omega
     have hcg : chgT E m t key = ⟨m, ([] : Gone), (E []).1, (E []).2.1, (E []).2.2.1, (E []).2.2.2⟩ := by unfold chgT; rw [if_pos hz]
     have e0 : (turnN E m t key) = rootT t ⟨m, ([] : Gone), (E []).1, (E []).2.1, (E []).2.2.1, (E []).2.2.2⟩ (depthT t) := by
       unfold turnN; rw [if_neg (by omega), if_neg (by rw [Classical.not_not]; exact hkey), if_neg (by rw [hright]; decide)]; rw [hcg]
     unfold rootT at e0; dsimp only at e0; refine C_skip <| C_blk <| C_seq <| C_region ?_; refine S_y rfl rfl rfl (Y_fa ly31 rfl rfl rfl) ?_; refine S_y rfl rfl rfl (Y_ld u3 rfl rfl rfl) ?_; refine S_y rfl rfl rfl ((Y_max rfl rfl rfl).as (v' := .int .i64 ((depthT t : Nat) : Int)) (by congr 1; omega)) ?_; refine S_run 1 rfl <| S_nil <| C_seq <| C_region <| S_run 1 rfl <| S_nil <| C_seq <| C_region <| S_run 1 rfl <| S_nil <| C_seq <| C_seq <| C_region ?_; refine S_y rfl rfl rfl (Y_fa ly31 rfl rfl rfl) ?_; refine S_y rfl rfl rfl (Y_ld u3 rfl rfl rfl) ?_; refine S_run 1 rfl <| S_nil ?_; refine C_if rfl (fun h41 => ?_) (fun h41 => ?_)
     ·refine C_region <| S_run 1 rfl ?_; refine S_nilarr elCell 83 ?_; refine S_enter rfl rfl rfl (E_val rfl rfl rfl rfl) (hf none 0 [] (fun x hx => by cases hx) (by simp)) ?_; rintro _ _ _ ⟨adO, cO, xO, rfl, rfl, rfl⟩; (try dsimp only [c_a, n_a]); have hgi := GI.nil m; have hlok := (hE [] (fun x hx => by cases hx) (by simp)); have hmol := hm; refine S_run 7 rfl <| S_nil <| C_seq <| C_seq <| C_region <| S_run 2 rfl <| S_nil ?_; refine C_if rfl (fun h60 => ?_) (fun h60 => ?_)
      ·refine C_seq <| C_region ?_; refine S_nilarr (elI .i64) 3 ?_; have e := e0; rw [if_pos (by omega)] at e; refine S_y rfl rfl rfl (Y_ldS Try.underlying31 rfl ti31 rfl rfl) ?_; refine S_stS rfl rfl rfl ti31 rfl rfl rfl rfl (by repeat constructor) (by rfl) ?_; refine S_run 2 rfl <| S_nil ?_; rw [e] at hret
       first
         | exact hret (Res_c3 Try.results44 rfl (LdV_S Try.underlying31 rfl ti31 (by repeat constructor) rfl) rfl rfl) ⟨none, 0, adP, cP, none, rfl, rfl, rfl⟩
         | exact hret (Res_c3 Try.results44 rfl (LdV_S Try.underlying31 rfl ti31 (by repeat constructor) rfl) rfl rfl) ⟨none, 0, adP, cP, xO, rfl, rfl, rfl⟩
         | exact hret (Res_c3 Try.results44 rfl (LdV_S Try.underlying31 rfl ti31 (by repeat constructor) rfl) rfl rfl) ⟨none, 0, adQ, cQ, xO, rfl, rfl, rfl⟩
         | exact hret (Res_c3 Try.results44 rfl (LdV_S Try.underlying31 rfl ti31 (by repeat constructor) rfl) rfl rfl) ⟨adK, cK, adQ, cQ, xO, rfl, rfl, rfl⟩
      ·refine C_skip <| C_seq <| C_seq <| C_region ?_; rw [if_neg (by omega)] at e0; refine S_run 2 rfl <| S_nil ?_; refine C_if rfl (fun h63 => ?_) (fun h63 => ?_)
       ·refine C_seq <| C_region ?_; refine S_pub (E := elCell) (ad := adO) (c := cO) (by repeat constructor) ?_; rw [if_neg (by omega)] at e0; refine S_run 3 rfl ?_; refine S_enter rfl rfl rfl (E_fn rfl rfl) (root_ok hmol (by omega) hlok.1 (by omega) (by omega) (by omega)) ?_; rintro _ _ _ ⟨adQ, cQ, rfl, rfl, rfl⟩; (try dsimp only [c_a, n_a]); refine S_run 4 rfl ?_; refine S_y rfl rfl rfl (Y_fa ly31 rfl rfl rfl) ?_; refine S_st rfl rfl rfl ti3 rfl rfl rfl (by repeat constructor) (by rfl) ?_; refine S_y rfl rfl rfl (Y_fa ly31 rfl rfl rfl) ?_; refine S_st rfl rfl rfl ti3 rfl rfl rfl (by repeat constructor) (by rfl) ?_; refine S_run 1 rfl <| S_nil <| C_region ?_; refine S_blkAs (b := b5) (cs' := #[.int .i64 ((rootN m (E []).1 (depthT t)).2.1 : Int), .int .i64 t.keys, .int .i64 ((rootN m (E []).1 (depthT t)).2.2.1 : Int)]) (by repeat constructor) rfl ?_; refine S_y rfl rfl rfl (Y_fa ly31 rfl rfl rfl) ?_; refine S_y rfl rfl rfl (Y_ld u3 rfl rfl rfl) ?_; refine S_run 1 rfl ?_; refine S_y rfl rfl rfl (Y_add rfl rfl rfl) ?_; refine S_y rfl rfl rfl (Y_fa ly31 rfl rfl rfl) ?_; refine S_st rfl rfl rfl ti3 rfl rfl rfl (by repeat constructor) (by rfl) ?_; refine S_nil <| C_seq <| C_block <| C_seq <| C_region <| S_run 3 rfl <| S_nil ?_; refine C_if rfl (fun h79 => ?_) (fun h79 => ?_)
        ·refine C_seq <| C_region ?_; refine S_nilarr (elI .i64) 3 ?_; have e := e0; rw [if_pos (by omega)] at e; refine S_y rfl rfl rfl (Y_build [.const (.int .i64 0), .const (.int .i64 0), .const (.int .i64 0)] bt31 rfl rfl rfl rfl) ?_; refine S_run 1 rfl ?_; refine S_stS rfl rfl rfl ti31 rfl rfl rfl rfl (by repeat constructor) (by rfl) ?_; refine S_run 2 rfl <| S_nil ?_; rw [e] at hret
         first
           | exact hret (Res_c3 Try.results44 rfl (LdV_S Try.underlying31 rfl ti31 (by repeat constructor) rfl) rfl rfl) ⟨none, 0, adP, cP, none, rfl, rfl, rfl⟩
           | exact hret (Res_c3 Try.results44 rfl (LdV_S Try.underlying31 rfl ti31 (by repeat constructor) rfl) rfl rfl) ⟨none, 0, adP, cP, xO, rfl, rfl, rfl⟩
           | exact hret (Res_c3 Try.results44 rfl (LdV_S Try.underlying31 rfl ti31 (by repeat constructor) rfl) rfl rfl) ⟨none, 0, adQ, cQ, xO, rfl, rfl, rfl⟩
           | exact hret (Res_c3 Try.results44 rfl (LdV_S Try.underlying31 rfl ti31 (by repeat constructor) rfl) rfl rfl) ⟨adK, cK, adQ, cQ, xO, rfl, rfl, rfl⟩
        ·rw [if_neg (by omega)] at e0; refine C_seq <| C_region ?_; refine S_blkAs (b := b5) (cs' := #[.int .i64 ((rootN m (E []).1 (depthT t)).2.1 : Int), .int .i64 (IntKind.i64.wrap (t.keys + (E []).2.1)), .int .i64 ((rootN m (E []).1 (depthT t)).2.2.1 : Int)]) (by repeat constructor) rfl ?_; refine S_y rfl rfl rfl (Y_fa ly31 rfl rfl rfl) ?_; refine S_y rfl rfl rfl (Y_ld u3 rfl rfl rfl) ?_; refine S_run 2 rfl ?_; refine S_prop 88 rfl (fun h88 => ?_) (fun h88 => ?_)
         ·refine S_y rfl rfl rfl (Y_fa ly31 rfl rfl rfl) ?_; refine S_y rfl rfl rfl (Y_ld u3 rfl rfl rfl) ?_; refine S_run 3 rfl ?_; refine S_prop 93 rfl (fun h93 => ?_) (fun h93 => ?_)
          ·refine S_run 15 rfl <| S_nil ?_; refine C_cond_t rfl ?_; refine C_seq <| C_region ?_; refine S_nilarr (elI .i64) 3 ?_; have e := e0; rw [if_pos (by omega)] at e; refine S_y rfl rfl rfl (Y_build [.const (.int .i64 0), .const (.int .i64 0), .const (.int .i64 0)] bt31 rfl rfl rfl rfl) ?_; refine S_stS rfl rfl rfl ti31 rfl rfl rfl rfl (by repeat constructor) (by rfl) ?_; refine S_run 2 rfl <| S_nil ?_; rw [e] at hret
           first
             | exact hret (Res_c3 Try.results44 rfl (LdV_S Try.underlying31 rfl ti31 (by repeat constructor) rfl) rfl rfl) ⟨none, 0, adP, cP, none, rfl, rfl, rfl⟩
             | exact hret (Res_c3 Try.results44 rfl (LdV_S Try.underlying31 rfl ti31 (by repeat constructor) rfl) rfl rfl) ⟨none, 0, adP, cP, xO, rfl, rfl, rfl⟩
             | exact hret (Res_c3 Try.results44 rfl (LdV_S Try.underlying31 rfl ti31 (by repeat constructor) rfl) rfl rfl) ⟨none, 0, adQ, cQ, xO, rfl, rfl, rfl⟩
             | exact hret (Res_c3 Try.results44 rfl (LdV_S Try.underlying31 rfl ti31 (by repeat constructor) rfl) rfl rfl) ⟨adK, cK, adQ, cQ, xO, rfl, rfl, rfl⟩
          ·refine S_y rfl rfl rfl (Y_fa ly31 rfl rfl rfl) ?_; refine S_y rfl rfl rfl (Y_ld u3 rfl rfl rfl) ?_; refine S_run 2 rfl ?_; refine S_prop 97 rfl (fun h97 => ?_) (fun h97 => ?_)
           ·refine S_y rfl rfl rfl (Y_fa ly31 rfl rfl rfl) ?_; refine S_y rfl rfl rfl (Y_ld u3 rfl rfl rfl) ?_; refine S_run 4 rfl ?_; refine S_prop 103 rfl (fun h103 => ?_) (fun h103 => ?_)
            ·refine S_run 5 rfl <| S_nil ?_; refine C_cond_t rfl ?_; refine C_seq <| C_region ?_; refine S_nilarr (elI .i64) 3 ?_; have e := e0; rw [if_pos (by omega)] at e; refine S_y rfl rfl rfl (Y_build [.const (.int .i64 0), .const (.int .i64 0), .const (.int .i64 0)] bt31 rfl rfl rfl rfl) ?_; refine S_stS rfl rfl rfl ti31 rfl rfl rfl rfl (by repeat constructor) (by rfl) ?_; refine S_run 2 rfl <| S_nil ?_; rw [e] at hret
             first
               | exact hret (Res_c3 Try.results44 rfl (LdV_S Try.underlying31 rfl ti31 (by repeat constructor) rfl) rfl rfl) ⟨none, 0, adP, cP, none, rfl, rfl, rfl⟩
               | exact hret (Res_c3 Try.results44 rfl (LdV_S Try.underlying31 rfl ti31 (by repeat constructor) rfl) rfl rfl) ⟨none, 0, adP, cP, xO, rfl, rfl, rfl⟩
               | exact hret (Res_c3 Try.results44 rfl (LdV_S Try.underlying31 rfl ti31 (by repeat constructor) rfl) rfl rfl) ⟨none, 0, adQ, cQ, xO, rfl, rfl, rfl⟩
               | exact hret (Res_c3 Try.results44 rfl (LdV_S Try.underlying31 rfl ti31 (by repeat constructor) rfl) rfl rfl) ⟨adK, cK, adQ, cQ, xO, rfl, rfl, rfl⟩
            ·refine S_y rfl rfl rfl (Y_fa ly31 rfl rfl rfl) ?_; refine S_y rfl rfl rfl (Y_ld u3 rfl rfl rfl) ?_; refine S_run 3 rfl <| S_nil ?_; refine C_if rfl (fun h84 => ?_) (fun h84 => ?_)
             ·refine C_seq <| C_region ?_; refine S_nilarr (elI .i64) 3 ?_; have e := e0; rw [if_pos (by omega)] at e; refine S_y rfl rfl rfl (Y_build [.const (.int .i64 0), .const (.int .i64 0), .const (.int .i64 0)] bt31 rfl rfl rfl rfl) ?_; refine S_stS rfl rfl rfl ti31 rfl rfl rfl rfl (by repeat constructor) (by rfl) ?_; refine S_run 2 rfl <| S_nil ?_; rw [e] at hret
              first
                | exact hret (Res_c3 Try.results44 rfl (LdV_S Try.underlying31 rfl ti31 (by repeat constructor) rfl) rfl rfl) ⟨none, 0, adP, cP, none, rfl, rfl, rfl⟩
                | exact hret (Res_c3 Try.results44 rfl (LdV_S Try.underlying31 rfl ti31 (by repeat constructor) rfl) rfl rfl) ⟨none, 0, adP, cP, xO, rfl, rfl, rfl⟩
                | exact hret (Res_c3 Try.results44 rfl (LdV_S Try.underlying31 rfl ti31 (by repeat constructor) rfl) rfl rfl) ⟨none, 0, adQ, cQ, xO, rfl, rfl, rfl⟩
                | exact hret (Res_c3 Try.results44 rfl (LdV_S Try.underlying31 rfl ti31 (by repeat constructor) rfl) rfl rfl) ⟨adK, cK, adQ, cQ, xO, rfl, rfl, rfl⟩
             ·have hglen := hgi.len; have hfew := hmol.ok.few; have hkeys : KeysOK ([] : Gone) := ⟨hgi.nd, fun p hp => by have := hgi.lo p hp; omega, fun p hp => by have := hgi.hi p hp; omega, by omega⟩; have e := e0; rw [if_neg (by omega)] at e; refine C_skip <| C_blk <| C_seq ?_; refine C_draw rfl ?_; refine c_p 1 1020 ?_; refine c_p 2 1016 ?_; refine c_f 3 1008 ly108 ?_; refine c_r 4 992 (by kernel_rfl) rfl rfl rfl rfl (Y_ld u106 rfl rfl rfl) ?_; refine C_two (i := 0) (j := 5) (by kernel_rfl) rfl rfl ?_ ?_
              ·refine S_y rfl rfl rfl (Y_ldS Try.underlying31 rfl ti31 rfl rfl) ?_; refine S_nil ?_; refine C_one (i := 5) (by kernel_rfl) rfl ?_; refine S_enter rfl rfl rfl (E_fn rfl rfl) keys_ok ?_; rintro _ _ _ ⟨bK, rfl, rfl, rfl⟩; (try dsimp only [c_a, n_a]); refine S_nil ?_; refine C_one (i := 6) (by kernel_rfl) rfl ?_; refine S_enter rfl rfl rfl (E_fn rfl rfl) (sorted_ok hkeys) ?_; rintro _ _ _ ⟨adK, cK, rfl, rfl, rfl⟩; (try dsimp only [c_a, n_a]); refine S_nil ?_; refine C_one (i := 7) (by kernel_rfl) rfl ?_; refine S_stS rfl rfl rfl ti31 rfl rfl rfl rfl (by repeat constructor) (by rfl) ?_; refine S_nil ?_; refine c_p 8 512 ?_; refine c_p 9 0 ?_; refine c_d ?_; rw [e] at hret
               first
                 | exact hret (Res_c3 Try.results44 rfl (LdV_S Try.underlying31 rfl ti31 (by repeat constructor) rfl) rfl rfl) ⟨none, 0, adP, cP, none, rfl, rfl, rfl⟩
                 | exact hret (Res_c3 Try.results44 rfl (LdV_S Try.underlying31 rfl ti31 (by repeat constructor) rfl) rfl rfl) ⟨none, 0, adP, cP, xO, rfl, rfl, rfl⟩
                 | exact hret (Res_c3 Try.results44 rfl (LdV_S Try.underlying31 rfl ti31 (by repeat constructor) rfl) rfl rfl) ⟨none, 0, adQ, cQ, xO, rfl, rfl, rfl⟩
                 | exact hret (Res_c3 Try.results44 rfl (LdV_S Try.underlying31 rfl ti31 (by repeat constructor) rfl) rfl rfl) ⟨adK, cK, adQ, cQ, xO, rfl, rfl, rfl⟩
              ·refine S_enter rfl rfl rfl (E_fn rfl rfl) keys_ok ?_; rintro _ _ _ ⟨bK, rfl, rfl, rfl⟩; (try dsimp only [c_a, n_a]); refine S_nil ?_; refine C_two (i := 0) (j := 6) (by kernel_rfl) rfl rfl ?_ ?_
               ·refine S_y rfl rfl rfl (Y_ldS Try.underlying31 rfl ti31 rfl rfl) ?_; refine S_nil ?_; refine C_one (i := 6) (by kernel_rfl) rfl ?_; refine S_enter rfl rfl rfl (E_fn rfl rfl) (sorted_ok hkeys) ?_; rintro _ _ _ ⟨adK, cK, rfl, rfl, rfl⟩; (try dsimp only [c_a, n_a]); refine S_nil ?_; refine C_one (i := 7) (by kernel_rfl) rfl ?_; refine S_stS rfl rfl rfl ti31 rfl rfl rfl rfl (by repeat constructor) (by rfl) ?_; refine S_nil ?_; refine c_p 8 512 ?_; refine c_p 9 0 ?_; refine c_d ?_; rw [e] at hret
                first
                  | exact hret (Res_c3 Try.results44 rfl (LdV_S Try.underlying31 rfl ti31 (by repeat constructor) rfl) rfl rfl) ⟨none, 0, adP, cP, none, rfl, rfl, rfl⟩
                  | exact hret (Res_c3 Try.results44 rfl (LdV_S Try.underlying31 rfl ti31 (by repeat constructor) rfl) rfl rfl) ⟨none, 0, adP, cP, xO, rfl, rfl, rfl⟩
                  | exact hret (Res_c3 Try.results44 rfl (LdV_S Try.underlying31 rfl ti31 (by repeat constructor) rfl) rfl rfl) ⟨none, 0, adQ, cQ, xO, rfl, rfl, rfl⟩
                  | exact hret (Res_c3 Try.results44 rfl (LdV_S Try.underlying31 rfl ti31 (by repeat constructor) rfl) rfl rfl) ⟨adK, cK, adQ, cQ, xO, rfl, rfl, rfl⟩
               ·refine S_enter rfl rfl rfl (E_fn rfl rfl) (sorted_ok hkeys) ?_; rintro _ _ _ ⟨adK, cK, rfl, rfl, rfl⟩; (try dsimp only [c_a, n_a]); refine S_nil ?_; refine c_r 0 896 (by kernel_rfl) rfl rfl rfl rfl (Y_ldS Try.underlying31 rfl ti31 rfl rfl) ?_; refine C_one (i := 7) (by kernel_rfl) rfl ?_; refine S_stS rfl rfl rfl ti31 rfl rfl rfl rfl (by repeat constructor) (by rfl) ?_; refine S_nil ?_; refine c_p 8 512 ?_; refine c_p 9 0 ?_; refine c_d ?_; rw [e] at hret
                first
                  | exact hret (Res_c3 Try.results44 rfl (LdV_S Try.underlying31 rfl ti31 (by repeat constructor) rfl) rfl rfl) ⟨none, 0, adP, cP, none, rfl, rfl, rfl⟩
                  | exact hret (Res_c3 Try.results44 rfl (LdV_S Try.underlying31 rfl ti31 (by repeat constructor) rfl) rfl rfl) ⟨none, 0, adP, cP, xO, rfl, rfl, rfl⟩
                  | exact hret (Res_c3 Try.results44 rfl (LdV_S Try.underlying31 rfl ti31 (by repeat constructor) rfl) rfl rfl) ⟨none, 0, adQ, cQ, xO, rfl, rfl, rfl⟩
                  | exact hret (Res_c3 Try.results44 rfl (LdV_S Try.underlying31 rfl ti31 (by repeat constructor) rfl) rfl rfl) ⟨adK, cK, adQ, cQ, xO, rfl, rfl, rfl⟩
           ·refine S_run 6 rfl ?_; refine S_y rfl rfl rfl (Y_fa ly31 rfl rfl rfl) ?_; refine S_y rfl rfl rfl (Y_ld u3 rfl rfl rfl) ?_; refine S_run 3 rfl <| S_nil ?_; refine C_if rfl (fun h84 => ?_) (fun h84 => ?_)
            ·refine C_seq <| C_region ?_; refine S_nilarr (elI .i64) 3 ?_; have e := e0; rw [if_pos (by omega)] at e; refine S_y rfl rfl rfl (Y_build [.const (.int .i64 0), .const (.int .i64 0), .const (.int .i64 0)] bt31 rfl rfl rfl rfl) ?_; refine S_stS rfl rfl rfl ti31 rfl rfl rfl rfl (by repeat constructor) (by rfl) ?_; refine S_run 2 rfl <| S_nil ?_; rw [e] at hret
             first
               | exact hret (Res_c3 Try.results44 rfl (LdV_S Try.underlying31 rfl ti31 (by repeat constructor) rfl) rfl rfl) ⟨none, 0, adP, cP, none, rfl, rfl, rfl⟩
               | exact hret (Res_c3 Try.results44 rfl (LdV_S Try.underlying31 rfl ti31 (by repeat constructor) rfl) rfl rfl) ⟨none, 0, adP, cP, xO, rfl, rfl, rfl⟩
               | exact hret (Res_c3 Try.results44 rfl (LdV_S Try.underlying31 rfl ti31 (by repeat constructor) rfl) rfl rfl) ⟨none, 0, adQ, cQ, xO, rfl, rfl, rfl⟩
               | exact hret (Res_c3 Try.results44 rfl (LdV_S Try.underlying31 rfl ti31 (by repeat constructor) rfl) rfl rfl) ⟨adK, cK, adQ, cQ, xO, rfl, rfl, rfl⟩
            ·have hglen := hgi.len; have hfew := hmol.ok.few; have hkeys : KeysOK ([] : Gone) := ⟨hgi.nd, fun p hp => by have := hgi.lo p hp; omega, fun p hp => by have := hgi.hi p hp; omega, by omega⟩; have e := e0; rw [if_neg (by omega)] at e; refine C_skip <| C_blk <| C_seq ?_; refine C_draw rfl ?_; refine c_p 1 1020 ?_; refine c_p 2 1016 ?_; refine c_f 3 1008 ly108 ?_; refine c_r 4 992 (by kernel_rfl) rfl rfl rfl rfl (Y_ld u106 rfl rfl rfl) ?_; refine C_two (i := 0) (j := 5) (by kernel_rfl) rfl rfl ?_ ?_
             ·refine S_y rfl rfl rfl (Y_ldS Try.underlying31 rfl ti31 rfl rfl) ?_; refine S_nil ?_; refine C_one (i := 5) (by kernel_rfl) rfl ?_; refine S_enter rfl rfl rfl (E_fn rfl rfl) keys_ok ?_; rintro _ _ _ ⟨bK, rfl, rfl, rfl⟩; (try dsimp only [c_a, n_a]); refine S_nil ?_; refine C_one (i := 6) (by kernel_rfl) rfl ?_; refine S_enter rfl rfl rfl (E_fn rfl rfl) (sorted_ok hkeys) ?_; rintro _ _ _ ⟨adK, cK, rfl, rfl, rfl⟩; (try dsimp only [c_a, n_a]); refine S_nil ?_; refine C_one (i := 7) (by kernel_rfl) rfl ?_; refine S_stS rfl rfl rfl ti31 rfl rfl rfl rfl (by repeat constructor) (by rfl) ?_; refine S_nil ?_; refine c_p 8 512 ?_; refine c_p 9 0 ?_; refine c_d ?_; rw [e] at hret
              first
                | exact hret (Res_c3 Try.results44 rfl (LdV_S Try.underlying31 rfl ti31 (by repeat constructor) rfl) rfl rfl) ⟨none, 0, adP, cP, none, rfl, rfl, rfl⟩
                | exact hret (Res_c3 Try.results44 rfl (LdV_S Try.underlying31 rfl ti31 (by repeat constructor) rfl) rfl rfl) ⟨none, 0, adP, cP, xO, rfl, rfl, rfl⟩
                | exact hret (Res_c3 Try.results44 rfl (LdV_S Try.underlying31 rfl ti31 (by repeat constructor) rfl) rfl rfl) ⟨none, 0, adQ, cQ, xO, rfl, rfl, rfl⟩
                | exact hret (Res_c3 Try.results44 rfl (LdV_S Try.underlying31 rfl ti31 (by repeat constructor) rfl) rfl rfl) ⟨adK, cK, adQ, cQ, xO, rfl, rfl, rfl⟩
             ·refine S_enter rfl rfl rfl (E_fn rfl rfl) keys_ok ?_; rintro _ _ _ ⟨bK, rfl, rfl, rfl⟩; (try dsimp only [c_a, n_a]); refine S_nil ?_; refine C_two (i := 0) (j := 6) (by kernel_rfl) rfl rfl ?_ ?_
              ·refine S_y rfl rfl rfl (Y_ldS Try.underlying31 rfl ti31 rfl rfl) ?_; refine S_nil ?_; refine C_one (i := 6) (by kernel_rfl) rfl ?_; refine S_enter rfl rfl rfl (E_fn rfl rfl) (sorted_ok hkeys) ?_; rintro _ _ _ ⟨adK, cK, rfl, rfl, rfl⟩; (try dsimp only [c_a, n_a]); refine S_nil ?_; refine C_one (i := 7) (by kernel_rfl) rfl ?_; refine S_stS rfl rfl rfl ti31 rfl rfl rfl rfl (by repeat constructor) (by rfl) ?_; refine S_nil ?_; refine c_p 8 512 ?_; refine c_p 9 0 ?_; refine c_d ?_; rw [e] at hret
               first
                 | exact hret (Res_c3 Try.results44 rfl (LdV_S Try.underlying31 rfl ti31 (by repeat constructor) rfl) rfl rfl) ⟨none, 0, adP, cP, none, rfl, rfl, rfl⟩
                 | exact hret (Res_c3 Try.results44 rfl (LdV_S Try.underlying31 rfl ti31 (by repeat constructor) rfl) rfl rfl) ⟨none, 0, adP, cP, xO, rfl, rfl, rfl⟩
                 | exact hret (Res_c3 Try.results44 rfl (LdV_S Try.underlying31 rfl ti31 (by repeat constructor) rfl) rfl rfl) ⟨none, 0, adQ, cQ, xO, rfl, rfl, rfl⟩
                 | exact hret (Res_c3 Try.results44 rfl (LdV_S Try.underlying31 rfl ti31 (by repeat constructor) rfl) rfl rfl) ⟨adK, cK, adQ, cQ, xO, rfl, rfl, rfl⟩
              ·refine S_enter rfl rfl rfl (E_fn rfl rfl) (sorted_ok hkeys) ?_; rintro _ _ _ ⟨adK, cK, rfl, rfl, rfl⟩; (try dsimp only [c_a, n_a]); refine S_nil ?_; refine c_r 0 896 (by kernel_rfl) rfl rfl rfl rfl (Y_ldS Try.underlying31 rfl ti31 rfl rfl) ?_; refine C_one (i := 7) (by kernel_rfl) rfl ?_; refine S_stS rfl rfl rfl ti31 rfl rfl rfl rfl (by repeat constructor) (by rfl) ?_; refine S_nil ?_; refine c_p 8 512 ?_; refine c_p 9 0 ?_; refine c_d ?_; rw [e] at hret
               first
                 | exact hret (Res_c3 Try.results44 rfl (LdV_S Try.underlying31 rfl ti31 (by repeat constructor) rfl) rfl rfl) ⟨none, 0, adP, cP, none, rfl, rfl, rfl⟩
                 | exact hret (Res_c3 Try.results44 rfl (LdV_S Try.underlying31 rfl ti31 (by repeat constructor) rfl) rfl rfl) ⟨none, 0, adP, cP, xO, rfl, rfl, rfl⟩
                 | exact hret (Res_c3 Try.results44 rfl (LdV_S Try.underlying31 rfl ti31 (by repeat constructor) rfl) rfl rfl) ⟨none, 0, adQ, cQ, xO, rfl, rfl, rfl⟩
                 | exact hret (Res_c3 Try.results44 rfl (LdV_S Try.underlying31 rfl ti31 (by repeat constructor) rfl) rfl rfl) ⟨adK, cK, adQ, cQ, xO, rfl, rfl, rfl⟩
         ·refine S_run 5 rfl ?_; refine S_y rfl rfl rfl (Y_fa ly31 rfl rfl rfl) ?_; refine S_y rfl rfl rfl (Y_ld u3 rfl rfl rfl) ?_; refine S_run 2 rfl ?_; refine S_prop 97 rfl (fun h97 => ?_) (fun h97 => ?_)
          ·refine S_y rfl rfl rfl (Y_fa ly31 rfl rfl rfl) ?_; refine S_y rfl rfl rfl (Y_ld u3 rfl rfl rfl) ?_; refine S_run 4 rfl ?_; refine S_prop 103 rfl (fun h103 => ?_) (fun h103 => ?_)
           ·refine S_run 5 rfl <| S_nil ?_; refine C_cond_t rfl ?_; refine C_seq <| C_region ?_; refine S_nilarr (elI .i64) 3 ?_; have e := e0; rw [if_pos (by omega)] at e; refine S_y rfl rfl rfl (Y_build [.const (.int .i64 0), .const (.int .i64 0), .const (.int .i64 0)] bt31 rfl rfl rfl rfl) ?_; refine S_stS rfl rfl rfl ti31 rfl rfl rfl rfl (by repeat constructor) (by rfl) ?_; refine S_run 2 rfl <| S_nil ?_; rw [e] at hret
            first
              | exact hret (Res_c3 Try.results44 rfl (LdV_S Try.underlying31 rfl ti31 (by repeat constructor) rfl) rfl rfl) ⟨none, 0, adP, cP, none, rfl, rfl, rfl⟩
              | exact hret (Res_c3 Try.results44 rfl (LdV_S Try.underlying31 rfl ti31 (by repeat constructor) rfl) rfl rfl) ⟨none, 0, adP, cP, xO, rfl, rfl, rfl⟩
              | exact hret (Res_c3 Try.results44 rfl (LdV_S Try.underlying31 rfl ti31 (by repeat constructor) rfl) rfl rfl) ⟨none, 0, adQ, cQ, xO, rfl, rfl, rfl⟩
              | exact hret (Res_c3 Try.results44 rfl (LdV_S Try.underlying31 rfl ti31 (by repeat constructor) rfl) rfl rfl) ⟨adK, cK, adQ, cQ, xO, rfl, rfl, rfl⟩
           ·refine S_y rfl rfl rfl (Y_fa ly31 rfl rfl rfl) ?_; refine S_y rfl rfl rfl (Y_ld u3 rfl rfl rfl) ?_; refine S_run 3 rfl <| S_nil ?_; refine C_if rfl (fun h84 => ?_) (fun h84 => ?_)
            ·refine C_seq <| C_region ?_; refine S_nilarr (elI .i64) 3 ?_; have e := e0; rw [if_pos (by omega)] at e; refine S_y rfl rfl rfl (Y_build [.const (.int .i64 0), .const (.int .i64 0), .const (.int .i64 0)] bt31 rfl rfl rfl rfl) ?_; refine S_stS rfl rfl rfl ti31 rfl rfl rfl rfl (by repeat constructor) (by rfl) ?_; refine S_run 2 rfl <| S_nil ?_; rw [e] at hret
             first
               | exact hret (Res_c3 Try.results44 rfl (LdV_S Try.underlying31 rfl ti31 (by repeat constructor) rfl) rfl rfl) ⟨none, 0, adP, cP, none, rfl, rfl, rfl⟩
               | exact hret (Res_c3 Try.results44 rfl (LdV_S Try.underlying31 rfl ti31 (by repeat constructor) rfl) rfl rfl) ⟨none, 0, adP, cP, xO, rfl, rfl, rfl⟩
               | exact hret (Res_c3 Try.results44 rfl (LdV_S Try.underlying31 rfl ti31 (by repeat constructor) rfl) rfl rfl) ⟨none, 0, adQ, cQ, xO, rfl, rfl, rfl⟩
               | exact hret (Res_c3 Try.results44 rfl (LdV_S Try.underlying31 rfl ti31 (by repeat constructor) rfl) rfl rfl) ⟨adK, cK, adQ, cQ, xO, rfl, rfl, rfl⟩
            ·have hglen := hgi.len; have hfew := hmol.ok.few; have hkeys : KeysOK ([] : Gone) := ⟨hgi.nd, fun p hp => by have := hgi.lo p hp; omega, fun p hp => by have := hgi.hi p hp; omega, by omega⟩; have e := e0; rw [if_neg (by omega)] at e; refine C_skip <| C_blk <| C_seq ?_; refine C_draw rfl ?_; refine c_p 1 1020 ?_; refine c_p 2 1016 ?_; refine c_f 3 1008 ly108 ?_; refine c_r 4 992 (by kernel_rfl) rfl rfl rfl rfl (Y_ld u106 rfl rfl rfl) ?_; refine C_two (i := 0) (j := 5) (by kernel_rfl) rfl rfl ?_ ?_
             ·refine S_y rfl rfl rfl (Y_ldS Try.underlying31 rfl ti31 rfl rfl) ?_; refine S_nil ?_; refine C_one (i := 5) (by kernel_rfl) rfl ?_; refine S_enter rfl rfl rfl (E_fn rfl rfl) keys_ok ?_; rintro _ _ _ ⟨bK, rfl, rfl, rfl⟩; (try dsimp only [c_a, n_a]); refine S_nil ?_; refine C_one (i := 6) (by kernel_rfl) rfl ?_; refine S_enter rfl rfl rfl (E_fn rfl rfl) (sorted_ok hkeys) ?_; rintro _ _ _ ⟨adK, cK, rfl, rfl, rfl⟩; (try dsimp only [c_a, n_a]); refine S_nil ?_; refine C_one (i := 7) (by kernel_rfl) rfl ?_; refine S_stS rfl rfl rfl ti31 rfl rfl rfl rfl (by repeat constructor) (by rfl) ?_; refine S_nil ?_; refine c_p 8 512 ?_; refine c_p 9 0 ?_; refine c_d ?_; rw [e] at hret
              first
                | exact hret (Res_c3 Try.results44 rfl (LdV_S Try.underlying31 rfl ti31 (by repeat constructor) rfl) rfl rfl) ⟨none, 0, adP, cP, none, rfl, rfl, rfl⟩
                | exact hret (Res_c3 Try.results44 rfl (LdV_S Try.underlying31 rfl ti31 (by repeat constructor) rfl) rfl rfl) ⟨none, 0, adP, cP, xO, rfl, rfl, rfl⟩
                | exact hret (Res_c3 Try.results44 rfl (LdV_S Try.underlying31 rfl ti31 (by repeat constructor) rfl) rfl rfl) ⟨none, 0, adQ, cQ, xO, rfl, rfl, rfl⟩
                | exact hret (Res_c3 Try.results44 rfl (LdV_S Try.underlying31 rfl ti31 (by repeat constructor) rfl) rfl rfl) ⟨adK, cK, adQ, cQ, xO, rfl, rfl, rfl⟩
             ·refine S_enter rfl rfl rfl (E_fn rfl rfl) keys_ok ?_; rintro _ _ _ ⟨bK, rfl, rfl, rfl⟩; (try dsimp only [c_a, n_a]); refine S_nil ?_; refine C_two (i := 0) (j := 6) (by kernel_rfl) rfl rfl ?_ ?_
              ·refine S_y rfl rfl rfl (Y_ldS Try.underlying31 rfl ti31 rfl rfl) ?_; refine S_nil ?_; refine C_one (i := 6) (by kernel_rfl) rfl ?_; refine S_enter rfl rfl rfl (E_fn rfl rfl) (sorted_ok hkeys) ?_; rintro _ _ _ ⟨adK, cK, rfl, rfl, rfl⟩; (try dsimp only [c_a, n_a]); refine S_nil ?_; refine C_one (i := 7) (by kernel_rfl) rfl ?_; refine S_stS rfl rfl rfl ti31 rfl rfl rfl rfl (by repeat constructor) (by rfl) ?_; refine S_nil ?_; refine c_p 8 512 ?_; refine c_p 9 0 ?_; refine c_d ?_; rw [e] at hret
               first
                 | exact hret (Res_c3 Try.results44 rfl (LdV_S Try.underlying31 rfl ti31 (by repeat constructor) rfl) rfl rfl) ⟨none, 0, adP, cP, none, rfl, rfl, rfl⟩
                 | exact hret (Res_c3 Try.results44 rfl (LdV_S Try.underlying31 rfl ti31 (by repeat constructor) rfl) rfl rfl) ⟨none, 0, adP, cP, xO, rfl, rfl, rfl⟩
                 | exact hret (Res_c3 Try.results44 rfl (LdV_S Try.underlying31 rfl ti31 (by repeat constructor) rfl) rfl rfl) ⟨none, 0, adQ, cQ, xO, rfl, rfl, rfl⟩
                 | exact hret (Res_c3 Try.results44 rfl (LdV_S Try.underlying31 rfl ti31 (by repeat constructor) rfl) rfl rfl) ⟨adK, cK, adQ, cQ, xO, rfl, rfl, rfl⟩
              ·refine S_enter rfl rfl rfl (E_fn rfl rfl) (sorted_ok hkeys) ?_; rintro _ _ _ ⟨adK, cK, rfl, rfl, rfl⟩; (try dsimp only [c_a, n_a]); refine S_nil ?_; refine c_r 0 896 (by kernel_rfl) rfl rfl rfl rfl (Y_ldS Try.underlying31 rfl ti31 rfl rfl) ?_; refine C_one (i := 7) (by kernel_rfl) rfl ?_; refine S_stS rfl rfl rfl ti31 rfl rfl rfl rfl (by repeat constructor) (by rfl) ?_; refine S_nil ?_; refine c_p 8 512 ?_; refine c_p 9 0 ?_; refine c_d ?_; rw [e] at hret
               first
                 | exact hret (Res_c3 Try.results44 rfl (LdV_S Try.underlying31 rfl ti31 (by repeat constructor) rfl) rfl rfl) ⟨none, 0, adP, cP, none, rfl, rfl, rfl⟩
                 | exact hret (Res_c3 Try.results44 rfl (LdV_S Try.underlying31 rfl ti31 (by repeat constructor) rfl) rfl rfl) ⟨none, 0, adP, cP, xO, rfl, rfl, rfl⟩
                 | exact hret (Res_c3 Try.results44 rfl (LdV_S Try.underlying31 rfl ti31 (by repeat constructor) rfl) rfl rfl) ⟨none, 0, adQ, cQ, xO, rfl, rfl, rfl⟩
                 | exact hret (Res_c3 Try.results44 rfl (LdV_S Try.underlying31 rfl ti31 (by repeat constructor) rfl) rfl rfl) ⟨adK, cK, adQ, cQ, xO, rfl, rfl, rfl⟩
          ·refine S_run 6 rfl ?_; refine S_y rfl rfl rfl (Y_fa ly31 rfl rfl rfl) ?_; refine S_y rfl rfl rfl (Y_ld u3 rfl rfl rfl) ?_; refine S_run 3 rfl <| S_nil ?_; refine C_if rfl (fun h84 => ?_) (fun h84 => ?_)
           ·refine C_seq <| C_region ?_; refine S_nilarr (elI .i64) 3 ?_; have e := e0; rw [if_pos (by omega)] at e; refine S_y rfl rfl rfl (Y_build [.const (.int .i64 0), .const (.int .i64 0), .const (.int .i64 0)] bt31 rfl rfl rfl rfl) ?_; refine S_stS rfl rfl rfl ti31 rfl rfl rfl rfl (by repeat constructor) (by rfl) ?_; refine S_run 2 rfl <| S_nil ?_; rw [e] at hret
            first
              | exact hret (Res_c3 Try.results44 rfl (LdV_S Try.underlying31 rfl ti31 (by repeat constructor) rfl) rfl rfl) ⟨none, 0, adP, cP, none, rfl, rfl, rfl⟩
              | exact hret (Res_c3 Try.results44 rfl (LdV_S Try.underlying31 rfl ti31 (by repeat constructor) rfl) rfl rfl) ⟨none, 0, adP, cP, xO, rfl, rfl, rfl⟩
              | exact hret (Res_c3 Try.results44 rfl (LdV_S Try.underlying31 rfl ti31 (by repeat constructor) rfl) rfl rfl) ⟨none, 0, adQ, cQ, xO, rfl, rfl, rfl⟩
              | exact hret (Res_c3 Try.results44 rfl (LdV_S Try.underlying31 rfl ti31 (by repeat constructor) rfl) rfl rfl) ⟨adK, cK, adQ, cQ, xO, rfl, rfl, rfl⟩
           ·have hglen := hgi.len; have hfew := hmol.ok.few; have hkeys : KeysOK ([] : Gone) := ⟨hgi.nd, fun p hp => by have := hgi.lo p hp; omega, fun p hp => by have := hgi.hi p hp; omega, by omega⟩; have e := e0; rw [if_neg (by omega)] at e; refine C_skip <| C_blk <| C_seq ?_; refine C_draw rfl ?_; refine c_p 1 1020 ?_; refine c_p 2 1016 ?_; refine c_f 3 1008 ly108 ?_; refine c_r 4 992 (by kernel_rfl) rfl rfl rfl rfl (Y_ld u106 rfl rfl rfl) ?_; refine C_two (i := 0) (j := 5) (by kernel_rfl) rfl rfl ?_ ?_
            ·refine S_y rfl rfl rfl (Y_ldS Try.underlying31 rfl ti31 rfl rfl) ?_; refine S_nil ?_; refine C_one (i := 5) (by kernel_rfl) rfl ?_; refine S_enter rfl rfl rfl (E_fn rfl rfl) keys_ok ?_; rintro _ _ _ ⟨bK, rfl, rfl, rfl⟩; (try dsimp only [c_a, n_a]); refine S_nil ?_; refine C_one (i := 6) (by kernel_rfl) rfl ?_; refine S_enter rfl rfl rfl (E_fn rfl rfl) (sorted_ok hkeys) ?_; rintro _ _ _ ⟨adK, cK, rfl, rfl, rfl⟩; (try dsimp only [c_a, n_a]); refine S_nil ?_; refine C_one (i := 7) (by kernel_rfl) rfl ?_; refine S_stS rfl rfl rfl ti31 rfl rfl rfl rfl (by repeat constructor) (by rfl) ?_; refine S_nil ?_; refine c_p 8 512 ?_; refine c_p 9 0 ?_; refine c_d ?_; rw [e] at hret
             first
               | exact hret (Res_c3 Try.results44 rfl (LdV_S Try.underlying31 rfl ti31 (by repeat constructor) rfl) rfl rfl) ⟨none, 0, adP, cP, none, rfl, rfl, rfl⟩
               | exact hret (Res_c3 Try.results44 rfl (LdV_S Try.underlying31 rfl ti31 (by repeat constructor) rfl) rfl rfl) ⟨none, 0, adP, cP, xO, rfl, rfl, rfl⟩
               | exact hret (Res_c3 Try.results44 rfl (LdV_S Try.underlying31 rfl ti31 (by repeat constructor) rfl) rfl rfl) ⟨none, 0, adQ, cQ, xO, rfl, rfl, rfl⟩
               | exact hret (Res_c3 Try.results44 rfl (LdV_S Try.underlying31 rfl ti31 (by repeat constructor) rfl) rfl rfl) ⟨adK, cK, adQ, cQ, xO, rfl, rfl, rfl⟩
            ·refine S_enter rfl rfl rfl (E_fn rfl rfl) keys_ok ?_; rintro _ _ _ ⟨bK, rfl, rfl, rfl⟩; (try dsimp only [c_a, n_a]); refine S_nil ?_; refine C_two (i := 0) (j := 6) (by kernel_rfl) rfl rfl ?_ ?_
             ·refine S_y rfl rfl rfl (Y_ldS Try.underlying31 rfl ti31 rfl rfl) ?_; refine S_nil ?_; refine C_one (i := 6) (by kernel_rfl) rfl ?_; refine S_enter rfl rfl rfl (E_fn rfl rfl) (sorted_ok hkeys) ?_; rintro _ _ _ ⟨adK, cK, rfl, rfl, rfl⟩; (try dsimp only [c_a, n_a]); refine S_nil ?_; refine C_one (i := 7) (by kernel_rfl) rfl ?_; refine S_stS rfl rfl rfl ti31 rfl rfl rfl rfl (by repeat constructor) (by rfl) ?_; refine S_nil ?_; refine c_p 8 512 ?_; refine c_p 9 0 ?_; refine c_d ?_; rw [e] at hret
              first
                | exact hret (Res_c3 Try.results44 rfl (LdV_S Try.underlying31 rfl ti31 (by repeat constructor) rfl) rfl rfl) ⟨none, 0, adP, cP, none, rfl, rfl, rfl⟩
                | exact hret (Res_c3 Try.results44 rfl (LdV_S Try.underlying31 rfl ti31 (by repeat constructor) rfl) rfl rfl) ⟨none, 0, adP, cP, xO, rfl, rfl, rfl⟩
                | exact hret (Res_c3 Try.results44 rfl (LdV_S Try.underlying31 rfl ti31 (by repeat constructor) rfl) rfl rfl) ⟨none, 0, adQ, cQ, xO, rfl, rfl, rfl⟩
                | exact hret (Res_c3 Try.results44 rfl (LdV_S Try.underlying31 rfl ti31 (by repeat constructor) rfl) rfl rfl) ⟨adK, cK, adQ, cQ, xO, rfl, rfl, rfl⟩
             ·refine S_enter rfl rfl rfl (E_fn rfl rfl) (sorted_ok hkeys) ?_; rintro _ _ _ ⟨adK, cK, rfl, rfl, rfl⟩; (try dsimp only [c_a, n_a]); refine S_nil ?_; refine c_r 0 896 (by kernel_rfl) rfl rfl rfl rfl (Y_ldS Try.underlying31 rfl ti31 rfl rfl) ?_; refine C_one (i := 7) (by kernel_rfl) rfl ?_; refine S_stS rfl rfl rfl ti31 rfl rfl rfl rfl (by repeat constructor) (by rfl) ?_; refine S_nil ?_; refine c_p 8 512 ?_; refine c_p 9 0 ?_; refine c_d ?_; rw [e] at hret
              first
                | exact hret (Res_c3 Try.results44 rfl (LdV_S Try.underlying31 rfl ti31 (by repeat constructor) rfl) rfl rfl) ⟨none, 0, adP, cP, none, rfl, rfl, rfl⟩
                | exact hret (Res_c3 Try.results44 rfl (LdV_S Try.underlying31 rfl ti31 (by repeat constructor) rfl) rfl rfl) ⟨none, 0, adP, cP, xO, rfl, rfl, rfl⟩
                | exact hret (Res_c3 Try.results44 rfl (LdV_S Try.underlying31 rfl ti31 (by repeat constructor) rfl) rfl rfl) ⟨none, 0, adQ, cQ, xO, rfl, rfl, rfl⟩
                | exact hret (Res_c3 Try.results44 rfl (LdV_S Try.underlying31 rfl ti31 (by repeat constructor) rfl) rfl rfl) ⟨adK, cK, adQ, cQ, xO, rfl, rfl, rfl⟩
       ·refine C_skip <| C_seq <| C_block <| C_seq <| C_region <| S_run 3 rfl <| S_nil ?_; refine C_if rfl (fun h79 => ?_) (fun h79 => ?_)
        ·refine C_seq <| C_region ?_; refine S_nilarr (elI .i64) 3 ?_; have e := e0; rw [if_pos (by omega)] at e; refine S_y rfl rfl rfl (Y_build [.const (.int .i64 0), .const (.int .i64 0), .const (.int .i64 0)] bt31 rfl rfl rfl rfl) ?_; refine S_run 1 rfl ?_; refine S_stS rfl rfl rfl ti31 rfl rfl rfl rfl (by repeat constructor) (by rfl) ?_; refine S_run 2 rfl <| S_nil ?_; rw [e] at hret
         first
           | exact hret (Res_c3 Try.results44 rfl (LdV_S Try.underlying31 rfl ti31 (by repeat constructor) rfl) rfl rfl) ⟨none, 0, adP, cP, none, rfl, rfl, rfl⟩
           | exact hret (Res_c3 Try.results44 rfl (LdV_S Try.underlying31 rfl ti31 (by repeat constructor) rfl) rfl rfl) ⟨none, 0, adP, cP, xO, rfl, rfl, rfl⟩
           | exact hret (Res_c3 Try.results44 rfl (LdV_S Try.underlying31 rfl ti31 (by repeat constructor) rfl) rfl rfl) ⟨none, 0, adQ, cQ, xO, rfl, rfl, rfl⟩
           | exact hret (Res_c3 Try.results44 rfl (LdV_S Try.underlying31 rfl ti31 (by repeat constructor) rfl) rfl rfl) ⟨adK, cK, adQ, cQ, xO, rfl, rfl, rfl⟩
        ·omega
     ·omega
set_option maxRecDepth 100000 in
set_option maxHeartbeats 4000000 in
theorem turnC_ok {bm : Nat} {m : Mem} {adP : Option Addr} {cP : Nat} {bo fn : Nat} {fi ca : Array Value} {fA fB : MF} {t : Tree} {key : Bytes} {E : Edit} (hm : MOL m) (hE : EditOK E) (hf : ∀ (ad : Option Addr) (c : Nat) (l : List Cell), (∀ x ∈ l, CellOK x) → l.length ≤ 1000000 → Spx Try.prog fn (fi ++ #[.slice ad l.length c] ++ ca) [fA, fB] [Res.arr elCell 83 ad c l, Res.blk bo (.cells #[oldV none] 95 (0, 0))] (fun v fs' own' => ∃ ad' c' x, v = .tuple #[.slice ad' (E l).1.length c', .int .i64 (E l).2.1, .int .i64 (E l).2.2.1] ∧ fs' = [OldF x (E l).2.2.2] ∧ own' = [Res.arr elCell 83 ad' c' (E l).1, Res.blk bo (.cells #[oldV x] 95 (0, 0))])) (hz : ¬ t.root = 0) : Spx Try.prog 44 #[.iface 26 (.pointer (some ⟨bm, 0, none⟩)), .agg (treeC t), str key, .func (.func fn) fi ca] [fA, fB] [Res.blk bm (.cells (memC m adP cP) 29 (0, 0)), Res.arr elS 9 adP cP (m).pages, Res.blk bo (.cells #[oldV none] 95 (0, 0))] (fun v fs' own' => ∃ ad' c' adP' cP' x, v = .tuple #[.agg (treeC (turnN E m t key).t), .slice ad' (turnN E m t key).gone.length c', .int .i64 (turnN E m t key).e] ∧ fs' = [OldF x (turnN E m t key).old] ∧ own' = [Res.arr (elI .i64) 3 ad' c' (turnN E m t key).gone, Res.blk bm (.cells (memC (turnN E m t key).m adP' cP') 29 (0, 0)), Res.arr elS 9 adP' cP' ((turnN E m t key).m).pages, Res.blk bo (.cells #[oldV x] 95 (0, 0))]) := by
 refine Spx_of_body (fn := Try.f44) 116 Try.func44 rfl (by kernel_rfl) rfl (Nat.le_of_ble_eq_true rfl) (fun g0 Q hret hend => ?_); dsimp only [initL]; refine C_seq <| C_region ?_; refine S_box rfl rfl rfl rfl rfl rfl (fun b5 => ?_); refine S_alloc rfl rfl rfl rfl ti31 rfl (fun b8 => ?_); refine S_run 2 rfl <| S_nil <| C_seq <| C_region <| S_run 1 rfl ?_; refine S_enter rfl rfl rfl (E_fn rfl rfl) begin_ok ?_; rintro _ _ _ (⟨hsz, rfl, rfl, rfl⟩ | ⟨hsz, bw, bg, rfl, rfl, rfl⟩)
 ·try dsimp only [c_a, n_a]
  refine S_run 5 rfl <| S_nil <| C_seq <| C_block <| C_seq <| C_region <| S_run 3 rfl <| S_nil ?_; refine C_if rfl (fun h21 => ?_) (fun h21 => ?_)
  ·refine C_seq <| C_region ?_; refine S_nilarr (elI .i64) 3 ?_; refine S_fact (f := PF True) (fun _ _ => trivial) ?_; have e : (turnN E m t key) = ⟨m, tree0, [], 2, none⟩ := by unfold turnN; exact if_pos hsz
   refine S_y rfl rfl rfl (Y_build [.const (.int .i64 0), .const (.int .i64 0), .const (.int .i64 0)] bt31 rfl rfl rfl rfl) ?_; refine S_run 1 rfl ?_; refine S_stS rfl rfl rfl ti31 rfl rfl rfl rfl (by repeat constructor) (by rfl) ?_; refine S_run 2 rfl <| S_nil ?_; rw [e] at hret
   first
     | exact hret (Res_c3 Try.results44 rfl (LdV_S Try.underlying31 rfl ti31 (by repeat constructor) rfl) rfl rfl) ⟨none, 0, adP, cP, none, rfl, rfl, rfl⟩
     | exact hret (Res_c3 Try.results44 rfl (LdV_S Try.underlying31 rfl ti31 (by repeat constructor) rfl) rfl rfl) ⟨none, 0, adP, cP, xO, rfl, rfl, rfl⟩
     | exact hret (Res_c3 Try.results44 rfl (LdV_S Try.underlying31 rfl ti31 (by repeat constructor) rfl) rfl rfl) ⟨none, 0, adR0, cR0, xO, rfl, rfl, rfl⟩
     | exact hret (Res_c3 Try.results44 rfl (LdV_S Try.underlying31 rfl ti31 (by repeat constructor) rfl) rfl rfl) ⟨none, 0, adQ, cQ, xO, rfl, rfl, rfl⟩
     | exact hret (Res_c3 Try.results44 rfl (LdV_S Try.underlying31 rfl ti31 (by repeat constructor) rfl) rfl rfl) ⟨adK, cK, adQ, cQ, xO, rfl, rfl, rfl⟩
  ·omega
 ·try dsimp only [c_a, n_a]
  refine S_run 5 rfl <| S_nil <| C_seq <| C_block <| C_seq <| C_region <| S_run 3 rfl <| S_nil ?_; refine C_if rfl (fun h21 => ?_) (fun h21 => ?_)
  ·omega
  ·refine C_seq <| C_region <| S_run 1 rfl ?_; refine S_enter rfl rfl rfl (E_fn rfl rfl) rkey_ok ?_; rintro _ _ _ ⟨rfl, rfl, rfl⟩; (try dsimp only [c_a, n_a]); refine S_run 2 rfl <| S_nil ?_; refine C_cond rfl (fun h26 => ?_) (fun h26 => ?_)
   ·refine C_seq <| C_region ?_; refine S_nilarr (elI .i64) 3 ?_; refine S_fact (f := PF True) (fun _ _ => trivial) ?_
    have e : (turnN E m t key) = ⟨m, tree0, [], 50, none⟩ := by
      unfold turnN; rw [if_neg (by omega)]; exact if_pos (fun hp => by rw [decide_eq_true hp] at h26; cases h26)
    refine S_y rfl rfl rfl (Y_build [.const (.int .i64 0), .const (.int .i64 0), .const (.int .i64 0)] bt31 rfl rfl rfl rfl) ?_; refine S_stS rfl rfl rfl ti31 rfl rfl rfl rfl (by repeat constructor) (by rfl) ?_; refine S_run 2 rfl <| S_nil ?_; rw [e] at hret
    first
      | exact hret (Res_c3 Try.results44 rfl (LdV_S Try.underlying31 rfl ti31 (by repeat constructor) rfl) rfl rfl) ⟨none, 0, adP, cP, none, rfl, rfl, rfl⟩
      | exact hret (Res_c3 Try.results44 rfl (LdV_S Try.underlying31 rfl ti31 (by repeat constructor) rfl) rfl rfl) ⟨none, 0, adP, cP, xO, rfl, rfl, rfl⟩
      | exact hret (Res_c3 Try.results44 rfl (LdV_S Try.underlying31 rfl ti31 (by repeat constructor) rfl) rfl rfl) ⟨none, 0, adR0, cR0, xO, rfl, rfl, rfl⟩
      | exact hret (Res_c3 Try.results44 rfl (LdV_S Try.underlying31 rfl ti31 (by repeat constructor) rfl) rfl rfl) ⟨none, 0, adQ, cQ, xO, rfl, rfl, rfl⟩
      | exact hret (Res_c3 Try.results44 rfl (LdV_S Try.underlying31 rfl ti31 (by repeat constructor) rfl) rfl rfl) ⟨adK, cK, adQ, cQ, xO, rfl, rfl, rfl⟩
   ·have hkey : key ≠ [] ∧ key.length ≤ 64 := Decidable.byContradiction fun hp => by rw [decide_eq_false hp] at h26; cases h26
    refine C_seq <| C_region ?_; refine S_y rfl rfl rfl (Y_ldS Try.underlying31 rfl ti31 rfl rfl) ?_; refine S_enter rfl rfl rfl (E_fn rfl rfl) (right_ok (t := t)) ?_; rintro _ _ _ ⟨rfl, rfl, rfl⟩; (try dsimp only [c_a, n_a]); refine S_run 2 rfl <| S_nil ?_; refine C_cond rfl (fun h31 => ?_) (fun h31 => ?_)
    ·refine C_seq <| C_region ?_; refine S_nilarr (elI .i64) 3 ?_; refine S_fact (f := PF True) (fun _ _ => trivial) ?_
     have e : (turnN E m t key) = ⟨m, tree0, [], 51, none⟩ := by
       unfold turnN; rw [if_neg (by omega), if_neg (by rw [Classical.not_not]; exact hkey)]; exact if_pos (by cases hq : rightT t with | false => rfl | true => (rw [hq] at h31; cases h31))
     refine S_y rfl rfl rfl (Y_build [.const (.int .i64 0), .const (.int .i64 0), .const (.int .i64 0)] bt31 rfl rfl rfl rfl) ?_; refine S_stS rfl rfl rfl ti31 rfl rfl rfl rfl (by repeat constructor) (by rfl) ?_; refine S_run 2 rfl <| S_nil ?_; rw [e] at hret
     first
       | exact hret (Res_c3 Try.results44 rfl (LdV_S Try.underlying31 rfl ti31 (by repeat constructor) rfl) rfl rfl) ⟨none, 0, adP, cP, none, rfl, rfl, rfl⟩
       | exact hret (Res_c3 Try.results44 rfl (LdV_S Try.underlying31 rfl ti31 (by repeat constructor) rfl) rfl rfl) ⟨none, 0, adP, cP, xO, rfl, rfl, rfl⟩
       | exact hret (Res_c3 Try.results44 rfl (LdV_S Try.underlying31 rfl ti31 (by repeat constructor) rfl) rfl rfl) ⟨none, 0, adR0, cR0, xO, rfl, rfl, rfl⟩
       | exact hret (Res_c3 Try.results44 rfl (LdV_S Try.underlying31 rfl ti31 (by repeat constructor) rfl) rfl rfl) ⟨none, 0, adQ, cQ, xO, rfl, rfl, rfl⟩
       | exact hret (Res_c3 Try.results44 rfl (LdV_S Try.underlying31 rfl ti31 (by repeat constructor) rfl) rfl rfl) ⟨adK, cK, adQ, cQ, xO, rfl, rfl, rfl⟩
    ·have hright : rightT t = true := by cases hq : rightT t with | true => rfl | false => (rw [hq] at h31; cases h31)
     have hr0 := of_decide_eq_true hright; have hdt : ((depthT t : Nat) : Int) = max t.deep 1 := by unfold depthT; omega
     have hdt2 : 1 ≤ depthT t ∧ depthT t ≤ 64 := by omega
     have hcg : chgT E m t key = ⟨(changeN E key (depthT t - 1) m [] t.root).m, (changeN E key (depthT t - 1) m [] t.root).g, (changeN E key (depthT t - 1) m [] t.root).l, (changeN E key (depthT t - 1) m [] t.root).more, (changeN E key (depthT t - 1) m [] t.root).e, (changeN E key (depthT t - 1) m [] t.root).old⟩ := by unfold chgT; rw [if_neg hz]
     have e0 : (turnN E m t key) = rootT t ⟨(changeN E key (depthT t - 1) m [] t.root).m, (changeN E key (depthT t - 1) m [] t.root).g, (changeN E key (depthT t - 1) m [] t.root).l, (changeN E key (depthT t - 1) m [] t.root).more, (changeN E key (depthT t - 1) m [] t.root).e, (changeN E key (depthT t - 1) m [] t.root).old⟩ (depthT t) := by
       unfold turnN; rw [if_neg (by omega), if_neg (by rw [Classical.not_not]; exact hkey), if_neg (by rw [hright]; decide)]; rw [hcg]
     unfold rootT at e0; dsimp only at e0; refine C_skip <| C_blk <| C_seq <| C_region ?_; refine S_y rfl rfl rfl (Y_fa ly31 rfl rfl rfl) ?_; refine S_y rfl rfl rfl (Y_ld u3 rfl rfl rfl) ?_; refine S_y rfl rfl rfl ((Y_max rfl rfl rfl).as (v' := .int .i64 ((depthT t : Nat) : Int)) (by congr 1; omega)) ?_; refine S_run 1 rfl <| S_nil <| C_seq <| C_region <| S_run 1 rfl <| S_nil <| C_seq <| C_region <| S_run 1 rfl <| S_nil <| C_seq <| C_seq <| C_region ?_; refine S_y rfl rfl rfl (Y_fa ly31 rfl rfl rfl) ?_; refine S_y rfl rfl rfl (Y_ld u3 rfl rfl rfl) ?_; refine S_run 1 rfl <| S_nil ?_; refine C_if rfl (fun h41 => ?_) (fun h41 => ?_)
     ·omega
     ·refine C_region <| S_run 1 rfl ?_; refine S_y rfl rfl rfl (Y_fa ly31 rfl rfl rfl) ?_; refine S_y rfl rfl rfl (Y_ld u3 rfl rfl rfl) ?_; refine S_run 3 rfl ?_; refine S_as 52 rfl (show Value.int .i64 ((depthT t : Nat) : Int) = .int .i64 (((depthT t - 1) + 1 : Nat) : Int) by congr 2; omega) ?_; refine S_enter rfl rfl rfl (E_fn rfl rfl) (change_ok hm hsz hE hf (depthT t - 1) (by omega) [] t.root) ?_; rintro _ _ _ ⟨adO, cO, adR0, cR0, xO, rfl, rfl, rfl⟩; (try dsimp only [c_a, n_a]); have hco := changeN_ok hE key (depthT t - 1) m [] t.root hm; have hgi := changeN_GI (E := E) (key := key) (depthT t - 1) m [] t.root (GI.nil m); have hmol := hco.mol; have hms := hco.size; have hcl := hco.cells; have hcn := hco.len; refine S_run 7 rfl <| S_nil <| C_seq <| C_seq <| C_region <| S_run 2 rfl <| S_nil ?_; refine C_if rfl (fun h60 => ?_) (fun h60 => ?_)
      ·refine C_seq <| C_region ?_; refine S_nilarr (elI .i64) 3 ?_; have e := e0; rw [if_pos (by omega)] at e; refine S_y rfl rfl rfl (Y_ldS Try.underlying31 rfl ti31 rfl rfl) ?_; refine S_stS rfl rfl rfl ti31 rfl rfl rfl rfl (by repeat constructor) (by rfl) ?_; refine S_run 2 rfl <| S_nil ?_; rw [e] at hret
       first
         | exact hret (Res_c3 Try.results44 rfl (LdV_S Try.underlying31 rfl ti31 (by repeat constructor) rfl) rfl rfl) ⟨none, 0, adP, cP, none, rfl, rfl, rfl⟩
         | exact hret (Res_c3 Try.results44 rfl (LdV_S Try.underlying31 rfl ti31 (by repeat constructor) rfl) rfl rfl) ⟨none, 0, adP, cP, xO, rfl, rfl, rfl⟩
         | exact hret (Res_c3 Try.results44 rfl (LdV_S Try.underlying31 rfl ti31 (by repeat constructor) rfl) rfl rfl) ⟨none, 0, adR0, cR0, xO, rfl, rfl, rfl⟩
         | exact hret (Res_c3 Try.results44 rfl (LdV_S Try.underlying31 rfl ti31 (by repeat constructor) rfl) rfl rfl) ⟨none, 0, adQ, cQ, xO, rfl, rfl, rfl⟩
         | exact hret (Res_c3 Try.results44 rfl (LdV_S Try.underlying31 rfl ti31 (by repeat constructor) rfl) rfl rfl) ⟨adK, cK, adQ, cQ, xO, rfl, rfl, rfl⟩
      ·refine C_skip <| C_seq <| C_seq <| C_region ?_; rw [if_neg (by omega)] at e0; refine S_run 2 rfl <| S_nil ?_; refine C_if rfl (fun h63 => ?_) (fun h63 => ?_)
       ·refine C_seq <| C_region ?_; refine S_pub (E := elCell) (ad := adO) (c := cO) (by repeat constructor) ?_; rw [if_neg (by omega)] at e0; refine S_run 3 rfl ?_; refine S_enter rfl rfl rfl (E_fn rfl rfl) (root_ok hmol (by omega) hcl (by omega) (by omega) (by omega)) ?_; rintro _ _ _ ⟨adQ, cQ, rfl, rfl, rfl⟩; (try dsimp only [c_a, n_a]); refine S_run 4 rfl ?_; refine S_y rfl rfl rfl (Y_fa ly31 rfl rfl rfl) ?_; refine S_st rfl rfl rfl ti3 rfl rfl rfl (by repeat constructor) (by rfl) ?_; refine S_y rfl rfl rfl (Y_fa ly31 rfl rfl rfl) ?_; refine S_st rfl rfl rfl ti3 rfl rfl rfl (by repeat constructor) (by rfl) ?_; refine S_run 1 rfl <| S_nil <| C_region ?_; refine S_blkAs (b := b5) (cs' := #[.int .i64 ((rootN (changeN E key (depthT t - 1) m [] t.root).m (changeN E key (depthT t - 1) m [] t.root).l (depthT t)).2.1 : Int), .int .i64 t.keys, .int .i64 ((rootN (changeN E key (depthT t - 1) m [] t.root).m (changeN E key (depthT t - 1) m [] t.root).l (depthT t)).2.2.1 : Int)]) (by repeat constructor) rfl ?_; refine S_y rfl rfl rfl (Y_fa ly31 rfl rfl rfl) ?_; refine S_y rfl rfl rfl (Y_ld u3 rfl rfl rfl) ?_; refine S_run 1 rfl ?_; refine S_y rfl rfl rfl (Y_add rfl rfl rfl) ?_; refine S_y rfl rfl rfl (Y_fa ly31 rfl rfl rfl) ?_; refine S_st rfl rfl rfl ti3 rfl rfl rfl (by repeat constructor) (by rfl) ?_; refine S_nil <| C_seq <| C_block <| C_seq <| C_region <| S_run 3 rfl <| S_nil ?_; refine C_if rfl (fun h79 => ?_) (fun h79 => ?_)
        ·refine C_seq <| C_region ?_; refine S_nilarr (elI .i64) 3 ?_; have e := e0; rw [if_pos (by omega)] at e; refine S_y rfl rfl rfl (Y_build [.const (.int .i64 0), .const (.int .i64 0), .const (.int .i64 0)] bt31 rfl rfl rfl rfl) ?_; refine S_run 1 rfl ?_; refine S_stS rfl rfl rfl ti31 rfl rfl rfl rfl (by repeat constructor) (by rfl) ?_; refine S_run 2 rfl <| S_nil ?_; rw [e] at hret
         first
           | exact hret (Res_c3 Try.results44 rfl (LdV_S Try.underlying31 rfl ti31 (by repeat constructor) rfl) rfl rfl) ⟨none, 0, adP, cP, none, rfl, rfl, rfl⟩
           | exact hret (Res_c3 Try.results44 rfl (LdV_S Try.underlying31 rfl ti31 (by repeat constructor) rfl) rfl rfl) ⟨none, 0, adP, cP, xO, rfl, rfl, rfl⟩
           | exact hret (Res_c3 Try.results44 rfl (LdV_S Try.underlying31 rfl ti31 (by repeat constructor) rfl) rfl rfl) ⟨none, 0, adR0, cR0, xO, rfl, rfl, rfl⟩
           | exact hret (Res_c3 Try.results44 rfl (LdV_S Try.underlying31 rfl ti31 (by repeat constructor) rfl) rfl rfl) ⟨none, 0, adQ, cQ, xO, rfl, rfl, rfl⟩
           | exact hret (Res_c3 Try.results44 rfl (LdV_S Try.underlying31 rfl ti31 (by repeat constructor) rfl) rfl rfl) ⟨adK, cK, adQ, cQ, xO, rfl, rfl, rfl⟩
        ·rw [if_neg (by omega)] at e0; refine C_seq <| C_region ?_; refine S_blkAs (b := b5) (cs' := #[.int .i64 ((rootN (changeN E key (depthT t - 1) m [] t.root).m (changeN E key (depthT t - 1) m [] t.root).l (depthT t)).2.1 : Int), .int .i64 (IntKind.i64.wrap (t.keys + (changeN E key (depthT t - 1) m [] t.root).more)), .int .i64 ((rootN (changeN E key (depthT t - 1) m [] t.root).m (changeN E key (depthT t - 1) m [] t.root).l (depthT t)).2.2.1 : Int)]) (by repeat constructor) rfl ?_; refine S_y rfl rfl rfl (Y_fa ly31 rfl rfl rfl) ?_; refine S_y rfl rfl rfl (Y_ld u3 rfl rfl rfl) ?_; refine S_run 2 rfl ?_; refine S_prop 88 rfl (fun h88 => ?_) (fun h88 => ?_)
         ·refine S_y rfl rfl rfl (Y_fa ly31 rfl rfl rfl) ?_; refine S_y rfl rfl rfl (Y_ld u3 rfl rfl rfl) ?_; refine S_run 3 rfl ?_; refine S_prop 93 rfl (fun h93 => ?_) (fun h93 => ?_)
          ·refine S_run 15 rfl <| S_nil ?_; refine C_cond_t rfl ?_; refine C_seq <| C_region ?_; refine S_nilarr (elI .i64) 3 ?_; have e := e0; rw [if_pos (by omega)] at e; refine S_y rfl rfl rfl (Y_build [.const (.int .i64 0), .const (.int .i64 0), .const (.int .i64 0)] bt31 rfl rfl rfl rfl) ?_; refine S_stS rfl rfl rfl ti31 rfl rfl rfl rfl (by repeat constructor) (by rfl) ?_; refine S_run 2 rfl <| S_nil ?_; rw [e] at hret
           first
             | exact hret (Res_c3 Try.results44 rfl (LdV_S Try.underlying31 rfl ti31 (by repeat constructor) rfl) rfl rfl) ⟨none, 0, adP, cP, none, rfl, rfl, rfl⟩
             | exact hret (Res_c3 Try.results44 rfl (LdV_S Try.underlying31 rfl ti31 (by repeat constructor) rfl) rfl rfl) ⟨none, 0, adP, cP, xO, rfl, rfl, rfl⟩
             | exact hret (Res_c3 Try.results44 rfl (LdV_S Try.underlying31 rfl ti31 (by repeat constructor) rfl) rfl rfl) ⟨none, 0, adR0, cR0, xO, rfl, rfl, rfl⟩
             | exact hret (Res_c3 Try.results44 rfl (LdV_S Try.underlying31 rfl ti31 (by repeat constructor) rfl) rfl rfl) ⟨none, 0, adQ, cQ, xO, rfl, rfl, rfl⟩
             | exact hret (Res_c3 Try.results44 rfl (LdV_S Try.underlying31 rfl ti31 (by repeat constructor) rfl) rfl rfl) ⟨adK, cK, adQ, cQ, xO, rfl, rfl, rfl⟩
          ·refine S_y rfl rfl rfl (Y_fa ly31 rfl rfl rfl) ?_; refine S_y rfl rfl rfl (Y_ld u3 rfl rfl rfl) ?_; refine S_run 2 rfl ?_; refine S_prop 97 rfl (fun h97 => ?_) (fun h97 => ?_)
           ·refine S_y rfl rfl rfl (Y_fa ly31 rfl rfl rfl) ?_; refine S_y rfl rfl rfl (Y_ld u3 rfl rfl rfl) ?_; refine S_run 4 rfl ?_; refine S_prop 103 rfl (fun h103 => ?_) (fun h103 => ?_)
            ·refine S_run 5 rfl <| S_nil ?_; refine C_cond_t rfl ?_; refine C_seq <| C_region ?_; refine S_nilarr (elI .i64) 3 ?_; have e := e0; rw [if_pos (by omega)] at e; refine S_y rfl rfl rfl (Y_build [.const (.int .i64 0), .const (.int .i64 0), .const (.int .i64 0)] bt31 rfl rfl rfl rfl) ?_; refine S_stS rfl rfl rfl ti31 rfl rfl rfl rfl (by repeat constructor) (by rfl) ?_; refine S_run 2 rfl <| S_nil ?_; rw [e] at hret
             first
               | exact hret (Res_c3 Try.results44 rfl (LdV_S Try.underlying31 rfl ti31 (by repeat constructor) rfl) rfl rfl) ⟨none, 0, adP, cP, none, rfl, rfl, rfl⟩
               | exact hret (Res_c3 Try.results44 rfl (LdV_S Try.underlying31 rfl ti31 (by repeat constructor) rfl) rfl rfl) ⟨none, 0, adP, cP, xO, rfl, rfl, rfl⟩
               | exact hret (Res_c3 Try.results44 rfl (LdV_S Try.underlying31 rfl ti31 (by repeat constructor) rfl) rfl rfl) ⟨none, 0, adR0, cR0, xO, rfl, rfl, rfl⟩
               | exact hret (Res_c3 Try.results44 rfl (LdV_S Try.underlying31 rfl ti31 (by repeat constructor) rfl) rfl rfl) ⟨none, 0, adQ, cQ, xO, rfl, rfl, rfl⟩
               | exact hret (Res_c3 Try.results44 rfl (LdV_S Try.underlying31 rfl ti31 (by repeat constructor) rfl) rfl rfl) ⟨adK, cK, adQ, cQ, xO, rfl, rfl, rfl⟩
            ·refine S_y rfl rfl rfl (Y_fa ly31 rfl rfl rfl) ?_; refine S_y rfl rfl rfl (Y_ld u3 rfl rfl rfl) ?_; refine S_run 3 rfl <| S_nil ?_; refine C_if rfl (fun h84 => ?_) (fun h84 => ?_)
             ·refine C_seq <| C_region ?_; refine S_nilarr (elI .i64) 3 ?_; have e := e0; rw [if_pos (by omega)] at e; refine S_y rfl rfl rfl (Y_build [.const (.int .i64 0), .const (.int .i64 0), .const (.int .i64 0)] bt31 rfl rfl rfl rfl) ?_; refine S_stS rfl rfl rfl ti31 rfl rfl rfl rfl (by repeat constructor) (by rfl) ?_; refine S_run 2 rfl <| S_nil ?_; rw [e] at hret
              first
                | exact hret (Res_c3 Try.results44 rfl (LdV_S Try.underlying31 rfl ti31 (by repeat constructor) rfl) rfl rfl) ⟨none, 0, adP, cP, none, rfl, rfl, rfl⟩
                | exact hret (Res_c3 Try.results44 rfl (LdV_S Try.underlying31 rfl ti31 (by repeat constructor) rfl) rfl rfl) ⟨none, 0, adP, cP, xO, rfl, rfl, rfl⟩
                | exact hret (Res_c3 Try.results44 rfl (LdV_S Try.underlying31 rfl ti31 (by repeat constructor) rfl) rfl rfl) ⟨none, 0, adR0, cR0, xO, rfl, rfl, rfl⟩
                | exact hret (Res_c3 Try.results44 rfl (LdV_S Try.underlying31 rfl ti31 (by repeat constructor) rfl) rfl rfl) ⟨none, 0, adQ, cQ, xO, rfl, rfl, rfl⟩
                | exact hret (Res_c3 Try.results44 rfl (LdV_S Try.underlying31 rfl ti31 (by repeat constructor) rfl) rfl rfl) ⟨adK, cK, adQ, cQ, xO, rfl, rfl, rfl⟩
             ·have hglen := hgi.len; have hfew := hmol.ok.few; have hkeys : KeysOK (changeN E key (depthT t - 1) m [] t.root).g := ⟨hgi.nd, fun p hp => by have := hgi.lo p hp; omega, fun p hp => by have := hgi.hi p hp; omega, by omega⟩; have e := e0; rw [if_neg (by omega)] at e; refine C_skip <| C_blk <| C_seq ?_; refine C_draw rfl ?_; refine c_p 1 1020 ?_; refine c_p 2 1016 ?_; refine c_f 3 1008 ly108 ?_; refine c_r 4 992 (by kernel_rfl) rfl rfl rfl rfl (Y_ld u106 rfl rfl rfl) ?_; refine C_two (i := 0) (j := 5) (by kernel_rfl) rfl rfl ?_ ?_
              ·refine S_y rfl rfl rfl (Y_ldS Try.underlying31 rfl ti31 rfl rfl) ?_; refine S_nil ?_; refine C_one (i := 5) (by kernel_rfl) rfl ?_; refine S_enter rfl rfl rfl (E_fn rfl rfl) keys_ok ?_; rintro _ _ _ ⟨bK, rfl, rfl, rfl⟩; (try dsimp only [c_a, n_a]); refine S_nil ?_; refine C_one (i := 6) (by kernel_rfl) rfl ?_; refine S_enter rfl rfl rfl (E_fn rfl rfl) (sorted_ok hkeys) ?_; rintro _ _ _ ⟨adK, cK, rfl, rfl, rfl⟩; (try dsimp only [c_a, n_a]); refine S_nil ?_; refine C_one (i := 7) (by kernel_rfl) rfl ?_; refine S_stS rfl rfl rfl ti31 rfl rfl rfl rfl (by repeat constructor) (by rfl) ?_; refine S_nil ?_; refine c_p 8 512 ?_; refine c_p 9 0 ?_; refine c_d ?_; rw [e] at hret
               first
                 | exact hret (Res_c3 Try.results44 rfl (LdV_S Try.underlying31 rfl ti31 (by repeat constructor) rfl) rfl rfl) ⟨none, 0, adP, cP, none, rfl, rfl, rfl⟩
                 | exact hret (Res_c3 Try.results44 rfl (LdV_S Try.underlying31 rfl ti31 (by repeat constructor) rfl) rfl rfl) ⟨none, 0, adP, cP, xO, rfl, rfl, rfl⟩
                 | exact hret (Res_c3 Try.results44 rfl (LdV_S Try.underlying31 rfl ti31 (by repeat constructor) rfl) rfl rfl) ⟨none, 0, adR0, cR0, xO, rfl, rfl, rfl⟩
                 | exact hret (Res_c3 Try.results44 rfl (LdV_S Try.underlying31 rfl ti31 (by repeat constructor) rfl) rfl rfl) ⟨none, 0, adQ, cQ, xO, rfl, rfl, rfl⟩
                 | exact hret (Res_c3 Try.results44 rfl (LdV_S Try.underlying31 rfl ti31 (by repeat constructor) rfl) rfl rfl) ⟨adK, cK, adQ, cQ, xO, rfl, rfl, rfl⟩
              ·refine S_enter rfl rfl rfl (E_fn rfl rfl) keys_ok ?_; rintro _ _ _ ⟨bK, rfl, rfl, rfl⟩; (try dsimp only [c_a, n_a]); refine S_nil ?_; refine C_two (i := 0) (j := 6) (by kernel_rfl) rfl rfl ?_ ?_
               ·refine S_y rfl rfl rfl (Y_ldS Try.underlying31 rfl ti31 rfl rfl) ?_; refine S_nil ?_; refine C_one (i := 6) (by kernel_rfl) rfl ?_; refine S_enter rfl rfl rfl (E_fn rfl rfl) (sorted_ok hkeys) ?_; rintro _ _ _ ⟨adK, cK, rfl, rfl, rfl⟩; (try dsimp only [c_a, n_a]); refine S_nil ?_; refine C_one (i := 7) (by kernel_rfl) rfl ?_; refine S_stS rfl rfl rfl ti31 rfl rfl rfl rfl (by repeat constructor) (by rfl) ?_; refine S_nil ?_; refine c_p 8 512 ?_; refine c_p 9 0 ?_; refine c_d ?_; rw [e] at hret
                first
                  | exact hret (Res_c3 Try.results44 rfl (LdV_S Try.underlying31 rfl ti31 (by repeat constructor) rfl) rfl rfl) ⟨none, 0, adP, cP, none, rfl, rfl, rfl⟩
                  | exact hret (Res_c3 Try.results44 rfl (LdV_S Try.underlying31 rfl ti31 (by repeat constructor) rfl) rfl rfl) ⟨none, 0, adP, cP, xO, rfl, rfl, rfl⟩
                  | exact hret (Res_c3 Try.results44 rfl (LdV_S Try.underlying31 rfl ti31 (by repeat constructor) rfl) rfl rfl) ⟨none, 0, adR0, cR0, xO, rfl, rfl, rfl⟩
                  | exact hret (Res_c3 Try.results44 rfl (LdV_S Try.underlying31 rfl ti31 (by repeat constructor) rfl) rfl rfl) ⟨none, 0, adQ, cQ, xO, rfl, rfl, rfl⟩
                  | exact hret (Res_c3 Try.results44 rfl (LdV_S Try.underlying31 rfl ti31 (by repeat constructor) rfl) rfl rfl) ⟨adK, cK, adQ, cQ, xO, rfl, rfl, rfl⟩
               ·refine S_enter rfl rfl rfl (E_fn rfl rfl) (sorted_ok hkeys) ?_; rintro _ _ _ ⟨adK, cK, rfl, rfl, rfl⟩; (try dsimp only [c_a, n_a]); refine S_nil ?_; refine c_r 0 896 (by kernel_rfl) rfl rfl rfl rfl (Y_ldS Try.underlying31 rfl ti31 rfl rfl) ?_; refine C_one (i := 7) (by kernel_rfl) rfl ?_; refine S_stS rfl rfl rfl ti31 rfl rfl rfl rfl (by repeat constructor) (by rfl) ?_; refine S_nil ?_; refine c_p 8 512 ?_; refine c_p 9 0 ?_; refine c_d ?_; rw [e] at hret
                first
                  | exact hret (Res_c3 Try.results44 rfl (LdV_S Try.underlying31 rfl ti31 (by repeat constructor) rfl) rfl rfl) ⟨none, 0, adP, cP, none, rfl, rfl, rfl⟩
                  | exact hret (Res_c3 Try.results44 rfl (LdV_S Try.underlying31 rfl ti31 (by repeat constructor) rfl) rfl rfl) ⟨none, 0, adP, cP, xO, rfl, rfl, rfl⟩
                  | exact hret (Res_c3 Try.results44 rfl (LdV_S Try.underlying31 rfl ti31 (by repeat constructor) rfl) rfl rfl) ⟨none, 0, adR0, cR0, xO, rfl, rfl, rfl⟩
                  | exact hret (Res_c3 Try.results44 rfl (LdV_S Try.underlying31 rfl ti31 (by repeat constructor) rfl) rfl rfl) ⟨none, 0, adQ, cQ, xO, rfl, rfl, rfl⟩
                  | exact hret (Res_c3 Try.results44 rfl (LdV_S Try.underlying31 rfl ti31 (by repeat constructor) rfl) rfl rfl) ⟨adK, cK, adQ, cQ, xO, rfl, rfl, rfl⟩
           ·refine S_run 6 rfl ?_; refine S_y rfl rfl rfl (Y_fa ly31 rfl rfl rfl) ?_; refine S_y rfl rfl rfl (Y_ld u3 rfl rfl rfl) ?_; refine S_run 3 rfl <| S_nil ?_; refine C_if rfl (fun h84 => ?_) (fun h84 => ?_)
            ·refine C_seq <| C_region ?_; refine S_nilarr (elI .i64) 3 ?_; have e := e0; rw [if_pos (by omega)] at e; refine S_y rfl rfl rfl (Y_build [.const (.int .i64 0), .const (.int .i64 0), .const (.int .i64 0)] bt31 rfl rfl rfl rfl) ?_; refine S_stS rfl rfl rfl ti31 rfl rfl rfl rfl (by repeat constructor) (by rfl) ?_; refine S_run 2 rfl <| S_nil ?_; rw [e] at hret
             first
               | exact hret (Res_c3 Try.results44 rfl (LdV_S Try.underlying31 rfl ti31 (by repeat constructor) rfl) rfl rfl) ⟨none, 0, adP, cP, none, rfl, rfl, rfl⟩
               | exact hret (Res_c3 Try.results44 rfl (LdV_S Try.underlying31 rfl ti31 (by repeat constructor) rfl) rfl rfl) ⟨none, 0, adP, cP, xO, rfl, rfl, rfl⟩
               | exact hret (Res_c3 Try.results44 rfl (LdV_S Try.underlying31 rfl ti31 (by repeat constructor) rfl) rfl rfl) ⟨none, 0, adR0, cR0, xO, rfl, rfl, rfl⟩
               | exact hret (Res_c3 Try.results44 rfl (LdV_S Try.underlying31 rfl ti31 (by repeat constructor) rfl) rfl rfl) ⟨none, 0, adQ, cQ, xO, rfl, rfl, rfl⟩
               | exact hret (Res_c3 Try.results44 rfl (LdV_S Try.underlying31 rfl ti31 (by repeat constructor) rfl) rfl rfl) ⟨adK, cK, adQ, cQ, xO, rfl, rfl, rfl⟩
            ·have hglen := hgi.len; have hfew := hmol.ok.few; have hkeys : KeysOK (changeN E key (depthT t - 1) m [] t.root).g := ⟨hgi.nd, fun p hp => by have := hgi.lo p hp; omega, fun p hp => by have := hgi.hi p hp; omega, by omega⟩; have e := e0; rw [if_neg (by omega)] at e; refine C_skip <| C_blk <| C_seq ?_; refine C_draw rfl ?_; refine c_p 1 1020 ?_; refine c_p 2 1016 ?_; refine c_f 3 1008 ly108 ?_; refine c_r 4 992 (by kernel_rfl) rfl rfl rfl rfl (Y_ld u106 rfl rfl rfl) ?_; refine C_two (i := 0) (j := 5) (by kernel_rfl) rfl rfl ?_ ?_
             ·refine S_y rfl rfl rfl (Y_ldS Try.underlying31 rfl ti31 rfl rfl) ?_; refine S_nil ?_; refine C_one (i := 5) (by kernel_rfl) rfl ?_; refine S_enter rfl rfl rfl (E_fn rfl rfl) keys_ok ?_; rintro _ _ _ ⟨bK, rfl, rfl, rfl⟩; (try dsimp only [c_a, n_a]); refine S_nil ?_; refine C_one (i := 6) (by kernel_rfl) rfl ?_; refine S_enter rfl rfl rfl (E_fn rfl rfl) (sorted_ok hkeys) ?_; rintro _ _ _ ⟨adK, cK, rfl, rfl, rfl⟩; (try dsimp only [c_a, n_a]); refine S_nil ?_; refine C_one (i := 7) (by kernel_rfl) rfl ?_; refine S_stS rfl rfl rfl ti31 rfl rfl rfl rfl (by repeat constructor) (by rfl) ?_; refine S_nil ?_; refine c_p 8 512 ?_; refine c_p 9 0 ?_; refine c_d ?_; rw [e] at hret
              first
                | exact hret (Res_c3 Try.results44 rfl (LdV_S Try.underlying31 rfl ti31 (by repeat constructor) rfl) rfl rfl) ⟨none, 0, adP, cP, none, rfl, rfl, rfl⟩
                | exact hret (Res_c3 Try.results44 rfl (LdV_S Try.underlying31 rfl ti31 (by repeat constructor) rfl) rfl rfl) ⟨none, 0, adP, cP, xO, rfl, rfl, rfl⟩
                | exact hret (Res_c3 Try.results44 rfl (LdV_S Try.underlying31 rfl ti31 (by repeat constructor) rfl) rfl rfl) ⟨none, 0, adR0, cR0, xO, rfl, rfl, rfl⟩
                | exact hret (Res_c3 Try.results44 rfl (LdV_S Try.underlying31 rfl ti31 (by repeat constructor) rfl) rfl rfl) ⟨none, 0, adQ, cQ, xO, rfl, rfl, rfl⟩
                | exact hret (Res_c3 Try.results44 rfl (LdV_S Try.underlying31 rfl ti31 (by repeat constructor) rfl) rfl rfl) ⟨adK, cK, adQ, cQ, xO, rfl, rfl, rfl⟩
             ·refine S_enter rfl rfl rfl (E_fn rfl rfl) keys_ok ?_; rintro _ _ _ ⟨bK, rfl, rfl, rfl⟩; (try dsimp only [c_a, n_a]); refine S_nil ?_; refine C_two (i := 0) (j := 6) (by kernel_rfl) rfl rfl ?_ ?_
              ·refine S_y rfl rfl rfl (Y_ldS Try.underlying31 rfl ti31 rfl rfl) ?_; refine S_nil ?_; refine C_one (i := 6) (by kernel_rfl) rfl ?_; refine S_enter rfl rfl rfl (E_fn rfl rfl) (sorted_ok hkeys) ?_; rintro _ _ _ ⟨adK, cK, rfl, rfl, rfl⟩; (try dsimp only [c_a, n_a]); refine S_nil ?_; refine C_one (i := 7) (by kernel_rfl) rfl ?_; refine S_stS rfl rfl rfl ti31 rfl rfl rfl rfl (by repeat constructor) (by rfl) ?_; refine S_nil ?_; refine c_p 8 512 ?_; refine c_p 9 0 ?_; refine c_d ?_; rw [e] at hret
               first
                 | exact hret (Res_c3 Try.results44 rfl (LdV_S Try.underlying31 rfl ti31 (by repeat constructor) rfl) rfl rfl) ⟨none, 0, adP, cP, none, rfl, rfl, rfl⟩
                 | exact hret (Res_c3 Try.results44 rfl (LdV_S Try.underlying31 rfl ti31 (by repeat constructor) rfl) rfl rfl) ⟨none, 0, adP, cP, xO, rfl, rfl, rfl⟩
                 | exact hret (Res_c3 Try.results44 rfl (LdV_S Try.underlying31 rfl ti31 (by repeat constructor) rfl) rfl rfl) ⟨none, 0, adR0, cR0, xO, rfl, rfl, rfl⟩
                 | exact hret (Res_c3 Try.results44 rfl (LdV_S Try.underlying31 rfl ti31 (by repeat constructor) rfl) rfl rfl) ⟨none, 0, adQ, cQ, xO, rfl, rfl, rfl⟩
                 | exact hret (Res_c3 Try.results44 rfl (LdV_S Try.underlying31 rfl ti31 (by repeat constructor) rfl) rfl rfl) ⟨adK, cK, adQ, cQ, xO, rfl, rfl, rfl⟩
              ·refine S_enter rfl rfl rfl (E_fn rfl rfl) (sorted_ok hkeys) ?_; rintro _ _ _ ⟨adK, cK, rfl, rfl, rfl⟩; (try dsimp only [c_a, n_a]); refine S_nil ?_; refine c_r 0 896 (by kernel_rfl) rfl rfl rfl rfl (Y_ldS Try.underlying31 rfl ti31 rfl rfl) ?_; refine C_one (i := 7) (by kernel_rfl) rfl ?_; refine S_stS rfl rfl rfl ti31 rfl rfl rfl rfl (by repeat constructor) (by rfl) ?_; refine S_nil ?_; refine c_p 8 512 ?_; refine c_p 9 0 ?_; refine c_d ?_; rw [e] at hret
               first
                 | exact hret (Res_c3 Try.results44 rfl (LdV_S Try.underlying31 rfl ti31 (by repeat constructor) rfl) rfl rfl) ⟨none, 0, adP, cP, none, rfl, rfl, rfl⟩
                 | exact hret (Res_c3 Try.results44 rfl (LdV_S Try.underlying31 rfl ti31 (by repeat constructor) rfl) rfl rfl) ⟨none, 0, adP, cP, xO, rfl, rfl, rfl⟩
                 | exact hret (Res_c3 Try.results44 rfl (LdV_S Try.underlying31 rfl ti31 (by repeat constructor) rfl) rfl rfl) ⟨none, 0, adR0, cR0, xO, rfl, rfl, rfl⟩
                 | exact hret (Res_c3 Try.results44 rfl (LdV_S Try.underlying31 rfl ti31 (by repeat constructor) rfl) rfl rfl) ⟨none, 0, adQ, cQ, xO, rfl, rfl, rfl⟩
                 | exact hret (Res_c3 Try.results44 rfl (LdV_S Try.underlying31 rfl ti31 (by repeat constructor) rfl) rfl rfl) ⟨adK, cK, adQ, cQ, xO, rfl, rfl, rfl⟩
         ·refine S_run 5 rfl ?_; refine S_y rfl rfl rfl (Y_fa ly31 rfl rfl rfl) ?_; refine S_y rfl rfl rfl (Y_ld u3 rfl rfl rfl) ?_; refine S_run 2 rfl ?_; refine S_prop 97 rfl (fun h97 => ?_) (fun h97 => ?_)
          ·refine S_y rfl rfl rfl (Y_fa ly31 rfl rfl rfl) ?_; refine S_y rfl rfl rfl (Y_ld u3 rfl rfl rfl) ?_; refine S_run 4 rfl ?_; refine S_prop 103 rfl (fun h103 => ?_) (fun h103 => ?_)
           ·refine S_run 5 rfl <| S_nil ?_; refine C_cond_t rfl ?_; refine C_seq <| C_region ?_; refine S_nilarr (elI .i64) 3 ?_; have e := e0; rw [if_pos (by omega)] at e; refine S_y rfl rfl rfl (Y_build [.const (.int .i64 0), .const (.int .i64 0), .const (.int .i64 0)] bt31 rfl rfl rfl rfl) ?_; refine S_stS rfl rfl rfl ti31 rfl rfl rfl rfl (by repeat constructor) (by rfl) ?_; refine S_run 2 rfl <| S_nil ?_; rw [e] at hret
            first
              | exact hret (Res_c3 Try.results44 rfl (LdV_S Try.underlying31 rfl ti31 (by repeat constructor) rfl) rfl rfl) ⟨none, 0, adP, cP, none, rfl, rfl, rfl⟩
              | exact hret (Res_c3 Try.results44 rfl (LdV_S Try.underlying31 rfl ti31 (by repeat constructor) rfl) rfl rfl) ⟨none, 0, adP, cP, xO, rfl, rfl, rfl⟩
              | exact hret (Res_c3 Try.results44 rfl (LdV_S Try.underlying31 rfl ti31 (by repeat constructor) rfl) rfl rfl) ⟨none, 0, adR0, cR0, xO, rfl, rfl, rfl⟩
              | exact hret (Res_c3 Try.results44 rfl (LdV_S Try.underlying31 rfl ti31 (by repeat constructor) rfl) rfl rfl) ⟨none, 0, adQ, cQ, xO, rfl, rfl, rfl⟩
              | exact hret (Res_c3 Try.results44 rfl (LdV_S Try.underlying31 rfl ti31 (by repeat constructor) rfl) rfl rfl) ⟨adK, cK, adQ, cQ, xO, rfl, rfl, rfl⟩
           ·refine S_y rfl rfl rfl (Y_fa ly31 rfl rfl rfl) ?_; refine S_y rfl rfl rfl (Y_ld u3 rfl rfl rfl) ?_; refine S_run 3 rfl <| S_nil ?_; refine C_if rfl (fun h84 => ?_) (fun h84 => ?_)
            ·refine C_seq <| C_region ?_; refine S_nilarr (elI .i64) 3 ?_; have e := e0; rw [if_pos (by omega)] at e; refine S_y rfl rfl rfl (Y_build [.const (.int .i64 0), .const (.int .i64 0), .const (.int .i64 0)] bt31 rfl rfl rfl rfl) ?_; refine S_stS rfl rfl rfl ti31 rfl rfl rfl rfl (by repeat constructor) (by rfl) ?_; refine S_run 2 rfl <| S_nil ?_; rw [e] at hret
             first
               | exact hret (Res_c3 Try.results44 rfl (LdV_S Try.underlying31 rfl ti31 (by repeat constructor) rfl) rfl rfl) ⟨none, 0, adP, cP, none, rfl, rfl, rfl⟩
               | exact hret (Res_c3 Try.results44 rfl (LdV_S Try.underlying31 rfl ti31 (by repeat constructor) rfl) rfl rfl) ⟨none, 0, adP, cP, xO, rfl, rfl, rfl⟩
               | exact hret (Res_c3 Try.results44 rfl (LdV_S Try.underlying31 rfl ti31 (by repeat constructor) rfl) rfl rfl) ⟨none, 0, adR0, cR0, xO, rfl, rfl, rfl⟩
               | exact hret (Res_c3 Try.results44 rfl (LdV_S Try.underlying31 rfl ti31 (by repeat constructor) rfl) rfl rfl) ⟨none, 0, adQ, cQ, xO, rfl, rfl, rfl⟩
               | exact hret (Res_c3 Try.results44 rfl (LdV_S Try.underlying31 rfl ti31 (by repeat constructor) rfl) rfl rfl) ⟨adK, cK, adQ, cQ, xO, rfl, rfl, rfl⟩
            ·have hglen := hgi.len; have hfew := hmol.ok.few; have hkeys : KeysOK (changeN E key (depthT t - 1) m [] t.root).g := ⟨hgi.nd, fun p hp => by have := hgi.lo p hp; omega, fun p hp => by have := hgi.hi p hp; omega, by omega⟩; have e := e0; rw [if_neg (by omega)] at e; refine C_skip <| C_blk <| C_seq ?_; refine C_draw rfl ?_; refine c_p 1 1020 ?_; refine c_p 2 1016 ?_; refine c_f 3 1008 ly108 ?_; refine c_r 4 992 (by kernel_rfl) rfl rfl rfl rfl (Y_ld u106 rfl rfl rfl) ?_; refine C_two (i := 0) (j := 5) (by kernel_rfl) rfl rfl ?_ ?_
             ·refine S_y rfl rfl rfl (Y_ldS Try.underlying31 rfl ti31 rfl rfl) ?_; refine S_nil ?_; refine C_one (i := 5) (by kernel_rfl) rfl ?_; refine S_enter rfl rfl rfl (E_fn rfl rfl) keys_ok ?_; rintro _ _ _ ⟨bK, rfl, rfl, rfl⟩; (try dsimp only [c_a, n_a]); refine S_nil ?_; refine C_one (i := 6) (by kernel_rfl) rfl ?_; refine S_enter rfl rfl rfl (E_fn rfl rfl) (sorted_ok hkeys) ?_; rintro _ _ _ ⟨adK, cK, rfl, rfl, rfl⟩; (try dsimp only [c_a, n_a]); refine S_nil ?_; refine C_one (i := 7) (by kernel_rfl) rfl ?_; refine S_stS rfl rfl rfl ti31 rfl rfl rfl rfl (by repeat constructor) (by rfl) ?_; refine S_nil ?_; refine c_p 8 512 ?_; refine c_p 9 0 ?_; refine c_d ?_; rw [e] at hret
              first
                | exact hret (Res_c3 Try.results44 rfl (LdV_S Try.underlying31 rfl ti31 (by repeat constructor) rfl) rfl rfl) ⟨none, 0, adP, cP, none, rfl, rfl, rfl⟩
                | exact hret (Res_c3 Try.results44 rfl (LdV_S Try.underlying31 rfl ti31 (by repeat constructor) rfl) rfl rfl) ⟨none, 0, adP, cP, xO, rfl, rfl, rfl⟩
                | exact hret (Res_c3 Try.results44 rfl (LdV_S Try.underlying31 rfl ti31 (by repeat constructor) rfl) rfl rfl) ⟨none, 0, adR0, cR0, xO, rfl, rfl, rfl⟩
                | exact hret (Res_c3 Try.results44 rfl (LdV_S Try.underlying31 rfl ti31 (by repeat constructor) rfl) rfl rfl) ⟨none, 0, adQ, cQ, xO, rfl, rfl, rfl⟩
                | exact hret (Res_c3 Try.results44 rfl (LdV_S Try.underlying31 rfl ti31 (by repeat constructor) rfl) rfl rfl) ⟨adK, cK, adQ, cQ, xO, rfl, rfl, rfl⟩
             ·refine S_enter rfl rfl rfl (E_fn rfl rfl) keys_ok ?_; rintro _ _ _ ⟨bK, rfl, rfl, rfl⟩; (try dsimp only [c_a, n_a]); refine S_nil ?_; refine C_two (i := 0) (j := 6) (by kernel_rfl) rfl rfl ?_ ?_
              ·refine S_y rfl rfl rfl (Y_ldS Try.underlying31 rfl ti31 rfl rfl) ?_; refine S_nil ?_; refine C_one (i := 6) (by kernel_rfl) rfl ?_; refine S_enter rfl rfl rfl (E_fn rfl rfl) (sorted_ok hkeys) ?_; rintro _ _ _ ⟨adK, cK, rfl, rfl, rfl⟩; (try dsimp only [c_a, n_a]); refine S_nil ?_; refine C_one (i := 7) (by kernel_rfl) rfl ?_; refine S_stS rfl rfl rfl ti31 rfl rfl rfl rfl (by repeat constructor) (by rfl) ?_; refine S_nil ?_; refine c_p 8 512 ?_; refine c_p 9 0 ?_; refine c_d ?_; rw [e] at hret
               first
                 | exact hret (Res_c3 Try.results44 rfl (LdV_S Try.underlying31 rfl ti31 (by repeat constructor) rfl) rfl rfl) ⟨none, 0, adP, cP, none, rfl, rfl, rfl⟩
                 | exact hret (Res_c3 Try.results44 rfl (LdV_S Try.underlying31 rfl ti31 (by repeat constructor) rfl) rfl rfl) ⟨none, 0, adP, cP, xO, rfl, rfl, rfl⟩
                 | exact hret (Res_c3 Try.results44 rfl (LdV_S Try.underlying31 rfl ti31 (by repeat constructor) rfl) rfl rfl) ⟨none, 0, adR0, cR0, xO, rfl, rfl, rfl⟩
                 | exact hret (Res_c3 Try.results44 rfl (LdV_S Try.underlying31 rfl ti31 (by repeat constructor) rfl) rfl rfl) ⟨none, 0, adQ, cQ, xO, rfl, rfl, rfl⟩
                 | exact hret (Res_c3 Try.results44 rfl (LdV_S Try.underlying31 rfl ti31 (by repeat constructor) rfl) rfl rfl) ⟨adK, cK, adQ, cQ, xO, rfl, rfl, rfl⟩
              ·refine S_enter rfl rfl rfl (E_fn rfl rfl) (sorted_ok hkeys) ?_; rintro _ _ _ ⟨adK, cK, rfl, rfl, rfl⟩; (try dsimp only [c_a, n_a]); refine S_nil ?_; refine c_r 0 896 (by kernel_rfl) rfl rfl rfl rfl (Y_ldS Try.underlying31 rfl ti31 rfl rfl) ?_; refine C_one (i := 7) (by kernel_rfl) rfl ?_; refine S_stS rfl rfl rfl ti31 rfl rfl rfl rfl (by repeat constructor) (by rfl) ?_; refine S_nil ?_; refine c_p 8 512 ?_; refine c_p 9 0 ?_; refine c_d ?_; rw [e] at hret
               first
                 | exact hret (Res_c3 Try.results44 rfl (LdV_S Try.underlying31 rfl ti31 (by repeat constructor) rfl) rfl rfl) ⟨none, 0, adP, cP, none, rfl, rfl, rfl⟩
                 | exact hret (Res_c3 Try.results44 rfl (LdV_S Try.underlying31 rfl ti31 (by repeat constructor) rfl) rfl rfl) ⟨none, 0, adP, cP, xO, rfl, rfl, rfl⟩
                 | exact hret (Res_c3 Try.results44 rfl (LdV_S Try.underlying31 rfl ti31 (by repeat constructor) rfl) rfl rfl) ⟨none, 0, adR0, cR0, xO, rfl, rfl, rfl⟩
                 | exact hret (Res_c3 Try.results44 rfl (LdV_S Try.underlying31 rfl ti31 (by repeat constructor) rfl) rfl rfl) ⟨none, 0, adQ, cQ, xO, rfl, rfl, rfl⟩
                 | exact hret (Res_c3 Try.results44 rfl (LdV_S Try.underlying31 rfl ti31 (by repeat constructor) rfl) rfl rfl) ⟨adK, cK, adQ, cQ, xO, rfl, rfl, rfl⟩
          ·refine S_run 6 rfl ?_; refine S_y rfl rfl rfl (Y_fa ly31 rfl rfl rfl) ?_; refine S_y rfl rfl rfl (Y_ld u3 rfl rfl rfl) ?_; refine S_run 3 rfl <| S_nil ?_; refine C_if rfl (fun h84 => ?_) (fun h84 => ?_)
           ·refine C_seq <| C_region ?_; refine S_nilarr (elI .i64) 3 ?_; have e := e0; rw [if_pos (by omega)] at e; refine S_y rfl rfl rfl (Y_build [.const (.int .i64 0), .const (.int .i64 0), .const (.int .i64 0)] bt31 rfl rfl rfl rfl) ?_; refine S_stS rfl rfl rfl ti31 rfl rfl rfl rfl (by repeat constructor) (by rfl) ?_; refine S_run 2 rfl <| S_nil ?_; rw [e] at hret
            first
              | exact hret (Res_c3 Try.results44 rfl (LdV_S Try.underlying31 rfl ti31 (by repeat constructor) rfl) rfl rfl) ⟨none, 0, adP, cP, none, rfl, rfl, rfl⟩
              | exact hret (Res_c3 Try.results44 rfl (LdV_S Try.underlying31 rfl ti31 (by repeat constructor) rfl) rfl rfl) ⟨none, 0, adP, cP, xO, rfl, rfl, rfl⟩
              | exact hret (Res_c3 Try.results44 rfl (LdV_S Try.underlying31 rfl ti31 (by repeat constructor) rfl) rfl rfl) ⟨none, 0, adR0, cR0, xO, rfl, rfl, rfl⟩
              | exact hret (Res_c3 Try.results44 rfl (LdV_S Try.underlying31 rfl ti31 (by repeat constructor) rfl) rfl rfl) ⟨none, 0, adQ, cQ, xO, rfl, rfl, rfl⟩
              | exact hret (Res_c3 Try.results44 rfl (LdV_S Try.underlying31 rfl ti31 (by repeat constructor) rfl) rfl rfl) ⟨adK, cK, adQ, cQ, xO, rfl, rfl, rfl⟩
           ·have hglen := hgi.len; have hfew := hmol.ok.few; have hkeys : KeysOK (changeN E key (depthT t - 1) m [] t.root).g := ⟨hgi.nd, fun p hp => by have := hgi.lo p hp; omega, fun p hp => by have := hgi.hi p hp; omega, by omega⟩; have e := e0; rw [if_neg (by omega)] at e; refine C_skip <| C_blk <| C_seq ?_; refine C_draw rfl ?_; refine c_p 1 1020 ?_; refine c_p 2 1016 ?_; refine c_f 3 1008 ly108 ?_; refine c_r 4 992 (by kernel_rfl) rfl rfl rfl rfl (Y_ld u106 rfl rfl rfl) ?_; refine C_two (i := 0) (j := 5) (by kernel_rfl) rfl rfl ?_ ?_
            ·refine S_y rfl rfl rfl (Y_ldS Try.underlying31 rfl ti31 rfl rfl) ?_; refine S_nil ?_; refine C_one (i := 5) (by kernel_rfl) rfl ?_; refine S_enter rfl rfl rfl (E_fn rfl rfl) keys_ok ?_; rintro _ _ _ ⟨bK, rfl, rfl, rfl⟩; (try dsimp only [c_a, n_a]); refine S_nil ?_; refine C_one (i := 6) (by kernel_rfl) rfl ?_; refine S_enter rfl rfl rfl (E_fn rfl rfl) (sorted_ok hkeys) ?_; rintro _ _ _ ⟨adK, cK, rfl, rfl, rfl⟩; (try dsimp only [c_a, n_a]); refine S_nil ?_; refine C_one (i := 7) (by kernel_rfl) rfl ?_; refine S_stS rfl rfl rfl ti31 rfl rfl rfl rfl (by repeat constructor) (by rfl) ?_; refine S_nil ?_; refine c_p 8 512 ?_; refine c_p 9 0 ?_; refine c_d ?_; rw [e] at hret
             first
               | exact hret (Res_c3 Try.results44 rfl (LdV_S Try.underlying31 rfl ti31 (by repeat constructor) rfl) rfl rfl) ⟨none, 0, adP, cP, none, rfl, rfl, rfl⟩
               | exact hret (Res_c3 Try.results44 rfl (LdV_S Try.underlying31 rfl ti31 (by repeat constructor) rfl) rfl rfl) ⟨none, 0, adP, cP, xO, rfl, rfl, rfl⟩
               | exact hret (Res_c3 Try.results44 rfl (LdV_S Try.underlying31 rfl ti31 (by repeat constructor) rfl) rfl rfl) ⟨none, 0, adR0, cR0, xO, rfl, rfl, rfl⟩
               | exact hret (Res_c3 Try.results44 rfl (LdV_S Try.underlying31 rfl ti31 (by repeat constructor) rfl) rfl rfl) ⟨none, 0, adQ, cQ, xO, rfl, rfl, rfl⟩
               | exact hret (Res_c3 Try.results44 rfl (LdV_S Try.underlying31 rfl ti31 (by repeat constructor) rfl) rfl rfl) ⟨adK, cK, adQ, cQ, xO, rfl, rfl, rfl⟩
            ·refine S_enter rfl rfl rfl (E_fn rfl rfl) keys_ok ?_; rintro _ _ _ ⟨bK, rfl, rfl, rfl⟩; (try dsimp only [c_a, n_a]); refine S_nil ?_; refine C_two (i := 0) (j := 6) (by kernel_rfl) rfl rfl ?_ ?_
             ·refine S_y rfl rfl rfl (Y_ldS Try.underlying31 rfl ti31 rfl rfl) ?_; refine S_nil ?_; refine C_one (i := 6) (by kernel_rfl) rfl ?_; refine S_enter rfl rfl rfl (E_fn rfl rfl) (sorted_ok hkeys) ?_; rintro _ _ _ ⟨adK, cK, rfl, rfl, rfl⟩; (try dsimp only [c_a, n_a]); refine S_nil ?_; refine C_one (i := 7) (by kernel_rfl) rfl ?_; refine S_stS rfl rfl rfl ti31 rfl rfl rfl rfl (by repeat constructor) (by rfl) ?_; refine S_nil ?_; refine c_p 8 512 ?_; refine c_p 9 0 ?_; refine c_d ?_; rw [e] at hret
              first
                | exact hret (Res_c3 Try.results44 rfl (LdV_S Try.underlying31 rfl ti31 (by repeat constructor) rfl) rfl rfl) ⟨none, 0, adP, cP, none, rfl, rfl, rfl⟩
                | exact hret (Res_c3 Try.results44 rfl (LdV_S Try.underlying31 rfl ti31 (by repeat constructor) rfl) rfl rfl) ⟨none, 0, adP, cP, xO, rfl, rfl, rfl⟩
                | exact hret (Res_c3 Try.results44 rfl (LdV_S Try.underlying31 rfl ti31 (by repeat constructor) rfl) rfl rfl) ⟨none, 0, adR0, cR0, xO, rfl, rfl, rfl⟩
                | exact hret (Res_c3 Try.results44 rfl (LdV_S Try.underlying31 rfl ti31 (by repeat constructor) rfl) rfl rfl) ⟨none, 0, adQ, cQ, xO, rfl, rfl, rfl⟩
                | exact hret (Res_c3 Try.results44 rfl (LdV_S Try.underlying31 rfl ti31 (by repeat constructor) rfl) rfl rfl) ⟨adK, cK, adQ, cQ, xO, rfl, rfl, rfl⟩
             ·refine S_enter rfl rfl rfl (E_fn rfl rfl) (sorted_ok hkeys) ?_; rintro _ _ _ ⟨adK, cK, rfl, rfl, rfl⟩; (try dsimp only [c_a, n_a]); refine S_nil ?_; refine c_r 0 896 (by kernel_rfl) rfl rfl rfl rfl (Y_ldS Try.underlying31 rfl ti31 rfl rfl) ?_; refine C_one (i := 7) (by kernel_rfl) rfl ?_; refine S_stS rfl rfl rfl ti31 rfl rfl rfl rfl (by repeat constructor) (by rfl) ?_; refine S_nil ?_; refine c_p 8 512 ?_; refine c_p 9 0 ?_; refine c_d ?_; rw [e] at hret
              first
                | exact hret (Res_c3 Try.results44 rfl (LdV_S Try.underlying31 rfl ti31 (by repeat constructor) rfl) rfl rfl) ⟨none, 0, adP, cP, none, rfl, rfl, rfl⟩
                | exact hret (Res_c3 Try.results44 rfl (LdV_S Try.underlying31 rfl ti31 (by repeat constructor) rfl) rfl rfl) ⟨none, 0, adP, cP, xO, rfl, rfl, rfl⟩
                | exact hret (Res_c3 Try.results44 rfl (LdV_S Try.underlying31 rfl ti31 (by repeat constructor) rfl) rfl rfl) ⟨none, 0, adR0, cR0, xO, rfl, rfl, rfl⟩
                | exact hret (Res_c3 Try.results44 rfl (LdV_S Try.underlying31 rfl ti31 (by repeat constructor) rfl) rfl rfl) ⟨none, 0, adQ, cQ, xO, rfl, rfl, rfl⟩
                | exact hret (Res_c3 Try.results44 rfl (LdV_S Try.underlying31 rfl ti31 (by repeat constructor) rfl) rfl rfl) ⟨adK, cK, adQ, cQ, xO, rfl, rfl, rfl⟩
       ·refine C_skip <| C_seq <| C_block <| C_seq <| C_region <| S_run 3 rfl <| S_nil ?_; refine C_if rfl (fun h79 => ?_) (fun h79 => ?_)
        ·refine C_seq <| C_region ?_; refine S_nilarr (elI .i64) 3 ?_; have e := e0; rw [if_pos (by omega)] at e; refine S_y rfl rfl rfl (Y_build [.const (.int .i64 0), .const (.int .i64 0), .const (.int .i64 0)] bt31 rfl rfl rfl rfl) ?_; refine S_run 1 rfl ?_; refine S_stS rfl rfl rfl ti31 rfl rfl rfl rfl (by repeat constructor) (by rfl) ?_; refine S_run 2 rfl <| S_nil ?_; rw [e] at hret
         first
           | exact hret (Res_c3 Try.results44 rfl (LdV_S Try.underlying31 rfl ti31 (by repeat constructor) rfl) rfl rfl) ⟨none, 0, adP, cP, none, rfl, rfl, rfl⟩
           | exact hret (Res_c3 Try.results44 rfl (LdV_S Try.underlying31 rfl ti31 (by repeat constructor) rfl) rfl rfl) ⟨none, 0, adP, cP, xO, rfl, rfl, rfl⟩
           | exact hret (Res_c3 Try.results44 rfl (LdV_S Try.underlying31 rfl ti31 (by repeat constructor) rfl) rfl rfl) ⟨none, 0, adR0, cR0, xO, rfl, rfl, rfl⟩
           | exact hret (Res_c3 Try.results44 rfl (LdV_S Try.underlying31 rfl ti31 (by repeat constructor) rfl) rfl rfl) ⟨none, 0, adQ, cQ, xO, rfl, rfl, rfl⟩
           | exact hret (Res_c3 Try.results44 rfl (LdV_S Try.underlying31 rfl ti31 (by repeat constructor) rfl) rfl rfl) ⟨adK, cK, adQ, cQ, xO, rfl, rfl, rfl⟩
        ·omega
end Go.Proofs.Ytlgbhceifnjdnaa
