/- Walks: WU. -/
import Derived.Test.YtlgbhceifnjdnaaPX
import Derived.Test.YtlgbhceifnjdnaaBY
import Derived.Test.YtlgbhceifnjdnaaWT
import Derived.Test.YtlgbhceifnjdnaaWM
import Derived.Test.YtlgbhceifnjdnaaWH
import Derived.Test.YtlgbhceifnjdnaaWR
import Derived.Test.YtlgbhceifnjdnaaProg
import Derived.KernelRfl
namespace Go.Proofs.Ytlgbhceifnjdnaa
open Go.KX
namespace TWU
theorem u3 : Try.prog.underlying 3 = some (.int .i64) := Try.underlying3
theorem u9 : Try.prog.underlying 9 = some (.string) := Try.underlying9
theorem u74 : Try.prog.underlying 74 = some (.pointer 108) := Try.underlying74
theorem u95 : Try.prog.underlying 95 = some (.pointer 83) := Try.underlying95
theorem u106 : Try.prog.underlying 106 = some (.map 3 4) := Try.underlying106
theorem ti3 : TI Try.prog 3 1 8 (.int .i64 0) := TI_of (by kernel_rfl)
theorem ti9 : TI Try.prog 9 1 16 (str []) := TI_of (by kernel_rfl)
theorem ti31 : TI Try.prog 31 3 24 (.agg #[.int .i64 0, .int .i64 0, .int .i64 0]) := TI_of (by kernel_rfl)
theorem ti74 : TI Try.prog 74 1 8 (.pointer none) := TI_of (by kernel_rfl)
theorem ti83 : TI Try.prog 83 4 48 (.agg #[str [], str [], .int .i64 0, .int .i64 0]) := TI_of (by kernel_rfl)
theorem ti95 : TI Try.prog 95 1 8 (.pointer none) := TI_of (by kernel_rfl)
theorem ly31 : LY Try.prog 31 [(0, 1, false), (1, 1, false), (2, 1, false)] := LY_of Try.underlying31 (by kernel_rfl)
theorem ly83 : LY Try.prog 83 [(0, 1, false), (1, 1, false), (2, 1, false), (3, 1, false)] := LY_of Try.underlying83 (by kernel_rfl)
theorem ly108 : LY Try.prog 108 [(0, 1, false), (1, 1, false)] := LY_of Try.underlying108 (by kernel_rfl)
theorem bt31 : BT Try.prog 31 [(0, 1), (1, 1), (2, 1)] [.int .i64 0, .int .i64 0, .int .i64 0] := BT_of (pl := [(0, 1, false), (1, 1, false), (2, 1, false)]) Try.underlying31 (by kernel_rfl) ti31
theorem bt83 : BT Try.prog 83 [(0, 1), (1, 1), (2, 1), (3, 1)] [str [], str [], .int .i64 0, .int .i64 0] := BT_of (pl := [(0, 1, false), (1, 1, false), (2, 1, false), (3, 1, false)]) Try.underlying83 (by kernel_rfl) ti83
end TWU
open TWU
theorem without_ok {bm : Nat} {m : Mem} {adP : Option Addr} {cP : Nat} {bw bg c : Nat} {x : Option (Nat × Nat)} {ad : Option Addr} {t : Tree} {gone : List Int} {e : Int} {old : Option Cell} (hm : MOK m) (hco : ∀ c, old = some c → CellOK c) (hgl : gone.length ≤ 10000000000) :
    Spx Try.prog 49 #[.pointer (some ⟨bw, 0, none⟩), .agg (treeC t), .slice ad gone.length c, .int .i64 e, oldV x] [PtM bw 0 [.iface 26 (.pointer (some ⟨bm, 0, none⟩)), .map (some bg)], OldF x old] [Res.mp (fun n : Int => Value.int .i64 n) (fun _ : Unit => Value.bool true) bg [], Res.blk bm (.cells (memC m adP cP) 29 (0, 0)), Res.arr elS 9 adP cP (m).pages, Res.arr (elI .i64) 3 ad c gone] (fun v fs' own' => ∃ ad' c', v = .tuple #[.agg (treeC (withoutN m t gone e old).1), .slice ad' (withoutN m t gone e old).2.1.length c', .int .i64 (withoutN m t gone e old).2.2] ∧ fs' = [] ∧ own' = [Res.blk bm (.cells (memC m adP cP) 29 (0, 0)), Res.arr elS 9 adP cP (m).pages, Res.arr (elI .i64) 3 ad' c' (withoutN m t gone e old).2.1]) := by
  have hc : Callable Try.prog 49 := (withoutZ_ok (bm := bm) (m := m) (adP := adP) (cP := cP) (bw := bw) (bg := bg) (c := c) (ad := ad) (t := t) (gone := gone) (e := e) hm hgl).1
  cases x with
  | none =>
    cases old with
    | none => exact Spx.sub (withoutZ_ok hm hgl) (.cons .head .nil)
    | some cl => exact Spx.absurd hc (fun g h => h _ (.tail _ (.head _)))
  | some q =>
    obtain ⟨bq, oq⟩ := q
    cases old with
    | none => exact Spx.absurd hc (fun g h => h _ (.tail _ (.head _)))
    | some cl => exact withoutS_ok hm (hco cl rfl) hgl
theorem turn_ok {bm : Nat} {m : Mem} {adP : Option Addr} {cP : Nat} {bo fn : Nat} {fi ca : Array Value} {fA fB : MF} {t : Tree} {key : Bytes} {E : Edit} (hm : MOL m) (hE : EditOK E) (hf : ∀ (ad : Option Addr) (c : Nat) (l : List Cell), (∀ x ∈ l, CellOK x) → l.length ≤ 1000000 → Spx Try.prog fn (fi ++ #[.slice ad l.length c] ++ ca) [fA, fB] [Res.arr elCell 83 ad c l, Res.blk bo (.cells #[oldV none] 95 (0, 0))] (fun v fs' own' => ∃ ad' c' x, v = .tuple #[.slice ad' (E l).1.length c', .int .i64 (E l).2.1, .int .i64 (E l).2.2.1] ∧ fs' = [OldF x (E l).2.2.2] ∧ own' = [Res.arr elCell 83 ad' c' (E l).1, Res.blk bo (.cells #[oldV x] 95 (0, 0))])) :
    Spx Try.prog 44 #[.iface 26 (.pointer (some ⟨bm, 0, none⟩)), .agg (treeC t), str key, .func (.func fn) fi ca] [fA, fB] [Res.blk bm (.cells (memC m adP cP) 29 (0, 0)), Res.arr elS 9 adP cP (m).pages, Res.blk bo (.cells #[oldV none] 95 (0, 0))] (fun v fs' own' => ∃ ad' c' adP' cP' x, v = .tuple #[.agg (treeC (turnN E m t key).t), .slice ad' (turnN E m t key).gone.length c', .int .i64 (turnN E m t key).e] ∧ fs' = [OldF x (turnN E m t key).old] ∧ own' = [Res.arr (elI .i64) 3 ad' c' (turnN E m t key).gone, Res.blk bm (.cells (memC (turnN E m t key).m adP' cP') 29 (0, 0)), Res.arr elS 9 adP' cP' ((turnN E m t key).m).pages, Res.blk bo (.cells #[oldV x] 95 (0, 0))]) := by
  by_cases hz : t.root = 0
  · exact turnZ_ok hm hE hf hz
  · exact turnC_ok hm hE hf hz
set_option maxRecDepth 100000 in
set_option maxHeartbeats 4000000 in
theorem bput_ok {bm : Nat} {m : Mem} {adP : Option Addr} {cP : Nat} {t : Tree} {key value : Bytes} (hm : MOL m) : Spx Try.prog 23 #[.iface 26 (.pointer (some ⟨bm, 0, none⟩)), .agg (treeC t), str key, str value] [] [Res.blk bm (.cells (memC m adP cP) 29 (0, 0)), Res.arr elS 9 adP cP (m).pages] (fun v fs' own' => ∃ ad' c' adP' cP', v = .tuple #[.agg (treeC (putN m t key value).t), .slice ad' (putN m t key value).gone.length c', .int .i64 (putN m t key value).e] ∧ fs' = [] ∧ own' = [Res.arr (elI .i64) 3 ad' c' (putN m t key value).gone, Res.blk bm (.cells (memC (putN m t key value).m adP' cP') 29 (0, 0)), Res.arr elS 9 adP' cP' ((putN m t key value).m).pages]) := by
 refine Spx_of_body (fn := Try.f23) 85 Try.func23 rfl (by kernel_rfl) rfl (Nat.le_of_ble_eq_true rfl) (fun g0 Q hret hend => ?_); dsimp only [initL]; refine C_seq <| C_region ?_; refine S_box rfl rfl rfl rfl rfl rfl (fun b5 => ?_); refine S_box rfl rfl rfl rfl rfl rfl (fun b6 => ?_); refine S_alloc rfl rfl rfl rfl ti31 rfl (fun b8 => ?_); refine S_run 2 rfl <| S_nil <| C_seq <| C_region <| S_run 1 rfl ?_; refine S_enter rfl rfl rfl (E_fn rfl rfl) begin_ok ?_; rintro _ _ _ (⟨hsz, rfl, rfl, rfl⟩ | ⟨hsz, bw, bg, rfl, rfl, rfl⟩)
 ·try dsimp only [c_a, n_a]
  refine S_run 5 rfl <| S_nil <| C_seq <| C_block <| C_seq <| C_region <| S_run 3 rfl <| S_nil ?_; refine C_if rfl (fun h22 => ?_) (fun h22 => ?_)
  ·refine C_seq <| C_region ?_; refine S_nilarr (elI .i64) 3 ?_; have e : (putN m t key value) = ⟨m, tree0, [], 2⟩ := by unfold putN; exact if_pos hsz
   refine S_y rfl rfl rfl (Y_build [.const (.int .i64 0), .const (.int .i64 0), .const (.int .i64 0)] bt31 rfl rfl rfl rfl) ?_; refine S_run 1 rfl ?_; refine S_stS rfl rfl rfl ti31 rfl rfl rfl rfl (by repeat constructor) (by rfl) ?_; refine S_run 2 rfl <| S_nil ?_; rw [e] at hret; exact hret (Res_c3 Try.results23 rfl (LdV_S Try.underlying31 rfl ti31 (by repeat constructor) rfl) rfl rfl) ⟨none, 0, adP, cP, rfl, rfl, rfl⟩
  ·omega
 ·try dsimp only [c_a, n_a]
  refine S_run 5 rfl <| S_nil <| C_seq <| C_block <| C_seq <| C_region <| S_run 3 rfl <| S_nil ?_; refine C_if rfl (fun h22 => ?_) (fun h22 => ?_)
  ·omega
  ·refine C_seq <| C_region ?_; refine S_y rfl rfl rfl (Y_ld u9 rfl rfl rfl) ?_; refine S_enter rfl rfl rfl (E_fn rfl rfl) rkey_ok ?_; rintro _ _ _ ⟨rfl, rfl, rfl⟩; (try dsimp only [c_a, n_a]); refine S_run 2 rfl ?_; refine S_bool 31 rfl (fun h31 => ?_) (fun h31 => ?_)
   ·refine S_run 5 rfl <| S_nil ?_; refine C_cond_t rfl ?_; refine C_seq <| C_region ?_; refine S_nilarr (elI .i64) 3 ?_
    have e : (putN m t key value) = ⟨m, tree0, [], 50⟩ := by
      unfold putN; rw [if_neg (by omega)]; refine if_pos ?_
      first | exact .inr (by omega) | exact .inl (fun hp => by rw [decide_eq_true hp] at h31; cases h31)
    refine S_y rfl rfl rfl (Y_build [.const (.int .i64 0), .const (.int .i64 0), .const (.int .i64 0)] bt31 rfl rfl rfl rfl) ?_; refine S_stS rfl rfl rfl ti31 rfl rfl rfl rfl (by repeat constructor) (by rfl) ?_; refine S_run 2 rfl <| S_nil ?_; rw [e] at hret; exact hret (Res_c3 Try.results23 rfl (LdV_S Try.underlying31 rfl ti31 (by repeat constructor) rfl) rfl rfl) ⟨none, 0, adP, cP, rfl, rfl, rfl⟩
   ·have hkey : key ≠ [] ∧ key.length ≤ 64 := Decidable.byContradiction fun hp => by rw [decide_eq_false hp] at h31; cases h31
    refine S_run 1 rfl ?_; refine S_y rfl rfl rfl (Y_strlen rfl rfl u9) ?_; refine S_run 3 rfl <| S_nil ?_; refine C_if rfl (fun h27 => ?_) (fun h27 => ?_)
    ·refine C_seq <| C_region ?_; refine S_nilarr (elI .i64) 3 ?_
     have e : (putN m t key value) = ⟨m, tree0, [], 50⟩ := by
       unfold putN; rw [if_neg (by omega)]; refine if_pos ?_
       first | exact .inr (by omega) | exact .inl (fun hp => by rw [decide_eq_true hp] at h31; cases h31)
     refine S_y rfl rfl rfl (Y_build [.const (.int .i64 0), .const (.int .i64 0), .const (.int .i64 0)] bt31 rfl rfl rfl rfl) ?_; refine S_stS rfl rfl rfl ti31 rfl rfl rfl rfl (by repeat constructor) (by rfl) ?_; refine S_run 2 rfl <| S_nil ?_; rw [e] at hret; exact hret (Res_c3 Try.results23 rfl (LdV_S Try.underlying31 rfl ti31 (by repeat constructor) rfl) rfl rfl) ⟨none, 0, adP, cP, rfl, rfl, rfl⟩
    ·refine C_seq <| C_region ?_; have hval : value.length ≤ 16384 := by omega
     refine S_y rfl rfl rfl (Y_ldS Try.underlying31 rfl ti31 rfl rfl) ?_; refine S_enter rfl rfl rfl (E_fn rfl rfl) (right_ok (t := t)) ?_; rintro _ _ _ ⟨rfl, rfl, rfl⟩; (try dsimp only [c_a, n_a]); refine S_run 2 rfl <| S_nil ?_; refine C_cond rfl (fun h37 => ?_) (fun h37 => ?_)
     ·refine C_seq <| C_region ?_; refine S_nilarr (elI .i64) 3 ?_
      have e : (putN m t key value) = ⟨m, tree0, [], 51⟩ := by
        unfold putN; rw [if_neg (by omega), if_neg (by rintro (q | q); exact q hkey; omega)]; exact if_pos (by cases hq : rightT t with | false => rfl | true => (rw [hq] at h37; cases h37))
      refine S_y rfl rfl rfl (Y_build [.const (.int .i64 0), .const (.int .i64 0), .const (.int .i64 0)] bt31 rfl rfl rfl rfl) ?_; refine S_stS rfl rfl rfl ti31 rfl rfl rfl rfl (by repeat constructor) (by rfl) ?_; refine S_run 2 rfl <| S_nil ?_; rw [e] at hret; exact hret (Res_c3 Try.results23 rfl (LdV_S Try.underlying31 rfl ti31 (by repeat constructor) rfl) rfl rfl) ⟨none, 0, adP, cP, rfl, rfl, rfl⟩
     ·have hright : rightT t = true := by cases hq : rightT t with | true => rfl | false => (rw [hq] at h37; cases h37)
      refine C_skip <| C_blk <| C_seq <| C_region ?_; have hs1 := hm.size; have hq0 : 0 ≤ (m.size - 8).tdiv 8 := Int.tdiv_nonneg (by omega) (by omega); have hq1 : (m.size - 8).tdiv 8 ≤ m.size - 8 := Int.tdiv_le_self _ (by omega); refine S_y rfl rfl rfl (Y_ld u9 rfl rfl rfl) ?_; refine S_run 1 rfl ?_; refine S_y rfl rfl rfl (Y_build [.const (.int .i64 0), .const (.int .i64 0), .tmp 43, .tmp 42] bt83 rfl rfl rfl rfl) ?_; refine S_alloc rfl rfl rfl rfl ti83 rfl (fun b13 => ?_); refine S_stS rfl rfl rfl ti83 rfl rfl rfl rfl (by repeat constructor) (by rfl) ?_; refine S_nil <| C_seq <| C_seq <| C_region <| S_run 1 rfl ?_; refine S_y rfl rfl rfl (Y_strlen rfl rfl u9) ?_; refine S_run 1 rfl ?_; refine S_enter rfl rfl rfl (E_inv rfl rfl rfl (by intro w; kernel_rfl)) mroom_ok ?_; rintro _ _ _ ⟨rfl, rfl, rfl⟩; (try dsimp only [c_a, n_a]); refine S_y rfl rfl rfl (Y_subi rfl rfl rfl (by omega) (by omega)) ?_; refine S_y rfl rfl rfl ((Y_quo rfl rfl rfl (by decide)).as (v' := .int .i64 ((m.size - 8).tdiv 8)) (by rw [wrap_i64 (by omega) (by omega)])) ?_; refine S_run 1 rfl <| S_nil ?_; refine C_if rfl (fun h51 => ?_) (fun h51 => ?_)
      ·refine C_seq <| C_seq <| C_region <| S_run 2 rfl ?_; refine S_enter rfl rfl rfl (E_fn rfl rfl) (long_ok hm (by omega) (by omega) (by omega)) ?_; rintro _ _ _ ⟨adL, cL, rfl, rfl, rfl⟩; (try dsimp only [c_a, n_a]); refine S_run 3 rfl ?_; refine S_y rfl rfl rfl (Y_fa ly83 rfl rfl rfl) ?_; refine S_st rfl rfl rfl ti3 rfl rfl rfl (by repeat constructor) (by rfl) ?_; refine S_run 1 rfl <| S_nil <| C_seq <| C_region <| S_run 2 rfl <| S_nil ?_; refine C_if rfl (fun h60 => ?_) (fun h60 => ?_)
       ·refine C_seq <| C_region ?_; refine S_nilarr (elI .i64) 3 ?_; have hcn : cellN m key value = ((longN m value).1, ⟨key, [], (longN m value).2.1, value.length⟩, (longN m value).2.2) := by unfold cellN; exact if_pos (by omega)
        have e : (putN m t key value) = ⟨(longN m value).1, tree0, [], (longN m value).2.2⟩ := by
          unfold putN; rw [if_neg (by omega), if_neg (by rintro (q | q); exact q hkey; omega), if_neg (by rw [hright]; decide)]; dsimp only; rw [hcn]; exact if_pos (by dsimp only; omega)
        refine S_y rfl rfl rfl (Y_build [.const (.int .i64 0), .const (.int .i64 0), .const (.int .i64 0)] bt31 rfl rfl rfl rfl) ?_; refine S_run 1 rfl ?_; refine S_stS rfl rfl rfl ti31 rfl rfl rfl rfl (by repeat constructor) (by rfl) ?_; refine S_run 2 rfl <| S_nil ?_; rw [e] at hret; exact hret (Res_c3 Try.results23 rfl (LdV_S Try.underlying31 rfl ti31 (by repeat constructor) rfl) rfl rfl) ⟨none, 0, adL, cL, rfl, rfl, rfl⟩
       ·refine C_skip <| C_region <| S_run 1 rfl ?_; refine S_y rfl rfl rfl (Y_strlen rfl rfl u9) ?_; refine S_y rfl rfl rfl (Y_fa ly83 rfl rfl rfl) ?_; refine S_st rfl rfl rfl ti9 rfl rfl rfl (by repeat constructor) (by rfl) ?_; refine S_y rfl rfl rfl (Y_fa ly83 rfl rfl rfl) ?_; refine S_st rfl rfl rfl ti3 rfl rfl rfl (by repeat constructor) (by rfl) ?_; refine S_nil <| C_seq <| C_region ?_; have hlg := longN_props hm value; have hcn : cellN m key value = ((longN m value).1, (⟨key, [], (longN m value).2.1, value.length⟩ : Cell), 0) := by unfold cellN; rw [if_pos (by omega)]; dsimp only; rw [show (longN m value).2.2 = 0 by omega]
        have hck := cellN_ok (key := key) (value := value) hm hkey.2 hval; rw [hcn] at hck; obtain ⟨k1, k2, k3, k4, k5⟩ := hck; dsimp only at k1 k2 k3 k4 k5; have hto := turnN_ok (putE_ok (key := key) k4) putE_old k1 t key; have hgf := hto.few
        have e0 : (putN m t key value) = ⟨(turnN (putE key (⟨key, [], (longN m value).2.1, value.length⟩ : Cell)) (longN m value).1 t key).m, (withoutN (turnN (putE key (⟨key, [], (longN m value).2.1, value.length⟩ : Cell)) (longN m value).1 t key).m (turnN (putE key (⟨key, [], (longN m value).2.1, value.length⟩ : Cell)) (longN m value).1 t key).t (turnN (putE key (⟨key, [], (longN m value).2.1, value.length⟩ : Cell)) (longN m value).1 t key).gone (turnN (putE key (⟨key, [], (longN m value).2.1, value.length⟩ : Cell)) (longN m value).1 t key).e (turnN (putE key (⟨key, [], (longN m value).2.1, value.length⟩ : Cell)) (longN m value).1 t key).old).1, (withoutN (turnN (putE key (⟨key, [], (longN m value).2.1, value.length⟩ : Cell)) (longN m value).1 t key).m (turnN (putE key (⟨key, [], (longN m value).2.1, value.length⟩ : Cell)) (longN m value).1 t key).t (turnN (putE key (⟨key, [], (longN m value).2.1, value.length⟩ : Cell)) (longN m value).1 t key).gone (turnN (putE key (⟨key, [], (longN m value).2.1, value.length⟩ : Cell)) (longN m value).1 t key).e (turnN (putE key (⟨key, [], (longN m value).2.1, value.length⟩ : Cell)) (longN m value).1 t key).old).2.1, (withoutN (turnN (putE key (⟨key, [], (longN m value).2.1, value.length⟩ : Cell)) (longN m value).1 t key).m (turnN (putE key (⟨key, [], (longN m value).2.1, value.length⟩ : Cell)) (longN m value).1 t key).t (turnN (putE key (⟨key, [], (longN m value).2.1, value.length⟩ : Cell)) (longN m value).1 t key).gone (turnN (putE key (⟨key, [], (longN m value).2.1, value.length⟩ : Cell)) (longN m value).1 t key).e (turnN (putE key (⟨key, [], (longN m value).2.1, value.length⟩ : Cell)) (longN m value).1 t key).old).2.2⟩ := by
          unfold putN; rw [if_neg (by omega), if_neg (by rintro (q | q); exact q hkey; omega), if_neg (by rw [hright]; decide)]; dsimp only; rw [hcn]; dsimp only; rw [if_neg (by decide)]
        refine S_alloc rfl rfl rfl rfl ti95 rfl (fun b14 => ?_); refine S_nil <| C_seq <| C_region ?_; refine S_blkAs (b := b13) (cs' := (encCell (⟨key, [], (longN m value).2.1, value.length⟩ : Cell)).toArray) (by repeat constructor) rfl ?_; refine S_frz (b := b13) (by repeat constructor) ?_; refine S_frz (b := b6) (by repeat constructor) ?_; refine S_run 1 rfl ?_; refine S_y rfl rfl rfl (Y_ldS Try.underlying31 rfl ti31 rfl rfl) ?_; refine S_y rfl rfl rfl (Y_ld u9 rfl rfl rfl) ?_; refine S_run 1 rfl ?_; refine S_enter rfl rfl rfl (E_fn rfl rfl) (turn_ok (bo := b14) (fn := 45) (fi := #[]) (ca := #[.pointer (some ⟨b6, 0, none⟩), .pointer (some ⟨b14, 0, none⟩), .pointer (some ⟨b13, 0, none⟩)]) (fA := PtM b6 0 [str key]) (fB := PtM b13 0 (encCell (⟨key, [], (longN m value).2.1, value.length⟩ : Cell))) (E := putE key (⟨key, [], (longN m value).2.1, value.length⟩ : Cell)) k1 (putE_ok k4) (fun ad c l h1 h2 => put1_ok (by omega))) ?_; rintro _ _ _ ⟨adT, cT, adR, cR, xO, rfl, rfl, rfl⟩; (try dsimp only [c_a, n_a]); refine S_run 4 rfl ?_; refine S_alloc rfl rfl rfl rfl ti31 rfl (fun b15 => ?_); refine S_stS rfl rfl rfl ti31 rfl rfl rfl rfl (by repeat constructor) (by rfl) ?_; refine S_run 2 rfl <| S_nil <| C_seq <| C_region <| S_run 1 rfl ?_; refine S_y rfl rfl rfl (Y_ldS Try.underlying31 rfl ti31 rfl rfl) ?_; refine S_run 2 rfl ?_; refine S_y rfl rfl rfl (Y_ld u95 rfl rfl rfl) ?_; refine S_enter rfl rfl rfl (E_fn rfl rfl) (without_ok (x := xO) (old := (turnN (putE key (⟨key, [], (longN m value).2.1, value.length⟩ : Cell)) (longN m value).1 t key).old) hto.mol.ok hto.old (by omega)) ?_; rintro _ _ _ ⟨adW, cW, rfl, rfl, rfl⟩; (try dsimp only [c_a, n_a]); refine S_run 3 rfl ?_; refine S_stS rfl rfl rfl ti31 rfl rfl rfl rfl (by repeat constructor) (by rfl) ?_; refine S_run 2 rfl <| S_nil ?_; rw [e0] at hret; exact hret (Res_c3 Try.results23 rfl (LdV_S Try.underlying31 rfl ti31 (by repeat constructor) rfl) rfl rfl) ⟨adW, cW, adR, cR, rfl, rfl, rfl⟩
      ·refine C_skip <| C_seq <| C_region ?_; have hcn : cellN m key value = (m, (⟨key, value, 0, 0⟩ : Cell), 0) := by unfold cellN; exact if_neg (by omega)
       have hck := cellN_ok (key := key) (value := value) hm hkey.2 hval; rw [hcn] at hck; obtain ⟨k1, k2, k3, k4, k5⟩ := hck; dsimp only at k1 k2 k3 k4 k5; have hto := turnN_ok (putE_ok (key := key) k4) putE_old k1 t key; have hgf := hto.few
       have e0 : (putN m t key value) = ⟨(turnN (putE key (⟨key, value, 0, 0⟩ : Cell)) m t key).m, (withoutN (turnN (putE key (⟨key, value, 0, 0⟩ : Cell)) m t key).m (turnN (putE key (⟨key, value, 0, 0⟩ : Cell)) m t key).t (turnN (putE key (⟨key, value, 0, 0⟩ : Cell)) m t key).gone (turnN (putE key (⟨key, value, 0, 0⟩ : Cell)) m t key).e (turnN (putE key (⟨key, value, 0, 0⟩ : Cell)) m t key).old).1, (withoutN (turnN (putE key (⟨key, value, 0, 0⟩ : Cell)) m t key).m (turnN (putE key (⟨key, value, 0, 0⟩ : Cell)) m t key).t (turnN (putE key (⟨key, value, 0, 0⟩ : Cell)) m t key).gone (turnN (putE key (⟨key, value, 0, 0⟩ : Cell)) m t key).e (turnN (putE key (⟨key, value, 0, 0⟩ : Cell)) m t key).old).2.1, (withoutN (turnN (putE key (⟨key, value, 0, 0⟩ : Cell)) m t key).m (turnN (putE key (⟨key, value, 0, 0⟩ : Cell)) m t key).t (turnN (putE key (⟨key, value, 0, 0⟩ : Cell)) m t key).gone (turnN (putE key (⟨key, value, 0, 0⟩ : Cell)) m t key).e (turnN (putE key (⟨key, value, 0, 0⟩ : Cell)) m t key).old).2.2⟩ := by
         unfold putN; rw [if_neg (by omega), if_neg (by rintro (q | q); exact q hkey; omega), if_neg (by rw [hright]; decide)]; dsimp only; rw [hcn]; dsimp only; rw [if_neg (by decide)]
       refine S_alloc rfl rfl rfl rfl ti95 rfl (fun b14 => ?_); refine S_nil <| C_seq <| C_region ?_; refine S_blkAs (b := b13) (cs' := (encCell (⟨key, value, 0, 0⟩ : Cell)).toArray) (by repeat constructor) rfl ?_; refine S_frz (b := b13) (by repeat constructor) ?_; refine S_frz (b := b6) (by repeat constructor) ?_; refine S_run 1 rfl ?_; refine S_y rfl rfl rfl (Y_ldS Try.underlying31 rfl ti31 rfl rfl) ?_; refine S_y rfl rfl rfl (Y_ld u9 rfl rfl rfl) ?_; refine S_run 1 rfl ?_; refine S_enter rfl rfl rfl (E_fn rfl rfl) (turn_ok (bo := b14) (fn := 45) (fi := #[]) (ca := #[.pointer (some ⟨b6, 0, none⟩), .pointer (some ⟨b14, 0, none⟩), .pointer (some ⟨b13, 0, none⟩)]) (fA := PtM b6 0 [str key]) (fB := PtM b13 0 (encCell (⟨key, value, 0, 0⟩ : Cell))) (E := putE key (⟨key, value, 0, 0⟩ : Cell)) k1 (putE_ok k4) (fun ad c l h1 h2 => put1_ok (by omega))) ?_; rintro _ _ _ ⟨adT, cT, adR, cR, xO, rfl, rfl, rfl⟩; (try dsimp only [c_a, n_a]); refine S_run 4 rfl ?_; refine S_alloc rfl rfl rfl rfl ti31 rfl (fun b15 => ?_); refine S_stS rfl rfl rfl ti31 rfl rfl rfl rfl (by repeat constructor) (by rfl) ?_; refine S_run 2 rfl <| S_nil <| C_seq <| C_region <| S_run 1 rfl ?_; refine S_y rfl rfl rfl (Y_ldS Try.underlying31 rfl ti31 rfl rfl) ?_; refine S_run 2 rfl ?_; refine S_y rfl rfl rfl (Y_ld u95 rfl rfl rfl) ?_; refine S_enter rfl rfl rfl (E_fn rfl rfl) (without_ok (x := xO) (old := (turnN (putE key (⟨key, value, 0, 0⟩ : Cell)) m t key).old) hto.mol.ok hto.old (by omega)) ?_; rintro _ _ _ ⟨adW, cW, rfl, rfl, rfl⟩; (try dsimp only [c_a, n_a]); refine S_run 3 rfl ?_; refine S_stS rfl rfl rfl ti31 rfl rfl rfl rfl (by repeat constructor) (by rfl) ?_; refine S_run 2 rfl <| S_nil ?_; rw [e0] at hret; exact hret (Res_c3 Try.results23 rfl (LdV_S Try.underlying31 rfl ti31 (by repeat constructor) rfl) rfl rfl) ⟨adW, cW, adR, cR, rfl, rfl, rfl⟩
set_option maxRecDepth 100000 in
set_option maxHeartbeats 4000000 in
theorem bdel_ok {bm : Nat} {m : Mem} {adP : Option Addr} {cP : Nat} {t : Tree} {key : Bytes} (hm : MOL m) : Spx Try.prog 24 #[.iface 26 (.pointer (some ⟨bm, 0, none⟩)), .agg (treeC t), str key] [] [Res.blk bm (.cells (memC m adP cP) 29 (0, 0)), Res.arr elS 9 adP cP (m).pages] (fun v fs' own' => ∃ ad' c' adP' cP', v = .tuple #[.agg (treeC (delN m t key).t), .slice ad' (delN m t key).gone.length c', .int .i64 (delN m t key).e] ∧ fs' = [] ∧ own' = [Res.arr (elI .i64) 3 ad' c' (delN m t key).gone, Res.blk bm (.cells (memC (delN m t key).m adP' cP') 29 (0, 0)), Res.arr elS 9 adP' cP' ((delN m t key).m).pages]) := by
 refine Spx_of_body (fn := Try.f24) 47 Try.func24 rfl (by kernel_rfl) rfl (Nat.le_of_ble_eq_true rfl) (fun g0 Q hret hend => ?_); dsimp only [initL]; refine C_seq <| C_region ?_; refine S_box rfl rfl rfl rfl rfl rfl (fun b4 => ?_); refine S_box rfl rfl rfl rfl rfl rfl (fun b5 => ?_); refine S_alloc rfl rfl rfl rfl ti31 rfl (fun b6 => ?_); refine S_run 2 rfl <| S_nil <| C_seq <| C_region ?_; refine S_alloc rfl rfl rfl rfl ti95 rfl (fun b9 => ?_); refine S_nil <| C_seq <| C_region <| S_run 1 rfl ?_; refine S_y rfl rfl rfl (Y_ldS Try.underlying31 rfl ti31 rfl rfl) ?_; refine S_y rfl rfl rfl (Y_ld u9 rfl rfl rfl) ?_; refine S_frz (b := b5) (by repeat constructor) ?_; refine S_fact (f := PF True) (fun _ _ => trivial) ?_; have hto := turnN_ok (delE_ok (key := key)) delE_old hm t key; have hgf := hto.few; refine S_run 1 rfl ?_; refine S_enter rfl rfl rfl (E_fn rfl rfl) (turn_ok (bo := b9) (fn := 50) (fi := #[]) (ca := #[.pointer (some ⟨b5, 0, none⟩), .pointer (some ⟨b9, 0, none⟩)]) (fA := PtM b5 0 [str key]) (fB := PF True) (E := delE key) hm delE_ok (fun ad c l h1 h2 => Spx.sub (del1_ok (l := l) (by omega)) (.cons .head .nil))) ?_; rintro _ _ _ ⟨adT, cT, adR, cR, xO, rfl, rfl, rfl⟩; (try dsimp only [c_a, n_a]); refine S_run 4 rfl ?_; refine S_alloc rfl rfl rfl rfl ti31 rfl (fun b10 => ?_); refine S_stS rfl rfl rfl ti31 rfl rfl rfl rfl (by repeat constructor) (by rfl) ?_; refine S_run 2 rfl <| S_nil <| C_seq <| C_seq <| C_region ?_
 rcases xO with _ | ⟨bq, oq⟩
 ·refine S_pure (f := OldF none (turnN (delE key) m t key).old) (φ := (turnN (delE key) m t key).old = none) (by repeat constructor) (fun g h => by cases hq : (turnN (delE key) m t key).old with | none => rfl | some c => (rw [hq] at h; exact h.elim)) (fun hol => ?_)
  have e : (delN m t key) = ⟨(turnN (delE key) m t key).m, (turnN (delE key) m t key).t, (turnN (delE key) m t key).gone, (turnN (delE key) m t key).e⟩ := by
    unfold delN; dsimp only
    split
    · rfl
    · rw [hol]
  refine S_run 3 rfl ?_; refine S_prop 26 rfl (fun h26 => ?_) (fun h26 => ?_)
  ·refine S_run 3 rfl <| S_nil ?_; refine C_cond_t rfl ?_; refine C_seq <| C_region ?_
   have e2 : (delN m t key) = ⟨(turnN (delE key) m t key).m, (turnN (delE key) m t key).t, (turnN (delE key) m t key).gone, (turnN (delE key) m t key).e⟩ := by
     first | exact e | (unfold delN; dsimp only; exact if_pos (by omega))
   refine S_y rfl rfl rfl (Y_ldS Try.underlying31 rfl ti31 rfl rfl) ?_; refine S_run 2 rfl ?_; refine S_stS rfl rfl rfl ti31 rfl rfl rfl rfl (by repeat constructor) (by rfl) ?_; refine S_run 2 rfl <| S_nil ?_
   first
     | (rw [e2] at hret
        exact hret (Res_c3 Try.results24 rfl (LdV_S Try.underlying31 rfl ti31 (by repeat constructor) rfl) rfl rfl) ⟨adT, cT, adR, cR, rfl, rfl, rfl⟩)
     | (rw [e3] at hret
        exact hret (Res_c3 Try.results24 rfl (LdV_S Try.underlying31 rfl ti31 (by repeat constructor) rfl) rfl rfl) ⟨adW, cW, adR, cR, rfl, rfl, rfl⟩)
  ·refine S_y rfl rfl rfl (Y_ld u95 rfl rfl rfl) ?_; refine S_y rfl rfl rfl (Y_eql1 rfl rfl rfl u95 (by rfl) (fun _ => rfl) rfl) ?_; refine S_run 1 rfl <| S_nil ?_; refine C_cond_t rfl ?_; refine C_seq <| C_region ?_
   have e2 : (delN m t key) = ⟨(turnN (delE key) m t key).m, (turnN (delE key) m t key).t, (turnN (delE key) m t key).gone, (turnN (delE key) m t key).e⟩ := by
     first | exact e | (unfold delN; dsimp only; exact if_pos (by omega))
   refine S_y rfl rfl rfl (Y_ldS Try.underlying31 rfl ti31 rfl rfl) ?_; refine S_run 2 rfl ?_; refine S_stS rfl rfl rfl ti31 rfl rfl rfl rfl (by repeat constructor) (by rfl) ?_; refine S_run 2 rfl <| S_nil ?_
   first
     | (rw [e2] at hret
        exact hret (Res_c3 Try.results24 rfl (LdV_S Try.underlying31 rfl ti31 (by repeat constructor) rfl) rfl rfl) ⟨adT, cT, adR, cR, rfl, rfl, rfl⟩)
     | (rw [e3] at hret
        exact hret (Res_c3 Try.results24 rfl (LdV_S Try.underlying31 rfl ti31 (by repeat constructor) rfl) rfl rfl) ⟨adW, cW, adR, cR, rfl, rfl, rfl⟩)
 ·refine S_pure (f := OldF (some (bq, oq)) (turnN (delE key) m t key).old) (φ := ∃ c, (turnN (delE key) m t key).old = some c) (by repeat constructor) (fun g h => by cases hq : (turnN (delE key) m t key).old with | none => (rw [hq] at h; exact h.elim) | some c => exact ⟨c, rfl⟩) (fun hol => ?_); obtain ⟨co, hol⟩ := hol; refine S_run 3 rfl ?_; refine S_prop 26 rfl (fun h26 => ?_) (fun h26 => ?_)
  ·refine S_run 3 rfl <| S_nil ?_; refine C_cond_t rfl ?_; refine C_seq <| C_region ?_
   have e2 : (delN m t key) = ⟨(turnN (delE key) m t key).m, (turnN (delE key) m t key).t, (turnN (delE key) m t key).gone, (turnN (delE key) m t key).e⟩ := by
     first | exact e | (unfold delN; dsimp only; exact if_pos (by omega))
   refine S_y rfl rfl rfl (Y_ldS Try.underlying31 rfl ti31 rfl rfl) ?_; refine S_run 2 rfl ?_; refine S_stS rfl rfl rfl ti31 rfl rfl rfl rfl (by repeat constructor) (by rfl) ?_; refine S_run 2 rfl <| S_nil ?_
   first
     | (rw [e2] at hret
        exact hret (Res_c3 Try.results24 rfl (LdV_S Try.underlying31 rfl ti31 (by repeat constructor) rfl) rfl rfl) ⟨adT, cT, adR, cR, rfl, rfl, rfl⟩)
     | (rw [e3] at hret
        exact hret (Res_c3 Try.results24 rfl (LdV_S Try.underlying31 rfl ti31 (by repeat constructor) rfl) rfl rfl) ⟨adW, cW, adR, cR, rfl, rfl, rfl⟩)
  ·refine S_y rfl rfl rfl (Y_ld u95 rfl rfl rfl) ?_; refine S_y rfl rfl rfl (Y_eql1 rfl rfl rfl u95 (by rfl) (fun _ => rfl) rfl) ?_; refine S_run 1 rfl <| S_nil ?_; refine C_cond_f rfl ?_; refine C_skip <| C_seq <| C_region <| S_run 1 rfl ?_; refine S_enter rfl rfl rfl (E_fn rfl rfl) begin_ok ?_; rintro _ _ _ (⟨hsz, rfl, rfl, rfl⟩ | ⟨hsz, bw, bg, rfl, rfl, rfl⟩)
   ·try dsimp only [c_a, n_a]
    have h1 := turnN_room (show (turnN (delE key) m t key).e = 0 by omega); have h2 := hto.size; omega
   ·try dsimp only [c_a, n_a]
    refine S_run 5 rfl <| S_nil <| C_seq <| C_region ?_
    have e3 : (delN m t key) = ⟨(turnN (delE key) m t key).m, (withoutN (turnN (delE key) m t key).m (turnN (delE key) m t key).t (turnN (delE key) m t key).gone (turnN (delE key) m t key).e (turnN (delE key) m t key).old).1, (withoutN (turnN (delE key) m t key).m (turnN (delE key) m t key).t (turnN (delE key) m t key).gone (turnN (delE key) m t key).e (turnN (delE key) m t key).old).2.1, (withoutN (turnN (delE key) m t key).m (turnN (delE key) m t key).t (turnN (delE key) m t key).gone (turnN (delE key) m t key).e (turnN (delE key) m t key).old).2.2⟩ := by
      unfold delN; dsimp only; rw [if_neg (by omega), hol]
    refine S_run 1 rfl ?_; refine S_y rfl rfl rfl (Y_ldS Try.underlying31 rfl ti31 rfl rfl) ?_; refine S_run 2 rfl ?_; refine S_y rfl rfl rfl (Y_ld u95 rfl rfl rfl) ?_; refine S_enter rfl rfl rfl (E_fn rfl rfl) (without_ok (x := some (bq, oq)) (old := (turnN (delE key) m t key).old) hto.mol.ok hto.old (by omega)) ?_; rintro _ _ _ ⟨adW, cW, rfl, rfl, rfl⟩; (try dsimp only [c_a, n_a]); refine S_run 3 rfl ?_; refine S_stS rfl rfl rfl ti31 rfl rfl rfl rfl (by repeat constructor) (by rfl) ?_; refine S_run 2 rfl <| S_nil ?_
    first
      | (rw [e2] at hret
         exact hret (Res_c3 Try.results24 rfl (LdV_S Try.underlying31 rfl ti31 (by repeat constructor) rfl) rfl rfl) ⟨adT, cT, adR, cR, rfl, rfl, rfl⟩)
      | (rw [e3] at hret
         exact hret (Res_c3 Try.results24 rfl (LdV_S Try.underlying31 rfl ti31 (by repeat constructor) rfl) rfl rfl) ⟨adW, cW, adR, cR, rfl, rfl, rfl⟩)
set_option maxRecDepth 100000 in
set_option maxHeartbeats 2000000 in
theorem pages_ok {bm : Nat} {m : Mem} {adP : Option Addr} {cP : Nat} {t : Tree} (hm : MOK m) (hmp : m.pages.length ≤ 3900000) : Spx Try.prog 26 #[.iface 26 (.pointer (some ⟨bm, 0, none⟩)), .agg (treeC t)] [] [Res.blk bm (.cells (memC m adP cP) 29 (0, 0)), Res.arr elS 9 adP cP (m).pages] (fun v fs' own' => ∃ ad c, v = .tuple #[.slice ad (pagesN m t).1.length c, .int .i64 ((pagesN m t).2 : Int)] ∧ fs' = [] ∧ own' = [Res.arr (elI .i64) 3 ad c (pagesN m t).1, Res.blk bm (.cells (memC m adP cP) 29 (0, 0)), Res.arr elS 9 adP cP (m).pages]) := by
 refine Spx_of_body (fn := Try.f26) 50 Try.func26 rfl (by kernel_rfl) rfl (Nat.le_of_ble_eq_true rfl) (fun g0 Q hret hend => ?_); dsimp only [initL]; refine C_seq <| C_region ?_; refine S_box rfl rfl rfl rfl rfl rfl (fun b3 => ?_); refine S_run 2 rfl <| S_nil <| C_seq <| C_region <| S_run 1 rfl ?_; refine S_enter rfl rfl rfl (E_fn rfl rfl) begin_ok ?_; rintro _ _ _ (⟨hsz, rfl, rfl, rfl⟩ | ⟨hsz, bw, bg, rfl, rfl, rfl⟩)
 ·try dsimp only [c_a, n_a]
  refine S_run 3 rfl ?_; refine S_alloc rfl rfl rfl rfl ti74 rfl (fun b6 => ?_); refine S_st rfl rfl rfl ti74 rfl rfl rfl (by repeat constructor) (by rfl) ?_; refine S_run 1 rfl <| S_nil <| C_seq <| C_block <| C_seq <| C_region <| S_run 3 rfl <| S_nil ?_; refine C_if rfl (fun h14 => ?_) (fun h14 => ?_)
  ·refine C_seq <| C_region ?_; have e : (pagesN m t) = ([], 2) := by unfold pagesN; exact if_pos hsz
   refine S_nilarr (elI .i64) 3 ?_; refine S_run 3 rfl <| S_nil ?_; rw [e] at hret
   first
     | exact hret (Res_tmps Try.results26 rfl rfl) ⟨none, 0, rfl, rfl, rfl⟩
     | exact hret (Res_tmps Try.results26 rfl rfl) ⟨adK, cK, rfl, rfl, rfl⟩
  ·omega
 ·try dsimp only [c_a, n_a]
  refine S_run 3 rfl ?_; refine S_alloc rfl rfl rfl rfl ti74 rfl (fun b6 => ?_); refine S_st rfl rfl rfl ti74 rfl rfl rfl (by repeat constructor) (by rfl) ?_; refine S_run 1 rfl <| S_nil <| C_seq <| C_block <| C_seq <| C_region <| S_run 3 rfl <| S_nil ?_; refine C_if rfl (fun h14 => ?_) (fun h14 => ?_)
  ·omega
  ·refine C_seq <| C_region ?_; refine S_y rfl rfl rfl (Y_ldS Try.underlying31 rfl ti31 rfl rfl) ?_; refine S_enter rfl rfl rfl (E_fn rfl rfl) (right_ok (t := t)) ?_; rintro _ _ _ ⟨rfl, rfl, rfl⟩; (try dsimp only [c_a, n_a]); refine S_run 2 rfl <| S_nil ?_; refine C_cond rfl (fun h18 => ?_) (fun h18 => ?_)
   ·refine C_seq <| C_region ?_
    have e : (pagesN m t) = ([], 51) := by
      unfold pagesN; rw [if_neg (by omega)]; exact if_pos (by cases hq : rightT t with | false => rfl | true => (rw [hq] at h18; cases h18))
    refine S_nilarr (elI .i64) 3 ?_; refine S_run 2 rfl <| S_nil ?_; rw [e] at hret
    first
      | exact hret (Res_tmps Try.results26 rfl rfl) ⟨none, 0, rfl, rfl, rfl⟩
      | exact hret (Res_tmps Try.results26 rfl rfl) ⟨adK, cK, rfl, rfl, rfl⟩
   ·have hright : rightT t = true := by cases hq : rightT t with | true => rfl | false => (rw [hq] at h18; cases h18)
    refine C_seq <| C_region ?_; refine S_y rfl rfl rfl (Y_fa ly31 rfl rfl rfl) ?_; refine S_y rfl rfl rfl (Y_ld u3 rfl rfl rfl) ?_; refine S_run 2 rfl <| S_nil ?_; refine C_if rfl (fun h22 => ?_) (fun h22 => ?_)
    ·refine C_seq <| C_region ?_
     have e : (pagesN m t) = ([], 0) := by
       unfold pagesN; rw [if_neg (by omega)]; rw [if_neg (by rw [hright]; decide)]; exact if_pos (by omega)
     refine S_nilarr (elI .i64) 3 ?_; refine S_run 2 rfl <| S_nil ?_; rw [e] at hret
     first
       | exact hret (Res_tmps Try.results26 rfl rfl) ⟨none, 0, rfl, rfl, rfl⟩
       | exact hret (Res_tmps Try.results26 rfl rfl) ⟨adK, cK, rfl, rfl, rfl⟩
    ·refine C_skip <| C_blk <| C_seq <| C_region ?_; refine S_alloc rfl rfl rfl rfl ti3 rfl (fun b8 => ?_); refine S_st rfl rfl rfl ti3 rfl rfl rfl (by repeat constructor) (by rfl) ?_; refine S_nil <| C_seq <| C_region ?_; have hr0 := of_decide_eq_true hright; obtain ⟨rt, hrt⟩ : ∃ n : Nat, (n : Int) = t.root := ⟨t.root.toNat, by omega⟩; obtain ⟨dp, hdp⟩ : ∃ n : Nat, ((n + 1 : Nat) : Int) = t.deep := ⟨(t.deep - 1).toNat, by omega⟩; have hdp2 : (t.deep - 1).toNat = dp := by omega
     have e0 : (pagesN m t) = if (if (eachN (pagesF m) m [] [] dp [] 0 (rt : Int)).e = 0 ∧ ¬ ((eachN (pagesF m) m [] [] dp [] 0 (rt : Int)).t : Int) = t.keys then 51 else (eachN (pagesF m) m [] [] dp [] 0 (rt : Int)).e) ≠ 0 then ([], (if (eachN (pagesF m) m [] [] dp [] 0 (rt : Int)).e = 0 ∧ ¬ ((eachN (pagesF m) m [] [] dp [] 0 (rt : Int)).t : Int) = t.keys then 51 else (eachN (pagesF m) m [] [] dp [] 0 (rt : Int)).e)) else (sortI (keysG (eachN (pagesF m) m [] [] dp [] 0 (rt : Int)).g), 0) := by
       unfold pagesN; rw [if_neg (by omega)]; rw [if_neg (by rw [hright]; decide)]; rw [if_neg (by omega), hdp2, hrt]
     refine S_frz (b := b6) (by repeat constructor) ?_; refine S_both (f := PtM b6 0 [.pointer (some ⟨bw, 0, none⟩)]) (f2 := PtM bw 0 [.iface 26 (.pointer (some ⟨bm, 0, none⟩)), .map (some bg)]) (by repeat constructor) (by repeat constructor) ?_; refine S_nilarr elB 5 ?_; refine S_y rfl rfl rfl (Y_ld u74 rfl rfl rfl) ?_; refine S_y rfl rfl rfl (Y_fa ly31 rfl rfl rfl) ?_; refine S_y rfl rfl rfl (Y_ld u3 rfl rfl rfl) ?_; refine S_y rfl rfl rfl (Y_fa ly31 rfl rfl rfl) ?_; refine S_y rfl rfl rfl (Y_ld u3 rfl rfl rfl) ?_; refine S_as 28 rfl (show Value.int .i64 t.root = .int .i64 (rt : Int) by rw [hrt]) ?_; refine S_as 30 rfl (show Value.int .i64 t.deep = .int .i64 ((dp + 1 : Nat) : Int) by rw [hdp]) ?_; have hfw := eachN_few (m := m) hm (pagesF_ok m) (from_ := []) (to_ := []) dp [] 0 (rt : Int) ⟨GI.nil m, by simp⟩; refine S_run 1 rfl ?_; refine S_enter rfl rfl rfl (E_fn rfl rfl) (each_ok (τ := Nat) (A := Unit) (r1 := fun n _ => Res.blk b8 (.cells #[.int .i64 ((n : Nat) : Int)] 3 (0, 0))) (r2 := fun _ _ => Res.arr elB 5 none 0 []) (F := pagesF m) (cnt := id) (fi := #[]) (ca := #[.pointer (some ⟨b8, 0, none⟩), .pointer (some ⟨b6, 0, none⟩)]) (fA := MF2 (PtM b6 0 [.pointer (some ⟨bw, 0, none⟩)]) (PtM bw 0 [.iface 26 (.pointer (some ⟨bm, 0, none⟩)), .map (some bg)])) (fr := []) (to_ := []) hm hmp (pagesF_ok m) (fun g t a c hc hn => pages1_ok (_a := a) hm hc hn) dp (by omega) [] 0 () rt ⟨GI.nil m, by simp⟩) ?_; rintro _ _ _ ⟨a8, rfl, rfl, rfl⟩; (try dsimp only [c_a, n_a]); refine S_run 1 rfl <| S_nil <| C_seq <| C_seq <| C_region <| S_run 3 rfl ?_; refine S_prop 35 rfl (fun h35 => ?_) (fun h35 => ?_)
     ·refine S_y rfl rfl rfl (Y_ld u3 rfl rfl rfl) ?_; refine S_y rfl rfl rfl (Y_fa ly31 rfl rfl rfl) ?_; refine S_y rfl rfl rfl (Y_ld u3 rfl rfl rfl) ?_; refine S_run 2 rfl <| S_nil ?_; refine C_if rfl (fun h40 => ?_) (fun h40 => ?_)
      ·refine C_region <| S_run 1 rfl <| S_nil <| C_seq <| C_seq <| C_region <| S_run 2 rfl <| S_nil ?_; refine C_if rfl (fun h42 => ?_) (fun h42 => ?_)
       ·refine C_seq <| C_region ?_; have e := e0
        first
          | rw [if_pos (show (eachN (pagesF m) m [] [] dp [] 0 (rt : Int)).e = 0 ∧ ¬ ((eachN (pagesF m) m [] [] dp [] 0 (rt : Int)).t : Int) = t.keys from ⟨by omega, by omega⟩), if_pos (by decide)] at e
          | rw [if_neg (show ¬ ((eachN (pagesF m) m [] [] dp [] 0 (rt : Int)).e = 0 ∧ ¬ ((eachN (pagesF m) m [] [] dp [] 0 (rt : Int)).t : Int) = t.keys) by omega), if_pos (by omega)] at e
        refine S_nilarr (elI .i64) 3 ?_; refine S_run 3 rfl <| S_nil ?_; rw [e] at hret
        first
          | exact hret (Res_tmps Try.results26 rfl rfl) ⟨none, 0, rfl, rfl, rfl⟩
          | exact hret (Res_tmps Try.results26 rfl rfl) ⟨adK, cK, rfl, rfl, rfl⟩
       ·omega
      ·refine C_skip <| C_seq <| C_seq <| C_region <| S_run 2 rfl <| S_nil ?_; refine C_if rfl (fun h42 => ?_) (fun h42 => ?_)
       ·omega
       ·refine C_skip <| C_seq <| C_region ?_; have e := e0; rw [if_neg (show ¬ ((eachN (pagesF m) m [] [] dp [] 0 (rt : Int)).e = 0 ∧ ¬ ((eachN (pagesF m) m [] [] dp [] 0 (rt : Int)).t : Int) = t.keys) by omega), if_neg (by omega)] at e; have hgi := (hfw (by omega)).1; have hglen := hgi.len; have hkeys : KeysOK (eachN (pagesF m) m [] [] dp [] 0 (rt : Int)).g := ⟨hgi.nd, fun p hp => by have := hgi.lo p hp; omega, fun p hp => by have := hgi.hi p hp; omega, by omega⟩; refine S_y rfl rfl rfl (Y_ld u74 rfl rfl rfl) ?_; refine S_run 1 rfl ?_; refine S_y rfl rfl rfl (Y_fa ly108 rfl rfl rfl) ?_; refine S_y rfl rfl rfl (Y_ld u106 rfl rfl rfl) ?_; refine S_enter rfl rfl rfl (E_fn rfl rfl) keys_ok ?_; rintro _ _ _ ⟨bK, rfl, rfl, rfl⟩; (try dsimp only [c_a, n_a]); refine S_enter rfl rfl rfl (E_fn rfl rfl) (sorted_ok hkeys) ?_; rintro _ _ _ ⟨adK, cK, rfl, rfl, rfl⟩; (try dsimp only [c_a, n_a]); refine S_run 2 rfl <| S_nil ?_; rw [e] at hret
        first
          | exact hret (Res_tmps Try.results26 rfl rfl) ⟨none, 0, rfl, rfl, rfl⟩
          | exact hret (Res_tmps Try.results26 rfl rfl) ⟨adK, cK, rfl, rfl, rfl⟩
     ·refine S_run 5 rfl <| S_nil ?_; refine C_cond_f rfl ?_; refine C_skip <| C_seq <| C_seq <| C_region <| S_run 2 rfl <| S_nil ?_; refine C_if rfl (fun h42 => ?_) (fun h42 => ?_)
      ·refine C_seq <| C_region ?_; have e := e0
       first
         | rw [if_pos (show (eachN (pagesF m) m [] [] dp [] 0 (rt : Int)).e = 0 ∧ ¬ ((eachN (pagesF m) m [] [] dp [] 0 (rt : Int)).t : Int) = t.keys from ⟨by omega, by omega⟩), if_pos (by decide)] at e
         | rw [if_neg (show ¬ ((eachN (pagesF m) m [] [] dp [] 0 (rt : Int)).e = 0 ∧ ¬ ((eachN (pagesF m) m [] [] dp [] 0 (rt : Int)).t : Int) = t.keys) by omega), if_pos (by omega)] at e
       refine S_nilarr (elI .i64) 3 ?_; refine S_run 3 rfl <| S_nil ?_; rw [e] at hret
       first
         | exact hret (Res_tmps Try.results26 rfl rfl) ⟨none, 0, rfl, rfl, rfl⟩
         | exact hret (Res_tmps Try.results26 rfl rfl) ⟨adK, cK, rfl, rfl, rfl⟩
      ·omega
end Go.Proofs.Ytlgbhceifnjdnaa
