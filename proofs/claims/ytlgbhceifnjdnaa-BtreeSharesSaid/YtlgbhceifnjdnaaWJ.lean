/- Walks: WJ. -/
import Derived.Test.YtlgbhceifnjdnaaPX
import Derived.Test.YtlgbhceifnjdnaaWI
import Derived.Test.YtlgbhceifnjdnaaProg
import Derived.KernelRfl
namespace Go.Proofs.Ytlgbhceifnjdnaa
open Go.KX
namespace TWJ
theorem u3 : Try.prog.underlying 3 = some (.int .i64) := Try.underlying3
theorem u79 : Try.prog.underlying 79 = some (.slice 83) := Try.underlying79
theorem ti83 : TI Try.prog 83 4 48 (.agg #[str [], str [], .int .i64 0, .int .i64 0]) := TI_of (by kernel_rfl)
theorem ly83 : LY Try.prog 83 [(0, 1, false), (1, 1, false), (2, 1, false), (3, 1, false)] := LY_of Try.underlying83 (by kernel_rfl)
end TWJ
open TWJ
theorem lay_ok {bm : Nat} {m : Mem} {adP : Option Addr} {cP : Nat} {bw bg c : Nat} {ad : Option Addr} {l : List Cell} {leaf : Bool} (hm : MOL m) (hsz : 480 ≤ m.size) (hc : ∀ c ∈ l, CellOK c) (hl : l.length ≤ 2000000000) :
    Spx Try.prog 81 #[.pointer (some ⟨bw, 0, none⟩), .slice ad l.length c, .bool leaf] [SlM elCell ad c l, PtM bw 0 [.iface 26 (.pointer (some ⟨bm, 0, none⟩)), .map (some bg)]] [Res.blk bm (.cells (memC m adP cP) 29 (0, 0)), Res.arr elS 9 adP cP (m).pages]
      (fun v fs' own' => ∃ ad' c' adP' cP', v = .tuple #[.slice ad' (layN m l leaf).2.2.length c', .int .i64 ((layN m l leaf).2.1 : Int)] ∧ fs' = [] ∧ own' = [Res.arr elCell 83 ad' c' (layN m l leaf).2.2, Res.blk bm (.cells (memC (layN m l leaf).1 adP' cP') 29 (0, 0)), Res.arr elS 9 adP' cP' ((layN m l leaf).1).pages]) := by
  cases leaf
  · exact layF_ok hm hsz hc hl
  · exact layT_ok hm hsz hc hl
set_option maxRecDepth 100000 in
set_option maxHeartbeats 4000000 in
theorem root_ok {bm : Nat} {m : Mem} {adP : Option Addr} {cP : Nat} {bw bg c depth : Nat} {ad : Option Addr} {l : List Cell} (hm : MOL m) (hsz : 480 ≤ m.size) (hc : ∀ c ∈ l, CellOK c) (hl : l.length ≤ 2000000000) (hd : 1 ≤ depth) (hd2 : depth ≤ 1000) : Spx Try.prog 67 #[.pointer (some ⟨bw, 0, none⟩), .slice ad l.length c, .int .i64 (depth : Int)] [SlM elCell ad c l, PtM bw 0 [.iface 26 (.pointer (some ⟨bm, 0, none⟩)), .map (some bg)]] [Res.blk bm (.cells (memC m adP cP) 29 (0, 0)), Res.arr elS 9 adP cP (m).pages] (fun v fs' own' => ∃ adP' cP', v = .tuple #[.int .i64 ((rootN m l depth).2.1 : Int), .int .i64 ((rootN m l depth).2.2.1 : Int), .int .i64 ((rootN m l depth).2.2.2 : Int)] ∧ fs' = [] ∧ own' = [Res.blk bm (.cells (memC (rootN m l depth).1 adP' cP') 29 (0, 0)), Res.arr elS 9 adP' cP' ((rootN m l depth).1).pages]) := by
 refine Spx_of_body (fn := Try.f67) 43 Try.func67 rfl (by kernel_rfl) rfl (Nat.le_of_ble_eq_true rfl) (fun g0 Q hret hend => ?_); dsimp only [initL]; refine C_seq <| C_region <| S_run 3 rfl <| S_nil <| C_seq <| C_seq <| C_region <| S_run 1 rfl ?_; refine S_y rfl rfl rfl (Y_slen rfl rfl u79) ?_; refine S_run 1 rfl <| S_nil ?_; refine C_if rfl (fun h14 => ?_) (fun h14 => ?_)
 ·refine C_seq <| C_region ?_; have e : (rootN m l depth) = (m, 0, 0, 0) := if_pos (by omega); refine S_run 3 rfl <| S_nil ?_; rw [e] at hret
  first
    | exact hret (Res_tmps Try.results67 rfl rfl) ⟨adP, cP, rfl, rfl, rfl⟩
    | exact hret (Res_tmps Try.results67 rfl rfl) ⟨adQ, cQ, rfl, rfl, rfl⟩
    | exact hret (Res_tmps Try.results67 rfl rfl) ⟨adR, cR, rfl, rfl, rfl⟩
 ·refine C_skip <| C_seq <| C_region <| S_run 3 rfl <| S_nil <| C_block ?_; have hfew := hm.ok.few
  refine C_loop (σ := Nat × Mem × List Cell × Nat × Bool × (Option Addr × Nat) × (Option Addr × Nat)) (fun s => MOL s.2.1 ∧ s.2.1.size = m.size ∧ (1000000000 - s.2.1.pages.length) < s.1 ∧ (∀ c ∈ s.2.2.1, CellOK c) ∧ s.2.2.1.length ≤ 2000000000 ∧ s.2.2.1.length ≠ 0 ∧ 1 ≤ s.2.2.2.1 ∧ s.2.2.2.1 + s.1 ≤ 1000000000 + 1001 ∧ rootL s.1 s.2.1 s.2.2.1 s.2.2.2.1 s.2.2.2.2.1 = (rootN m l depth)) (fun s => s.1)
    (fun s => [(0, .pointer (some ⟨bw, 0, none⟩)), (1, .slice s.2.2.2.2.2.1.1 s.2.2.1.length s.2.2.2.2.2.1.2), (2, .int .i64 (s.2.2.2.1 : Int)), (9, .bool s.2.2.2.2.1)])
    (fun s => [SlM elCell s.2.2.2.2.2.1.1 s.2.2.2.2.2.1.2 s.2.2.1, PtM bw 0 [.iface 26 (.pointer (some ⟨bm, 0, none⟩)), .map (some bg)]]) (fun s => [Res.blk bm (.cells (memC s.2.1 s.2.2.2.2.2.2.1 s.2.2.2.2.2.2.2) 29 (0, 0)), Res.arr elS 9 s.2.2.2.2.2.2.1 s.2.2.2.2.2.2.2 (s.2.1).pages]) (1000000000 - m.pages.length + 1, m, l, depth, decide ((depth : Int) = 1), (ad, c), (adP, cP)) ?_ (by repeat (first | exact trivial | refine ⟨rfl, ?_⟩ | refine ⟨intE (by omega), ?_⟩)) (by repeat constructor) (by repeat constructor) ?_
  ·exact ⟨hm, rfl, Nat.lt_succ_self _, hc, hl, by dsimp only; omega, hd, by dsimp only; omega, by unfold rootN; rw [if_neg (by omega)]⟩
  ·rintro J ⟨fu, m2, lc, dp, lf, ⟨adC, cC⟩, ⟨adQ, cQ⟩⟩ ⟨hm2, hse, hfu, hco, hlc, hl0, hd1, hd2, hr⟩ hJ; dsimp only at hm2 hse hfu hco hlc hl0 hd1 hd2 hr ⊢; refine C_seq <| C_block <| C_seq <| C_seq <| C_region ?_; obtain ⟨fu, rfl⟩ : ∃ k, fu = k + 1 := ⟨fu - 1, by omega⟩; refine S_run 3 rfl ?_; refine S_bool 19 rfl (fun h19 => ?_) (fun h19 => ?_)
   ·refine S_run 1 rfl ?_; refine S_y rfl rfl rfl (Y_slen rfl rfl u79) ?_; refine S_run 2 rfl <| S_nil ?_; refine C_if rfl (fun h23 => ?_) (fun h23 => ?_)
    ·refine C_seq <| C_region ?_; obtain ⟨y0, hy0⟩ : ∃ y, lc[0]? = some y := ⟨_, List.getElem?_eq_getElem (by omega)⟩
     have e : (rootN m l depth) = (m2, y0.page, dp - 1, 0) := by
       rw [← hr, rootL, if_pos ⟨(by cases lf with | false => rfl | true => cases h19), (by omega)⟩, pageK_of hy0]
     refine S_run 1 rfl ?_; refine S_yx rfl rfl rfl (Y_ixA rfl u79 ti83 rfl rfl rfl (by repeat constructor) rfl (by omega) hy0) ?_; rintro _ _ ⟨b25, o25, rfl, rfl⟩; refine S_y rfl rfl rfl (Y_fa ly83 rfl rfl rfl) ?_; refine S_y rfl rfl rfl (Y_ld u3 rfl rfl rfl) ?_; refine S_run 1 rfl ?_; refine S_y rfl rfl rfl ((Y_subi rfl rfl rfl (by omega) (by omega)).as (v' := .int .i64 ((dp - 1 : Nat) : Int)) (by congr 1; omega)) ?_; refine S_run 3 rfl <| S_nil ?_; rw [e] at hret
     first
       | exact hret (Res_tmps Try.results67 rfl rfl) ⟨adP, cP, rfl, rfl, rfl⟩
       | exact hret (Res_tmps Try.results67 rfl rfl) ⟨adQ, cQ, rfl, rfl, rfl⟩
       | exact hret (Res_tmps Try.results67 rfl rfl) ⟨adR, cR, rfl, rfl, rfl⟩
    ·refine C_skip <| C_seq <| C_region <| S_run 3 rfl ?_; refine S_enter rfl rfl rfl (E_fn rfl rfl) (lay_ok (leaf := lf) hm2 (by omega) hco hlc) ?_; rintro _ _ _ ⟨adL, cL, adR, cR, rfl, rfl, rfl⟩; (try dsimp only [c_a, n_a]); refine S_run 5 rfl <| S_nil <| C_seq <| C_seq <| C_region <| S_run 2 rfl <| S_nil ?_; refine C_if rfl (fun h38 => ?_) (fun h38 => ?_)
     ·refine C_seq <| C_region ?_
      have hcond : ¬ (lf = false ∧ lc.length = 1) := by
        rintro ⟨q1, q2⟩; subst q1
        first | omega | (cases h19)
      have e : (rootN m l depth) = ((layN m2 lc lf).1, 0, 0, (layN m2 lc lf).2.1) := by
        rw [← hr, rootL, if_neg hcond]; exact if_pos (by omega)
      refine S_run 4 rfl <| S_nil ?_; rw [e] at hret
      first
        | exact hret (Res_tmps Try.results67 rfl rfl) ⟨adP, cP, rfl, rfl, rfl⟩
        | exact hret (Res_tmps Try.results67 rfl rfl) ⟨adQ, cQ, rfl, rfl, rfl⟩
        | exact hret (Res_tmps Try.results67 rfl rfl) ⟨adR, cR, rfl, rfl, rfl⟩
     ·refine C_skip <| C_seq <| C_region ?_; refine S_pub (E := elCell) (by repeat constructor) ?_; refine S_run 2 rfl <| S_nil <| C_region <| S_run 1 rfl ?_; refine S_y rfl rfl rfl (Y_addi rfl rfl rfl (by omega) (by omega)) ?_; refine S_run 1 rfl <| S_nil <| C_blk <| C_region <| S_run 1 rfl <| S_nil ?_; obtain ⟨i1, i2, i3, i4, i5, i6, i7⟩ := layN_props (leaf := lf) hm2 hco; have j6 := i6 (by omega); have j7 := i7 (by omega) hl0; have jf := i1.ok.few
      have hcond : ¬ (lf = false ∧ lc.length = 1) := by
        rintro ⟨q1, q2⟩; subst q1
        first | omega | (cases h19)
      rw [rootL, if_neg hcond] at hr; dsimp only at hr; rw [if_neg (by omega)] at hr; exact hJ (fu, _, _, dp + 1, false, (_, _), (_, _)) ⟨i1, i3.trans hse, by show 1000000000 - (layN m2 lc lf).1.pages.length < fu; omega, i4, by show (layN m2 lc lf).2.2.length ≤ _; omega, by show (layN m2 lc lf).2.2.length ≠ 0; omega, by dsimp only; omega, by dsimp only; omega, hr⟩ (by show fu < fu + 1; omega)
   ·refine S_run 4 rfl <| S_nil ?_; refine C_cond_f rfl ?_; refine C_skip <| C_seq <| C_region <| S_run 3 rfl ?_; refine S_enter rfl rfl rfl (E_fn rfl rfl) (lay_ok (leaf := lf) hm2 (by omega) hco hlc) ?_; rintro _ _ _ ⟨adL, cL, adR, cR, rfl, rfl, rfl⟩; (try dsimp only [c_a, n_a]); refine S_run 5 rfl <| S_nil <| C_seq <| C_seq <| C_region <| S_run 2 rfl <| S_nil ?_; refine C_if rfl (fun h38 => ?_) (fun h38 => ?_)
    ·refine C_seq <| C_region ?_
     have hcond : ¬ (lf = false ∧ lc.length = 1) := by
       rintro ⟨q1, q2⟩; subst q1
       first | omega | (cases h19)
     have e : (rootN m l depth) = ((layN m2 lc lf).1, 0, 0, (layN m2 lc lf).2.1) := by
       rw [← hr, rootL, if_neg hcond]; exact if_pos (by omega)
     refine S_run 4 rfl <| S_nil ?_; rw [e] at hret
     first
       | exact hret (Res_tmps Try.results67 rfl rfl) ⟨adP, cP, rfl, rfl, rfl⟩
       | exact hret (Res_tmps Try.results67 rfl rfl) ⟨adQ, cQ, rfl, rfl, rfl⟩
       | exact hret (Res_tmps Try.results67 rfl rfl) ⟨adR, cR, rfl, rfl, rfl⟩
    ·refine C_skip <| C_seq <| C_region ?_; refine S_pub (E := elCell) (by repeat constructor) ?_; refine S_run 2 rfl <| S_nil <| C_region <| S_run 1 rfl ?_; refine S_y rfl rfl rfl (Y_addi rfl rfl rfl (by omega) (by omega)) ?_; refine S_run 1 rfl <| S_nil <| C_blk <| C_region <| S_run 1 rfl <| S_nil ?_; obtain ⟨i1, i2, i3, i4, i5, i6, i7⟩ := layN_props (leaf := lf) hm2 hco; have j6 := i6 (by omega); have j7 := i7 (by omega) hl0; have jf := i1.ok.few
     have hcond : ¬ (lf = false ∧ lc.length = 1) := by
       rintro ⟨q1, q2⟩; subst q1
       first | omega | (cases h19)
     rw [rootL, if_neg hcond] at hr; dsimp only at hr; rw [if_neg (by omega)] at hr; exact hJ (fu, _, _, dp + 1, false, (_, _), (_, _)) ⟨i1, i3.trans hse, by show 1000000000 - (layN m2 lc lf).1.pages.length < fu; omega, i4, by show (layN m2 lc lf).2.2.length ≤ _; omega, by show (layN m2 lc lf).2.2.length ≠ 0; omega, by dsimp only; omega, by dsimp only; omega, hr⟩ (by show fu < fu + 1; omega)
end Go.Proofs.Ytlgbhceifnjdnaa
