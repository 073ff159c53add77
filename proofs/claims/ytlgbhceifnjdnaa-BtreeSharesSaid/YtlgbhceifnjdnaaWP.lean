/- Walks: WP. -/
import Derived.Test.YtlgbhceifnjdnaaPX
import Derived.Test.YtlgbhceifnjdnaaWH
import Derived.Test.YtlgbhceifnjdnaaWF
import Derived.Test.YtlgbhceifnjdnaaProg
import Derived.KernelRfl
namespace Go.Proofs.Ytlgbhceifnjdnaa
open Go.KX
namespace TWP
theorem u3 : Try.prog.underlying 3 = some (.int .i64) := Try.underlying3
theorem u9 : Try.prog.underlying 9 = some (.string) := Try.underlying9
theorem u79 : Try.prog.underlying 79 = some (.slice 83) := Try.underlying79
theorem ti83 : TI Try.prog 83 4 48 (.agg #[str [], str [], .int .i64 0, .int .i64 0]) := TI_of (by kernel_rfl)
theorem ly83 : LY Try.prog 83 [(0, 1, false), (1, 1, false), (2, 1, false), (3, 1, false)] := LY_of Try.underlying83 (by kernel_rfl)
end TWP
open TWP
theorem met2_ok {bw bg bm n : Nat} {g : Gone} : Spx Try.prog 42 #[.pointer (some ⟨bw, 0, none⟩), .int .i64 (n : Int)] [PtM bw 0 [.iface 26 (.pointer (some ⟨bm, 0, none⟩)), .map (some bg)]] [Res.mp (fun n : Int => Value.int .i64 n) (fun _ : Unit => Value.bool true) bg g]
    (fun v fs' own' => ((mget g (n : Int)).isSome = true ∧ v = .int .i64 51 ∧ fs' = [] ∧ own' = [Res.mp (fun n : Int => Value.int .i64 n) (fun _ : Unit => Value.bool true) bg g]) ∨ (¬ (mget g (n : Int)).isSome = true ∧ v = .int .i64 0 ∧ fs' = [] ∧ own' = [Res.mp (fun n : Int => Value.int .i64 n) (fun _ : Unit => Value.bool true) bg (mset g (n : Int) ())])) := by
  refine met_ok.mono ?_
  rintro v fs' own' ⟨rfl, rfl, rfl⟩
  unfold metF
  by_cases h : (mget g (n : Int)).isSome = true
  · rw [if_pos h]; exact .inl ⟨h, rfl, rfl, rfl⟩
  · rw [if_neg h]; exact .inr ⟨h, rfl, rfl, rfl⟩
theorem nextLE_at (fr : Bytes) {l : List Cell} {i : Nat} {z : Cell} (h : l[i]? = some z) : nextLE fr (l.drop i) = (blt z.key fr || decide (z.key = fr)) := by
  unfold nextLE; rw [List.getElem?_drop, Nat.add_zero, h]
theorem nextLE_end (fr : Bytes) {l : List Cell} {i : Nat} (h : l.length ≤ i) : nextLE fr (l.drop i) = false := by
  unfold nextLE; rw [List.getElem?_drop, Nat.add_zero, List.getElem?_eq_none h]
set_option maxRecDepth 100000 in
set_option maxHeartbeats 4000000 in
theorem each0_ok {bm : Nat} {m : Mem} {adP : Option Addr} {cP : Nat} {bw bg fn : Nat} {fi ca : Array Value} {fA : MF} {τ A : Type} {r1 r2 : τ → A → Res} {F : EaF τ} {cnt : τ → Nat} {fr to_ : Bytes} (hm : MOK m) (hmp : m.pages.length ≤ 3900000) (hF : EaOK m cnt F) (hf : ∀ (g : Gone) (t : τ) (a : A) (c : Cell), CellOK c → cnt t ≤ 3900000000000 → Spx Try.prog fn (fi ++ #[.agg (encCell c).toArray] ++ ca) [fA] [Res.mp (fun n : Int => Value.int .i64 n) (fun _ : Unit => Value.bool true) bg g, Res.blk bm (.cells (memC m adP cP) 29 (0, 0)), Res.arr elS 9 adP cP (m).pages, r1 t a, r2 t a] (fun v fs' own' => ∃ a', v = .int .i64 ((F g t c).e : Int) ∧ fs' = [] ∧ own' = [Res.mp (fun n : Int => Value.int .i64 n) (fun _ : Unit => Value.bool true) bg (F g t c).g, Res.blk bm (.cells (memC m adP cP) 29 (0, 0)), Res.arr elS 9 adP cP (m).pages, r1 (F g t c).t a', r2 (F g t c).t a'])) {gz : Gone} {tz : τ} {az : A} {at_ : Nat} (hfew : Few m cnt gz tz) : Spx Try.prog 40 #[.pointer (some ⟨bw, 0, none⟩), .int .i64 (at_ : Int), .int .i64 1, str fr, str to_, .func (.func fn) fi ca] [PtM bw 0 [.iface 26 (.pointer (some ⟨bm, 0, none⟩)), .map (some bg)], fA] [Res.mp (fun n : Int => Value.int .i64 n) (fun _ : Unit => Value.bool true) bg gz, Res.blk bm (.cells (memC m adP cP) 29 (0, 0)), Res.arr elS 9 adP cP (m).pages, r1 tz az, r2 tz az] (fun v fs' own' => ∃ a', v = .int .i64 ((eachN F m fr to_ 0 gz tz (at_ : Int)).e : Int) ∧ fs' = [] ∧ own' = [Res.mp (fun n : Int => Value.int .i64 n) (fun _ : Unit => Value.bool true) bg (eachN F m fr to_ 0 gz tz (at_ : Int)).g, Res.blk bm (.cells (memC m adP cP) 29 (0, 0)), Res.arr elS 9 adP cP (m).pages, r1 (eachN F m fr to_ 0 gz tz (at_ : Int)).t a', r2 (eachN F m fr to_ 0 gz tz (at_ : Int)).t a']) := by
 refine Spx_of_body (fn := Try.f40) 109 Try.func40 rfl (by kernel_rfl) rfl (Nat.le_of_ble_eq_true rfl) (fun g0 Q hret hend => ?_); dsimp only [initL]; refine C_seq <| C_region <| S_run 1 rfl <| S_nil <| C_seq <| C_seq <| C_region <| S_run 2 rfl ?_; refine S_enter rfl rfl rfl (E_fn rfl rfl) met2_ok ?_; rintro _ _ _ (⟨hmt, rfl, rfl, rfl⟩ | ⟨hmt, rfl, rfl, rfl⟩)
 ·try dsimp only [c_a, n_a]
  refine S_run 1 rfl <| S_nil <| C_seq <| C_region <| S_run 2 rfl <| S_nil ?_; refine C_if rfl (fun h22 => ?_) (fun h22 => ?_)
  ·refine C_seq <| C_region ?_; have e : (eachN F m fr to_ 0 gz tz (at_ : Int)) = ⟨gz, tz, 51⟩ := by rw [eachN]; exact if_pos hmt
   refine S_run 2 rfl <| S_nil ?_; rw [e] at hret
   first
     | exact hret (Res_tmps Try.results40 rfl rfl) ⟨az, rfl, rfl, rfl⟩
     | exact hret (Res_tmps Try.results40 rfl rfl) ⟨a, rfl, rfl, rfl⟩
     | exact hret (Res_tmps Try.results40 rfl rfl) ⟨a2, rfl, rfl, rfl⟩
   
  ·omega
 ·try dsimp only [c_a, n_a]
  refine S_run 1 rfl <| S_nil <| C_seq <| C_region <| S_run 2 rfl <| S_nil ?_; refine C_if rfl (fun h22 => ?_) (fun h22 => ?_)
  ·omega
  ·refine C_skip <| C_seq <| C_region <| S_run 3 rfl ?_; refine S_y rfl rfl rfl (Y_pure (v := .bool true) (by rfl)) ?_; have hld := loadN_ok hm (at_ : Int) true; refine S_enter rfl rfl rfl (E_fn rfl rfl) (loadT_ok (n := (at_ : Int)) hm) ?_; rintro _ _ _ (⟨hle, rfl, rfl, rfl⟩ | ⟨hle, adL, cL, rfl, rfl, rfl⟩)
   ·try dsimp only [c_a, n_a]
    refine S_run 5 rfl <| S_nil <| C_seq <| C_seq <| C_region <| S_run 2 rfl <| S_nil ?_; refine C_if rfl (fun h33 => ?_) (fun h33 => ?_)
    ·refine C_seq <| C_region ?_; have e : (eachN F m fr to_ 0 gz tz (at_ : Int)) = ⟨(mset gz (at_ : Int) ()), tz, (loadN m (at_ : Int) true).1⟩ := by rw [eachN]; rw [if_neg hmt]; exact if_pos hle
     refine S_run 2 rfl <| S_nil ?_; rw [e] at hret
     first
       | exact hret (Res_tmps Try.results40 rfl rfl) ⟨az, rfl, rfl, rfl⟩
       | exact hret (Res_tmps Try.results40 rfl rfl) ⟨a, rfl, rfl, rfl⟩
       | exact hret (Res_tmps Try.results40 rfl rfl) ⟨a2, rfl, rfl, rfl⟩
     
    ·omega
   ·try dsimp only [c_a, n_a]
    refine S_run 5 rfl <| S_nil <| C_seq <| C_seq <| C_region <| S_run 2 rfl <| S_nil ?_; refine C_if rfl (fun h33 => ?_) (fun h33 => ?_)
    ·omega
    ·refine C_skip <| C_seq <| C_seq <| C_region ?_; refine S_pub (E := elCell) (by repeat constructor) ?_; have hll := hld.2; have hmet := hfew.met hmt hle
     have hr0 : eachL F (fun g t _ => ⟨g, t, 0⟩) true fr to_ 0 (loadN m (at_ : Int) true).2 (mset gz (at_ : Int) ()) tz = (eachN F m fr to_ 0 gz tz (at_ : Int)) := by
       rw [eachN]; rw [if_neg hmt, if_neg (by omega)]
     refine S_run 1 rfl ?_; refine S_y rfl rfl rfl (Y_slen rfl rfl u79) ?_; refine S_run 1 rfl <| S_nil <| C_block ?_
     refine C_loop (σ := Nat × Gone × τ × A) (fun s => s.1 ≤ (loadN m (at_ : Int) true).2.length ∧ GI m s.2.1 ∧ cnt s.2.2.1 + 1000000 ≤ 1000000 * s.2.1.length + s.1 ∧ eachL F (fun g t _ => ⟨g, t, 0⟩) true fr to_ s.1 ((loadN m (at_ : Int) true).2.drop s.1) s.2.1 s.2.2.1 = (eachN F m fr to_ 0 gz tz (at_ : Int))) (fun s => (loadN m (at_ : Int) true).2.length - s.1)
       (fun s => [(0, .pointer (some ⟨bw, 0, none⟩)), (2, .int .i64 1), (3, str fr), (4, str to_), (5, .func (.func fn) fi ca), (14, .slice adL (loadN m (at_ : Int) true).2.length cL), (35, .slice adL (loadN m (at_ : Int) true).2.length cL), (36, .int .i64 ((loadN m (at_ : Int) true).2.length : Int)), (37, .int .i64 (s.1 : Int))])
       (fun s => [SlM elCell adL cL (loadN m (at_ : Int) true).2, PtM bw 0 [.iface 26 (.pointer (some ⟨bm, 0, none⟩)), .map (some bg)], fA]) (fun s => [Res.mp (fun n : Int => Value.int .i64 n) (fun _ : Unit => Value.bool true) bg (s.2.1), Res.blk bm (.cells (memC m adP cP) 29 (0, 0)), Res.arr elS 9 adP cP (m).pages, r1 s.2.2.1 s.2.2.2, r2 s.2.2.1 s.2.2.2]) (0, (mset gz (at_ : Int) ()), tz, az) ?_ (by repeat (first | exact trivial | refine ⟨rfl, ?_⟩ | refine ⟨intE (by omega), ?_⟩)) (by repeat constructor) (by repeat constructor) ?_
     ·exact ⟨Nat.zero_le _, hmet.1, hmet.2, hr0⟩
     ·rintro J ⟨i, g, t, a⟩ ⟨hi, hgi, hcn, hr⟩ hJ; dsimp only at hi hr ⊢; dsimp only at hgi hcn; refine C_seq <| C_region <| S_run 1 rfl <| S_nil <| C_seq ?_; refine C_if rfl (fun h38 => ?_) (fun h38 => ?_)
      ·refine C_skip <| C_seq <| C_block <| C_seq <| C_region ?_; obtain ⟨y, hy⟩ : ∃ y, (loadN m (at_ : Int) true).2[i]? = some y := ⟨_, List.getElem?_eq_getElem (by omega)⟩; have hyo := hld.1 y (List.mem_of_getElem? hy); rw [drop_cons hy, eachL] at hr; refine S_run 1 rfl ?_; refine S_yx rfl rfl rfl (Y_ixA rfl u79 ti83 rfl rfl rfl (by repeat constructor) rfl (by omega) hy) ?_; rintro _ _ ⟨b40, o40, rfl, rfl⟩; refine S_y rfl rfl rfl (Y_ldS Try.underlying83 rfl ti83 rfl rfl) ?_; refine S_alloc rfl rfl rfl rfl ti83 rfl (fun b17 => ?_); refine S_run 1 rfl ?_; refine S_stS rfl rfl rfl ti83 rfl rfl rfl rfl (by repeat constructor) (by rfl) ?_; refine S_nil <| C_seq <| C_block <| C_seq <| C_region <| S_run 1 rfl ?_; refine S_y rfl rfl rfl (Y_strneq rfl rfl rfl) ?_; refine S_run 1 rfl ?_; refine S_prop 54 rfl (fun h54 => ?_) (fun h54 => ?_)
       ·refine S_run 4 rfl ?_; refine S_prop 58 rfl (fun h58 => ?_) (fun h58 => ?_)
        ·refine S_y rfl rfl rfl (Y_fa ly83 rfl rfl rfl) ?_; refine S_y rfl rfl rfl (Y_ld u9 rfl rfl rfl) ?_; refine S_run 1 rfl ?_; refine S_y rfl rfl rfl (Y_strgeq rfl rfl rfl) ?_; refine S_run 2 rfl <| S_nil ?_; refine C_cond rfl (fun h51 => ?_) (fun h51 => ?_)
         ·refine C_seq <| C_region ?_
          have e : (eachN F m fr to_ 0 gz tz (at_ : Int)) = ⟨g, t, 0⟩ := by
            rw [← hr]; refine if_pos ⟨?_, by omega⟩; unfold outTo; simp_all
          refine S_run 1 rfl <| S_nil ?_; rw [e] at hret
          first
            | exact hret (Res_tmps Try.results40 rfl rfl) ⟨az, rfl, rfl, rfl⟩
            | exact hret (Res_tmps Try.results40 rfl rfl) ⟨a, rfl, rfl, rfl⟩
            | exact hret (Res_tmps Try.results40 rfl rfl) ⟨a2, rfl, rfl, rfl⟩
          
         ·refine C_seq <| C_region ?_
          have hne : ¬ (outTo to_ y = true ∧ 0 < i) := by
            rintro ⟨q1, q2⟩; unfold outTo at q1; simp only [Bool.and_eq_true, decide_eq_true_eq, Bool.not_eq_true'] at q1
            simp_all
          rw [if_neg hne] at hr; refine S_run 1 rfl ?_; refine S_y rfl rfl rfl (Y_pure (v := .bool true) (by rfl)) ?_; refine S_run 1 rfl ?_; refine S_y rfl rfl rfl (Y_fa ly83 rfl rfl rfl) ?_; refine S_y rfl rfl rfl (Y_ld u9 rfl rfl rfl) ?_; refine S_run 1 rfl ?_; refine S_y rfl rfl rfl (Y_strlss rfl rfl rfl) ?_; refine S_run 1 rfl ?_; refine S_bool 72 rfl (fun h72 => ?_) (fun h72 => ?_)
          ·refine S_run 11 rfl <| S_nil ?_; refine C_cond_t rfl ?_; refine C_exit rfl <| C_region ?_; refine S_y rfl rfl rfl (Y_addi rfl rfl rfl (by omega) (by omega)) ?_; refine S_run 1 rfl <| S_nil ?_
           first
             | (rw [if_neg (show ¬ (F g t y).e ≠ 0 by omega)] at hr
                exact hJ (i + 1, (F g t y).g, (F g t y).t, a2) ⟨by show i + 1 ≤ _; omega, (hst.2 (by omega)).1, by have := (hst.2 (by omega)).2; have := hst.1; dsimp only; omega, hr⟩ (by show (loadN m (at_ : Int) true).2.length - (i + 1) < (loadN m (at_ : Int) true).2.length - i; omega))
             | (rw [if_pos rfl, if_pos (show blt y.key fr = true ∨ outTo to_ y = true by unfold outTo; simp_all)] at hr
                exact hJ (i + 1, g, t, a) ⟨by show i + 1 ≤ _; omega, hgi, by dsimp only; omega, hr⟩ (by show (loadN m (at_ : Int) true).2.length - (i + 1) < (loadN m (at_ : Int) true).2.length - i; omega))
          ·refine S_run 1 rfl ?_; refine S_y rfl rfl rfl (Y_strneq rfl rfl rfl) ?_; refine S_run 1 rfl ?_; refine S_prop 75 rfl (fun h75 => ?_) (fun h75 => ?_)
           ·refine S_y rfl rfl rfl (Y_fa ly83 rfl rfl rfl) ?_; refine S_y rfl rfl rfl (Y_ld u9 rfl rfl rfl) ?_; refine S_run 1 rfl ?_; refine S_y rfl rfl rfl (Y_strgeq rfl rfl rfl) ?_; refine S_run 4 rfl <| S_nil ?_; refine C_cond rfl (fun h64 => ?_) (fun h64 => ?_)
            ·refine C_exit rfl <| C_region ?_; refine S_y rfl rfl rfl (Y_addi rfl rfl rfl (by omega) (by omega)) ?_; refine S_run 1 rfl <| S_nil ?_
             first
               | (rw [if_neg (show ¬ (F g t y).e ≠ 0 by omega)] at hr
                  exact hJ (i + 1, (F g t y).g, (F g t y).t, a2) ⟨by show i + 1 ≤ _; omega, (hst.2 (by omega)).1, by have := (hst.2 (by omega)).2; have := hst.1; dsimp only; omega, hr⟩ (by show (loadN m (at_ : Int) true).2.length - (i + 1) < (loadN m (at_ : Int) true).2.length - i; omega))
               | (rw [if_pos rfl, if_pos (show blt y.key fr = true ∨ outTo to_ y = true by unfold outTo; simp_all)] at hr
                  exact hJ (i + 1, g, t, a) ⟨by show i + 1 ≤ _; omega, hgi, by dsimp only; omega, hr⟩ (by show (loadN m (at_ : Int) true).2.length - (i + 1) < (loadN m (at_ : Int) true).2.length - i; omega))
            ·refine C_seq <| C_region <| S_run 1 rfl ?_; refine S_y rfl rfl rfl (Y_pure (v := .bool true) (by rfl)) ?_; refine S_run 1 rfl <| S_nil ?_; refine C_cond_t rfl ?_; refine C_region ?_; rw [if_pos rfl, if_neg (show ¬ (blt y.key fr = true ∨ outTo to_ y = true) by unfold outTo; simp_all)] at hr; have hst := hF.step g t y hgi; have hgl := hgi.len; refine S_run 1 rfl ?_; refine S_y rfl rfl rfl (Y_ldS Try.underlying83 rfl ti83 rfl rfl) ?_; refine S_enter rfl rfl rfl (E_val rfl rfl rfl rfl) (hf g t a y hyo (by omega)) ?_; rintro _ _ _ ⟨a2, rfl, rfl, rfl⟩; (try dsimp only [c_a, n_a]); refine S_run 1 rfl <| S_nil <| C_blk <| C_seq <| C_region <| S_run 2 rfl <| S_nil ?_; refine C_if rfl (fun h106 => ?_) (fun h106 => ?_)
             ·refine C_seq <| C_region ?_; rw [if_pos (show (F g t y).e ≠ 0 by omega)] at hr; have e : (eachN F m fr to_ 0 gz tz (at_ : Int)) = F g t y := hr.symm; refine S_run 2 rfl <| S_nil ?_; rw [e] at hret
              first
                | exact hret (Res_tmps Try.results40 rfl rfl) ⟨az, rfl, rfl, rfl⟩
                | exact hret (Res_tmps Try.results40 rfl rfl) ⟨a, rfl, rfl, rfl⟩
                | exact hret (Res_tmps Try.results40 rfl rfl) ⟨a2, rfl, rfl, rfl⟩
              
             ·refine C_skip <| C_blk <| C_region ?_; refine S_y rfl rfl rfl (Y_addi rfl rfl rfl (by omega) (by omega)) ?_; refine S_run 1 rfl <| S_nil ?_
              first
                | (rw [if_neg (show ¬ (F g t y).e ≠ 0 by omega)] at hr
                   exact hJ (i + 1, (F g t y).g, (F g t y).t, a2) ⟨by show i + 1 ≤ _; omega, (hst.2 (by omega)).1, by have := (hst.2 (by omega)).2; have := hst.1; dsimp only; omega, hr⟩ (by show (loadN m (at_ : Int) true).2.length - (i + 1) < (loadN m (at_ : Int) true).2.length - i; omega))
                | (rw [if_pos rfl, if_pos (show blt y.key fr = true ∨ outTo to_ y = true by unfold outTo; simp_all)] at hr
                   exact hJ (i + 1, g, t, a) ⟨by show i + 1 ≤ _; omega, hgi, by dsimp only; omega, hr⟩ (by show (loadN m (at_ : Int) true).2.length - (i + 1) < (loadN m (at_ : Int) true).2.length - i; omega))
           ·refine S_run 8 rfl <| S_nil ?_; refine C_cond_f rfl ?_; refine C_seq <| C_region <| S_run 1 rfl ?_; refine S_y rfl rfl rfl (Y_pure (v := .bool true) (by rfl)) ?_; refine S_run 1 rfl <| S_nil ?_; refine C_cond_t rfl ?_; refine C_region ?_; rw [if_pos rfl, if_neg (show ¬ (blt y.key fr = true ∨ outTo to_ y = true) by unfold outTo; simp_all)] at hr; have hst := hF.step g t y hgi; have hgl := hgi.len; refine S_run 1 rfl ?_; refine S_y rfl rfl rfl (Y_ldS Try.underlying83 rfl ti83 rfl rfl) ?_; refine S_enter rfl rfl rfl (E_val rfl rfl rfl rfl) (hf g t a y hyo (by omega)) ?_; rintro _ _ _ ⟨a2, rfl, rfl, rfl⟩; (try dsimp only [c_a, n_a]); refine S_run 1 rfl <| S_nil <| C_blk <| C_seq <| C_region <| S_run 2 rfl <| S_nil ?_; refine C_if rfl (fun h106 => ?_) (fun h106 => ?_)
            ·refine C_seq <| C_region ?_; rw [if_pos (show (F g t y).e ≠ 0 by omega)] at hr; have e : (eachN F m fr to_ 0 gz tz (at_ : Int)) = F g t y := hr.symm; refine S_run 2 rfl <| S_nil ?_; rw [e] at hret
             first
               | exact hret (Res_tmps Try.results40 rfl rfl) ⟨az, rfl, rfl, rfl⟩
               | exact hret (Res_tmps Try.results40 rfl rfl) ⟨a, rfl, rfl, rfl⟩
               | exact hret (Res_tmps Try.results40 rfl rfl) ⟨a2, rfl, rfl, rfl⟩
             
            ·refine C_skip <| C_blk <| C_region ?_; refine S_y rfl rfl rfl (Y_addi rfl rfl rfl (by omega) (by omega)) ?_; refine S_run 1 rfl <| S_nil ?_
             first
               | (rw [if_neg (show ¬ (F g t y).e ≠ 0 by omega)] at hr
                  exact hJ (i + 1, (F g t y).g, (F g t y).t, a2) ⟨by show i + 1 ≤ _; omega, (hst.2 (by omega)).1, by have := (hst.2 (by omega)).2; have := hst.1; dsimp only; omega, hr⟩ (by show (loadN m (at_ : Int) true).2.length - (i + 1) < (loadN m (at_ : Int) true).2.length - i; omega))
               | (rw [if_pos rfl, if_pos (show blt y.key fr = true ∨ outTo to_ y = true by unfold outTo; simp_all)] at hr
                  exact hJ (i + 1, g, t, a) ⟨by show i + 1 ≤ _; omega, hgi, by dsimp only; omega, hr⟩ (by show (loadN m (at_ : Int) true).2.length - (i + 1) < (loadN m (at_ : Int) true).2.length - i; omega))
        ·refine S_run 6 rfl <| S_nil ?_; refine C_cond_f rfl ?_; refine C_seq <| C_region ?_
         have hne : ¬ (outTo to_ y = true ∧ 0 < i) := by
           rintro ⟨q1, q2⟩; unfold outTo at q1; simp only [Bool.and_eq_true, decide_eq_true_eq, Bool.not_eq_true'] at q1
           simp_all
         rw [if_neg hne] at hr; refine S_run 1 rfl ?_; refine S_y rfl rfl rfl (Y_pure (v := .bool true) (by rfl)) ?_; refine S_run 1 rfl ?_; refine S_y rfl rfl rfl (Y_fa ly83 rfl rfl rfl) ?_; refine S_y rfl rfl rfl (Y_ld u9 rfl rfl rfl) ?_; refine S_run 1 rfl ?_; refine S_y rfl rfl rfl (Y_strlss rfl rfl rfl) ?_; refine S_run 1 rfl ?_; refine S_bool 72 rfl (fun h72 => ?_) (fun h72 => ?_)
         ·refine S_run 11 rfl <| S_nil ?_; refine C_cond_t rfl ?_; refine C_exit rfl <| C_region ?_; refine S_y rfl rfl rfl (Y_addi rfl rfl rfl (by omega) (by omega)) ?_; refine S_run 1 rfl <| S_nil ?_
          first
            | (rw [if_neg (show ¬ (F g t y).e ≠ 0 by omega)] at hr
               exact hJ (i + 1, (F g t y).g, (F g t y).t, a2) ⟨by show i + 1 ≤ _; omega, (hst.2 (by omega)).1, by have := (hst.2 (by omega)).2; have := hst.1; dsimp only; omega, hr⟩ (by show (loadN m (at_ : Int) true).2.length - (i + 1) < (loadN m (at_ : Int) true).2.length - i; omega))
            | (rw [if_pos rfl, if_pos (show blt y.key fr = true ∨ outTo to_ y = true by unfold outTo; simp_all)] at hr
               exact hJ (i + 1, g, t, a) ⟨by show i + 1 ≤ _; omega, hgi, by dsimp only; omega, hr⟩ (by show (loadN m (at_ : Int) true).2.length - (i + 1) < (loadN m (at_ : Int) true).2.length - i; omega))
         ·refine S_run 1 rfl ?_; refine S_y rfl rfl rfl (Y_strneq rfl rfl rfl) ?_; refine S_run 1 rfl ?_; refine S_prop 75 rfl (fun h75 => ?_) (fun h75 => ?_)
          ·refine S_y rfl rfl rfl (Y_fa ly83 rfl rfl rfl) ?_; refine S_y rfl rfl rfl (Y_ld u9 rfl rfl rfl) ?_; refine S_run 1 rfl ?_; refine S_y rfl rfl rfl (Y_strgeq rfl rfl rfl) ?_; refine S_run 4 rfl <| S_nil ?_; refine C_cond rfl (fun h64 => ?_) (fun h64 => ?_)
           ·refine C_exit rfl <| C_region ?_; refine S_y rfl rfl rfl (Y_addi rfl rfl rfl (by omega) (by omega)) ?_; refine S_run 1 rfl <| S_nil ?_
            first
              | (rw [if_neg (show ¬ (F g t y).e ≠ 0 by omega)] at hr
                 exact hJ (i + 1, (F g t y).g, (F g t y).t, a2) ⟨by show i + 1 ≤ _; omega, (hst.2 (by omega)).1, by have := (hst.2 (by omega)).2; have := hst.1; dsimp only; omega, hr⟩ (by show (loadN m (at_ : Int) true).2.length - (i + 1) < (loadN m (at_ : Int) true).2.length - i; omega))
              | (rw [if_pos rfl, if_pos (show blt y.key fr = true ∨ outTo to_ y = true by unfold outTo; simp_all)] at hr
                 exact hJ (i + 1, g, t, a) ⟨by show i + 1 ≤ _; omega, hgi, by dsimp only; omega, hr⟩ (by show (loadN m (at_ : Int) true).2.length - (i + 1) < (loadN m (at_ : Int) true).2.length - i; omega))
           ·refine C_seq <| C_region <| S_run 1 rfl ?_; refine S_y rfl rfl rfl (Y_pure (v := .bool true) (by rfl)) ?_; refine S_run 1 rfl <| S_nil ?_; refine C_cond_t rfl ?_; refine C_region ?_; rw [if_pos rfl, if_neg (show ¬ (blt y.key fr = true ∨ outTo to_ y = true) by unfold outTo; simp_all)] at hr; have hst := hF.step g t y hgi; have hgl := hgi.len; refine S_run 1 rfl ?_; refine S_y rfl rfl rfl (Y_ldS Try.underlying83 rfl ti83 rfl rfl) ?_; refine S_enter rfl rfl rfl (E_val rfl rfl rfl rfl) (hf g t a y hyo (by omega)) ?_; rintro _ _ _ ⟨a2, rfl, rfl, rfl⟩; (try dsimp only [c_a, n_a]); refine S_run 1 rfl <| S_nil <| C_blk <| C_seq <| C_region <| S_run 2 rfl <| S_nil ?_; refine C_if rfl (fun h106 => ?_) (fun h106 => ?_)
            ·refine C_seq <| C_region ?_; rw [if_pos (show (F g t y).e ≠ 0 by omega)] at hr; have e : (eachN F m fr to_ 0 gz tz (at_ : Int)) = F g t y := hr.symm; refine S_run 2 rfl <| S_nil ?_; rw [e] at hret
             first
               | exact hret (Res_tmps Try.results40 rfl rfl) ⟨az, rfl, rfl, rfl⟩
               | exact hret (Res_tmps Try.results40 rfl rfl) ⟨a, rfl, rfl, rfl⟩
               | exact hret (Res_tmps Try.results40 rfl rfl) ⟨a2, rfl, rfl, rfl⟩
             
            ·refine C_skip <| C_blk <| C_region ?_; refine S_y rfl rfl rfl (Y_addi rfl rfl rfl (by omega) (by omega)) ?_; refine S_run 1 rfl <| S_nil ?_
             first
               | (rw [if_neg (show ¬ (F g t y).e ≠ 0 by omega)] at hr
                  exact hJ (i + 1, (F g t y).g, (F g t y).t, a2) ⟨by show i + 1 ≤ _; omega, (hst.2 (by omega)).1, by have := (hst.2 (by omega)).2; have := hst.1; dsimp only; omega, hr⟩ (by show (loadN m (at_ : Int) true).2.length - (i + 1) < (loadN m (at_ : Int) true).2.length - i; omega))
               | (rw [if_pos rfl, if_pos (show blt y.key fr = true ∨ outTo to_ y = true by unfold outTo; simp_all)] at hr
                  exact hJ (i + 1, g, t, a) ⟨by show i + 1 ≤ _; omega, hgi, by dsimp only; omega, hr⟩ (by show (loadN m (at_ : Int) true).2.length - (i + 1) < (loadN m (at_ : Int) true).2.length - i; omega))
          ·refine S_run 8 rfl <| S_nil ?_; refine C_cond_f rfl ?_; refine C_seq <| C_region <| S_run 1 rfl ?_; refine S_y rfl rfl rfl (Y_pure (v := .bool true) (by rfl)) ?_; refine S_run 1 rfl <| S_nil ?_; refine C_cond_t rfl ?_; refine C_region ?_; rw [if_pos rfl, if_neg (show ¬ (blt y.key fr = true ∨ outTo to_ y = true) by unfold outTo; simp_all)] at hr; have hst := hF.step g t y hgi; have hgl := hgi.len; refine S_run 1 rfl ?_; refine S_y rfl rfl rfl (Y_ldS Try.underlying83 rfl ti83 rfl rfl) ?_; refine S_enter rfl rfl rfl (E_val rfl rfl rfl rfl) (hf g t a y hyo (by omega)) ?_; rintro _ _ _ ⟨a2, rfl, rfl, rfl⟩; (try dsimp only [c_a, n_a]); refine S_run 1 rfl <| S_nil <| C_blk <| C_seq <| C_region <| S_run 2 rfl <| S_nil ?_; refine C_if rfl (fun h106 => ?_) (fun h106 => ?_)
           ·refine C_seq <| C_region ?_; rw [if_pos (show (F g t y).e ≠ 0 by omega)] at hr; have e : (eachN F m fr to_ 0 gz tz (at_ : Int)) = F g t y := hr.symm; refine S_run 2 rfl <| S_nil ?_; rw [e] at hret
            first
              | exact hret (Res_tmps Try.results40 rfl rfl) ⟨az, rfl, rfl, rfl⟩
              | exact hret (Res_tmps Try.results40 rfl rfl) ⟨a, rfl, rfl, rfl⟩
              | exact hret (Res_tmps Try.results40 rfl rfl) ⟨a2, rfl, rfl, rfl⟩
            
           ·refine C_skip <| C_blk <| C_region ?_; refine S_y rfl rfl rfl (Y_addi rfl rfl rfl (by omega) (by omega)) ?_; refine S_run 1 rfl <| S_nil ?_
            first
              | (rw [if_neg (show ¬ (F g t y).e ≠ 0 by omega)] at hr
                 exact hJ (i + 1, (F g t y).g, (F g t y).t, a2) ⟨by show i + 1 ≤ _; omega, (hst.2 (by omega)).1, by have := (hst.2 (by omega)).2; have := hst.1; dsimp only; omega, hr⟩ (by show (loadN m (at_ : Int) true).2.length - (i + 1) < (loadN m (at_ : Int) true).2.length - i; omega))
              | (rw [if_pos rfl, if_pos (show blt y.key fr = true ∨ outTo to_ y = true by unfold outTo; simp_all)] at hr
                 exact hJ (i + 1, g, t, a) ⟨by show i + 1 ≤ _; omega, hgi, by dsimp only; omega, hr⟩ (by show (loadN m (at_ : Int) true).2.length - (i + 1) < (loadN m (at_ : Int) true).2.length - i; omega))
       ·refine S_run 10 rfl <| S_nil ?_; refine C_cond_f rfl ?_; refine C_seq <| C_region ?_
        have hne : ¬ (outTo to_ y = true ∧ 0 < i) := by
          rintro ⟨q1, q2⟩; unfold outTo at q1; simp only [Bool.and_eq_true, decide_eq_true_eq, Bool.not_eq_true'] at q1
          simp_all
        rw [if_neg hne] at hr; refine S_run 1 rfl ?_; refine S_y rfl rfl rfl (Y_pure (v := .bool true) (by rfl)) ?_; refine S_run 1 rfl ?_; refine S_y rfl rfl rfl (Y_fa ly83 rfl rfl rfl) ?_; refine S_y rfl rfl rfl (Y_ld u9 rfl rfl rfl) ?_; refine S_run 1 rfl ?_; refine S_y rfl rfl rfl (Y_strlss rfl rfl rfl) ?_; refine S_run 1 rfl ?_; refine S_bool 72 rfl (fun h72 => ?_) (fun h72 => ?_)
        ·refine S_run 11 rfl <| S_nil ?_; refine C_cond_t rfl ?_; refine C_exit rfl <| C_region ?_; refine S_y rfl rfl rfl (Y_addi rfl rfl rfl (by omega) (by omega)) ?_; refine S_run 1 rfl <| S_nil ?_
         first
           | (rw [if_neg (show ¬ (F g t y).e ≠ 0 by omega)] at hr
              exact hJ (i + 1, (F g t y).g, (F g t y).t, a2) ⟨by show i + 1 ≤ _; omega, (hst.2 (by omega)).1, by have := (hst.2 (by omega)).2; have := hst.1; dsimp only; omega, hr⟩ (by show (loadN m (at_ : Int) true).2.length - (i + 1) < (loadN m (at_ : Int) true).2.length - i; omega))
           | (rw [if_pos rfl, if_pos (show blt y.key fr = true ∨ outTo to_ y = true by unfold outTo; simp_all)] at hr
              exact hJ (i + 1, g, t, a) ⟨by show i + 1 ≤ _; omega, hgi, by dsimp only; omega, hr⟩ (by show (loadN m (at_ : Int) true).2.length - (i + 1) < (loadN m (at_ : Int) true).2.length - i; omega))
        ·refine S_run 1 rfl ?_; refine S_y rfl rfl rfl (Y_strneq rfl rfl rfl) ?_; refine S_run 1 rfl ?_; refine S_prop 75 rfl (fun h75 => ?_) (fun h75 => ?_)
         ·refine S_y rfl rfl rfl (Y_fa ly83 rfl rfl rfl) ?_; refine S_y rfl rfl rfl (Y_ld u9 rfl rfl rfl) ?_; refine S_run 1 rfl ?_; refine S_y rfl rfl rfl (Y_strgeq rfl rfl rfl) ?_; refine S_run 4 rfl <| S_nil ?_; refine C_cond rfl (fun h64 => ?_) (fun h64 => ?_)
          ·refine C_exit rfl <| C_region ?_; refine S_y rfl rfl rfl (Y_addi rfl rfl rfl (by omega) (by omega)) ?_; refine S_run 1 rfl <| S_nil ?_
           first
             | (rw [if_neg (show ¬ (F g t y).e ≠ 0 by omega)] at hr
                exact hJ (i + 1, (F g t y).g, (F g t y).t, a2) ⟨by show i + 1 ≤ _; omega, (hst.2 (by omega)).1, by have := (hst.2 (by omega)).2; have := hst.1; dsimp only; omega, hr⟩ (by show (loadN m (at_ : Int) true).2.length - (i + 1) < (loadN m (at_ : Int) true).2.length - i; omega))
             | (rw [if_pos rfl, if_pos (show blt y.key fr = true ∨ outTo to_ y = true by unfold outTo; simp_all)] at hr
                exact hJ (i + 1, g, t, a) ⟨by show i + 1 ≤ _; omega, hgi, by dsimp only; omega, hr⟩ (by show (loadN m (at_ : Int) true).2.length - (i + 1) < (loadN m (at_ : Int) true).2.length - i; omega))
          ·refine C_seq <| C_region <| S_run 1 rfl ?_; refine S_y rfl rfl rfl (Y_pure (v := .bool true) (by rfl)) ?_; refine S_run 1 rfl <| S_nil ?_; refine C_cond_t rfl ?_; refine C_region ?_; rw [if_pos rfl, if_neg (show ¬ (blt y.key fr = true ∨ outTo to_ y = true) by unfold outTo; simp_all)] at hr; have hst := hF.step g t y hgi; have hgl := hgi.len; refine S_run 1 rfl ?_; refine S_y rfl rfl rfl (Y_ldS Try.underlying83 rfl ti83 rfl rfl) ?_; refine S_enter rfl rfl rfl (E_val rfl rfl rfl rfl) (hf g t a y hyo (by omega)) ?_; rintro _ _ _ ⟨a2, rfl, rfl, rfl⟩; (try dsimp only [c_a, n_a]); refine S_run 1 rfl <| S_nil <| C_blk <| C_seq <| C_region <| S_run 2 rfl <| S_nil ?_; refine C_if rfl (fun h106 => ?_) (fun h106 => ?_)
           ·refine C_seq <| C_region ?_; rw [if_pos (show (F g t y).e ≠ 0 by omega)] at hr; have e : (eachN F m fr to_ 0 gz tz (at_ : Int)) = F g t y := hr.symm; refine S_run 2 rfl <| S_nil ?_; rw [e] at hret
            first
              | exact hret (Res_tmps Try.results40 rfl rfl) ⟨az, rfl, rfl, rfl⟩
              | exact hret (Res_tmps Try.results40 rfl rfl) ⟨a, rfl, rfl, rfl⟩
              | exact hret (Res_tmps Try.results40 rfl rfl) ⟨a2, rfl, rfl, rfl⟩
            
           ·refine C_skip <| C_blk <| C_region ?_; refine S_y rfl rfl rfl (Y_addi rfl rfl rfl (by omega) (by omega)) ?_; refine S_run 1 rfl <| S_nil ?_
            first
              | (rw [if_neg (show ¬ (F g t y).e ≠ 0 by omega)] at hr
                 exact hJ (i + 1, (F g t y).g, (F g t y).t, a2) ⟨by show i + 1 ≤ _; omega, (hst.2 (by omega)).1, by have := (hst.2 (by omega)).2; have := hst.1; dsimp only; omega, hr⟩ (by show (loadN m (at_ : Int) true).2.length - (i + 1) < (loadN m (at_ : Int) true).2.length - i; omega))
              | (rw [if_pos rfl, if_pos (show blt y.key fr = true ∨ outTo to_ y = true by unfold outTo; simp_all)] at hr
                 exact hJ (i + 1, g, t, a) ⟨by show i + 1 ≤ _; omega, hgi, by dsimp only; omega, hr⟩ (by show (loadN m (at_ : Int) true).2.length - (i + 1) < (loadN m (at_ : Int) true).2.length - i; omega))
         ·refine S_run 8 rfl <| S_nil ?_; refine C_cond_f rfl ?_; refine C_seq <| C_region <| S_run 1 rfl ?_; refine S_y rfl rfl rfl (Y_pure (v := .bool true) (by rfl)) ?_; refine S_run 1 rfl <| S_nil ?_; refine C_cond_t rfl ?_; refine C_region ?_; rw [if_pos rfl, if_neg (show ¬ (blt y.key fr = true ∨ outTo to_ y = true) by unfold outTo; simp_all)] at hr; have hst := hF.step g t y hgi; have hgl := hgi.len; refine S_run 1 rfl ?_; refine S_y rfl rfl rfl (Y_ldS Try.underlying83 rfl ti83 rfl rfl) ?_; refine S_enter rfl rfl rfl (E_val rfl rfl rfl rfl) (hf g t a y hyo (by omega)) ?_; rintro _ _ _ ⟨a2, rfl, rfl, rfl⟩; (try dsimp only [c_a, n_a]); refine S_run 1 rfl <| S_nil <| C_blk <| C_seq <| C_region <| S_run 2 rfl <| S_nil ?_; refine C_if rfl (fun h106 => ?_) (fun h106 => ?_)
          ·refine C_seq <| C_region ?_; rw [if_pos (show (F g t y).e ≠ 0 by omega)] at hr; have e : (eachN F m fr to_ 0 gz tz (at_ : Int)) = F g t y := hr.symm; refine S_run 2 rfl <| S_nil ?_; rw [e] at hret
           first
             | exact hret (Res_tmps Try.results40 rfl rfl) ⟨az, rfl, rfl, rfl⟩
             | exact hret (Res_tmps Try.results40 rfl rfl) ⟨a, rfl, rfl, rfl⟩
             | exact hret (Res_tmps Try.results40 rfl rfl) ⟨a2, rfl, rfl, rfl⟩
           
          ·refine C_skip <| C_blk <| C_region ?_; refine S_y rfl rfl rfl (Y_addi rfl rfl rfl (by omega) (by omega)) ?_; refine S_run 1 rfl <| S_nil ?_
           first
             | (rw [if_neg (show ¬ (F g t y).e ≠ 0 by omega)] at hr
                exact hJ (i + 1, (F g t y).g, (F g t y).t, a2) ⟨by show i + 1 ≤ _; omega, (hst.2 (by omega)).1, by have := (hst.2 (by omega)).2; have := hst.1; dsimp only; omega, hr⟩ (by show (loadN m (at_ : Int) true).2.length - (i + 1) < (loadN m (at_ : Int) true).2.length - i; omega))
             | (rw [if_pos rfl, if_pos (show blt y.key fr = true ∨ outTo to_ y = true by unfold outTo; simp_all)] at hr
                exact hJ (i + 1, g, t, a) ⟨by show i + 1 ≤ _; omega, hgi, by dsimp only; omega, hr⟩ (by show (loadN m (at_ : Int) true).2.length - (i + 1) < (loadN m (at_ : Int) true).2.length - i; omega))
      ·refine C_exit rfl <| C_seq <| C_region ?_; have hil : i = (loadN m (at_ : Int) true).2.length := by omega
       subst hil
       have e : (eachN F m fr to_ 0 gz tz (at_ : Int)) = ⟨g, t, 0⟩ := by
         rw [← hr, List.drop_length, eachL]
       refine S_run 1 rfl <| S_nil ?_; rw [e] at hret
       first
         | exact hret (Res_tmps Try.results40 rfl rfl) ⟨az, rfl, rfl, rfl⟩
         | exact hret (Res_tmps Try.results40 rfl rfl) ⟨a, rfl, rfl, rfl⟩
         | exact hret (Res_tmps Try.results40 rfl rfl) ⟨a2, rfl, rfl, rfl⟩
       
set_option maxRecDepth 100000 in
set_option maxHeartbeats 4000000 in
theorem eachS_ok {bm : Nat} {m : Mem} {adP : Option Addr} {cP : Nat} {bw bg fn : Nat} {fi ca : Array Value} {fA : MF} {τ A : Type} {r1 r2 : τ → A → Res} {F : EaF τ} {cnt : τ → Nat} {fr to_ : Bytes} (hm : MOK m) (_hmp : m.pages.length ≤ 3900000) (hF : EaOK m cnt F) (_hf : ∀ (g : Gone) (t : τ) (a : A) (c : Cell), CellOK c → cnt t ≤ 3900000000000 → Spx Try.prog fn (fi ++ #[.agg (encCell c).toArray] ++ ca) [fA] [Res.mp (fun n : Int => Value.int .i64 n) (fun _ : Unit => Value.bool true) bg g, Res.blk bm (.cells (memC m adP cP) 29 (0, 0)), Res.arr elS 9 adP cP (m).pages, r1 t a, r2 t a] (fun v fs' own' => ∃ a', v = .int .i64 ((F g t c).e : Int) ∧ fs' = [] ∧ own' = [Res.mp (fun n : Int => Value.int .i64 n) (fun _ : Unit => Value.bool true) bg (F g t c).g, Res.blk bm (.cells (memC m adP cP) 29 (0, 0)), Res.arr elS 9 adP cP (m).pages, r1 (F g t c).t a', r2 (F g t c).t a'])) {d : Nat} (hd : d ≤ 100) (ih : ∀ (gz : Gone) (tz : τ) (az : A) (at_ : Nat), Few m cnt gz tz → Spx Try.prog 40 #[.pointer (some ⟨bw, 0, none⟩), .int .i64 (at_ : Int), .int .i64 ((d + 1 : Nat) : Int), str fr, str to_, .func (.func fn) fi ca] [PtM bw 0 [.iface 26 (.pointer (some ⟨bm, 0, none⟩)), .map (some bg)], fA] [Res.mp (fun n : Int => Value.int .i64 n) (fun _ : Unit => Value.bool true) bg gz, Res.blk bm (.cells (memC m adP cP) 29 (0, 0)), Res.arr elS 9 adP cP (m).pages, r1 tz az, r2 tz az] (fun v fs' own' => ∃ a', v = .int .i64 ((eachN F m fr to_ d gz tz (at_ : Int)).e : Int) ∧ fs' = [] ∧ own' = [Res.mp (fun n : Int => Value.int .i64 n) (fun _ : Unit => Value.bool true) bg (eachN F m fr to_ d gz tz (at_ : Int)).g, Res.blk bm (.cells (memC m adP cP) 29 (0, 0)), Res.arr elS 9 adP cP (m).pages, r1 (eachN F m fr to_ d gz tz (at_ : Int)).t a', r2 (eachN F m fr to_ d gz tz (at_ : Int)).t a'])) {gz : Gone} {tz : τ} {az : A} {at_ : Nat} (hfew : Few m cnt gz tz) : Spx Try.prog 40 #[.pointer (some ⟨bw, 0, none⟩), .int .i64 (at_ : Int), .int .i64 ((d + 2 : Nat) : Int), str fr, str to_, .func (.func fn) fi ca] [PtM bw 0 [.iface 26 (.pointer (some ⟨bm, 0, none⟩)), .map (some bg)], fA] [Res.mp (fun n : Int => Value.int .i64 n) (fun _ : Unit => Value.bool true) bg gz, Res.blk bm (.cells (memC m adP cP) 29 (0, 0)), Res.arr elS 9 adP cP (m).pages, r1 tz az, r2 tz az] (fun v fs' own' => ∃ a', v = .int .i64 ((eachN F m fr to_ (d + 1) gz tz (at_ : Int)).e : Int) ∧ fs' = [] ∧ own' = [Res.mp (fun n : Int => Value.int .i64 n) (fun _ : Unit => Value.bool true) bg (eachN F m fr to_ (d + 1) gz tz (at_ : Int)).g, Res.blk bm (.cells (memC m adP cP) 29 (0, 0)), Res.arr elS 9 adP cP (m).pages, r1 (eachN F m fr to_ (d + 1) gz tz (at_ : Int)).t a', r2 (eachN F m fr to_ (d + 1) gz tz (at_ : Int)).t a']) := by
 refine Spx_of_body (fn := Try.f40) 109 Try.func40 rfl (by kernel_rfl) rfl (Nat.le_of_ble_eq_true rfl) (fun g0 Q hret hend => ?_); dsimp only [initL]; refine C_seq <| C_region <| S_run 1 rfl <| S_nil <| C_seq <| C_seq <| C_region <| S_run 2 rfl ?_; refine S_enter rfl rfl rfl (E_fn rfl rfl) met2_ok ?_; rintro _ _ _ (⟨hmt, rfl, rfl, rfl⟩ | ⟨hmt, rfl, rfl, rfl⟩)
 ·try dsimp only [c_a, n_a]
  refine S_run 1 rfl <| S_nil <| C_seq <| C_region <| S_run 2 rfl <| S_nil ?_; refine C_if rfl (fun h22 => ?_) (fun h22 => ?_)
  ·refine C_seq <| C_region ?_; have e : (eachN F m fr to_ (d + 1) gz tz (at_ : Int)) = ⟨gz, tz, 51⟩ := by rw [eachN]; exact if_pos hmt
   refine S_run 2 rfl <| S_nil ?_; rw [e] at hret
   first
     | exact hret (Res_tmps Try.results40 rfl rfl) ⟨az, rfl, rfl, rfl⟩
     | exact hret (Res_tmps Try.results40 rfl rfl) ⟨a, rfl, rfl, rfl⟩
     | exact hret (Res_tmps Try.results40 rfl rfl) ⟨a2, rfl, rfl, rfl⟩
   
  ·omega
 ·try dsimp only [c_a, n_a]
  refine S_run 1 rfl <| S_nil <| C_seq <| C_region <| S_run 2 rfl <| S_nil ?_; refine C_if rfl (fun h22 => ?_) (fun h22 => ?_)
  ·omega
  ·refine C_skip <| C_seq <| C_region <| S_run 3 rfl ?_; refine S_y rfl rfl rfl ((Y_pure rfl).as (v' := .bool false) (congrArg Value.bool (decide_eq_false (by omega)))) ?_; have hld := loadN_ok hm (at_ : Int) false; refine S_enter rfl rfl rfl (E_fn rfl rfl) (loadF_ok (n := (at_ : Int)) hm) ?_; rintro _ _ _ (⟨hle, rfl, rfl, rfl⟩ | ⟨hle, adL, cL, rfl, rfl, rfl⟩)
   ·try dsimp only [c_a, n_a]
    refine S_run 5 rfl <| S_nil <| C_seq <| C_seq <| C_region <| S_run 2 rfl <| S_nil ?_; refine C_if rfl (fun h33 => ?_) (fun h33 => ?_)
    ·refine C_seq <| C_region ?_; have e : (eachN F m fr to_ (d + 1) gz tz (at_ : Int)) = ⟨(mset gz (at_ : Int) ()), tz, (loadN m (at_ : Int) false).1⟩ := by rw [eachN]; rw [if_neg hmt]; exact if_pos hle
     refine S_run 2 rfl <| S_nil ?_; rw [e] at hret
     first
       | exact hret (Res_tmps Try.results40 rfl rfl) ⟨az, rfl, rfl, rfl⟩
       | exact hret (Res_tmps Try.results40 rfl rfl) ⟨a, rfl, rfl, rfl⟩
       | exact hret (Res_tmps Try.results40 rfl rfl) ⟨a2, rfl, rfl, rfl⟩
     
    ·omega
   ·try dsimp only [c_a, n_a]
    refine S_run 5 rfl <| S_nil <| C_seq <| C_seq <| C_region <| S_run 2 rfl <| S_nil ?_; refine C_if rfl (fun h33 => ?_) (fun h33 => ?_)
    ·omega
    ·refine C_skip <| C_seq <| C_seq <| C_region ?_; refine S_pub (E := elCell) (by repeat constructor) ?_; have hll := hld.2; have hmet := hfew.met hmt hle
     have hr0 : eachL F (fun g t a => eachN F m fr to_ d g t a) false fr to_ 0 (loadN m (at_ : Int) false).2 (mset gz (at_ : Int) ()) tz = (eachN F m fr to_ (d + 1) gz tz (at_ : Int)) := by
       rw [eachN]; rw [if_neg hmt, if_neg (by omega)]
     refine S_run 1 rfl ?_; refine S_y rfl rfl rfl (Y_slen rfl rfl u79) ?_; refine S_run 1 rfl <| S_nil <| C_block ?_
     refine C_loop (σ := Nat × Gone × τ × A) (fun s => s.1 ≤ (loadN m (at_ : Int) false).2.length ∧ Few m cnt s.2.1 s.2.2.1 ∧ eachL F (fun g t a => eachN F m fr to_ d g t a) false fr to_ s.1 ((loadN m (at_ : Int) false).2.drop s.1) s.2.1 s.2.2.1 = (eachN F m fr to_ (d + 1) gz tz (at_ : Int))) (fun s => (loadN m (at_ : Int) false).2.length - s.1)
       (fun s => [(0, .pointer (some ⟨bw, 0, none⟩)), (2, .int .i64 ((d + 2 : Nat) : Int)), (3, str fr), (4, str to_), (5, .func (.func fn) fi ca), (14, .slice adL (loadN m (at_ : Int) false).2.length cL), (35, .slice adL (loadN m (at_ : Int) false).2.length cL), (36, .int .i64 ((loadN m (at_ : Int) false).2.length : Int)), (37, .int .i64 (s.1 : Int))])
       (fun s => [SlM elCell adL cL (loadN m (at_ : Int) false).2, PtM bw 0 [.iface 26 (.pointer (some ⟨bm, 0, none⟩)), .map (some bg)], fA]) (fun s => [Res.mp (fun n : Int => Value.int .i64 n) (fun _ : Unit => Value.bool true) bg (s.2.1), Res.blk bm (.cells (memC m adP cP) 29 (0, 0)), Res.arr elS 9 adP cP (m).pages, r1 s.2.2.1 s.2.2.2, r2 s.2.2.1 s.2.2.2]) (0, (mset gz (at_ : Int) ()), tz, az) ?_ (by repeat (first | exact trivial | refine ⟨rfl, ?_⟩ | refine ⟨intE (by omega), ?_⟩)) (by repeat constructor) (by repeat constructor) ?_
     ·exact ⟨Nat.zero_le _, ⟨hmet.1, by have := hmet.2; dsimp only; omega⟩, hr0⟩
     ·rintro J ⟨i, g, t, a⟩ ⟨hi, hgf, hr⟩ hJ; dsimp only at hi hr ⊢; dsimp only at hgf; refine C_seq <| C_region <| S_run 1 rfl <| S_nil <| C_seq ?_; refine C_if rfl (fun h38 => ?_) (fun h38 => ?_)
      ·refine C_skip <| C_seq <| C_block <| C_seq <| C_region ?_; obtain ⟨y, hy⟩ : ∃ y, (loadN m (at_ : Int) false).2[i]? = some y := ⟨_, List.getElem?_eq_getElem (by omega)⟩; have hyo := hld.1 y (List.mem_of_getElem? hy); rw [drop_cons hy, eachL] at hr; refine S_run 1 rfl ?_; refine S_yx rfl rfl rfl (Y_ixA rfl u79 ti83 rfl rfl rfl (by repeat constructor) rfl (by omega) hy) ?_; rintro _ _ ⟨b40, o40, rfl, rfl⟩; refine S_y rfl rfl rfl (Y_ldS Try.underlying83 rfl ti83 rfl rfl) ?_; refine S_alloc rfl rfl rfl rfl ti83 rfl (fun b17 => ?_); refine S_run 1 rfl ?_; refine S_stS rfl rfl rfl ti83 rfl rfl rfl rfl (by repeat constructor) (by rfl) ?_; refine S_nil <| C_seq <| C_block <| C_seq <| C_region <| S_run 1 rfl ?_; refine S_y rfl rfl rfl (Y_strneq rfl rfl rfl) ?_; refine S_run 1 rfl ?_; refine S_prop 54 rfl (fun h54 => ?_) (fun h54 => ?_)
       ·refine S_run 4 rfl ?_; refine S_prop 58 rfl (fun h58 => ?_) (fun h58 => ?_)
        ·refine S_y rfl rfl rfl (Y_fa ly83 rfl rfl rfl) ?_; refine S_y rfl rfl rfl (Y_ld u9 rfl rfl rfl) ?_; refine S_run 1 rfl ?_; refine S_y rfl rfl rfl (Y_strgeq rfl rfl rfl) ?_; refine S_run 2 rfl <| S_nil ?_; refine C_cond rfl (fun h51 => ?_) (fun h51 => ?_)
         ·refine C_seq <| C_region ?_
          have e : (eachN F m fr to_ (d + 1) gz tz (at_ : Int)) = ⟨g, t, 0⟩ := by
            rw [← hr]; refine if_pos ⟨?_, by omega⟩; unfold outTo; simp_all
          refine S_run 1 rfl <| S_nil ?_; rw [e] at hret
          first
            | exact hret (Res_tmps Try.results40 rfl rfl) ⟨az, rfl, rfl, rfl⟩
            | exact hret (Res_tmps Try.results40 rfl rfl) ⟨a, rfl, rfl, rfl⟩
            | exact hret (Res_tmps Try.results40 rfl rfl) ⟨a2, rfl, rfl, rfl⟩
          
         ·refine C_seq <| C_region ?_
          have hne : ¬ (outTo to_ y = true ∧ 0 < i) := by
            rintro ⟨q1, q2⟩; unfold outTo at q1; simp only [Bool.and_eq_true, decide_eq_true_eq, Bool.not_eq_true'] at q1
            simp_all
          rw [if_neg hne] at hr; refine S_run 1 rfl ?_; refine S_y rfl rfl rfl ((Y_pure rfl).as (v' := .bool false) (congrArg Value.bool (decide_eq_false (by omega)))) ?_; refine S_run 17 rfl <| S_nil ?_; refine C_cond_f rfl ?_; refine C_seq <| C_region <| S_run 1 rfl ?_; refine S_y rfl rfl rfl ((Y_pure rfl).as (v' := .bool false) (congrArg Value.bool (decide_eq_false (by omega)))) ?_; refine S_run 1 rfl <| S_nil ?_; refine C_cond_f rfl ?_; refine C_seq <| C_region <| S_run 1 rfl ?_; refine S_y rfl rfl rfl (Y_addi rfl rfl rfl (by omega) (by omega)) ?_; refine S_run 1 rfl ?_; refine S_y rfl rfl rfl (Y_slen rfl rfl u79) ?_; refine S_run 2 rfl ?_; refine S_prop 95 rfl (fun h95 => ?_) (fun h95 => ?_)
          ·obtain ⟨z, hz⟩ : ∃ z, (loadN m (at_ : Int) false).2[i + 1]? = some z := ⟨_, List.getElem?_eq_getElem (by omega)⟩; refine S_run 2 rfl ?_; refine S_y rfl rfl rfl ((Y_addi rfl rfl rfl (by omega) (by omega)).as (v' := .int .i64 ((i + 1 : Nat) : Int)) rfl) ?_; refine S_yx rfl rfl rfl (Y_ixA rfl u79 ti83 rfl rfl rfl (by repeat constructor) rfl (by omega) hz) ?_; rintro _ _ ⟨b99, o99, rfl, rfl⟩; refine S_y rfl rfl rfl (Y_fa ly83 rfl rfl rfl) ?_; refine S_y rfl rfl rfl (Y_ld u9 rfl rfl rfl) ?_; refine S_run 1 rfl ?_; refine S_y rfl rfl rfl (Y_strleq rfl rfl rfl) ?_; refine S_run 2 rfl <| S_nil ?_; refine C_cond rfl (fun h89 => ?_) (fun h89 => ?_)
           ·refine C_exit rfl <| C_region ?_; refine S_y rfl rfl rfl (Y_addi rfl rfl rfl (by omega) (by omega)) ?_; refine S_run 1 rfl <| S_nil ?_
            first
              | (rw [if_neg (show ¬ (eachN F m fr to_ d g t (y.page : Int)).e ≠ 0 by omega)] at hr
                 exact hJ (i + 1, (eachN F m fr to_ d g t (y.page : Int)).g, (eachN F m fr to_ d g t (y.page : Int)).t, a2) ⟨by show i + 1 ≤ _; omega, eachN_few hm hF d g t _ hgf (by omega), hr⟩ (by show (loadN m (at_ : Int) false).2.length - (i + 1) < (loadN m (at_ : Int) false).2.length - i; omega))
              | (rw [if_neg (by decide), if_pos (show nextLE fr ((loadN m (at_ : Int) false).2.drop (i + 1)) = true by rw [nextLE_at fr hz]; simp_all)] at hr
                 exact hJ (i + 1, g, t, a) ⟨by show i + 1 ≤ _; omega, hgf, hr⟩ (by show (loadN m (at_ : Int) false).2.length - (i + 1) < (loadN m (at_ : Int) false).2.length - i; omega))
           ·refine C_region ?_; rw [if_neg (by decide), if_neg (show ¬ nextLE fr ((loadN m (at_ : Int) false).2.drop (i + 1)) = true by first | (rw [nextLE_at fr hz]; simp_all) | (rw [nextLE_end fr (by omega)]; decide))] at hr; refine S_run 1 rfl ?_; refine S_y rfl rfl rfl (Y_fa ly83 rfl rfl rfl) ?_; refine S_y rfl rfl rfl (Y_ld u3 rfl rfl rfl) ?_; refine S_run 1 rfl ?_; refine S_y rfl rfl rfl ((Y_subi rfl rfl rfl (by omega) (by omega)).as (v' := .int .i64 ((d + 1 : Nat) : Int)) (by congr 1; omega)) ?_; refine S_run 3 rfl ?_; refine S_enter rfl rfl rfl (E_fn rfl rfl) (ih g t a y.page hgf) ?_; rintro _ _ _ ⟨a2, rfl, rfl, rfl⟩; (try dsimp only [c_a, n_a]); refine S_run 1 rfl <| S_nil <| C_blk <| C_seq <| C_region <| S_run 2 rfl <| S_nil ?_; refine C_if rfl (fun h106 => ?_) (fun h106 => ?_)
            ·refine C_seq <| C_region ?_; rw [if_pos (show (eachN F m fr to_ d g t (y.page : Int)).e ≠ 0 by omega)] at hr; have e : (eachN F m fr to_ (d + 1) gz tz (at_ : Int)) = (eachN F m fr to_ d g t (y.page : Int)) := hr.symm; refine S_run 2 rfl <| S_nil ?_; rw [e] at hret
             first
               | exact hret (Res_tmps Try.results40 rfl rfl) ⟨az, rfl, rfl, rfl⟩
               | exact hret (Res_tmps Try.results40 rfl rfl) ⟨a, rfl, rfl, rfl⟩
               | exact hret (Res_tmps Try.results40 rfl rfl) ⟨a2, rfl, rfl, rfl⟩
             
            ·refine C_skip <| C_blk <| C_region ?_; refine S_y rfl rfl rfl (Y_addi rfl rfl rfl (by omega) (by omega)) ?_; refine S_run 1 rfl <| S_nil ?_
             first
               | (rw [if_neg (show ¬ (eachN F m fr to_ d g t (y.page : Int)).e ≠ 0 by omega)] at hr
                  exact hJ (i + 1, (eachN F m fr to_ d g t (y.page : Int)).g, (eachN F m fr to_ d g t (y.page : Int)).t, a2) ⟨by show i + 1 ≤ _; omega, eachN_few hm hF d g t _ hgf (by omega), hr⟩ (by show (loadN m (at_ : Int) false).2.length - (i + 1) < (loadN m (at_ : Int) false).2.length - i; omega))
               | (rw [if_neg (by decide), if_pos (show nextLE fr ((loadN m (at_ : Int) false).2.drop (i + 1)) = true by rw [nextLE_at fr hz]; simp_all)] at hr
                  exact hJ (i + 1, g, t, a) ⟨by show i + 1 ≤ _; omega, hgf, hr⟩ (by show (loadN m (at_ : Int) false).2.length - (i + 1) < (loadN m (at_ : Int) false).2.length - i; omega))
          ·refine S_run 2 rfl <| S_run 8 rfl <| S_nil ?_; refine C_cond_f rfl ?_; refine C_region ?_; rw [if_neg (by decide), if_neg (show ¬ nextLE fr ((loadN m (at_ : Int) false).2.drop (i + 1)) = true by first | (rw [nextLE_at fr hz]; simp_all) | (rw [nextLE_end fr (by omega)]; decide))] at hr; refine S_run 1 rfl ?_; refine S_y rfl rfl rfl (Y_fa ly83 rfl rfl rfl) ?_; refine S_y rfl rfl rfl (Y_ld u3 rfl rfl rfl) ?_; refine S_run 1 rfl ?_; refine S_y rfl rfl rfl ((Y_subi rfl rfl rfl (by omega) (by omega)).as (v' := .int .i64 ((d + 1 : Nat) : Int)) (by congr 1; omega)) ?_; refine S_run 3 rfl ?_; refine S_enter rfl rfl rfl (E_fn rfl rfl) (ih g t a y.page hgf) ?_; rintro _ _ _ ⟨a2, rfl, rfl, rfl⟩; (try dsimp only [c_a, n_a]); refine S_run 1 rfl <| S_nil <| C_blk <| C_seq <| C_region <| S_run 2 rfl <| S_nil ?_; refine C_if rfl (fun h106 => ?_) (fun h106 => ?_)
           ·refine C_seq <| C_region ?_; rw [if_pos (show (eachN F m fr to_ d g t (y.page : Int)).e ≠ 0 by omega)] at hr; have e : (eachN F m fr to_ (d + 1) gz tz (at_ : Int)) = (eachN F m fr to_ d g t (y.page : Int)) := hr.symm; refine S_run 2 rfl <| S_nil ?_; rw [e] at hret
            first
              | exact hret (Res_tmps Try.results40 rfl rfl) ⟨az, rfl, rfl, rfl⟩
              | exact hret (Res_tmps Try.results40 rfl rfl) ⟨a, rfl, rfl, rfl⟩
              | exact hret (Res_tmps Try.results40 rfl rfl) ⟨a2, rfl, rfl, rfl⟩
            
           ·refine C_skip <| C_blk <| C_region ?_; refine S_y rfl rfl rfl (Y_addi rfl rfl rfl (by omega) (by omega)) ?_; refine S_run 1 rfl <| S_nil ?_
            first
              | (rw [if_neg (show ¬ (eachN F m fr to_ d g t (y.page : Int)).e ≠ 0 by omega)] at hr
                 exact hJ (i + 1, (eachN F m fr to_ d g t (y.page : Int)).g, (eachN F m fr to_ d g t (y.page : Int)).t, a2) ⟨by show i + 1 ≤ _; omega, eachN_few hm hF d g t _ hgf (by omega), hr⟩ (by show (loadN m (at_ : Int) false).2.length - (i + 1) < (loadN m (at_ : Int) false).2.length - i; omega))
              | (rw [if_neg (by decide), if_pos (show nextLE fr ((loadN m (at_ : Int) false).2.drop (i + 1)) = true by rw [nextLE_at fr hz]; simp_all)] at hr
                 exact hJ (i + 1, g, t, a) ⟨by show i + 1 ≤ _; omega, hgf, hr⟩ (by show (loadN m (at_ : Int) false).2.length - (i + 1) < (loadN m (at_ : Int) false).2.length - i; omega))
        ·refine S_run 6 rfl <| S_nil ?_; refine C_cond_f rfl ?_; refine C_seq <| C_region ?_
         have hne : ¬ (outTo to_ y = true ∧ 0 < i) := by
           rintro ⟨q1, q2⟩; unfold outTo at q1; simp only [Bool.and_eq_true, decide_eq_true_eq, Bool.not_eq_true'] at q1
           simp_all
         rw [if_neg hne] at hr; refine S_run 1 rfl ?_; refine S_y rfl rfl rfl ((Y_pure rfl).as (v' := .bool false) (congrArg Value.bool (decide_eq_false (by omega)))) ?_; refine S_run 17 rfl <| S_nil ?_; refine C_cond_f rfl ?_; refine C_seq <| C_region <| S_run 1 rfl ?_; refine S_y rfl rfl rfl ((Y_pure rfl).as (v' := .bool false) (congrArg Value.bool (decide_eq_false (by omega)))) ?_; refine S_run 1 rfl <| S_nil ?_; refine C_cond_f rfl ?_; refine C_seq <| C_region <| S_run 1 rfl ?_; refine S_y rfl rfl rfl (Y_addi rfl rfl rfl (by omega) (by omega)) ?_; refine S_run 1 rfl ?_; refine S_y rfl rfl rfl (Y_slen rfl rfl u79) ?_; refine S_run 2 rfl ?_; refine S_prop 95 rfl (fun h95 => ?_) (fun h95 => ?_)
         ·obtain ⟨z, hz⟩ : ∃ z, (loadN m (at_ : Int) false).2[i + 1]? = some z := ⟨_, List.getElem?_eq_getElem (by omega)⟩; refine S_run 2 rfl ?_; refine S_y rfl rfl rfl ((Y_addi rfl rfl rfl (by omega) (by omega)).as (v' := .int .i64 ((i + 1 : Nat) : Int)) rfl) ?_; refine S_yx rfl rfl rfl (Y_ixA rfl u79 ti83 rfl rfl rfl (by repeat constructor) rfl (by omega) hz) ?_; rintro _ _ ⟨b99, o99, rfl, rfl⟩; refine S_y rfl rfl rfl (Y_fa ly83 rfl rfl rfl) ?_; refine S_y rfl rfl rfl (Y_ld u9 rfl rfl rfl) ?_; refine S_run 1 rfl ?_; refine S_y rfl rfl rfl (Y_strleq rfl rfl rfl) ?_; refine S_run 2 rfl <| S_nil ?_; refine C_cond rfl (fun h89 => ?_) (fun h89 => ?_)
          ·refine C_exit rfl <| C_region ?_; refine S_y rfl rfl rfl (Y_addi rfl rfl rfl (by omega) (by omega)) ?_; refine S_run 1 rfl <| S_nil ?_
           first
             | (rw [if_neg (show ¬ (eachN F m fr to_ d g t (y.page : Int)).e ≠ 0 by omega)] at hr
                exact hJ (i + 1, (eachN F m fr to_ d g t (y.page : Int)).g, (eachN F m fr to_ d g t (y.page : Int)).t, a2) ⟨by show i + 1 ≤ _; omega, eachN_few hm hF d g t _ hgf (by omega), hr⟩ (by show (loadN m (at_ : Int) false).2.length - (i + 1) < (loadN m (at_ : Int) false).2.length - i; omega))
             | (rw [if_neg (by decide), if_pos (show nextLE fr ((loadN m (at_ : Int) false).2.drop (i + 1)) = true by rw [nextLE_at fr hz]; simp_all)] at hr
                exact hJ (i + 1, g, t, a) ⟨by show i + 1 ≤ _; omega, hgf, hr⟩ (by show (loadN m (at_ : Int) false).2.length - (i + 1) < (loadN m (at_ : Int) false).2.length - i; omega))
          ·refine C_region ?_; rw [if_neg (by decide), if_neg (show ¬ nextLE fr ((loadN m (at_ : Int) false).2.drop (i + 1)) = true by first | (rw [nextLE_at fr hz]; simp_all) | (rw [nextLE_end fr (by omega)]; decide))] at hr; refine S_run 1 rfl ?_; refine S_y rfl rfl rfl (Y_fa ly83 rfl rfl rfl) ?_; refine S_y rfl rfl rfl (Y_ld u3 rfl rfl rfl) ?_; refine S_run 1 rfl ?_; refine S_y rfl rfl rfl ((Y_subi rfl rfl rfl (by omega) (by omega)).as (v' := .int .i64 ((d + 1 : Nat) : Int)) (by congr 1; omega)) ?_; refine S_run 3 rfl ?_; refine S_enter rfl rfl rfl (E_fn rfl rfl) (ih g t a y.page hgf) ?_; rintro _ _ _ ⟨a2, rfl, rfl, rfl⟩; (try dsimp only [c_a, n_a]); refine S_run 1 rfl <| S_nil <| C_blk <| C_seq <| C_region <| S_run 2 rfl <| S_nil ?_; refine C_if rfl (fun h106 => ?_) (fun h106 => ?_)
           ·refine C_seq <| C_region ?_; rw [if_pos (show (eachN F m fr to_ d g t (y.page : Int)).e ≠ 0 by omega)] at hr; have e : (eachN F m fr to_ (d + 1) gz tz (at_ : Int)) = (eachN F m fr to_ d g t (y.page : Int)) := hr.symm; refine S_run 2 rfl <| S_nil ?_; rw [e] at hret
            first
              | exact hret (Res_tmps Try.results40 rfl rfl) ⟨az, rfl, rfl, rfl⟩
              | exact hret (Res_tmps Try.results40 rfl rfl) ⟨a, rfl, rfl, rfl⟩
              | exact hret (Res_tmps Try.results40 rfl rfl) ⟨a2, rfl, rfl, rfl⟩
            
           ·refine C_skip <| C_blk <| C_region ?_; refine S_y rfl rfl rfl (Y_addi rfl rfl rfl (by omega) (by omega)) ?_; refine S_run 1 rfl <| S_nil ?_
            first
              | (rw [if_neg (show ¬ (eachN F m fr to_ d g t (y.page : Int)).e ≠ 0 by omega)] at hr
                 exact hJ (i + 1, (eachN F m fr to_ d g t (y.page : Int)).g, (eachN F m fr to_ d g t (y.page : Int)).t, a2) ⟨by show i + 1 ≤ _; omega, eachN_few hm hF d g t _ hgf (by omega), hr⟩ (by show (loadN m (at_ : Int) false).2.length - (i + 1) < (loadN m (at_ : Int) false).2.length - i; omega))
              | (rw [if_neg (by decide), if_pos (show nextLE fr ((loadN m (at_ : Int) false).2.drop (i + 1)) = true by rw [nextLE_at fr hz]; simp_all)] at hr
                 exact hJ (i + 1, g, t, a) ⟨by show i + 1 ≤ _; omega, hgf, hr⟩ (by show (loadN m (at_ : Int) false).2.length - (i + 1) < (loadN m (at_ : Int) false).2.length - i; omega))
         ·refine S_run 2 rfl <| S_run 8 rfl <| S_nil ?_; refine C_cond_f rfl ?_; refine C_region ?_; rw [if_neg (by decide), if_neg (show ¬ nextLE fr ((loadN m (at_ : Int) false).2.drop (i + 1)) = true by first | (rw [nextLE_at fr hz]; simp_all) | (rw [nextLE_end fr (by omega)]; decide))] at hr; refine S_run 1 rfl ?_; refine S_y rfl rfl rfl (Y_fa ly83 rfl rfl rfl) ?_; refine S_y rfl rfl rfl (Y_ld u3 rfl rfl rfl) ?_; refine S_run 1 rfl ?_; refine S_y rfl rfl rfl ((Y_subi rfl rfl rfl (by omega) (by omega)).as (v' := .int .i64 ((d + 1 : Nat) : Int)) (by congr 1; omega)) ?_; refine S_run 3 rfl ?_; refine S_enter rfl rfl rfl (E_fn rfl rfl) (ih g t a y.page hgf) ?_; rintro _ _ _ ⟨a2, rfl, rfl, rfl⟩; (try dsimp only [c_a, n_a]); refine S_run 1 rfl <| S_nil <| C_blk <| C_seq <| C_region <| S_run 2 rfl <| S_nil ?_; refine C_if rfl (fun h106 => ?_) (fun h106 => ?_)
          ·refine C_seq <| C_region ?_; rw [if_pos (show (eachN F m fr to_ d g t (y.page : Int)).e ≠ 0 by omega)] at hr; have e : (eachN F m fr to_ (d + 1) gz tz (at_ : Int)) = (eachN F m fr to_ d g t (y.page : Int)) := hr.symm; refine S_run 2 rfl <| S_nil ?_; rw [e] at hret
           first
             | exact hret (Res_tmps Try.results40 rfl rfl) ⟨az, rfl, rfl, rfl⟩
             | exact hret (Res_tmps Try.results40 rfl rfl) ⟨a, rfl, rfl, rfl⟩
             | exact hret (Res_tmps Try.results40 rfl rfl) ⟨a2, rfl, rfl, rfl⟩
           
          ·refine C_skip <| C_blk <| C_region ?_; refine S_y rfl rfl rfl (Y_addi rfl rfl rfl (by omega) (by omega)) ?_; refine S_run 1 rfl <| S_nil ?_
           first
             | (rw [if_neg (show ¬ (eachN F m fr to_ d g t (y.page : Int)).e ≠ 0 by omega)] at hr
                exact hJ (i + 1, (eachN F m fr to_ d g t (y.page : Int)).g, (eachN F m fr to_ d g t (y.page : Int)).t, a2) ⟨by show i + 1 ≤ _; omega, eachN_few hm hF d g t _ hgf (by omega), hr⟩ (by show (loadN m (at_ : Int) false).2.length - (i + 1) < (loadN m (at_ : Int) false).2.length - i; omega))
             | (rw [if_neg (by decide), if_pos (show nextLE fr ((loadN m (at_ : Int) false).2.drop (i + 1)) = true by rw [nextLE_at fr hz]; simp_all)] at hr
                exact hJ (i + 1, g, t, a) ⟨by show i + 1 ≤ _; omega, hgf, hr⟩ (by show (loadN m (at_ : Int) false).2.length - (i + 1) < (loadN m (at_ : Int) false).2.length - i; omega))
       ·refine S_run 10 rfl <| S_nil ?_; refine C_cond_f rfl ?_; refine C_seq <| C_region ?_
        have hne : ¬ (outTo to_ y = true ∧ 0 < i) := by
          rintro ⟨q1, q2⟩; unfold outTo at q1; simp only [Bool.and_eq_true, decide_eq_true_eq, Bool.not_eq_true'] at q1
          simp_all
        rw [if_neg hne] at hr; refine S_run 1 rfl ?_; refine S_y rfl rfl rfl ((Y_pure rfl).as (v' := .bool false) (congrArg Value.bool (decide_eq_false (by omega)))) ?_; refine S_run 17 rfl <| S_nil ?_; refine C_cond_f rfl ?_; refine C_seq <| C_region <| S_run 1 rfl ?_; refine S_y rfl rfl rfl ((Y_pure rfl).as (v' := .bool false) (congrArg Value.bool (decide_eq_false (by omega)))) ?_; refine S_run 1 rfl <| S_nil ?_; refine C_cond_f rfl ?_; refine C_seq <| C_region <| S_run 1 rfl ?_; refine S_y rfl rfl rfl (Y_addi rfl rfl rfl (by omega) (by omega)) ?_; refine S_run 1 rfl ?_; refine S_y rfl rfl rfl (Y_slen rfl rfl u79) ?_; refine S_run 2 rfl ?_; refine S_prop 95 rfl (fun h95 => ?_) (fun h95 => ?_)
        ·obtain ⟨z, hz⟩ : ∃ z, (loadN m (at_ : Int) false).2[i + 1]? = some z := ⟨_, List.getElem?_eq_getElem (by omega)⟩; refine S_run 2 rfl ?_; refine S_y rfl rfl rfl ((Y_addi rfl rfl rfl (by omega) (by omega)).as (v' := .int .i64 ((i + 1 : Nat) : Int)) rfl) ?_; refine S_yx rfl rfl rfl (Y_ixA rfl u79 ti83 rfl rfl rfl (by repeat constructor) rfl (by omega) hz) ?_; rintro _ _ ⟨b99, o99, rfl, rfl⟩; refine S_y rfl rfl rfl (Y_fa ly83 rfl rfl rfl) ?_; refine S_y rfl rfl rfl (Y_ld u9 rfl rfl rfl) ?_; refine S_run 1 rfl ?_; refine S_y rfl rfl rfl (Y_strleq rfl rfl rfl) ?_; refine S_run 2 rfl <| S_nil ?_; refine C_cond rfl (fun h89 => ?_) (fun h89 => ?_)
         ·refine C_exit rfl <| C_region ?_; refine S_y rfl rfl rfl (Y_addi rfl rfl rfl (by omega) (by omega)) ?_; refine S_run 1 rfl <| S_nil ?_
          first
            | (rw [if_neg (show ¬ (eachN F m fr to_ d g t (y.page : Int)).e ≠ 0 by omega)] at hr
               exact hJ (i + 1, (eachN F m fr to_ d g t (y.page : Int)).g, (eachN F m fr to_ d g t (y.page : Int)).t, a2) ⟨by show i + 1 ≤ _; omega, eachN_few hm hF d g t _ hgf (by omega), hr⟩ (by show (loadN m (at_ : Int) false).2.length - (i + 1) < (loadN m (at_ : Int) false).2.length - i; omega))
            | (rw [if_neg (by decide), if_pos (show nextLE fr ((loadN m (at_ : Int) false).2.drop (i + 1)) = true by rw [nextLE_at fr hz]; simp_all)] at hr
               exact hJ (i + 1, g, t, a) ⟨by show i + 1 ≤ _; omega, hgf, hr⟩ (by show (loadN m (at_ : Int) false).2.length - (i + 1) < (loadN m (at_ : Int) false).2.length - i; omega))
         ·refine C_region ?_; rw [if_neg (by decide), if_neg (show ¬ nextLE fr ((loadN m (at_ : Int) false).2.drop (i + 1)) = true by first | (rw [nextLE_at fr hz]; simp_all) | (rw [nextLE_end fr (by omega)]; decide))] at hr; refine S_run 1 rfl ?_; refine S_y rfl rfl rfl (Y_fa ly83 rfl rfl rfl) ?_; refine S_y rfl rfl rfl (Y_ld u3 rfl rfl rfl) ?_; refine S_run 1 rfl ?_; refine S_y rfl rfl rfl ((Y_subi rfl rfl rfl (by omega) (by omega)).as (v' := .int .i64 ((d + 1 : Nat) : Int)) (by congr 1; omega)) ?_; refine S_run 3 rfl ?_; refine S_enter rfl rfl rfl (E_fn rfl rfl) (ih g t a y.page hgf) ?_; rintro _ _ _ ⟨a2, rfl, rfl, rfl⟩; (try dsimp only [c_a, n_a]); refine S_run 1 rfl <| S_nil <| C_blk <| C_seq <| C_region <| S_run 2 rfl <| S_nil ?_; refine C_if rfl (fun h106 => ?_) (fun h106 => ?_)
          ·refine C_seq <| C_region ?_; rw [if_pos (show (eachN F m fr to_ d g t (y.page : Int)).e ≠ 0 by omega)] at hr; have e : (eachN F m fr to_ (d + 1) gz tz (at_ : Int)) = (eachN F m fr to_ d g t (y.page : Int)) := hr.symm; refine S_run 2 rfl <| S_nil ?_; rw [e] at hret
           first
             | exact hret (Res_tmps Try.results40 rfl rfl) ⟨az, rfl, rfl, rfl⟩
             | exact hret (Res_tmps Try.results40 rfl rfl) ⟨a, rfl, rfl, rfl⟩
             | exact hret (Res_tmps Try.results40 rfl rfl) ⟨a2, rfl, rfl, rfl⟩
           
          ·refine C_skip <| C_blk <| C_region ?_; refine S_y rfl rfl rfl (Y_addi rfl rfl rfl (by omega) (by omega)) ?_; refine S_run 1 rfl <| S_nil ?_
           first
             | (rw [if_neg (show ¬ (eachN F m fr to_ d g t (y.page : Int)).e ≠ 0 by omega)] at hr
                exact hJ (i + 1, (eachN F m fr to_ d g t (y.page : Int)).g, (eachN F m fr to_ d g t (y.page : Int)).t, a2) ⟨by show i + 1 ≤ _; omega, eachN_few hm hF d g t _ hgf (by omega), hr⟩ (by show (loadN m (at_ : Int) false).2.length - (i + 1) < (loadN m (at_ : Int) false).2.length - i; omega))
             | (rw [if_neg (by decide), if_pos (show nextLE fr ((loadN m (at_ : Int) false).2.drop (i + 1)) = true by rw [nextLE_at fr hz]; simp_all)] at hr
                exact hJ (i + 1, g, t, a) ⟨by show i + 1 ≤ _; omega, hgf, hr⟩ (by show (loadN m (at_ : Int) false).2.length - (i + 1) < (loadN m (at_ : Int) false).2.length - i; omega))
        ·refine S_run 2 rfl <| S_run 8 rfl <| S_nil ?_; refine C_cond_f rfl ?_; refine C_region ?_; rw [if_neg (by decide), if_neg (show ¬ nextLE fr ((loadN m (at_ : Int) false).2.drop (i + 1)) = true by first | (rw [nextLE_at fr hz]; simp_all) | (rw [nextLE_end fr (by omega)]; decide))] at hr; refine S_run 1 rfl ?_; refine S_y rfl rfl rfl (Y_fa ly83 rfl rfl rfl) ?_; refine S_y rfl rfl rfl (Y_ld u3 rfl rfl rfl) ?_; refine S_run 1 rfl ?_; refine S_y rfl rfl rfl ((Y_subi rfl rfl rfl (by omega) (by omega)).as (v' := .int .i64 ((d + 1 : Nat) : Int)) (by congr 1; omega)) ?_; refine S_run 3 rfl ?_; refine S_enter rfl rfl rfl (E_fn rfl rfl) (ih g t a y.page hgf) ?_; rintro _ _ _ ⟨a2, rfl, rfl, rfl⟩; (try dsimp only [c_a, n_a]); refine S_run 1 rfl <| S_nil <| C_blk <| C_seq <| C_region <| S_run 2 rfl <| S_nil ?_; refine C_if rfl (fun h106 => ?_) (fun h106 => ?_)
         ·refine C_seq <| C_region ?_; rw [if_pos (show (eachN F m fr to_ d g t (y.page : Int)).e ≠ 0 by omega)] at hr; have e : (eachN F m fr to_ (d + 1) gz tz (at_ : Int)) = (eachN F m fr to_ d g t (y.page : Int)) := hr.symm; refine S_run 2 rfl <| S_nil ?_; rw [e] at hret
          first
            | exact hret (Res_tmps Try.results40 rfl rfl) ⟨az, rfl, rfl, rfl⟩
            | exact hret (Res_tmps Try.results40 rfl rfl) ⟨a, rfl, rfl, rfl⟩
            | exact hret (Res_tmps Try.results40 rfl rfl) ⟨a2, rfl, rfl, rfl⟩
          
         ·refine C_skip <| C_blk <| C_region ?_; refine S_y rfl rfl rfl (Y_addi rfl rfl rfl (by omega) (by omega)) ?_; refine S_run 1 rfl <| S_nil ?_
          first
            | (rw [if_neg (show ¬ (eachN F m fr to_ d g t (y.page : Int)).e ≠ 0 by omega)] at hr
               exact hJ (i + 1, (eachN F m fr to_ d g t (y.page : Int)).g, (eachN F m fr to_ d g t (y.page : Int)).t, a2) ⟨by show i + 1 ≤ _; omega, eachN_few hm hF d g t _ hgf (by omega), hr⟩ (by show (loadN m (at_ : Int) false).2.length - (i + 1) < (loadN m (at_ : Int) false).2.length - i; omega))
            | (rw [if_neg (by decide), if_pos (show nextLE fr ((loadN m (at_ : Int) false).2.drop (i + 1)) = true by rw [nextLE_at fr hz]; simp_all)] at hr
               exact hJ (i + 1, g, t, a) ⟨by show i + 1 ≤ _; omega, hgf, hr⟩ (by show (loadN m (at_ : Int) false).2.length - (i + 1) < (loadN m (at_ : Int) false).2.length - i; omega))
      ·refine C_exit rfl <| C_seq <| C_region ?_; have hil : i = (loadN m (at_ : Int) false).2.length := by omega
       subst hil
       have e : (eachN F m fr to_ (d + 1) gz tz (at_ : Int)) = ⟨g, t, 0⟩ := by
         rw [← hr, List.drop_length, eachL]
       refine S_run 1 rfl <| S_nil ?_; rw [e] at hret
       first
         | exact hret (Res_tmps Try.results40 rfl rfl) ⟨az, rfl, rfl, rfl⟩
         | exact hret (Res_tmps Try.results40 rfl rfl) ⟨a, rfl, rfl, rfl⟩
         | exact hret (Res_tmps Try.results40 rfl rfl) ⟨a2, rfl, rfl, rfl⟩
       
theorem each_ok {bm : Nat} {m : Mem} {adP : Option Addr} {cP : Nat} {bw bg fn : Nat} {fi ca : Array Value} {fA : MF} {τ A : Type} {r1 r2 : τ → A → Res} {F : EaF τ} {cnt : τ → Nat} {fr to_ : Bytes} (hm : MOK m) (hmp : m.pages.length ≤ 3900000) (hF : EaOK m cnt F) (hf : ∀ (g : Gone) (t : τ) (a : A) (c : Cell), CellOK c → cnt t ≤ 3900000000000 → Spx Try.prog fn (fi ++ #[.agg (encCell c).toArray] ++ ca) [fA] [Res.mp (fun n : Int => Value.int .i64 n) (fun _ : Unit => Value.bool true) bg g, Res.blk bm (.cells (memC m adP cP) 29 (0, 0)), Res.arr elS 9 adP cP (m).pages, r1 t a, r2 t a] (fun v fs' own' => ∃ a', v = .int .i64 ((F g t c).e : Int) ∧ fs' = [] ∧ own' = [Res.mp (fun n : Int => Value.int .i64 n) (fun _ : Unit => Value.bool true) bg (F g t c).g, Res.blk bm (.cells (memC m adP cP) 29 (0, 0)), Res.arr elS 9 adP cP (m).pages, r1 (F g t c).t a', r2 (F g t c).t a'])) : ∀ (d : Nat), d ≤ 100 → ∀ (gz : Gone) (tz : τ) (az : A) (at_ : Nat), Few m cnt gz tz →
    Spx Try.prog 40 #[.pointer (some ⟨bw, 0, none⟩), .int .i64 (at_ : Int), .int .i64 ((d + 1 : Nat) : Int), str fr, str to_, .func (.func fn) fi ca] [PtM bw 0 [.iface 26 (.pointer (some ⟨bm, 0, none⟩)), .map (some bg)], fA] [Res.mp (fun n : Int => Value.int .i64 n) (fun _ : Unit => Value.bool true) bg gz, Res.blk bm (.cells (memC m adP cP) 29 (0, 0)), Res.arr elS 9 adP cP (m).pages, r1 tz az, r2 tz az] (fun v fs' own' => ∃ a', v = .int .i64 ((eachN F m fr to_ d gz tz (at_ : Int)).e : Int) ∧ fs' = [] ∧ own' = [Res.mp (fun n : Int => Value.int .i64 n) (fun _ : Unit => Value.bool true) bg (eachN F m fr to_ d gz tz (at_ : Int)).g, Res.blk bm (.cells (memC m adP cP) 29 (0, 0)), Res.arr elS 9 adP cP (m).pages, r1 (eachN F m fr to_ d gz tz (at_ : Int)).t a', r2 (eachN F m fr to_ d gz tz (at_ : Int)).t a'])
  | 0, _, _, _, _, _, h => each0_ok hm hmp hF hf h
  | d + 1, hd, _, _, _, _, h => eachS_ok hm hmp hF hf (by omega) (fun gz tz az at_ h => each_ok hm hmp hF hf d (by omega) gz tz az at_ h) h
end Go.Proofs.Ytlgbhceifnjdnaa
