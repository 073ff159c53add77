/- Walks: WI. -/
import Derived.Test.YtlgbhceifnjdnaaPX
import Derived.Test.YtlgbhceifnjdnaaWG
import Derived.Test.YtlgbhceifnjdnaaProg
import Derived.KernelRfl
namespace Go.Proofs.Ytlgbhceifnjdnaa
open Go.KX
namespace TWI
theorem u9 : Try.prog.underlying 9 = some (.string) := Try.underlying9
theorem u68 : Try.prog.underlying 68 = some (.slice 5) := Try.underlying68
theorem u79 : Try.prog.underlying 79 = some (.slice 83) := Try.underlying79
theorem ti5 : TI Try.prog 5 1 1 (.int .u8 0) := TI_of (by kernel_rfl)
theorem ti83 : TI Try.prog 83 4 48 (.agg #[str [], str [], .int .i64 0, .int .i64 0]) := TI_of (by kernel_rfl)
theorem ly83 : LY Try.prog 83 [(0, 1, false), (1, 1, false), (2, 1, false), (3, 1, false)] := LY_of Try.underlying83 (by kernel_rfl)
theorem ly108 : LY Try.prog 108 [(0, 1, false), (1, 1, false)] := LY_of Try.underlying108 (by kernel_rfl)
theorem bt83 : BT Try.prog 83 [(0, 1), (1, 1), (2, 1), (3, 1)] [str [], str [], .int .i64 0, .int .i64 0] := BT_of (pl := [(0, 1, false), (1, 1, false), (2, 1, false), (3, 1, false)]) Try.underlying83 (by kernel_rfl) ti83
end TWI
open TWI
set_option maxRecDepth 100000 in
set_option maxHeartbeats 8000000 in
theorem layT_ok {bm : Nat} {m : Mem} {adP : Option Addr} {cP : Nat} {bw bg c : Nat} {ad : Option Addr} {l : List Cell} (hm : MOL m) (hsz : 480 ≤ m.size) (hc : ∀ c ∈ l, CellOK c) (hl : l.length ≤ 2000000000) : Spx Try.prog 81 #[.pointer (some ⟨bw, 0, none⟩), .slice ad l.length c, .bool true] [SlM elCell ad c l, PtM bw 0 [.iface 26 (.pointer (some ⟨bm, 0, none⟩)), .map (some bg)]] [Res.blk bm (.cells (memC m adP cP) 29 (0, 0)), Res.arr elS 9 adP cP (m).pages] (fun v fs' own' => ∃ ad' c' adP' cP', v = .tuple #[.slice ad' (layN m l true).2.2.length c', .int .i64 ((layN m l true).2.1 : Int)] ∧ fs' = [] ∧ own' = [Res.arr elCell 83 ad' c' (layN m l true).2.2, Res.blk bm (.cells (memC (layN m l true).1 adP' cP') 29 (0, 0)), Res.arr elS 9 adP' cP' ((layN m l true).1).pages]) := by
 refine Spx_of_body (fn := Try.f81) 123 Try.func81 rfl (by kernel_rfl) rfl (Nat.le_of_ble_eq_true rfl) (fun g0 Q hret hend => ?_)
 dsimp only [initL]
 refine C_seq <| C_region ?_
 refine S_run 2 rfl ?_
 refine S_nil <| C_seq <| C_region ?_
 refine S_run 2 rfl ?_
 refine S_y rfl rfl rfl (Y_fa ly108 rfl rfl rfl) ?_
 refine S_y rfl rfl rfl (Y_ld Try.underlying73 rfl rfl rfl) ?_
 refine S_enter rfl rfl rfl (E_inv rfl rfl rfl (by intro w; kernel_rfl)) mroom_ok ?_
 rintro _ _ _ ⟨rfl, rfl, rfl⟩
 try dsimp only [List.cons_append, List.nil_append]
 have hs1 := hm.size
 have hsu := sumC_le hc true
 have hdv := Nat.div_le_self (sumC l true - 1) (m.size - 8).toNat
 have hdv0 : (0 : Int) ≤ (((sumC l true - 1) / (m.size - 8).toNat : Nat) : Int) := Int.natCast_nonneg _
 refine S_y rfl rfl rfl (Y_subi rfl rfl rfl (by omega) (by omega)) ?_
 refine S_run 1 rfl ?_
 refine S_nil <| C_seq <| C_region ?_
 refine S_run 2 rfl ?_
 refine S_enter rfl rfl rfl (E_fn rfl rfl) (sum_ok (leaf := true) hc (by omega)) ?_
 rintro _ _ _ ⟨rfl, rfl, rfl⟩
 try dsimp only [List.cons_append, List.nil_append]
 refine S_run 1 rfl ?_
 refine S_nil <| C_seq <| C_region ?_
 refine S_run 1 rfl ?_
 refine S_y rfl rfl rfl (Y_subi rfl rfl rfl (by omega) (by omega)) ?_
 refine S_run 1 rfl ?_
 refine S_y rfl rfl rfl ((Y_quo rfl rfl rfl (by omega)).as (v' := .int .i64 (((sumC l true - 1) / (m.size - 8).toNat : Nat) : Int)) (by rw [tdiv_pred _ (by omega), wrap_i64 (by omega) (by omega)])) ?_
 refine S_y rfl rfl rfl (Y_addi rfl rfl rfl (by omega) (by omega)) ?_
 refine S_run 1 rfl ?_
 refine S_nil <| C_seq <| C_block ?_
 refine C_nilarr elCell 83 ?_
 clear hsu
 refine C_loop (σ := Nat × Mem × List Cell × Nat × List Cell × (Option Addr × Nat) × (Option Addr × Nat) × (Option Addr × Nat)) (fun s => MOL s.2.1 ∧ s.2.1.size = m.size ∧ s.2.1.most = m.most ∧ (m.most - s.2.1.pages.length).toNat < s.1 ∧ (∀ c ∈ s.2.2.1, CellOK c) ∧ s.2.2.1.length ≤ 2000000000 ∧ 1 ≤ s.2.2.2.1 ∧ s.2.2.2.1 ≤ 2000080000000002 ∧ s.2.2.2.2.1.length ≤ s.2.1.pages.length ∧ layL true (m.size - 8) s.1 s.2.1 s.2.2.1 s.2.2.2.1 s.2.2.2.2.1 = (layN m l true)) (fun s => s.1)
   (fun s => [(0, .pointer (some ⟨bw, 0, none⟩)), (1, .slice s.2.2.2.2.2.1.1 s.2.2.1.length s.2.2.2.2.2.1.2), (2, .bool true), (6, .slice s.2.2.2.2.2.2.1.1 s.2.2.2.2.1.length s.2.2.2.2.2.2.1.2), (8, .int .i64 (m.size - 8)), (9, .int .i64 (sumC s.2.2.1 true : Int)), (10, .int .i64 (s.2.2.2.1 : Int))])
   (fun s => [SlM elCell s.2.2.2.2.2.1.1 s.2.2.2.2.2.1.2 s.2.2.1, PtM bw 0 [.iface 26 (.pointer (some ⟨bm, 0, none⟩)), .map (some bg)]]) (fun s => [Res.arr elCell 83 s.2.2.2.2.2.2.1.1 s.2.2.2.2.2.2.1.2 s.2.2.2.2.1, Res.blk bm (.cells (memC s.2.1 s.2.2.2.2.2.2.2.1 s.2.2.2.2.2.2.2.2) 29 (0, 0)), Res.arr elS 9 s.2.2.2.2.2.2.2.1 s.2.2.2.2.2.2.2.2 (s.2.1).pages]) ((m.most - m.pages.length).toNat + 1, m, l, (sumC l true - 1) / (m.size - 8).toNat + 1, [], (ad, c), (none, 0), (adP, cP)) ?_ (by repeat (first | exact trivial | refine ⟨rfl, ?_⟩ | refine ⟨intE (by omega), ?_⟩)) (by repeat constructor) (by repeat constructor) ?_
 ·exact ⟨hm, rfl, rfl, Nat.lt_succ_self _, hc, hl, Nat.succ_le_succ (Nat.zero_le _), by have := sumC_le hc true; dsimp only; omega, Nat.zero_le _, rfl⟩
 ·rintro J ⟨fu, m2, lc, nodes, out, ⟨adC, cC⟩, ⟨adO, cO⟩, ⟨adQ, cQ⟩⟩ ⟨hm2, hse, hmo, hfu, hco, hlc, hn1, hn2, hol, hr⟩ hJ
  dsimp only at hm2 hse hmo hfu hco hlc hn1 hn2 hol hr ⊢
  have hsc := sumC_le hco true
  refine C_seq <| C_seq <| C_region ?_
  refine S_run 1 rfl ?_
  refine S_y rfl rfl rfl (Y_slen rfl rfl u79) ?_
  refine S_run 1 rfl ?_
  refine S_nil ?_
  refine C_if rfl (fun h35 => ?_) (fun h35 => ?_)
  ·refine C_skip <| C_block <| C_seq <| C_region ?_
   obtain ⟨fu, rfl⟩ : ∃ k, fu = k + 1 := ⟨fu - 1, by omega⟩
   have hwa := Nat.div_le_self (sumC lc true) nodes
   have hwa0 : (0 : Int) ≤ ((sumC lc true / nodes : Nat) : Int) := Int.natCast_nonneg _
   refine S_run 2 rfl ?_
   refine S_y rfl rfl rfl ((Y_quo rfl rfl rfl (by omega)).as (v' := .int .i64 (((sumC lc true / nodes) : Nat) : Int)) (by rw [show ((sumC lc true : Nat) : Int).tdiv (nodes : Int) = (((sumC lc true / nodes) : Nat) : Int) by rw [Int.tdiv_eq_ediv_of_nonneg (by omega)]; rfl, wrap_i64 (by omega) (by omega)])) ?_
   refine S_run 1 rfl ?_
   refine S_nil <| C_seq <| C_region ?_
   refine S_run 2 rfl ?_
   refine S_nil <| C_seq <| C_block ?_
   refine C_loop (σ := Nat × Nat) (fun t => (t.2 : Int) ≤ m.size - 8 ∧ t.1 ≤ lc.length ∧ t.2 = sumC (lc.take t.1) true ∧ (t.1 + (takeL true (m.size - 8) (sumC lc true / nodes) nodes (lc.drop t.1) t.2).1, (takeL true (m.size - 8) (sumC lc true / nodes) nodes (lc.drop t.1) t.2).2) = (takeL true (m.size - 8) (sumC lc true / nodes) nodes lc 0)) (fun t => lc.length - t.1)
     (fun t => [(0, .pointer (some ⟨bw, 0, none⟩)), (1, .slice adC lc.length cC), (2, .bool true), (6, .slice adO out.length cO), (8, .int .i64 (m.size - 8)), (9, .int .i64 (sumC lc true : Int)), (10, .int .i64 (nodes : Int)), (11, .int .i64 (((sumC lc true / nodes) : Nat) : Int)), (12, .int .i64 (t.1 : Int)), (13, .int .i64 (t.2 : Int))])
     (fun t => [SlM elCell adC cC lc, PtM bw 0 [.iface 26 (.pointer (some ⟨bm, 0, none⟩)), .map (some bg)]]) (fun t => [Res.arr elCell 83 adO cO out, Res.blk bm (.cells (memC m2 adQ cQ) 29 (0, 0)), Res.arr elS 9 adQ cQ (m2).pages]) (0, 0) ?_ (by repeat (first | exact trivial | refine ⟨rfl, ?_⟩ | refine ⟨intE (by omega), ?_⟩)) (by repeat constructor) (by repeat constructor) ?_
   ·exact ⟨by dsimp only; omega, Nat.zero_le _, rfl, by simp⟩
   ·rintro J ⟨k, n⟩ ⟨hnr, hk, hn, hT⟩ hK
    dsimp only at hnr hk hn hT ⊢
    have hsk := sumC_split lc true k
    refine C_seq <| C_seq <| C_region ?_
    refine S_run 2 rfl ?_
    refine S_y rfl rfl rfl (Y_slen rfl rfl u79) ?_
    refine S_run 2 rfl ?_
    refine S_prop 43 rfl (fun h43 => ?_) (fun h43 => ?_)
    ·refine S_run 3 rfl ?_
     obtain ⟨y, hy⟩ : ∃ y, lc[k]? = some y := ⟨_, List.getElem?_eq_getElem (by omega)⟩
     have hyo := hco y (List.mem_of_getElem? hy)
     have hyb := cellB_len (c := y) true
     have hyt := hyo.text
     have hyp := hyo.page
     have hys := hyo.size
     refine S_yx rfl rfl rfl (Y_ixA rfl u79 ti83 rfl rfl rfl (by repeat constructor) rfl (by omega) hy) ?_
     rintro _ _ ⟨b47, o47, rfl, rfl⟩
     refine S_y rfl rfl rfl (Y_ldS Try.underlying83 rfl ti83 rfl rfl) ?_
     refine S_run 1 rfl ?_
     refine S_enter rfl rfl rfl (E_fn rfl rfl) (bytes_ok (cl := y) (leaf := true) (by omega) (by omega) (by omega)) ?_
     rintro _ _ _ ⟨rfl, rfl, rfl⟩
     try dsimp only [List.cons_append, List.nil_append]
     refine S_y rfl rfl rfl (Y_addi rfl rfl rfl (by omega) (by omega)) ?_
     refine S_run 4 rfl ?_
     refine S_prop 55 rfl (fun h55 => ?_) (fun h55 => ?_)
     ·refine S_run 4 rfl ?_
      refine S_prop 59 rfl (fun h59 => ?_) (fun h59 => ?_)
      ·refine S_run 4 rfl ?_
       refine S_nil ?_
       refine C_cond_t rfl ?_
       refine C_skip <| C_block <| C_seq <| C_region ?_
       refine S_run 3 rfl ?_
       refine S_yx rfl rfl rfl (Y_ixA rfl u79 ti83 rfl rfl rfl (by repeat constructor) rfl (by omega) hy) ?_
       rintro _ _ ⟨b67, o67, rfl, rfl⟩
       refine S_y rfl rfl rfl (Y_ldS Try.underlying83 rfl ti83 rfl rfl) ?_
       refine S_run 1 rfl ?_
       refine S_enter rfl rfl rfl (E_fn rfl rfl) (bytes_ok (cl := y) (leaf := true) (by omega) (by omega) (by omega)) ?_
       rintro _ _ _ ⟨rfl, rfl, rfl⟩
       try dsimp only [List.cons_append, List.nil_append]
       refine S_y rfl rfl rfl (Y_addi rfl rfl rfl (by omega) (by omega)) ?_
       refine S_run 1 rfl ?_
       refine S_nil <| C_region ?_
       refine S_run 1 rfl ?_
       refine S_y rfl rfl rfl (Y_addi rfl rfl rfl (by omega) (by omega)) ?_
       refine S_run 1 rfl ?_
       refine S_nil <| C_blk ?_
       rw [drop_cons hy, takeL, if_pos (by omega)] at hT
       refine hK (k + 1, n + (cellB y true).length) _ _ _ _ ⟨by dsimp only; omega, by show k + 1 ≤ _; omega, ?_, ?_⟩ (by show lc.length - (k + 1) < lc.length - k; omega) (by repeat (first | exact trivial | refine ⟨rfl, ?_⟩ | refine ⟨intE (by omega), ?_⟩)) (by repeat constructor) (by repeat constructor)
       · show n + _ = sumC (lc.take (k + 1)) true
         rw [take_succ_snoc hy, sumC_snoc, hn]
       · rw [← hT]
         exact Prod.ext (by dsimp only; omega) rfl
      ·refine S_run 4 rfl ?_
       refine S_nil ?_
       refine C_if rfl (fun h63 => ?_) (fun h63 => ?_)
       ·refine C_skip <| C_block <| C_seq <| C_region ?_
        refine S_run 3 rfl ?_
        refine S_yx rfl rfl rfl (Y_ixA rfl u79 ti83 rfl rfl rfl (by repeat constructor) rfl (by omega) hy) ?_
        rintro _ _ ⟨b67, o67, rfl, rfl⟩
        refine S_y rfl rfl rfl (Y_ldS Try.underlying83 rfl ti83 rfl rfl) ?_
        refine S_run 1 rfl ?_
        refine S_enter rfl rfl rfl (E_fn rfl rfl) (bytes_ok (cl := y) (leaf := true) (by omega) (by omega) (by omega)) ?_
        rintro _ _ _ ⟨rfl, rfl, rfl⟩
        try dsimp only [List.cons_append, List.nil_append]
        refine S_y rfl rfl rfl (Y_addi rfl rfl rfl (by omega) (by omega)) ?_
        refine S_run 1 rfl ?_
        refine S_nil <| C_region ?_
        refine S_run 1 rfl ?_
        refine S_y rfl rfl rfl (Y_addi rfl rfl rfl (by omega) (by omega)) ?_
        refine S_run 1 rfl ?_
        refine S_nil <| C_blk ?_
        rw [drop_cons hy, takeL, if_pos (by omega)] at hT
        refine hK (k + 1, n + (cellB y true).length) _ _ _ _ ⟨by dsimp only; omega, by show k + 1 ≤ _; omega, ?_, ?_⟩ (by show lc.length - (k + 1) < lc.length - k; omega) (by repeat (first | exact trivial | refine ⟨rfl, ?_⟩ | refine ⟨intE (by omega), ?_⟩)) (by repeat constructor) (by repeat constructor)
        · show n + _ = sumC (lc.take (k + 1)) true
          rw [take_succ_snoc hy, sumC_snoc, hn]
        · rw [← hT]
          exact Prod.ext (by dsimp only; omega) rfl
       ·refine C_exit rfl <| C_seq <| C_region ?_
        have hex : takeL true (m.size - 8) (sumC lc true / nodes) nodes (lc.drop k) n = (0, n) := by
          first
            | (rw [drop_cons hy, takeL]; exact if_neg (by omega))
            | (rw [List.drop_of_length_le (by omega)]; rfl)
        rw [hex] at hT
        replace hT : (takeL true (m.size - 8) (sumC lc true / nodes) nodes lc 0) = (k, n) := hT.symm
        refine S_lit elB [1] rfl rfl rfl rfl u68 ti5 rfl rfl rfl rfl rfl (by decide) (fun ad14 c14 => ?_)
        refine S_run 1 rfl ?_
        refine S_nil <| C_seq <| C_seq <| C_region ?_
        refine S_run 2 rfl ?_
        refine S_nil ?_
        refine C_cond_f rfl ?_
        refine C_skip <| C_seq <| C_seq <| C_region ?_
        refine S_run 2 rfl ?_
        refine S_yx rfl rfl rfl (Y_reslice rfl u79 ti83 rfl rfl (by repeat constructor) rfl rfl ⟨_, rfl⟩ (by decide) (by omega) (by omega)) ?_
        rintro _ _ ⟨ad81, c81, rfl, rfl⟩
        rw [show (lc.drop (0 : Int).toNat).take ((k : Int).toNat - (0 : Int).toNat) = lc.take k by simp]
        have hkl : (lc.take k).length = k := by rw [List.length_take]; omega
        refine S_y rfl rfl rfl ((Y_slen rfl rfl u79).as (v' := .int .i64 (k : Int)) (by rw [hkl])) ?_
        refine S_run 1 rfl ?_
        refine S_nil <| C_block ?_
        refine C_loop (σ := Nat × (Option Addr × Nat) × Bytes) (fun t => t.1 ≤ k ∧ t.2.2 = kindB true :: ((lc.take k).take t.1).flatMap fun c => cellB c true) (fun t => k - t.1)
          (fun t => [(0, .pointer (some ⟨bw, 0, none⟩)), (1, .slice adC lc.length cC), (2, .bool true), (6, .slice adO out.length cO), (8, .int .i64 (m.size - 8)), (9, .int .i64 (sumC lc true : Int)), (10, .int .i64 (nodes : Int)), (12, .int .i64 (k : Int)), (13, .int .i64 (n : Int)), (14, .slice t.2.1.1 t.2.2.length t.2.1.2), (81, .slice ad81 (lc.take k).length c81), (82, .int .i64 (k : Int)), (83, .int .i64 (t.1 : Int))])
          (fun t => [SlM elCell ad81 c81 (lc.take k), SlM elCell adC cC lc, PtM bw 0 [.iface 26 (.pointer (some ⟨bm, 0, none⟩)), .map (some bg)]]) (fun t => [Res.arr elB 5 t.2.1.1 t.2.1.2 t.2.2, Res.arr elCell 83 adO cO out, Res.blk bm (.cells (memC m2 adQ cQ) 29 (0, 0)), Res.arr elS 9 adQ cQ (m2).pages]) (0, (ad14, c14), [kindB true]) ?_ (by repeat (first | exact trivial | refine ⟨rfl, ?_⟩ | refine ⟨intE (by omega), ?_⟩)) (by repeat constructor) (by repeat constructor) ?_
        ·exact ⟨Nat.zero_le _, rfl⟩
        ·rintro J ⟨i, ⟨adB, cB⟩, bs⟩ ⟨hi, hbs⟩ hM
         dsimp only at hi hbs ⊢
         refine C_seq <| C_region ?_
         refine S_run 1 rfl ?_
         refine S_nil <| C_seq ?_
         refine C_if rfl (fun h84 => ?_) (fun h84 => ?_)
         ·refine C_skip <| C_seq <| C_block <| C_seq <| C_region ?_
          obtain ⟨y, hy⟩ : ∃ y, (lc.take k)[i]? = some y := ⟨_, List.getElem?_eq_getElem (by omega)⟩
          have hyo := hco y (List.mem_of_mem_take (List.mem_of_getElem? hy))
          have hyt := hyo.text
          have hyp := hyo.page
          have hys := hyo.size
          have hbl := congrArg List.length hbs
          rw [List.length_cons, flatC_len] at hbl
          have hb2 := sumC_split (lc.take k) true i
          have hb3 := sumC_split lc true k
          refine S_yx rfl rfl rfl (Y_ixA rfl u79 ti83 rfl rfl rfl (by repeat constructor) rfl (by omega) hy) ?_
          rintro _ _ ⟨b85, o85, rfl, rfl⟩
          refine S_y rfl rfl rfl (Y_ldS Try.underlying83 rfl ti83 rfl rfl) ?_
          refine S_alloc rfl rfl rfl rfl ti83 rfl (fun b16 => ?_)
          refine S_stS rfl rfl rfl ti83 rfl rfl rfl rfl (by repeat constructor) (by rfl) ?_
          refine S_nil <| C_region ?_
          refine S_y rfl rfl rfl (Y_ldS Try.underlying83 rfl ti83 rfl rfl) ?_
          refine S_run 2 rfl ?_
          refine S_enter rfl rfl rfl (E_fn rfl rfl) (put_ok (cl := y) (leaf := true) (xs := bs) (by omega) (by omega) (by omega)) ?_
          rintro _ _ _ ⟨ad90, c90, rfl, rfl, rfl⟩
          try dsimp only [List.cons_append, List.nil_append]
          refine S_run 1 rfl ?_
          refine S_nil <| C_blk <| C_region ?_
          refine S_y rfl rfl rfl (Y_addi rfl rfl rfl (by omega) (by omega)) ?_
          refine S_run 1 rfl ?_
          refine S_nil ?_
          refine hM (i + 1, (_, _), _) _ _ _ _ ⟨by show i + 1 ≤ k; omega, ?_⟩ (by show k - (i + 1) < k - i; omega) (by repeat (first | exact trivial | refine ⟨rfl, ?_⟩ | refine ⟨intE (by omega), ?_⟩)) (by repeat constructor) (by repeat constructor)
          show _ = kindB true :: ((lc.take k).take (i + 1)).flatMap fun c => cellB c true
          rw [take_succ_snoc hy, hbs]
          simp
         ·refine C_exit rfl <| C_seq <| C_region ?_
          have hik : k = i := by omega
          subst hik
          rw [List.take_of_length_le (by omega)] at hbs
          subst hbs
          refine S_pub (E := elB) (by repeat constructor) ?_
          refine S_run 2 rfl ?_
          refine S_y rfl rfl rfl (Y_fa ly108 rfl rfl rfl) ?_
          refine S_y rfl rfl rfl (Y_ld Try.underlying73 rfl rfl rfl) ?_
          refine S_run 1 rfl ?_
          refine S_enter rfl rfl rfl (E_inv rfl rfl rfl (by intro w; kernel_rfl)) (mlay_ok hm2.ok) ?_
          rintro _ _ _ ⟨adR, cR, rfl, rfl, rfl⟩
          try dsimp only [List.cons_append, List.nil_append]
          refine S_run 5 rfl ?_
          refine S_nil <| C_seq <| C_seq <| C_region ?_
          refine S_run 2 rfl ?_
          refine S_nil ?_
          refine C_if rfl (fun h102 => ?_) (fun h102 => ?_)
          ·refine C_seq <| C_region ?_
           have e : (layN m l true) = ((layM m2 (kindB true :: (lc.take k).flatMap fun c => cellB c true)).1, (layM m2 (kindB true :: (lc.take k).flatMap fun c => cellB c true)).2.2, []) := by
             rw [← hr, layL, if_neg (by omega)]; dsimp only; rw [hT]; dsimp only; exact if_pos (by omega)
           refine S_nilarr elCell 83 ?_
           refine S_run 3 rfl ?_
           refine S_nil ?_
           rw [e] at hret
           first
             | exact hret (Res_tmps Try.results81 rfl rfl) ⟨adO, cO, adQ, cQ, rfl, rfl, rfl⟩
             | exact hret (Res_tmps Try.results81 rfl rfl) ⟨none, 0, adR, cR, rfl, rfl, rfl⟩
          ·refine C_skip <| C_seq <| C_region ?_
           refine S_run 2 rfl ?_
           obtain ⟨y0, hy0⟩ : ∃ y, lc[0]? = some y := ⟨_, List.getElem?_eq_getElem (by omega)⟩
           have hfw := layM_few hm2 (kindB true :: (lc.take k).flatMap fun c => cellB c true)
           refine S_yx rfl rfl rfl (Y_ixA rfl u79 ti83 rfl rfl rfl (by repeat constructor) rfl (by omega) hy0) ?_
           rintro _ _ ⟨b106, o106, rfl, rfl⟩
           refine S_y rfl rfl rfl (Y_fa ly83 rfl rfl rfl) ?_
           refine S_y rfl rfl rfl (Y_ld u9 rfl rfl rfl) ?_
           refine S_run 1 rfl ?_
           refine S_y rfl rfl rfl (Y_build [.const (.int .i64 0), .tmp 109, .const (str []), .tmp 108] bt83 rfl rfl rfl rfl) ?_
           refine S_lit elCell [⟨y0.key, [], (layM m2 (kindB true :: (lc.take k).flatMap fun c => cellB c true)).2.1, 0⟩] rfl rfl rfl rfl u79 ti83 rfl rfl rfl rfl rfl (by decide) (fun ad111 c111 => ?_)
           refine S_pub (by repeat constructor) ?_
           have hof := hm2.ok.few
           refine S_app rfl rfl rfl rfl u79 ti83 rfl rfl rfl rfl rfl rfl (by repeat constructor) (by repeat constructor) (by simp only [List.length_append, List.length_cons, List.length_nil]; omega) (by simp only [List.length_append, List.length_cons, List.length_nil]; omega) (fun ad112 c112 => ?_)
           refine S_run 1 rfl ?_
           refine S_nil <| C_seq <| C_region ?_
           refine S_run 2 rfl ?_
           refine S_yx rfl rfl rfl (Y_reslice rfl u79 ti83 rfl rfl (by repeat constructor) rfl ⟨_, rfl⟩ rfl (by omega) (by omega) (by omega)) ?_
           rintro _ _ ⟨ad115, c115, rfl, rfl⟩
           rw [show (lc.drop (k : Int).toNat).take ((lc.length : Int).toNat - (k : Int).toNat) = lc.drop k from List.take_of_length_le (by simp)]
           refine S_run 1 rfl ?_
           refine S_nil <| C_seq <| C_region ?_
           refine S_run 2 rfl ?_
           refine S_y rfl rfl rfl ((Y_subi rfl rfl rfl (by omega) (by omega)).as (v' := .int .i64 ((sumC (lc.drop k) true : Nat) : Int)) (by congr 1; omega)) ?_
           refine S_run 1 rfl ?_
           refine S_nil <| C_region ?_
           refine S_run 1 rfl ?_
           refine S_y rfl rfl rfl (Y_subi rfl rfl rfl (by omega) (by omega)) ?_
           refine S_y rfl rfl rfl ((Y_max rfl rfl rfl).as (v' := .int .i64 ((max (nodes - 1) 1 : Nat) : Int)) (by congr 1; omega)) ?_
           refine S_run 1 rfl ?_
           refine S_nil <| C_blk ?_
           rw [layL, if_neg (by omega)] at hr
           dsimp only at hr
           rw [hT] at hr
           dsimp only at hr
           rw [if_neg (by omega), headK_of hy0] at hr
           have hz := layM_zero (show (layM m2 (kindB true :: (lc.take k).flatMap fun c => cellB c true)).2.2 = 0 by omega)
           have hsa := layM_same m2 (kindB true :: (lc.take k).flatMap fun c => cellB c true)
           have hss := sumC_split lc true k
           refine hJ (fu, _, lc.drop k, max (nodes - 1) 1, out ++ [_], (_, _), (_, _), (_, _)) _ _ _ _ ⟨layM_ok hm2 _, hsa.2.trans hse, hsa.1.trans hmo, ?_, fun c hx => hco c (List.mem_of_mem_drop hx), ?_, by dsimp only; omega, by dsimp only; omega, ?_, hr⟩ (by show fu < fu + 1; omega) (by repeat (first | exact trivial | refine ⟨rfl, ?_⟩ | refine ⟨intE (by omega), ?_⟩)) (by repeat constructor) (by repeat constructor)
           · show (m.most - ((layM m2 (kindB true :: (lc.take k).flatMap fun c => cellB c true)).1.pages.length : Nat)).toNat < fu
             omega
           · show (lc.drop k).length ≤ 2000000000
             rw [List.length_drop]; omega
           · show (out ++ [_]).length ≤ (layM m2 (kindB true :: (lc.take k).flatMap fun c => cellB c true)).1.pages.length
             rw [List.length_append]; simp only [List.length_cons, List.length_nil]; omega
     ·refine S_run 8 rfl ?_
      refine S_nil ?_
      refine C_cond_f rfl ?_
      refine C_exit rfl <| C_seq <| C_region ?_
      have hex : takeL true (m.size - 8) (sumC lc true / nodes) nodes (lc.drop k) n = (0, n) := by
        first
          | (rw [drop_cons hy, takeL]; exact if_neg (by omega))
          | (rw [List.drop_of_length_le (by omega)]; rfl)
      rw [hex] at hT
      replace hT : (takeL true (m.size - 8) (sumC lc true / nodes) nodes lc 0) = (k, n) := hT.symm
      refine S_lit elB [1] rfl rfl rfl rfl u68 ti5 rfl rfl rfl rfl rfl (by decide) (fun ad14 c14 => ?_)
      refine S_run 1 rfl ?_
      refine S_nil <| C_seq <| C_seq <| C_region ?_
      refine S_run 2 rfl ?_
      refine S_nil ?_
      refine C_cond_f rfl ?_
      refine C_skip <| C_seq <| C_seq <| C_region ?_
      refine S_run 2 rfl ?_
      refine S_yx rfl rfl rfl (Y_reslice rfl u79 ti83 rfl rfl (by repeat constructor) rfl rfl ⟨_, rfl⟩ (by decide) (by omega) (by omega)) ?_
      rintro _ _ ⟨ad81, c81, rfl, rfl⟩
      rw [show (lc.drop (0 : Int).toNat).take ((k : Int).toNat - (0 : Int).toNat) = lc.take k by simp]
      have hkl : (lc.take k).length = k := by rw [List.length_take]; omega
      refine S_y rfl rfl rfl ((Y_slen rfl rfl u79).as (v' := .int .i64 (k : Int)) (by rw [hkl])) ?_
      refine S_run 1 rfl ?_
      refine S_nil <| C_block ?_
      refine C_loop (σ := Nat × (Option Addr × Nat) × Bytes) (fun t => t.1 ≤ k ∧ t.2.2 = kindB true :: ((lc.take k).take t.1).flatMap fun c => cellB c true) (fun t => k - t.1)
        (fun t => [(0, .pointer (some ⟨bw, 0, none⟩)), (1, .slice adC lc.length cC), (2, .bool true), (6, .slice adO out.length cO), (8, .int .i64 (m.size - 8)), (9, .int .i64 (sumC lc true : Int)), (10, .int .i64 (nodes : Int)), (12, .int .i64 (k : Int)), (13, .int .i64 (n : Int)), (14, .slice t.2.1.1 t.2.2.length t.2.1.2), (81, .slice ad81 (lc.take k).length c81), (82, .int .i64 (k : Int)), (83, .int .i64 (t.1 : Int))])
        (fun t => [SlM elCell ad81 c81 (lc.take k), SlM elCell adC cC lc, PtM bw 0 [.iface 26 (.pointer (some ⟨bm, 0, none⟩)), .map (some bg)]]) (fun t => [Res.arr elB 5 t.2.1.1 t.2.1.2 t.2.2, Res.arr elCell 83 adO cO out, Res.blk bm (.cells (memC m2 adQ cQ) 29 (0, 0)), Res.arr elS 9 adQ cQ (m2).pages]) (0, (ad14, c14), [kindB true]) ?_ (by repeat (first | exact trivial | refine ⟨rfl, ?_⟩ | refine ⟨intE (by omega), ?_⟩)) (by repeat constructor) (by repeat constructor) ?_
      ·exact ⟨Nat.zero_le _, rfl⟩
      ·rintro J ⟨i, ⟨adB, cB⟩, bs⟩ ⟨hi, hbs⟩ hM
       dsimp only at hi hbs ⊢
       refine C_seq <| C_region ?_
       refine S_run 1 rfl ?_
       refine S_nil <| C_seq ?_
       refine C_if rfl (fun h84 => ?_) (fun h84 => ?_)
       ·refine C_skip <| C_seq <| C_block <| C_seq <| C_region ?_
        obtain ⟨y, hy⟩ : ∃ y, (lc.take k)[i]? = some y := ⟨_, List.getElem?_eq_getElem (by omega)⟩
        have hyo := hco y (List.mem_of_mem_take (List.mem_of_getElem? hy))
        have hyt := hyo.text
        have hyp := hyo.page
        have hys := hyo.size
        have hbl := congrArg List.length hbs
        rw [List.length_cons, flatC_len] at hbl
        have hb2 := sumC_split (lc.take k) true i
        have hb3 := sumC_split lc true k
        refine S_yx rfl rfl rfl (Y_ixA rfl u79 ti83 rfl rfl rfl (by repeat constructor) rfl (by omega) hy) ?_
        rintro _ _ ⟨b85, o85, rfl, rfl⟩
        refine S_y rfl rfl rfl (Y_ldS Try.underlying83 rfl ti83 rfl rfl) ?_
        refine S_alloc rfl rfl rfl rfl ti83 rfl (fun b16 => ?_)
        refine S_stS rfl rfl rfl ti83 rfl rfl rfl rfl (by repeat constructor) (by rfl) ?_
        refine S_nil <| C_region ?_
        refine S_y rfl rfl rfl (Y_ldS Try.underlying83 rfl ti83 rfl rfl) ?_
        refine S_run 2 rfl ?_
        refine S_enter rfl rfl rfl (E_fn rfl rfl) (put_ok (cl := y) (leaf := true) (xs := bs) (by omega) (by omega) (by omega)) ?_
        rintro _ _ _ ⟨ad90, c90, rfl, rfl, rfl⟩
        try dsimp only [List.cons_append, List.nil_append]
        refine S_run 1 rfl ?_
        refine S_nil <| C_blk <| C_region ?_
        refine S_y rfl rfl rfl (Y_addi rfl rfl rfl (by omega) (by omega)) ?_
        refine S_run 1 rfl ?_
        refine S_nil ?_
        refine hM (i + 1, (_, _), _) _ _ _ _ ⟨by show i + 1 ≤ k; omega, ?_⟩ (by show k - (i + 1) < k - i; omega) (by repeat (first | exact trivial | refine ⟨rfl, ?_⟩ | refine ⟨intE (by omega), ?_⟩)) (by repeat constructor) (by repeat constructor)
        show _ = kindB true :: ((lc.take k).take (i + 1)).flatMap fun c => cellB c true
        rw [take_succ_snoc hy, hbs]
        simp
       ·refine C_exit rfl <| C_seq <| C_region ?_
        have hik : k = i := by omega
        subst hik
        rw [List.take_of_length_le (by omega)] at hbs
        subst hbs
        refine S_pub (E := elB) (by repeat constructor) ?_
        refine S_run 2 rfl ?_
        refine S_y rfl rfl rfl (Y_fa ly108 rfl rfl rfl) ?_
        refine S_y rfl rfl rfl (Y_ld Try.underlying73 rfl rfl rfl) ?_
        refine S_run 1 rfl ?_
        refine S_enter rfl rfl rfl (E_inv rfl rfl rfl (by intro w; kernel_rfl)) (mlay_ok hm2.ok) ?_
        rintro _ _ _ ⟨adR, cR, rfl, rfl, rfl⟩
        try dsimp only [List.cons_append, List.nil_append]
        refine S_run 5 rfl ?_
        refine S_nil <| C_seq <| C_seq <| C_region ?_
        refine S_run 2 rfl ?_
        refine S_nil ?_
        refine C_if rfl (fun h102 => ?_) (fun h102 => ?_)
        ·refine C_seq <| C_region ?_
         have e : (layN m l true) = ((layM m2 (kindB true :: (lc.take k).flatMap fun c => cellB c true)).1, (layM m2 (kindB true :: (lc.take k).flatMap fun c => cellB c true)).2.2, []) := by
           rw [← hr, layL, if_neg (by omega)]; dsimp only; rw [hT]; dsimp only; exact if_pos (by omega)
         refine S_nilarr elCell 83 ?_
         refine S_run 3 rfl ?_
         refine S_nil ?_
         rw [e] at hret
         first
           | exact hret (Res_tmps Try.results81 rfl rfl) ⟨adO, cO, adQ, cQ, rfl, rfl, rfl⟩
           | exact hret (Res_tmps Try.results81 rfl rfl) ⟨none, 0, adR, cR, rfl, rfl, rfl⟩
        ·refine C_skip <| C_seq <| C_region ?_
         refine S_run 2 rfl ?_
         obtain ⟨y0, hy0⟩ : ∃ y, lc[0]? = some y := ⟨_, List.getElem?_eq_getElem (by omega)⟩
         have hfw := layM_few hm2 (kindB true :: (lc.take k).flatMap fun c => cellB c true)
         refine S_yx rfl rfl rfl (Y_ixA rfl u79 ti83 rfl rfl rfl (by repeat constructor) rfl (by omega) hy0) ?_
         rintro _ _ ⟨b106, o106, rfl, rfl⟩
         refine S_y rfl rfl rfl (Y_fa ly83 rfl rfl rfl) ?_
         refine S_y rfl rfl rfl (Y_ld u9 rfl rfl rfl) ?_
         refine S_run 1 rfl ?_
         refine S_y rfl rfl rfl (Y_build [.const (.int .i64 0), .tmp 109, .const (str []), .tmp 108] bt83 rfl rfl rfl rfl) ?_
         refine S_lit elCell [⟨y0.key, [], (layM m2 (kindB true :: (lc.take k).flatMap fun c => cellB c true)).2.1, 0⟩] rfl rfl rfl rfl u79 ti83 rfl rfl rfl rfl rfl (by decide) (fun ad111 c111 => ?_)
         refine S_pub (by repeat constructor) ?_
         have hof := hm2.ok.few
         refine S_app rfl rfl rfl rfl u79 ti83 rfl rfl rfl rfl rfl rfl (by repeat constructor) (by repeat constructor) (by simp only [List.length_append, List.length_cons, List.length_nil]; omega) (by simp only [List.length_append, List.length_cons, List.length_nil]; omega) (fun ad112 c112 => ?_)
         refine S_run 1 rfl ?_
         refine S_nil <| C_seq <| C_region ?_
         refine S_run 2 rfl ?_
         refine S_yx rfl rfl rfl (Y_reslice rfl u79 ti83 rfl rfl (by repeat constructor) rfl ⟨_, rfl⟩ rfl (by omega) (by omega) (by omega)) ?_
         rintro _ _ ⟨ad115, c115, rfl, rfl⟩
         rw [show (lc.drop (k : Int).toNat).take ((lc.length : Int).toNat - (k : Int).toNat) = lc.drop k from List.take_of_length_le (by simp)]
         refine S_run 1 rfl ?_
         refine S_nil <| C_seq <| C_region ?_
         refine S_run 2 rfl ?_
         refine S_y rfl rfl rfl ((Y_subi rfl rfl rfl (by omega) (by omega)).as (v' := .int .i64 ((sumC (lc.drop k) true : Nat) : Int)) (by congr 1; omega)) ?_
         refine S_run 1 rfl ?_
         refine S_nil <| C_region ?_
         refine S_run 1 rfl ?_
         refine S_y rfl rfl rfl (Y_subi rfl rfl rfl (by omega) (by omega)) ?_
         refine S_y rfl rfl rfl ((Y_max rfl rfl rfl).as (v' := .int .i64 ((max (nodes - 1) 1 : Nat) : Int)) (by congr 1; omega)) ?_
         refine S_run 1 rfl ?_
         refine S_nil <| C_blk ?_
         rw [layL, if_neg (by omega)] at hr
         dsimp only at hr
         rw [hT] at hr
         dsimp only at hr
         rw [if_neg (by omega), headK_of hy0] at hr
         have hz := layM_zero (show (layM m2 (kindB true :: (lc.take k).flatMap fun c => cellB c true)).2.2 = 0 by omega)
         have hsa := layM_same m2 (kindB true :: (lc.take k).flatMap fun c => cellB c true)
         have hss := sumC_split lc true k
         refine hJ (fu, _, lc.drop k, max (nodes - 1) 1, out ++ [_], (_, _), (_, _), (_, _)) _ _ _ _ ⟨layM_ok hm2 _, hsa.2.trans hse, hsa.1.trans hmo, ?_, fun c hx => hco c (List.mem_of_mem_drop hx), ?_, by dsimp only; omega, by dsimp only; omega, ?_, hr⟩ (by show fu < fu + 1; omega) (by repeat (first | exact trivial | refine ⟨rfl, ?_⟩ | refine ⟨intE (by omega), ?_⟩)) (by repeat constructor) (by repeat constructor)
         · show (m.most - ((layM m2 (kindB true :: (lc.take k).flatMap fun c => cellB c true)).1.pages.length : Nat)).toNat < fu
           omega
         · show (lc.drop k).length ≤ 2000000000
           rw [List.length_drop]; omega
         · show (out ++ [_]).length ≤ (layM m2 (kindB true :: (lc.take k).flatMap fun c => cellB c true)).1.pages.length
           rw [List.length_append]; simp only [List.length_cons, List.length_nil]; omega
    ·refine S_run 3 rfl ?_
     refine S_run 17 rfl ?_
     refine S_nil ?_
     refine C_cond_f rfl ?_
     refine C_exit rfl <| C_seq <| C_region ?_
     have hex : takeL true (m.size - 8) (sumC lc true / nodes) nodes (lc.drop k) n = (0, n) := by
       first
         | (rw [drop_cons hy, takeL]; exact if_neg (by omega))
         | (rw [List.drop_of_length_le (by omega)]; rfl)
     rw [hex] at hT
     replace hT : (takeL true (m.size - 8) (sumC lc true / nodes) nodes lc 0) = (k, n) := hT.symm
     refine S_lit elB [1] rfl rfl rfl rfl u68 ti5 rfl rfl rfl rfl rfl (by decide) (fun ad14 c14 => ?_)
     refine S_run 1 rfl ?_
     refine S_nil <| C_seq <| C_seq <| C_region ?_
     refine S_run 2 rfl ?_
     refine S_nil ?_
     refine C_cond_f rfl ?_
     refine C_skip <| C_seq <| C_seq <| C_region ?_
     refine S_run 2 rfl ?_
     refine S_yx rfl rfl rfl (Y_reslice rfl u79 ti83 rfl rfl (by repeat constructor) rfl rfl ⟨_, rfl⟩ (by decide) (by omega) (by omega)) ?_
     rintro _ _ ⟨ad81, c81, rfl, rfl⟩
     rw [show (lc.drop (0 : Int).toNat).take ((k : Int).toNat - (0 : Int).toNat) = lc.take k by simp]
     have hkl : (lc.take k).length = k := by rw [List.length_take]; omega
     refine S_y rfl rfl rfl ((Y_slen rfl rfl u79).as (v' := .int .i64 (k : Int)) (by rw [hkl])) ?_
     refine S_run 1 rfl ?_
     refine S_nil <| C_block ?_
     refine C_loop (σ := Nat × (Option Addr × Nat) × Bytes) (fun t => t.1 ≤ k ∧ t.2.2 = kindB true :: ((lc.take k).take t.1).flatMap fun c => cellB c true) (fun t => k - t.1)
       (fun t => [(0, .pointer (some ⟨bw, 0, none⟩)), (1, .slice adC lc.length cC), (2, .bool true), (6, .slice adO out.length cO), (8, .int .i64 (m.size - 8)), (9, .int .i64 (sumC lc true : Int)), (10, .int .i64 (nodes : Int)), (12, .int .i64 (k : Int)), (13, .int .i64 (n : Int)), (14, .slice t.2.1.1 t.2.2.length t.2.1.2), (81, .slice ad81 (lc.take k).length c81), (82, .int .i64 (k : Int)), (83, .int .i64 (t.1 : Int))])
       (fun t => [SlM elCell ad81 c81 (lc.take k), SlM elCell adC cC lc, PtM bw 0 [.iface 26 (.pointer (some ⟨bm, 0, none⟩)), .map (some bg)]]) (fun t => [Res.arr elB 5 t.2.1.1 t.2.1.2 t.2.2, Res.arr elCell 83 adO cO out, Res.blk bm (.cells (memC m2 adQ cQ) 29 (0, 0)), Res.arr elS 9 adQ cQ (m2).pages]) (0, (ad14, c14), [kindB true]) ?_ (by repeat (first | exact trivial | refine ⟨rfl, ?_⟩ | refine ⟨intE (by omega), ?_⟩)) (by repeat constructor) (by repeat constructor) ?_
     ·exact ⟨Nat.zero_le _, rfl⟩
     ·rintro J ⟨i, ⟨adB, cB⟩, bs⟩ ⟨hi, hbs⟩ hM
      dsimp only at hi hbs ⊢
      refine C_seq <| C_region ?_
      refine S_run 1 rfl ?_
      refine S_nil <| C_seq ?_
      refine C_if rfl (fun h84 => ?_) (fun h84 => ?_)
      ·refine C_skip <| C_seq <| C_block <| C_seq <| C_region ?_
       obtain ⟨y, hy⟩ : ∃ y, (lc.take k)[i]? = some y := ⟨_, List.getElem?_eq_getElem (by omega)⟩
       have hyo := hco y (List.mem_of_mem_take (List.mem_of_getElem? hy))
       have hyt := hyo.text
       have hyp := hyo.page
       have hys := hyo.size
       have hbl := congrArg List.length hbs
       rw [List.length_cons, flatC_len] at hbl
       have hb2 := sumC_split (lc.take k) true i
       have hb3 := sumC_split lc true k
       refine S_yx rfl rfl rfl (Y_ixA rfl u79 ti83 rfl rfl rfl (by repeat constructor) rfl (by omega) hy) ?_
       rintro _ _ ⟨b85, o85, rfl, rfl⟩
       refine S_y rfl rfl rfl (Y_ldS Try.underlying83 rfl ti83 rfl rfl) ?_
       refine S_alloc rfl rfl rfl rfl ti83 rfl (fun b16 => ?_)
       refine S_stS rfl rfl rfl ti83 rfl rfl rfl rfl (by repeat constructor) (by rfl) ?_
       refine S_nil <| C_region ?_
       refine S_y rfl rfl rfl (Y_ldS Try.underlying83 rfl ti83 rfl rfl) ?_
       refine S_run 2 rfl ?_
       refine S_enter rfl rfl rfl (E_fn rfl rfl) (put_ok (cl := y) (leaf := true) (xs := bs) (by omega) (by omega) (by omega)) ?_
       rintro _ _ _ ⟨ad90, c90, rfl, rfl, rfl⟩
       try dsimp only [List.cons_append, List.nil_append]
       refine S_run 1 rfl ?_
       refine S_nil <| C_blk <| C_region ?_
       refine S_y rfl rfl rfl (Y_addi rfl rfl rfl (by omega) (by omega)) ?_
       refine S_run 1 rfl ?_
       refine S_nil ?_
       refine hM (i + 1, (_, _), _) _ _ _ _ ⟨by show i + 1 ≤ k; omega, ?_⟩ (by show k - (i + 1) < k - i; omega) (by repeat (first | exact trivial | refine ⟨rfl, ?_⟩ | refine ⟨intE (by omega), ?_⟩)) (by repeat constructor) (by repeat constructor)
       show _ = kindB true :: ((lc.take k).take (i + 1)).flatMap fun c => cellB c true
       rw [take_succ_snoc hy, hbs]
       simp
      ·refine C_exit rfl <| C_seq <| C_region ?_
       have hik : k = i := by omega
       subst hik
       rw [List.take_of_length_le (by omega)] at hbs
       subst hbs
       refine S_pub (E := elB) (by repeat constructor) ?_
       refine S_run 2 rfl ?_
       refine S_y rfl rfl rfl (Y_fa ly108 rfl rfl rfl) ?_
       refine S_y rfl rfl rfl (Y_ld Try.underlying73 rfl rfl rfl) ?_
       refine S_run 1 rfl ?_
       refine S_enter rfl rfl rfl (E_inv rfl rfl rfl (by intro w; kernel_rfl)) (mlay_ok hm2.ok) ?_
       rintro _ _ _ ⟨adR, cR, rfl, rfl, rfl⟩
       try dsimp only [List.cons_append, List.nil_append]
       refine S_run 5 rfl ?_
       refine S_nil <| C_seq <| C_seq <| C_region ?_
       refine S_run 2 rfl ?_
       refine S_nil ?_
       refine C_if rfl (fun h102 => ?_) (fun h102 => ?_)
       ·refine C_seq <| C_region ?_
        have e : (layN m l true) = ((layM m2 (kindB true :: (lc.take k).flatMap fun c => cellB c true)).1, (layM m2 (kindB true :: (lc.take k).flatMap fun c => cellB c true)).2.2, []) := by
          rw [← hr, layL, if_neg (by omega)]; dsimp only; rw [hT]; dsimp only; exact if_pos (by omega)
        refine S_nilarr elCell 83 ?_
        refine S_run 3 rfl ?_
        refine S_nil ?_
        rw [e] at hret
        first
          | exact hret (Res_tmps Try.results81 rfl rfl) ⟨adO, cO, adQ, cQ, rfl, rfl, rfl⟩
          | exact hret (Res_tmps Try.results81 rfl rfl) ⟨none, 0, adR, cR, rfl, rfl, rfl⟩
       ·refine C_skip <| C_seq <| C_region ?_
        refine S_run 2 rfl ?_
        obtain ⟨y0, hy0⟩ : ∃ y, lc[0]? = some y := ⟨_, List.getElem?_eq_getElem (by omega)⟩
        have hfw := layM_few hm2 (kindB true :: (lc.take k).flatMap fun c => cellB c true)
        refine S_yx rfl rfl rfl (Y_ixA rfl u79 ti83 rfl rfl rfl (by repeat constructor) rfl (by omega) hy0) ?_
        rintro _ _ ⟨b106, o106, rfl, rfl⟩
        refine S_y rfl rfl rfl (Y_fa ly83 rfl rfl rfl) ?_
        refine S_y rfl rfl rfl (Y_ld u9 rfl rfl rfl) ?_
        refine S_run 1 rfl ?_
        refine S_y rfl rfl rfl (Y_build [.const (.int .i64 0), .tmp 109, .const (str []), .tmp 108] bt83 rfl rfl rfl rfl) ?_
        refine S_lit elCell [⟨y0.key, [], (layM m2 (kindB true :: (lc.take k).flatMap fun c => cellB c true)).2.1, 0⟩] rfl rfl rfl rfl u79 ti83 rfl rfl rfl rfl rfl (by decide) (fun ad111 c111 => ?_)
        refine S_pub (by repeat constructor) ?_
        have hof := hm2.ok.few
        refine S_app rfl rfl rfl rfl u79 ti83 rfl rfl rfl rfl rfl rfl (by repeat constructor) (by repeat constructor) (by simp only [List.length_append, List.length_cons, List.length_nil]; omega) (by simp only [List.length_append, List.length_cons, List.length_nil]; omega) (fun ad112 c112 => ?_)
        refine S_run 1 rfl ?_
        refine S_nil <| C_seq <| C_region ?_
        refine S_run 2 rfl ?_
        refine S_yx rfl rfl rfl (Y_reslice rfl u79 ti83 rfl rfl (by repeat constructor) rfl ⟨_, rfl⟩ rfl (by omega) (by omega) (by omega)) ?_
        rintro _ _ ⟨ad115, c115, rfl, rfl⟩
        rw [show (lc.drop (k : Int).toNat).take ((lc.length : Int).toNat - (k : Int).toNat) = lc.drop k from List.take_of_length_le (by simp)]
        refine S_run 1 rfl ?_
        refine S_nil <| C_seq <| C_region ?_
        refine S_run 2 rfl ?_
        refine S_y rfl rfl rfl ((Y_subi rfl rfl rfl (by omega) (by omega)).as (v' := .int .i64 ((sumC (lc.drop k) true : Nat) : Int)) (by congr 1; omega)) ?_
        refine S_run 1 rfl ?_
        refine S_nil <| C_region ?_
        refine S_run 1 rfl ?_
        refine S_y rfl rfl rfl (Y_subi rfl rfl rfl (by omega) (by omega)) ?_
        refine S_y rfl rfl rfl ((Y_max rfl rfl rfl).as (v' := .int .i64 ((max (nodes - 1) 1 : Nat) : Int)) (by congr 1; omega)) ?_
        refine S_run 1 rfl ?_
        refine S_nil <| C_blk ?_
        rw [layL, if_neg (by omega)] at hr
        dsimp only at hr
        rw [hT] at hr
        dsimp only at hr
        rw [if_neg (by omega), headK_of hy0] at hr
        have hz := layM_zero (show (layM m2 (kindB true :: (lc.take k).flatMap fun c => cellB c true)).2.2 = 0 by omega)
        have hsa := layM_same m2 (kindB true :: (lc.take k).flatMap fun c => cellB c true)
        have hss := sumC_split lc true k
        refine hJ (fu, _, lc.drop k, max (nodes - 1) 1, out ++ [_], (_, _), (_, _), (_, _)) _ _ _ _ ⟨layM_ok hm2 _, hsa.2.trans hse, hsa.1.trans hmo, ?_, fun c hx => hco c (List.mem_of_mem_drop hx), ?_, by dsimp only; omega, by dsimp only; omega, ?_, hr⟩ (by show fu < fu + 1; omega) (by repeat (first | exact trivial | refine ⟨rfl, ?_⟩ | refine ⟨intE (by omega), ?_⟩)) (by repeat constructor) (by repeat constructor)
        · show (m.most - ((layM m2 (kindB true :: (lc.take k).flatMap fun c => cellB c true)).1.pages.length : Nat)).toNat < fu
          omega
        · show (lc.drop k).length ≤ 2000000000
          rw [List.length_drop]; omega
        · show (out ++ [_]).length ≤ (layM m2 (kindB true :: (lc.take k).flatMap fun c => cellB c true)).1.pages.length
          rw [List.length_append]; simp only [List.length_cons, List.length_nil]; omega
  ·refine C_exit rfl <| C_seq <| C_region ?_
   have e : (layN m l true) = (m2, 0, out) := by
     rw [← hr]; cases fu with
     | zero => omega
     | succ f => rw [layL]; exact if_pos (by omega)
   refine S_run 3 rfl ?_
   refine S_nil ?_
   rw [e] at hret
   first
     | exact hret (Res_tmps Try.results81 rfl rfl) ⟨adO, cO, adQ, cQ, rfl, rfl, rfl⟩
     | exact hret (Res_tmps Try.results81 rfl rfl) ⟨none, 0, adR, cR, rfl, rfl, rfl⟩
set_option maxRecDepth 100000 in
set_option maxHeartbeats 8000000 in
theorem layF_ok {bm : Nat} {m : Mem} {adP : Option Addr} {cP : Nat} {bw bg c : Nat} {ad : Option Addr} {l : List Cell} (hm : MOL m) (hsz : 480 ≤ m.size) (hc : ∀ c ∈ l, CellOK c) (hl : l.length ≤ 2000000000) : Spx Try.prog 81 #[.pointer (some ⟨bw, 0, none⟩), .slice ad l.length c, .bool false] [SlM elCell ad c l, PtM bw 0 [.iface 26 (.pointer (some ⟨bm, 0, none⟩)), .map (some bg)]] [Res.blk bm (.cells (memC m adP cP) 29 (0, 0)), Res.arr elS 9 adP cP (m).pages] (fun v fs' own' => ∃ ad' c' adP' cP', v = .tuple #[.slice ad' (layN m l false).2.2.length c', .int .i64 ((layN m l false).2.1 : Int)] ∧ fs' = [] ∧ own' = [Res.arr elCell 83 ad' c' (layN m l false).2.2, Res.blk bm (.cells (memC (layN m l false).1 adP' cP') 29 (0, 0)), Res.arr elS 9 adP' cP' ((layN m l false).1).pages]) := by
 refine Spx_of_body (fn := Try.f81) 123 Try.func81 rfl (by kernel_rfl) rfl (Nat.le_of_ble_eq_true rfl) (fun g0 Q hret hend => ?_)
 dsimp only [initL]
 refine C_seq <| C_region ?_
 refine S_run 2 rfl ?_
 refine S_nil <| C_seq <| C_region ?_
 refine S_run 2 rfl ?_
 refine S_y rfl rfl rfl (Y_fa ly108 rfl rfl rfl) ?_
 refine S_y rfl rfl rfl (Y_ld Try.underlying73 rfl rfl rfl) ?_
 refine S_enter rfl rfl rfl (E_inv rfl rfl rfl (by intro w; kernel_rfl)) mroom_ok ?_
 rintro _ _ _ ⟨rfl, rfl, rfl⟩
 try dsimp only [List.cons_append, List.nil_append]
 have hs1 := hm.size
 have hsu := sumC_le hc false
 have hdv := Nat.div_le_self (sumC l false - 1) (m.size - 8).toNat
 have hdv0 : (0 : Int) ≤ (((sumC l false - 1) / (m.size - 8).toNat : Nat) : Int) := Int.natCast_nonneg _
 refine S_y rfl rfl rfl (Y_subi rfl rfl rfl (by omega) (by omega)) ?_
 refine S_run 1 rfl ?_
 refine S_nil <| C_seq <| C_region ?_
 refine S_run 2 rfl ?_
 refine S_enter rfl rfl rfl (E_fn rfl rfl) (sum_ok (leaf := false) hc (by omega)) ?_
 rintro _ _ _ ⟨rfl, rfl, rfl⟩
 try dsimp only [List.cons_append, List.nil_append]
 refine S_run 1 rfl ?_
 refine S_nil <| C_seq <| C_region ?_
 refine S_run 1 rfl ?_
 refine S_y rfl rfl rfl (Y_subi rfl rfl rfl (by omega) (by omega)) ?_
 refine S_run 1 rfl ?_
 refine S_y rfl rfl rfl ((Y_quo rfl rfl rfl (by omega)).as (v' := .int .i64 (((sumC l false - 1) / (m.size - 8).toNat : Nat) : Int)) (by rw [tdiv_pred _ (by omega), wrap_i64 (by omega) (by omega)])) ?_
 refine S_y rfl rfl rfl (Y_addi rfl rfl rfl (by omega) (by omega)) ?_
 refine S_run 1 rfl ?_
 refine S_nil <| C_seq <| C_block ?_
 refine C_nilarr elCell 83 ?_
 clear hsu
 refine C_loop (σ := Nat × Mem × List Cell × Nat × List Cell × (Option Addr × Nat) × (Option Addr × Nat) × (Option Addr × Nat)) (fun s => MOL s.2.1 ∧ s.2.1.size = m.size ∧ s.2.1.most = m.most ∧ (m.most - s.2.1.pages.length).toNat < s.1 ∧ (∀ c ∈ s.2.2.1, CellOK c) ∧ s.2.2.1.length ≤ 2000000000 ∧ 1 ≤ s.2.2.2.1 ∧ s.2.2.2.1 ≤ 2000080000000002 ∧ s.2.2.2.2.1.length ≤ s.2.1.pages.length ∧ layL false (m.size - 8) s.1 s.2.1 s.2.2.1 s.2.2.2.1 s.2.2.2.2.1 = (layN m l false)) (fun s => s.1)
   (fun s => [(0, .pointer (some ⟨bw, 0, none⟩)), (1, .slice s.2.2.2.2.2.1.1 s.2.2.1.length s.2.2.2.2.2.1.2), (2, .bool false), (6, .slice s.2.2.2.2.2.2.1.1 s.2.2.2.2.1.length s.2.2.2.2.2.2.1.2), (8, .int .i64 (m.size - 8)), (9, .int .i64 (sumC s.2.2.1 false : Int)), (10, .int .i64 (s.2.2.2.1 : Int))])
   (fun s => [SlM elCell s.2.2.2.2.2.1.1 s.2.2.2.2.2.1.2 s.2.2.1, PtM bw 0 [.iface 26 (.pointer (some ⟨bm, 0, none⟩)), .map (some bg)]]) (fun s => [Res.arr elCell 83 s.2.2.2.2.2.2.1.1 s.2.2.2.2.2.2.1.2 s.2.2.2.2.1, Res.blk bm (.cells (memC s.2.1 s.2.2.2.2.2.2.2.1 s.2.2.2.2.2.2.2.2) 29 (0, 0)), Res.arr elS 9 s.2.2.2.2.2.2.2.1 s.2.2.2.2.2.2.2.2 (s.2.1).pages]) ((m.most - m.pages.length).toNat + 1, m, l, (sumC l false - 1) / (m.size - 8).toNat + 1, [], (ad, c), (none, 0), (adP, cP)) ?_ (by repeat (first | exact trivial | refine ⟨rfl, ?_⟩ | refine ⟨intE (by omega), ?_⟩)) (by repeat constructor) (by repeat constructor) ?_
 ·exact ⟨hm, rfl, rfl, Nat.lt_succ_self _, hc, hl, Nat.succ_le_succ (Nat.zero_le _), by have := sumC_le hc false; dsimp only; omega, Nat.zero_le _, rfl⟩
 ·rintro J ⟨fu, m2, lc, nodes, out, ⟨adC, cC⟩, ⟨adO, cO⟩, ⟨adQ, cQ⟩⟩ ⟨hm2, hse, hmo, hfu, hco, hlc, hn1, hn2, hol, hr⟩ hJ
  dsimp only at hm2 hse hmo hfu hco hlc hn1 hn2 hol hr ⊢
  have hsc := sumC_le hco false
  refine C_seq <| C_seq <| C_region ?_
  refine S_run 1 rfl ?_
  refine S_y rfl rfl rfl (Y_slen rfl rfl u79) ?_
  refine S_run 1 rfl ?_
  refine S_nil ?_
  refine C_if rfl (fun h35 => ?_) (fun h35 => ?_)
  ·refine C_skip <| C_block <| C_seq <| C_region ?_
   obtain ⟨fu, rfl⟩ : ∃ k, fu = k + 1 := ⟨fu - 1, by omega⟩
   have hwa := Nat.div_le_self (sumC lc false) nodes
   have hwa0 : (0 : Int) ≤ ((sumC lc false / nodes : Nat) : Int) := Int.natCast_nonneg _
   refine S_run 2 rfl ?_
   refine S_y rfl rfl rfl ((Y_quo rfl rfl rfl (by omega)).as (v' := .int .i64 (((sumC lc false / nodes) : Nat) : Int)) (by rw [show ((sumC lc false : Nat) : Int).tdiv (nodes : Int) = (((sumC lc false / nodes) : Nat) : Int) by rw [Int.tdiv_eq_ediv_of_nonneg (by omega)]; rfl, wrap_i64 (by omega) (by omega)])) ?_
   refine S_run 1 rfl ?_
   refine S_nil <| C_seq <| C_region ?_
   refine S_run 2 rfl ?_
   refine S_nil <| C_seq <| C_block ?_
   refine C_loop (σ := Nat × Nat) (fun t => (t.2 : Int) ≤ m.size - 8 ∧ t.1 ≤ lc.length ∧ t.2 = sumC (lc.take t.1) false ∧ (t.1 + (takeL false (m.size - 8) (sumC lc false / nodes) nodes (lc.drop t.1) t.2).1, (takeL false (m.size - 8) (sumC lc false / nodes) nodes (lc.drop t.1) t.2).2) = (takeL false (m.size - 8) (sumC lc false / nodes) nodes lc 0)) (fun t => lc.length - t.1)
     (fun t => [(0, .pointer (some ⟨bw, 0, none⟩)), (1, .slice adC lc.length cC), (2, .bool false), (6, .slice adO out.length cO), (8, .int .i64 (m.size - 8)), (9, .int .i64 (sumC lc false : Int)), (10, .int .i64 (nodes : Int)), (11, .int .i64 (((sumC lc false / nodes) : Nat) : Int)), (12, .int .i64 (t.1 : Int)), (13, .int .i64 (t.2 : Int))])
     (fun t => [SlM elCell adC cC lc, PtM bw 0 [.iface 26 (.pointer (some ⟨bm, 0, none⟩)), .map (some bg)]]) (fun t => [Res.arr elCell 83 adO cO out, Res.blk bm (.cells (memC m2 adQ cQ) 29 (0, 0)), Res.arr elS 9 adQ cQ (m2).pages]) (0, 0) ?_ (by repeat (first | exact trivial | refine ⟨rfl, ?_⟩ | refine ⟨intE (by omega), ?_⟩)) (by repeat constructor) (by repeat constructor) ?_
   ·exact ⟨by dsimp only; omega, Nat.zero_le _, rfl, by simp⟩
   ·rintro J ⟨k, n⟩ ⟨hnr, hk, hn, hT⟩ hK
    dsimp only at hnr hk hn hT ⊢
    have hsk := sumC_split lc false k
    refine C_seq <| C_seq <| C_region ?_
    refine S_run 2 rfl ?_
    refine S_y rfl rfl rfl (Y_slen rfl rfl u79) ?_
    refine S_run 2 rfl ?_
    refine S_prop 43 rfl (fun h43 => ?_) (fun h43 => ?_)
    ·refine S_run 3 rfl ?_
     obtain ⟨y, hy⟩ : ∃ y, lc[k]? = some y := ⟨_, List.getElem?_eq_getElem (by omega)⟩
     have hyo := hco y (List.mem_of_getElem? hy)
     have hyb := cellB_len (c := y) false
     have hyt := hyo.text
     have hyp := hyo.page
     have hys := hyo.size
     refine S_yx rfl rfl rfl (Y_ixA rfl u79 ti83 rfl rfl rfl (by repeat constructor) rfl (by omega) hy) ?_
     rintro _ _ ⟨b47, o47, rfl, rfl⟩
     refine S_y rfl rfl rfl (Y_ldS Try.underlying83 rfl ti83 rfl rfl) ?_
     refine S_run 1 rfl ?_
     refine S_enter rfl rfl rfl (E_fn rfl rfl) (bytes_ok (cl := y) (leaf := false) (by omega) (by omega) (by omega)) ?_
     rintro _ _ _ ⟨rfl, rfl, rfl⟩
     try dsimp only [List.cons_append, List.nil_append]
     refine S_y rfl rfl rfl (Y_addi rfl rfl rfl (by omega) (by omega)) ?_
     refine S_run 4 rfl ?_
     refine S_prop 55 rfl (fun h55 => ?_) (fun h55 => ?_)
     ·refine S_run 4 rfl ?_
      refine S_prop 59 rfl (fun h59 => ?_) (fun h59 => ?_)
      ·refine S_run 4 rfl ?_
       refine S_nil ?_
       refine C_cond_t rfl ?_
       refine C_skip <| C_block <| C_seq <| C_region ?_
       refine S_run 3 rfl ?_
       refine S_yx rfl rfl rfl (Y_ixA rfl u79 ti83 rfl rfl rfl (by repeat constructor) rfl (by omega) hy) ?_
       rintro _ _ ⟨b67, o67, rfl, rfl⟩
       refine S_y rfl rfl rfl (Y_ldS Try.underlying83 rfl ti83 rfl rfl) ?_
       refine S_run 1 rfl ?_
       refine S_enter rfl rfl rfl (E_fn rfl rfl) (bytes_ok (cl := y) (leaf := false) (by omega) (by omega) (by omega)) ?_
       rintro _ _ _ ⟨rfl, rfl, rfl⟩
       try dsimp only [List.cons_append, List.nil_append]
       refine S_y rfl rfl rfl (Y_addi rfl rfl rfl (by omega) (by omega)) ?_
       refine S_run 1 rfl ?_
       refine S_nil <| C_region ?_
       refine S_run 1 rfl ?_
       refine S_y rfl rfl rfl (Y_addi rfl rfl rfl (by omega) (by omega)) ?_
       refine S_run 1 rfl ?_
       refine S_nil <| C_blk ?_
       rw [drop_cons hy, takeL, if_pos (by omega)] at hT
       refine hK (k + 1, n + (cellB y false).length) _ _ _ _ ⟨by dsimp only; omega, by show k + 1 ≤ _; omega, ?_, ?_⟩ (by show lc.length - (k + 1) < lc.length - k; omega) (by repeat (first | exact trivial | refine ⟨rfl, ?_⟩ | refine ⟨intE (by omega), ?_⟩)) (by repeat constructor) (by repeat constructor)
       · show n + _ = sumC (lc.take (k + 1)) false
         rw [take_succ_snoc hy, sumC_snoc, hn]
       · rw [← hT]
         exact Prod.ext (by dsimp only; omega) rfl
      ·refine S_run 4 rfl ?_
       refine S_nil ?_
       refine C_if rfl (fun h63 => ?_) (fun h63 => ?_)
       ·refine C_skip <| C_block <| C_seq <| C_region ?_
        refine S_run 3 rfl ?_
        refine S_yx rfl rfl rfl (Y_ixA rfl u79 ti83 rfl rfl rfl (by repeat constructor) rfl (by omega) hy) ?_
        rintro _ _ ⟨b67, o67, rfl, rfl⟩
        refine S_y rfl rfl rfl (Y_ldS Try.underlying83 rfl ti83 rfl rfl) ?_
        refine S_run 1 rfl ?_
        refine S_enter rfl rfl rfl (E_fn rfl rfl) (bytes_ok (cl := y) (leaf := false) (by omega) (by omega) (by omega)) ?_
        rintro _ _ _ ⟨rfl, rfl, rfl⟩
        try dsimp only [List.cons_append, List.nil_append]
        refine S_y rfl rfl rfl (Y_addi rfl rfl rfl (by omega) (by omega)) ?_
        refine S_run 1 rfl ?_
        refine S_nil <| C_region ?_
        refine S_run 1 rfl ?_
        refine S_y rfl rfl rfl (Y_addi rfl rfl rfl (by omega) (by omega)) ?_
        refine S_run 1 rfl ?_
        refine S_nil <| C_blk ?_
        rw [drop_cons hy, takeL, if_pos (by omega)] at hT
        refine hK (k + 1, n + (cellB y false).length) _ _ _ _ ⟨by dsimp only; omega, by show k + 1 ≤ _; omega, ?_, ?_⟩ (by show lc.length - (k + 1) < lc.length - k; omega) (by repeat (first | exact trivial | refine ⟨rfl, ?_⟩ | refine ⟨intE (by omega), ?_⟩)) (by repeat constructor) (by repeat constructor)
        · show n + _ = sumC (lc.take (k + 1)) false
          rw [take_succ_snoc hy, sumC_snoc, hn]
        · rw [← hT]
          exact Prod.ext (by dsimp only; omega) rfl
       ·refine C_exit rfl <| C_seq <| C_region ?_
        have hex : takeL false (m.size - 8) (sumC lc false / nodes) nodes (lc.drop k) n = (0, n) := by
          first
            | (rw [drop_cons hy, takeL]; exact if_neg (by omega))
            | (rw [List.drop_of_length_le (by omega)]; rfl)
        rw [hex] at hT
        replace hT : (takeL false (m.size - 8) (sumC lc false / nodes) nodes lc 0) = (k, n) := hT.symm
        refine S_lit elB [1] rfl rfl rfl rfl u68 ti5 rfl rfl rfl rfl rfl (by decide) (fun ad14 c14 => ?_)
        refine S_run 1 rfl ?_
        refine S_nil <| C_seq <| C_seq <| C_region ?_
        refine S_run 2 rfl ?_
        refine S_nil ?_
        refine C_cond_t rfl ?_
        refine C_region ?_
        refine S_run 1 rfl ?_
        refine S_yx rfl rfl rfl (Y_ixO (ys := [1]) rfl u68 ti5 rfl rfl rfl (by repeat constructor) rfl (by decide) (by decide)) ?_
        rintro _ _ ⟨b78, rfl, rfl⟩
        refine S_stA (E := elB) 2 (i := 0) rfl rfl rfl ti5 rfl rfl rfl rfl (by repeat constructor) (by repeat constructor) rfl (by decide) rfl ?_
        refine S_nil <| C_seq <| C_seq <| C_region ?_
        refine S_run 2 rfl ?_
        refine S_yx rfl rfl rfl (Y_reslice rfl u79 ti83 rfl rfl (by repeat constructor) rfl rfl ⟨_, rfl⟩ (by decide) (by omega) (by omega)) ?_
        rintro _ _ ⟨ad81, c81, rfl, rfl⟩
        rw [show (lc.drop (0 : Int).toNat).take ((k : Int).toNat - (0 : Int).toNat) = lc.take k by simp]
        have hkl : (lc.take k).length = k := by rw [List.length_take]; omega
        refine S_y rfl rfl rfl ((Y_slen rfl rfl u79).as (v' := .int .i64 (k : Int)) (by rw [hkl])) ?_
        refine S_run 1 rfl ?_
        refine S_nil <| C_block ?_
        refine C_loop (σ := Nat × (Option Addr × Nat) × Bytes) (fun t => t.1 ≤ k ∧ t.2.2 = kindB false :: ((lc.take k).take t.1).flatMap fun c => cellB c false) (fun t => k - t.1)
          (fun t => [(0, .pointer (some ⟨bw, 0, none⟩)), (1, .slice adC lc.length cC), (2, .bool false), (6, .slice adO out.length cO), (8, .int .i64 (m.size - 8)), (9, .int .i64 (sumC lc false : Int)), (10, .int .i64 (nodes : Int)), (12, .int .i64 (k : Int)), (13, .int .i64 (n : Int)), (14, .slice t.2.1.1 t.2.2.length t.2.1.2), (81, .slice ad81 (lc.take k).length c81), (82, .int .i64 (k : Int)), (83, .int .i64 (t.1 : Int))])
          (fun t => [SlM elCell ad81 c81 (lc.take k), SlM elCell adC cC lc, PtM bw 0 [.iface 26 (.pointer (some ⟨bm, 0, none⟩)), .map (some bg)]]) (fun t => [Res.arr elB 5 t.2.1.1 t.2.1.2 t.2.2, Res.arr elCell 83 adO cO out, Res.blk bm (.cells (memC m2 adQ cQ) 29 (0, 0)), Res.arr elS 9 adQ cQ (m2).pages]) (0, (ad14, c14), [kindB false]) ?_ (by repeat (first | exact trivial | refine ⟨rfl, ?_⟩ | refine ⟨intE (by omega), ?_⟩)) (by repeat constructor) (by repeat constructor) ?_
        ·exact ⟨Nat.zero_le _, rfl⟩
        ·rintro J ⟨i, ⟨adB, cB⟩, bs⟩ ⟨hi, hbs⟩ hM
         dsimp only at hi hbs ⊢
         refine C_seq <| C_region ?_
         refine S_run 1 rfl ?_
         refine S_nil <| C_seq ?_
         refine C_if rfl (fun h84 => ?_) (fun h84 => ?_)
         ·refine C_skip <| C_seq <| C_block <| C_seq <| C_region ?_
          obtain ⟨y, hy⟩ : ∃ y, (lc.take k)[i]? = some y := ⟨_, List.getElem?_eq_getElem (by omega)⟩
          have hyo := hco y (List.mem_of_mem_take (List.mem_of_getElem? hy))
          have hyt := hyo.text
          have hyp := hyo.page
          have hys := hyo.size
          have hbl := congrArg List.length hbs
          rw [List.length_cons, flatC_len] at hbl
          have hb2 := sumC_split (lc.take k) false i
          have hb3 := sumC_split lc false k
          refine S_yx rfl rfl rfl (Y_ixA rfl u79 ti83 rfl rfl rfl (by repeat constructor) rfl (by omega) hy) ?_
          rintro _ _ ⟨b85, o85, rfl, rfl⟩
          refine S_y rfl rfl rfl (Y_ldS Try.underlying83 rfl ti83 rfl rfl) ?_
          refine S_alloc rfl rfl rfl rfl ti83 rfl (fun b16 => ?_)
          refine S_stS rfl rfl rfl ti83 rfl rfl rfl rfl (by repeat constructor) (by rfl) ?_
          refine S_nil <| C_region ?_
          refine S_y rfl rfl rfl (Y_ldS Try.underlying83 rfl ti83 rfl rfl) ?_
          refine S_run 2 rfl ?_
          refine S_enter rfl rfl rfl (E_fn rfl rfl) (put_ok (cl := y) (leaf := false) (xs := bs) (by omega) (by omega) (by omega)) ?_
          rintro _ _ _ ⟨ad90, c90, rfl, rfl, rfl⟩
          try dsimp only [List.cons_append, List.nil_append]
          refine S_run 1 rfl ?_
          refine S_nil <| C_blk <| C_region ?_
          refine S_y rfl rfl rfl (Y_addi rfl rfl rfl (by omega) (by omega)) ?_
          refine S_run 1 rfl ?_
          refine S_nil ?_
          refine hM (i + 1, (_, _), _) _ _ _ _ ⟨by show i + 1 ≤ k; omega, ?_⟩ (by show k - (i + 1) < k - i; omega) (by repeat (first | exact trivial | refine ⟨rfl, ?_⟩ | refine ⟨intE (by omega), ?_⟩)) (by repeat constructor) (by repeat constructor)
          show _ = kindB false :: ((lc.take k).take (i + 1)).flatMap fun c => cellB c false
          rw [take_succ_snoc hy, hbs]
          simp
         ·refine C_exit rfl <| C_seq <| C_region ?_
          have hik : k = i := by omega
          subst hik
          rw [List.take_of_length_le (by omega)] at hbs
          subst hbs
          refine S_pub (E := elB) (by repeat constructor) ?_
          refine S_run 2 rfl ?_
          refine S_y rfl rfl rfl (Y_fa ly108 rfl rfl rfl) ?_
          refine S_y rfl rfl rfl (Y_ld Try.underlying73 rfl rfl rfl) ?_
          refine S_run 1 rfl ?_
          refine S_enter rfl rfl rfl (E_inv rfl rfl rfl (by intro w; kernel_rfl)) (mlay_ok hm2.ok) ?_
          rintro _ _ _ ⟨adR, cR, rfl, rfl, rfl⟩
          try dsimp only [List.cons_append, List.nil_append]
          refine S_run 5 rfl ?_
          refine S_nil <| C_seq <| C_seq <| C_region ?_
          refine S_run 2 rfl ?_
          refine S_nil ?_
          refine C_if rfl (fun h102 => ?_) (fun h102 => ?_)
          ·refine C_seq <| C_region ?_
           have e : (layN m l false) = ((layM m2 (kindB false :: (lc.take k).flatMap fun c => cellB c false)).1, (layM m2 (kindB false :: (lc.take k).flatMap fun c => cellB c false)).2.2, []) := by
             rw [← hr, layL, if_neg (by omega)]; dsimp only; rw [hT]; dsimp only; exact if_pos (by omega)
           refine S_nilarr elCell 83 ?_
           refine S_run 3 rfl ?_
           refine S_nil ?_
           rw [e] at hret
           first
             | exact hret (Res_tmps Try.results81 rfl rfl) ⟨adO, cO, adQ, cQ, rfl, rfl, rfl⟩
             | exact hret (Res_tmps Try.results81 rfl rfl) ⟨none, 0, adR, cR, rfl, rfl, rfl⟩
          ·refine C_skip <| C_seq <| C_region ?_
           refine S_run 2 rfl ?_
           obtain ⟨y0, hy0⟩ : ∃ y, lc[0]? = some y := ⟨_, List.getElem?_eq_getElem (by omega)⟩
           have hfw := layM_few hm2 (kindB false :: (lc.take k).flatMap fun c => cellB c false)
           refine S_yx rfl rfl rfl (Y_ixA rfl u79 ti83 rfl rfl rfl (by repeat constructor) rfl (by omega) hy0) ?_
           rintro _ _ ⟨b106, o106, rfl, rfl⟩
           refine S_y rfl rfl rfl (Y_fa ly83 rfl rfl rfl) ?_
           refine S_y rfl rfl rfl (Y_ld u9 rfl rfl rfl) ?_
           refine S_run 1 rfl ?_
           refine S_y rfl rfl rfl (Y_build [.const (.int .i64 0), .tmp 109, .const (str []), .tmp 108] bt83 rfl rfl rfl rfl) ?_
           refine S_lit elCell [⟨y0.key, [], (layM m2 (kindB false :: (lc.take k).flatMap fun c => cellB c false)).2.1, 0⟩] rfl rfl rfl rfl u79 ti83 rfl rfl rfl rfl rfl (by decide) (fun ad111 c111 => ?_)
           refine S_pub (by repeat constructor) ?_
           have hof := hm2.ok.few
           refine S_app rfl rfl rfl rfl u79 ti83 rfl rfl rfl rfl rfl rfl (by repeat constructor) (by repeat constructor) (by simp only [List.length_append, List.length_cons, List.length_nil]; omega) (by simp only [List.length_append, List.length_cons, List.length_nil]; omega) (fun ad112 c112 => ?_)
           refine S_run 1 rfl ?_
           refine S_nil <| C_seq <| C_region ?_
           refine S_run 2 rfl ?_
           refine S_yx rfl rfl rfl (Y_reslice rfl u79 ti83 rfl rfl (by repeat constructor) rfl ⟨_, rfl⟩ rfl (by omega) (by omega) (by omega)) ?_
           rintro _ _ ⟨ad115, c115, rfl, rfl⟩
           rw [show (lc.drop (k : Int).toNat).take ((lc.length : Int).toNat - (k : Int).toNat) = lc.drop k from List.take_of_length_le (by simp)]
           refine S_run 1 rfl ?_
           refine S_nil <| C_seq <| C_region ?_
           refine S_run 2 rfl ?_
           refine S_y rfl rfl rfl ((Y_subi rfl rfl rfl (by omega) (by omega)).as (v' := .int .i64 ((sumC (lc.drop k) false : Nat) : Int)) (by congr 1; omega)) ?_
           refine S_run 1 rfl ?_
           refine S_nil <| C_region ?_
           refine S_run 1 rfl ?_
           refine S_y rfl rfl rfl (Y_subi rfl rfl rfl (by omega) (by omega)) ?_
           refine S_y rfl rfl rfl ((Y_max rfl rfl rfl).as (v' := .int .i64 ((max (nodes - 1) 1 : Nat) : Int)) (by congr 1; omega)) ?_
           refine S_run 1 rfl ?_
           refine S_nil <| C_blk ?_
           rw [layL, if_neg (by omega)] at hr
           dsimp only at hr
           rw [hT] at hr
           dsimp only at hr
           rw [if_neg (by omega), headK_of hy0] at hr
           have hz := layM_zero (show (layM m2 (kindB false :: (lc.take k).flatMap fun c => cellB c false)).2.2 = 0 by omega)
           have hsa := layM_same m2 (kindB false :: (lc.take k).flatMap fun c => cellB c false)
           have hss := sumC_split lc false k
           refine hJ (fu, _, lc.drop k, max (nodes - 1) 1, out ++ [_], (_, _), (_, _), (_, _)) _ _ _ _ ⟨layM_ok hm2 _, hsa.2.trans hse, hsa.1.trans hmo, ?_, fun c hx => hco c (List.mem_of_mem_drop hx), ?_, by dsimp only; omega, by dsimp only; omega, ?_, hr⟩ (by show fu < fu + 1; omega) (by repeat (first | exact trivial | refine ⟨rfl, ?_⟩ | refine ⟨intE (by omega), ?_⟩)) (by repeat constructor) (by repeat constructor)
           · show (m.most - ((layM m2 (kindB false :: (lc.take k).flatMap fun c => cellB c false)).1.pages.length : Nat)).toNat < fu
             omega
           · show (lc.drop k).length ≤ 2000000000
             rw [List.length_drop]; omega
           · show (out ++ [_]).length ≤ (layM m2 (kindB false :: (lc.take k).flatMap fun c => cellB c false)).1.pages.length
             rw [List.length_append]; simp only [List.length_cons, List.length_nil]; omega
     ·refine S_run 8 rfl ?_
      refine S_nil ?_
      refine C_cond_f rfl ?_
      refine C_exit rfl <| C_seq <| C_region ?_
      have hex : takeL false (m.size - 8) (sumC lc false / nodes) nodes (lc.drop k) n = (0, n) := by
        first
          | (rw [drop_cons hy, takeL]; exact if_neg (by omega))
          | (rw [List.drop_of_length_le (by omega)]; rfl)
      rw [hex] at hT
      replace hT : (takeL false (m.size - 8) (sumC lc false / nodes) nodes lc 0) = (k, n) := hT.symm
      refine S_lit elB [1] rfl rfl rfl rfl u68 ti5 rfl rfl rfl rfl rfl (by decide) (fun ad14 c14 => ?_)
      refine S_run 1 rfl ?_
      refine S_nil <| C_seq <| C_seq <| C_region ?_
      refine S_run 2 rfl ?_
      refine S_nil ?_
      refine C_cond_t rfl ?_
      refine C_region ?_
      refine S_run 1 rfl ?_
      refine S_yx rfl rfl rfl (Y_ixO (ys := [1]) rfl u68 ti5 rfl rfl rfl (by repeat constructor) rfl (by decide) (by decide)) ?_
      rintro _ _ ⟨b78, rfl, rfl⟩
      refine S_stA (E := elB) 2 (i := 0) rfl rfl rfl ti5 rfl rfl rfl rfl (by repeat constructor) (by repeat constructor) rfl (by decide) rfl ?_
      refine S_nil <| C_seq <| C_seq <| C_region ?_
      refine S_run 2 rfl ?_
      refine S_yx rfl rfl rfl (Y_reslice rfl u79 ti83 rfl rfl (by repeat constructor) rfl rfl ⟨_, rfl⟩ (by decide) (by omega) (by omega)) ?_
      rintro _ _ ⟨ad81, c81, rfl, rfl⟩
      rw [show (lc.drop (0 : Int).toNat).take ((k : Int).toNat - (0 : Int).toNat) = lc.take k by simp]
      have hkl : (lc.take k).length = k := by rw [List.length_take]; omega
      refine S_y rfl rfl rfl ((Y_slen rfl rfl u79).as (v' := .int .i64 (k : Int)) (by rw [hkl])) ?_
      refine S_run 1 rfl ?_
      refine S_nil <| C_block ?_
      refine C_loop (σ := Nat × (Option Addr × Nat) × Bytes) (fun t => t.1 ≤ k ∧ t.2.2 = kindB false :: ((lc.take k).take t.1).flatMap fun c => cellB c false) (fun t => k - t.1)
        (fun t => [(0, .pointer (some ⟨bw, 0, none⟩)), (1, .slice adC lc.length cC), (2, .bool false), (6, .slice adO out.length cO), (8, .int .i64 (m.size - 8)), (9, .int .i64 (sumC lc false : Int)), (10, .int .i64 (nodes : Int)), (12, .int .i64 (k : Int)), (13, .int .i64 (n : Int)), (14, .slice t.2.1.1 t.2.2.length t.2.1.2), (81, .slice ad81 (lc.take k).length c81), (82, .int .i64 (k : Int)), (83, .int .i64 (t.1 : Int))])
        (fun t => [SlM elCell ad81 c81 (lc.take k), SlM elCell adC cC lc, PtM bw 0 [.iface 26 (.pointer (some ⟨bm, 0, none⟩)), .map (some bg)]]) (fun t => [Res.arr elB 5 t.2.1.1 t.2.1.2 t.2.2, Res.arr elCell 83 adO cO out, Res.blk bm (.cells (memC m2 adQ cQ) 29 (0, 0)), Res.arr elS 9 adQ cQ (m2).pages]) (0, (ad14, c14), [kindB false]) ?_ (by repeat (first | exact trivial | refine ⟨rfl, ?_⟩ | refine ⟨intE (by omega), ?_⟩)) (by repeat constructor) (by repeat constructor) ?_
      ·exact ⟨Nat.zero_le _, rfl⟩
      ·rintro J ⟨i, ⟨adB, cB⟩, bs⟩ ⟨hi, hbs⟩ hM
       dsimp only at hi hbs ⊢
       refine C_seq <| C_region ?_
       refine S_run 1 rfl ?_
       refine S_nil <| C_seq ?_
       refine C_if rfl (fun h84 => ?_) (fun h84 => ?_)
       ·refine C_skip <| C_seq <| C_block <| C_seq <| C_region ?_
        obtain ⟨y, hy⟩ : ∃ y, (lc.take k)[i]? = some y := ⟨_, List.getElem?_eq_getElem (by omega)⟩
        have hyo := hco y (List.mem_of_mem_take (List.mem_of_getElem? hy))
        have hyt := hyo.text
        have hyp := hyo.page
        have hys := hyo.size
        have hbl := congrArg List.length hbs
        rw [List.length_cons, flatC_len] at hbl
        have hb2 := sumC_split (lc.take k) false i
        have hb3 := sumC_split lc false k
        refine S_yx rfl rfl rfl (Y_ixA rfl u79 ti83 rfl rfl rfl (by repeat constructor) rfl (by omega) hy) ?_
        rintro _ _ ⟨b85, o85, rfl, rfl⟩
        refine S_y rfl rfl rfl (Y_ldS Try.underlying83 rfl ti83 rfl rfl) ?_
        refine S_alloc rfl rfl rfl rfl ti83 rfl (fun b16 => ?_)
        refine S_stS rfl rfl rfl ti83 rfl rfl rfl rfl (by repeat constructor) (by rfl) ?_
        refine S_nil <| C_region ?_
        refine S_y rfl rfl rfl (Y_ldS Try.underlying83 rfl ti83 rfl rfl) ?_
        refine S_run 2 rfl ?_
        refine S_enter rfl rfl rfl (E_fn rfl rfl) (put_ok (cl := y) (leaf := false) (xs := bs) (by omega) (by omega) (by omega)) ?_
        rintro _ _ _ ⟨ad90, c90, rfl, rfl, rfl⟩
        try dsimp only [List.cons_append, List.nil_append]
        refine S_run 1 rfl ?_
        refine S_nil <| C_blk <| C_region ?_
        refine S_y rfl rfl rfl (Y_addi rfl rfl rfl (by omega) (by omega)) ?_
        refine S_run 1 rfl ?_
        refine S_nil ?_
        refine hM (i + 1, (_, _), _) _ _ _ _ ⟨by show i + 1 ≤ k; omega, ?_⟩ (by show k - (i + 1) < k - i; omega) (by repeat (first | exact trivial | refine ⟨rfl, ?_⟩ | refine ⟨intE (by omega), ?_⟩)) (by repeat constructor) (by repeat constructor)
        show _ = kindB false :: ((lc.take k).take (i + 1)).flatMap fun c => cellB c false
        rw [take_succ_snoc hy, hbs]
        simp
       ·refine C_exit rfl <| C_seq <| C_region ?_
        have hik : k = i := by omega
        subst hik
        rw [List.take_of_length_le (by omega)] at hbs
        subst hbs
        refine S_pub (E := elB) (by repeat constructor) ?_
        refine S_run 2 rfl ?_
        refine S_y rfl rfl rfl (Y_fa ly108 rfl rfl rfl) ?_
        refine S_y rfl rfl rfl (Y_ld Try.underlying73 rfl rfl rfl) ?_
        refine S_run 1 rfl ?_
        refine S_enter rfl rfl rfl (E_inv rfl rfl rfl (by intro w; kernel_rfl)) (mlay_ok hm2.ok) ?_
        rintro _ _ _ ⟨adR, cR, rfl, rfl, rfl⟩
        try dsimp only [List.cons_append, List.nil_append]
        refine S_run 5 rfl ?_
        refine S_nil <| C_seq <| C_seq <| C_region ?_
        refine S_run 2 rfl ?_
        refine S_nil ?_
        refine C_if rfl (fun h102 => ?_) (fun h102 => ?_)
        ·refine C_seq <| C_region ?_
         have e : (layN m l false) = ((layM m2 (kindB false :: (lc.take k).flatMap fun c => cellB c false)).1, (layM m2 (kindB false :: (lc.take k).flatMap fun c => cellB c false)).2.2, []) := by
           rw [← hr, layL, if_neg (by omega)]; dsimp only; rw [hT]; dsimp only; exact if_pos (by omega)
         refine S_nilarr elCell 83 ?_
         refine S_run 3 rfl ?_
         refine S_nil ?_
         rw [e] at hret
         first
           | exact hret (Res_tmps Try.results81 rfl rfl) ⟨adO, cO, adQ, cQ, rfl, rfl, rfl⟩
           | exact hret (Res_tmps Try.results81 rfl rfl) ⟨none, 0, adR, cR, rfl, rfl, rfl⟩
        ·refine C_skip <| C_seq <| C_region ?_
         refine S_run 2 rfl ?_
         obtain ⟨y0, hy0⟩ : ∃ y, lc[0]? = some y := ⟨_, List.getElem?_eq_getElem (by omega)⟩
         have hfw := layM_few hm2 (kindB false :: (lc.take k).flatMap fun c => cellB c false)
         refine S_yx rfl rfl rfl (Y_ixA rfl u79 ti83 rfl rfl rfl (by repeat constructor) rfl (by omega) hy0) ?_
         rintro _ _ ⟨b106, o106, rfl, rfl⟩
         refine S_y rfl rfl rfl (Y_fa ly83 rfl rfl rfl) ?_
         refine S_y rfl rfl rfl (Y_ld u9 rfl rfl rfl) ?_
         refine S_run 1 rfl ?_
         refine S_y rfl rfl rfl (Y_build [.const (.int .i64 0), .tmp 109, .const (str []), .tmp 108] bt83 rfl rfl rfl rfl) ?_
         refine S_lit elCell [⟨y0.key, [], (layM m2 (kindB false :: (lc.take k).flatMap fun c => cellB c false)).2.1, 0⟩] rfl rfl rfl rfl u79 ti83 rfl rfl rfl rfl rfl (by decide) (fun ad111 c111 => ?_)
         refine S_pub (by repeat constructor) ?_
         have hof := hm2.ok.few
         refine S_app rfl rfl rfl rfl u79 ti83 rfl rfl rfl rfl rfl rfl (by repeat constructor) (by repeat constructor) (by simp only [List.length_append, List.length_cons, List.length_nil]; omega) (by simp only [List.length_append, List.length_cons, List.length_nil]; omega) (fun ad112 c112 => ?_)
         refine S_run 1 rfl ?_
         refine S_nil <| C_seq <| C_region ?_
         refine S_run 2 rfl ?_
         refine S_yx rfl rfl rfl (Y_reslice rfl u79 ti83 rfl rfl (by repeat constructor) rfl ⟨_, rfl⟩ rfl (by omega) (by omega) (by omega)) ?_
         rintro _ _ ⟨ad115, c115, rfl, rfl⟩
         rw [show (lc.drop (k : Int).toNat).take ((lc.length : Int).toNat - (k : Int).toNat) = lc.drop k from List.take_of_length_le (by simp)]
         refine S_run 1 rfl ?_
         refine S_nil <| C_seq <| C_region ?_
         refine S_run 2 rfl ?_
         refine S_y rfl rfl rfl ((Y_subi rfl rfl rfl (by omega) (by omega)).as (v' := .int .i64 ((sumC (lc.drop k) false : Nat) : Int)) (by congr 1; omega)) ?_
         refine S_run 1 rfl ?_
         refine S_nil <| C_region ?_
         refine S_run 1 rfl ?_
         refine S_y rfl rfl rfl (Y_subi rfl rfl rfl (by omega) (by omega)) ?_
         refine S_y rfl rfl rfl ((Y_max rfl rfl rfl).as (v' := .int .i64 ((max (nodes - 1) 1 : Nat) : Int)) (by congr 1; omega)) ?_
         refine S_run 1 rfl ?_
         refine S_nil <| C_blk ?_
         rw [layL, if_neg (by omega)] at hr
         dsimp only at hr
         rw [hT] at hr
         dsimp only at hr
         rw [if_neg (by omega), headK_of hy0] at hr
         have hz := layM_zero (show (layM m2 (kindB false :: (lc.take k).flatMap fun c => cellB c false)).2.2 = 0 by omega)
         have hsa := layM_same m2 (kindB false :: (lc.take k).flatMap fun c => cellB c false)
         have hss := sumC_split lc false k
         refine hJ (fu, _, lc.drop k, max (nodes - 1) 1, out ++ [_], (_, _), (_, _), (_, _)) _ _ _ _ ⟨layM_ok hm2 _, hsa.2.trans hse, hsa.1.trans hmo, ?_, fun c hx => hco c (List.mem_of_mem_drop hx), ?_, by dsimp only; omega, by dsimp only; omega, ?_, hr⟩ (by show fu < fu + 1; omega) (by repeat (first | exact trivial | refine ⟨rfl, ?_⟩ | refine ⟨intE (by omega), ?_⟩)) (by repeat constructor) (by repeat constructor)
         · show (m.most - ((layM m2 (kindB false :: (lc.take k).flatMap fun c => cellB c false)).1.pages.length : Nat)).toNat < fu
           omega
         · show (lc.drop k).length ≤ 2000000000
           rw [List.length_drop]; omega
         · show (out ++ [_]).length ≤ (layM m2 (kindB false :: (lc.take k).flatMap fun c => cellB c false)).1.pages.length
           rw [List.length_append]; simp only [List.length_cons, List.length_nil]; omega
    ·refine S_run 3 rfl ?_
     refine S_run 17 rfl ?_
     refine S_nil ?_
     refine C_cond_f rfl ?_
     refine C_exit rfl <| C_seq <| C_region ?_
     have hex : takeL false (m.size - 8) (sumC lc false / nodes) nodes (lc.drop k) n = (0, n) := by
       first
         | (rw [drop_cons hy, takeL]; exact if_neg (by omega))
         | (rw [List.drop_of_length_le (by omega)]; rfl)
     rw [hex] at hT
     replace hT : (takeL false (m.size - 8) (sumC lc false / nodes) nodes lc 0) = (k, n) := hT.symm
     refine S_lit elB [1] rfl rfl rfl rfl u68 ti5 rfl rfl rfl rfl rfl (by decide) (fun ad14 c14 => ?_)
     refine S_run 1 rfl ?_
     refine S_nil <| C_seq <| C_seq <| C_region ?_
     refine S_run 2 rfl ?_
     refine S_nil ?_
     refine C_cond_t rfl ?_
     refine C_region ?_
     refine S_run 1 rfl ?_
     refine S_yx rfl rfl rfl (Y_ixO (ys := [1]) rfl u68 ti5 rfl rfl rfl (by repeat constructor) rfl (by decide) (by decide)) ?_
     rintro _ _ ⟨b78, rfl, rfl⟩
     refine S_stA (E := elB) 2 (i := 0) rfl rfl rfl ti5 rfl rfl rfl rfl (by repeat constructor) (by repeat constructor) rfl (by decide) rfl ?_
     refine S_nil <| C_seq <| C_seq <| C_region ?_
     refine S_run 2 rfl ?_
     refine S_yx rfl rfl rfl (Y_reslice rfl u79 ti83 rfl rfl (by repeat constructor) rfl rfl ⟨_, rfl⟩ (by decide) (by omega) (by omega)) ?_
     rintro _ _ ⟨ad81, c81, rfl, rfl⟩
     rw [show (lc.drop (0 : Int).toNat).take ((k : Int).toNat - (0 : Int).toNat) = lc.take k by simp]
     have hkl : (lc.take k).length = k := by rw [List.length_take]; omega
     refine S_y rfl rfl rfl ((Y_slen rfl rfl u79).as (v' := .int .i64 (k : Int)) (by rw [hkl])) ?_
     refine S_run 1 rfl ?_
     refine S_nil <| C_block ?_
     refine C_loop (σ := Nat × (Option Addr × Nat) × Bytes) (fun t => t.1 ≤ k ∧ t.2.2 = kindB false :: ((lc.take k).take t.1).flatMap fun c => cellB c false) (fun t => k - t.1)
       (fun t => [(0, .pointer (some ⟨bw, 0, none⟩)), (1, .slice adC lc.length cC), (2, .bool false), (6, .slice adO out.length cO), (8, .int .i64 (m.size - 8)), (9, .int .i64 (sumC lc false : Int)), (10, .int .i64 (nodes : Int)), (12, .int .i64 (k : Int)), (13, .int .i64 (n : Int)), (14, .slice t.2.1.1 t.2.2.length t.2.1.2), (81, .slice ad81 (lc.take k).length c81), (82, .int .i64 (k : Int)), (83, .int .i64 (t.1 : Int))])
       (fun t => [SlM elCell ad81 c81 (lc.take k), SlM elCell adC cC lc, PtM bw 0 [.iface 26 (.pointer (some ⟨bm, 0, none⟩)), .map (some bg)]]) (fun t => [Res.arr elB 5 t.2.1.1 t.2.1.2 t.2.2, Res.arr elCell 83 adO cO out, Res.blk bm (.cells (memC m2 adQ cQ) 29 (0, 0)), Res.arr elS 9 adQ cQ (m2).pages]) (0, (ad14, c14), [kindB false]) ?_ (by repeat (first | exact trivial | refine ⟨rfl, ?_⟩ | refine ⟨intE (by omega), ?_⟩)) (by repeat constructor) (by repeat constructor) ?_
     ·exact ⟨Nat.zero_le _, rfl⟩
     ·rintro J ⟨i, ⟨adB, cB⟩, bs⟩ ⟨hi, hbs⟩ hM
      dsimp only at hi hbs ⊢
      refine C_seq <| C_region ?_
      refine S_run 1 rfl ?_
      refine S_nil <| C_seq ?_
      refine C_if rfl (fun h84 => ?_) (fun h84 => ?_)
      ·refine C_skip <| C_seq <| C_block <| C_seq <| C_region ?_
       obtain ⟨y, hy⟩ : ∃ y, (lc.take k)[i]? = some y := ⟨_, List.getElem?_eq_getElem (by omega)⟩
       have hyo := hco y (List.mem_of_mem_take (List.mem_of_getElem? hy))
       have hyt := hyo.text
       have hyp := hyo.page
       have hys := hyo.size
       have hbl := congrArg List.length hbs
       rw [List.length_cons, flatC_len] at hbl
       have hb2 := sumC_split (lc.take k) false i
       have hb3 := sumC_split lc false k
       refine S_yx rfl rfl rfl (Y_ixA rfl u79 ti83 rfl rfl rfl (by repeat constructor) rfl (by omega) hy) ?_
       rintro _ _ ⟨b85, o85, rfl, rfl⟩
       refine S_y rfl rfl rfl (Y_ldS Try.underlying83 rfl ti83 rfl rfl) ?_
       refine S_alloc rfl rfl rfl rfl ti83 rfl (fun b16 => ?_)
       refine S_stS rfl rfl rfl ti83 rfl rfl rfl rfl (by repeat constructor) (by rfl) ?_
       refine S_nil <| C_region ?_
       refine S_y rfl rfl rfl (Y_ldS Try.underlying83 rfl ti83 rfl rfl) ?_
       refine S_run 2 rfl ?_
       refine S_enter rfl rfl rfl (E_fn rfl rfl) (put_ok (cl := y) (leaf := false) (xs := bs) (by omega) (by omega) (by omega)) ?_
       rintro _ _ _ ⟨ad90, c90, rfl, rfl, rfl⟩
       try dsimp only [List.cons_append, List.nil_append]
       refine S_run 1 rfl ?_
       refine S_nil <| C_blk <| C_region ?_
       refine S_y rfl rfl rfl (Y_addi rfl rfl rfl (by omega) (by omega)) ?_
       refine S_run 1 rfl ?_
       refine S_nil ?_
       refine hM (i + 1, (_, _), _) _ _ _ _ ⟨by show i + 1 ≤ k; omega, ?_⟩ (by show k - (i + 1) < k - i; omega) (by repeat (first | exact trivial | refine ⟨rfl, ?_⟩ | refine ⟨intE (by omega), ?_⟩)) (by repeat constructor) (by repeat constructor)
       show _ = kindB false :: ((lc.take k).take (i + 1)).flatMap fun c => cellB c false
       rw [take_succ_snoc hy, hbs]
       simp
      ·refine C_exit rfl <| C_seq <| C_region ?_
       have hik : k = i := by omega
       subst hik
       rw [List.take_of_length_le (by omega)] at hbs
       subst hbs
       refine S_pub (E := elB) (by repeat constructor) ?_
       refine S_run 2 rfl ?_
       refine S_y rfl rfl rfl (Y_fa ly108 rfl rfl rfl) ?_
       refine S_y rfl rfl rfl (Y_ld Try.underlying73 rfl rfl rfl) ?_
       refine S_run 1 rfl ?_
       refine S_enter rfl rfl rfl (E_inv rfl rfl rfl (by intro w; kernel_rfl)) (mlay_ok hm2.ok) ?_
       rintro _ _ _ ⟨adR, cR, rfl, rfl, rfl⟩
       try dsimp only [List.cons_append, List.nil_append]
       refine S_run 5 rfl ?_
       refine S_nil <| C_seq <| C_seq <| C_region ?_
       refine S_run 2 rfl ?_
       refine S_nil ?_
       refine C_if rfl (fun h102 => ?_) (fun h102 => ?_)
       ·refine C_seq <| C_region ?_
        have e : (layN m l false) = ((layM m2 (kindB false :: (lc.take k).flatMap fun c => cellB c false)).1, (layM m2 (kindB false :: (lc.take k).flatMap fun c => cellB c false)).2.2, []) := by
          rw [← hr, layL, if_neg (by omega)]; dsimp only; rw [hT]; dsimp only; exact if_pos (by omega)
        refine S_nilarr elCell 83 ?_
        refine S_run 3 rfl ?_
        refine S_nil ?_
        rw [e] at hret
        first
          | exact hret (Res_tmps Try.results81 rfl rfl) ⟨adO, cO, adQ, cQ, rfl, rfl, rfl⟩
          | exact hret (Res_tmps Try.results81 rfl rfl) ⟨none, 0, adR, cR, rfl, rfl, rfl⟩
       ·refine C_skip <| C_seq <| C_region ?_
        refine S_run 2 rfl ?_
        obtain ⟨y0, hy0⟩ : ∃ y, lc[0]? = some y := ⟨_, List.getElem?_eq_getElem (by omega)⟩
        have hfw := layM_few hm2 (kindB false :: (lc.take k).flatMap fun c => cellB c false)
        refine S_yx rfl rfl rfl (Y_ixA rfl u79 ti83 rfl rfl rfl (by repeat constructor) rfl (by omega) hy0) ?_
        rintro _ _ ⟨b106, o106, rfl, rfl⟩
        refine S_y rfl rfl rfl (Y_fa ly83 rfl rfl rfl) ?_
        refine S_y rfl rfl rfl (Y_ld u9 rfl rfl rfl) ?_
        refine S_run 1 rfl ?_
        refine S_y rfl rfl rfl (Y_build [.const (.int .i64 0), .tmp 109, .const (str []), .tmp 108] bt83 rfl rfl rfl rfl) ?_
        refine S_lit elCell [⟨y0.key, [], (layM m2 (kindB false :: (lc.take k).flatMap fun c => cellB c false)).2.1, 0⟩] rfl rfl rfl rfl u79 ti83 rfl rfl rfl rfl rfl (by decide) (fun ad111 c111 => ?_)
        refine S_pub (by repeat constructor) ?_
        have hof := hm2.ok.few
        refine S_app rfl rfl rfl rfl u79 ti83 rfl rfl rfl rfl rfl rfl (by repeat constructor) (by repeat constructor) (by simp only [List.length_append, List.length_cons, List.length_nil]; omega) (by simp only [List.length_append, List.length_cons, List.length_nil]; omega) (fun ad112 c112 => ?_)
        refine S_run 1 rfl ?_
        refine S_nil <| C_seq <| C_region ?_
        refine S_run 2 rfl ?_
        refine S_yx rfl rfl rfl (Y_reslice rfl u79 ti83 rfl rfl (by repeat constructor) rfl ⟨_, rfl⟩ rfl (by omega) (by omega) (by omega)) ?_
        rintro _ _ ⟨ad115, c115, rfl, rfl⟩
        rw [show (lc.drop (k : Int).toNat).take ((lc.length : Int).toNat - (k : Int).toNat) = lc.drop k from List.take_of_length_le (by simp)]
        refine S_run 1 rfl ?_
        refine S_nil <| C_seq <| C_region ?_
        refine S_run 2 rfl ?_
        refine S_y rfl rfl rfl ((Y_subi rfl rfl rfl (by omega) (by omega)).as (v' := .int .i64 ((sumC (lc.drop k) false : Nat) : Int)) (by congr 1; omega)) ?_
        refine S_run 1 rfl ?_
        refine S_nil <| C_region ?_
        refine S_run 1 rfl ?_
        refine S_y rfl rfl rfl (Y_subi rfl rfl rfl (by omega) (by omega)) ?_
        refine S_y rfl rfl rfl ((Y_max rfl rfl rfl).as (v' := .int .i64 ((max (nodes - 1) 1 : Nat) : Int)) (by congr 1; omega)) ?_
        refine S_run 1 rfl ?_
        refine S_nil <| C_blk ?_
        rw [layL, if_neg (by omega)] at hr
        dsimp only at hr
        rw [hT] at hr
        dsimp only at hr
        rw [if_neg (by omega), headK_of hy0] at hr
        have hz := layM_zero (show (layM m2 (kindB false :: (lc.take k).flatMap fun c => cellB c false)).2.2 = 0 by omega)
        have hsa := layM_same m2 (kindB false :: (lc.take k).flatMap fun c => cellB c false)
        have hss := sumC_split lc false k
        refine hJ (fu, _, lc.drop k, max (nodes - 1) 1, out ++ [_], (_, _), (_, _), (_, _)) _ _ _ _ ⟨layM_ok hm2 _, hsa.2.trans hse, hsa.1.trans hmo, ?_, fun c hx => hco c (List.mem_of_mem_drop hx), ?_, by dsimp only; omega, by dsimp only; omega, ?_, hr⟩ (by show fu < fu + 1; omega) (by repeat (first | exact trivial | refine ⟨rfl, ?_⟩ | refine ⟨intE (by omega), ?_⟩)) (by repeat constructor) (by repeat constructor)
        · show (m.most - ((layM m2 (kindB false :: (lc.take k).flatMap fun c => cellB c false)).1.pages.length : Nat)).toNat < fu
          omega
        · show (lc.drop k).length ≤ 2000000000
          rw [List.length_drop]; omega
        · show (out ++ [_]).length ≤ (layM m2 (kindB false :: (lc.take k).flatMap fun c => cellB c false)).1.pages.length
          rw [List.length_append]; simp only [List.length_cons, List.length_nil]; omega
  ·refine C_exit rfl <| C_seq <| C_region ?_
   have e : (layN m l false) = (m2, 0, out) := by
     rw [← hr]; cases fu with
     | zero => omega
     | succ f => rw [layL]; exact if_pos (by omega)
   refine S_run 3 rfl ?_
   refine S_nil ?_
   rw [e] at hret
   first
     | exact hret (Res_tmps Try.results81 rfl rfl) ⟨adO, cO, adQ, cQ, rfl, rfl, rfl⟩
     | exact hret (Res_tmps Try.results81 rfl rfl) ⟨none, 0, adR, cR, rfl, rfl, rfl⟩
end Go.Proofs.Ytlgbhceifnjdnaa
