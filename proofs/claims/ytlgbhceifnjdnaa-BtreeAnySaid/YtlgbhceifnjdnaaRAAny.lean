/- BtreeAny: whatever bytes the pages are, every call of the tree comes to an end; what a scan tells then is by rising right keys; for every input the law returns true, and each argument reads as it did. -/
import Derived.Test.YtlgbhceifnjdnaaWX
import Derived.Test.YtlgbhceifnjdnaaBZ
import Derived.Test.YtlgbhceifnjdnaaRows
import Derived.HandedShaped
import Derived.KernelRfl
namespace Go.Proofs.Ytlgbhceifnjdnaa
open Go.ChangeShapes Go.WideShapes Go.ChangeAt Go.RowKit Go.KX
theorem ownK : ownKnob Try.prog.godebug = none := by kernel_rfl
theorem notAgg {P : Program} {W : World} {r : Reach} {base : Nat} {t e : TypeId} {v : Value} (u : P.underlying t = some (.slice e)) (h : Value.okWide P W r base t v) : ∀ cs, v ≠ .agg cs := by
  intro cs hv
  subst hv
  simp [Value.okWide, Cell.okWide, u, Cell.ok] at h
set_option maxRecDepth 100000 in
/-- A tree that is handed in. -/
theorem open_tree {H : Type} {enc : TypeId × Value → H} {W : World} {v : Value} {d : DataW H} {ps : List MemPlace} (hval : ∃ cs, v = .agg cs) (h : DataW.Trod enc Try.prog W 0 (fun _ => true) true 31 v d ps) (hl : Light Try.prog 31 d) : ∃ t : Tree, v = .agg (treeC t) := by
  obtain ⟨cs, rfl⟩ := hval
  obtain ⟨fuel, h⟩ := h
  cases fuel with
  | zero => cases h
  | succ fuel =>
    unfold DataW.trod at h
    rw [Try.underlying31] at h
    dsimp only at h
    split at h
    · rename_i hc
      have h3 : cs.size = 3 := by
        have : Try.prog.cellsOf 31 = 3 := by kernel_rfl
        rw [this] at hc
        simpa [Value.cells] using hc
      simp only [Option.map_eq_some_iff] at h
      obtain ⟨xs, h1, hx⟩ := h
      obtain ⟨c0, c1, c2, rfl⟩ : ∃ c0 c1 c2, cs = #[c0, c1, c2] := by
        obtain ⟨l⟩ := cs
        match l, h3 with
        | [a, b, c], _ => exact ⟨a, b, c, rfl⟩
      have hc3 : Try.prog.cellsOf 3 = 1 := by kernel_rfl
      have hcell : ∀ (c : Value) (y : DataW H × List MemPlace), DataW.trod enc Try.prog W 0 (fun _ => true) true fuel 3 [c] = some y → ∃ z : Int, c = .int .i64 z := by
        intro c y hy
        have hli : Light Try.prog 3 y.1 := by
          cases fuel with
          | zero => cases hy
          | succ fuel =>
            unfold DataW.trod at hy
            rw [Try.underlying3] at hy
            revert hy
            split <;> intro hy <;> first | (rename_i hq; cases hq; done) | (rename_i hq _; cases hq; done) | (cases hy; done) | skip
            split at hy
            · cases hy; rfl
            · cases hy
        obtain ⟨z, hz, _⟩ := rd_int Try.underlying3 fuel [c] y hy hli
        simp only [List.cons.injEq, and_true] at hz
        exact ⟨z, hz⟩
      obtain ⟨y0, _, g0⟩ := mapM_at _ _ h1 0 _ rfl
      obtain ⟨y1, _, g1⟩ := mapM_at _ _ h1 1 _ rfl
      obtain ⟨y2, _, g2⟩ := mapM_at _ _ h1 2 _ rfl
      obtain ⟨z0, rfl⟩ := hcell c0 y0 (by simpa [hc3, Value.cells] using g0)
      obtain ⟨z1, rfl⟩ := hcell c1 y1 (by simpa [hc3, Value.cells] using g1)
      obtain ⟨z2, rfl⟩ := hcell c2 y2 (by simpa [hc3, Value.cells] using g2)
      exact ⟨⟨z0, z1, z2⟩, rfl⟩
    · cases h
set_option maxRecDepth 100000 in
theorem anyLifted (os : Os) (started : os.Started) (H : Type) (enc : TypeId × Value → H) :
    ReturnsInHanded {} Try.checked os 8 .any (Rows.btreeAnySpec.pre6 enc Try.prog Try.f8 Rows.btreeAnyRow.domain false) (Rows.btreeAnySpec.post enc Try.prog Try.f8 false true false false) := by
  refine returnsInHanded_of_change_shaped (C := Try.checked) ownK started (by kernel_rfl) Try.func8
    (ChangeSpec.witness6 (enc := enc) (C := Try.checked) false ⟨#[], #[.int .i64 0, .slice none 0 0, .agg #[.int .i64 0, .int .i64 0, .int .i64 0], .string ⟨#[]⟩, .string ⟨#[]⟩], []⟩ 8 (by kernel_rfl) (by kernel_rfl) (by kernel_rfl) (by kernel_rfl)) ?_
  intro W base args ds gs before hval0 hW hcnd hwt0 _ _
  have hval : ∀ (j : Nat) t v, Try.f8.params[j]? = some t → args[j]? = some v → Value.okWide Try.prog W .any base t v := hval0
  have hwt : (DataW.weightsEach Try.prog (Try.f8.params.toList ++ []) (ds ++ gs)).all (· ≤ reachBytes) = true := hwt0
  have hW' := hW
  obtain ⟨p, q, hA0, hV, rfl, hfz, hnd⟩ := hW
  have hA : DataW.TrodAll enc Try.prog W 0 (fun _ => true) true Try.f8.params.toList args.toList ds p := hA0
  rw [Try.params8] at hA hval hwt
  obtain ⟨v0, vs0, d0, ds0, p0, q0, hargs, rfl, rfl, h0, r0⟩ := trodAll_cons hA
  obtain ⟨v1, vs1, d1, ds1, p1, q1, rfl, rfl, rfl, h1, r1⟩ := trodAll_cons r0
  obtain ⟨v2, vs2, d2, ds2, p2, q2, rfl, rfl, rfl, h2, r2⟩ := trodAll_cons r1
  obtain ⟨v3, vs3, d3, ds3, p3, q3, rfl, rfl, rfl, h3, r3⟩ := trodAll_cons r2
  obtain ⟨v4, vs4, d4, ds4, p4, q4, rfl, rfl, rfl, h4, r4⟩ := trodAll_cons r3
  obtain ⟨rfl, rfl, rfl⟩ := trodAll_nil r4
  obtain rfl : args = #[v0, v1, v2, v3, v4] := by cases args; simp_all
  simp only [List.cons_append, List.nil_append, DataW.weightsEach, List.all_append, Bool.and_eq_true] at hwt
  obtain ⟨l0, l1, l2, l3, l4, _⟩ := hwt
  have hv2 := hval 2 31 v2 rfl rfl
  simp only [Value.okWide, Try.underlying31] at hv2
  obtain ⟨cs2, hcs2, _⟩ := hv2
  obtain ⟨t, rfl⟩ := open_tree ⟨cs2, hcs2⟩ h2 l2
  obtain ⟨room, rfl, rfl, rfl, w0⟩ := open_int Try.underlying3 (hval 0 3 v0 rfl rfl) h0
  have hs3 := rd_arg (rd_str Try.underlying9) h3 l3
  have hs4 := rd_arg (rd_str Try.underlying9) h4 l4
  obtain ⟨s3, rfl, rfl, rfl, _⟩ := Go.ChangeMaps.open_string Try.underlying9 (hval 3 9 v3 rfl rfl) h3
  obtain ⟨s4, rfl, rfl, rfl, _⟩ := Go.ChangeMaps.open_string Try.underlying9 (hval 4 9 v4 rfl rfl) h4
  obtain ⟨key, hk1, hk2⟩ := hs3
  obtain ⟨value, hv1, hv2⟩ := hs4
  have hk1' : Value.string s3 = str key := by simpa [Value.cells] using hk1
  have hv1' : Value.string s4 = str value := by simpa [Value.cells] using hv1
  have hsl := rd_arg (rd_slice (E := elSl UInt8) Try.underlying67 (by kernel_rfl) (rd_slice (E := elB) Try.underlying68 (by kernel_rfl) (rd_byte Try.underlying5))) h1 l1
  obtain ⟨y, hy1, hy2, hy3, hy4⟩ := hsl
  have hv1e : v1 = .slice y.1 y.2.2.length y.2.1 := Go.KX.one_cell hy1 (notAgg Try.underlying67 (hval 1 67 v1 rfl rfl))
  have hb67 : Try.prog.bytesOf 68 = 24 := by kernel_rfl
  have hb5 : Try.prog.bytesOf 5 = 1 := by kernel_rfl
  rw [hb67] at hy4
  rw [hb5] at hy3
  rw [hk1', hv1', hv1e] at hW' ⊢
  have hmem : All [SlM (elSl UInt8) y.1 y.2.1 y.2.2, AllSl elB y.2.2] (gAll W) := All.cons hy2 (All.cons (fun x hx => (hy3 x hx).1) (fun f hf => by cases hf))
  refine (calls_law (any_ok (room := room) (xs := y.2.2) (ad := y.1) (c := y.2.1) (t := t) (key := key) (value := value) (by omega) (fun x hx => by have := (hy3 x hx).2.2; omega) (by omega) (by omega)) hmem).mono fun e W' ⟨he, hs⟩ => ?_
  subst he
  exact ⟨_, rfl, law_post 5 rfl hW' hs (by kernel_rfl) ⟨4, rfl, Try.underlying4⟩ rfl rfl⟩
theorem anyOver : Rows.btreeAnyRow.holds Try.pinned (OpenSpec.ofChange Rows.btreeAnySpec) :=
  OpenClaim.holds_of_wide 8 Try.f8 rfl rfl rfl rfl rfl rfl rfl ⟨rfl, rfl, rfl, rfl, rfl⟩ rfl rfl rfl rfl rfl (by kernel_rfl) Try.func8 (by kernel_rfl)
    (of_decide_eq_true (by kernel_rfl)) (by unfold Func.isWrapper; first | (rw [if_pos (by decide +kernel)]; kernel_rfl) | (rw [if_neg (by decide +kernel)]; exact ⟨rfl, rfl⟩))
    (fun os started H enc _ => anyLifted os started H enc)
/-- The statement. -/
theorem btreeAny_holds : Rows.BtreeAnySaid := anyOver
end Go.Proofs.Ytlgbhceifnjdnaa
