/- BtreeArgs: with no pages, and with pages that are too small, every call of the tree tells it; for every input the law returns true, and each argument reads as it did. -/
import Derived.Test.YtlgbhceifnjdnaaWW
import Derived.Test.YtlgbhceifnjdnaaBZ
import Derived.Test.YtlgbhceifnjdnaaRows
import Derived.KernelRfl
namespace Go.Proofs.Ytlgbhceifnjdnaa
open Go.ChangeShapes Go.WideShapes Go.ChangeAt Go.RowKit Go.KX
theorem ownK : ownKnob Try.prog.godebug = none := by kernel_rfl
set_option maxRecDepth 100000 in
/-- A tree that is handed in. -/
theorem open_tree {H : Type} {enc : TypeId × Value → H} {W : World} {sp : Nat → Bool} {held : Bool} {v : Value} {d : DataW H} {ps : List MemPlace} (hval : ∃ cs, v = .agg cs) (h : DataW.Trod enc Try.prog W 0 sp held 31 v d ps) :
    ∃ t : Tree, v = .agg (treeC t) ∧ (-9223372036854775808 ≤ t.root ∧ t.root ≤ 9223372036854775807) ∧ (-9223372036854775808 ≤ t.keys ∧ t.keys ≤ 9223372036854775807) ∧ (-9223372036854775808 ≤ t.deep ∧ t.deep ≤ 9223372036854775807) := by
  obtain ⟨cs, rfl⟩ := hval
  obtain ⟨fuel, h⟩ := h
  cases fuel with
  | zero => cases h
  | succ fuel =>
    unfold DataW.trod at h
    rw [Try.underlying31] at h
    dsimp only at h
    split at h
    · rename_i hc
      have h3 : cs.size = 3 := by
        have : Try.prog.cellsOf 31 = 3 := by kernel_rfl
        rw [this] at hc
        simpa [Value.cells] using hc
      simp only [Option.map_eq_some_iff] at h
      obtain ⟨xs, h1, _⟩ := h
      have hcell : ∀ (c : Value) (y : DataW H × List MemPlace), DataW.trod enc Try.prog W 0 sp held fuel 3 [c] = some y → ∃ z : Int, c = .int .i64 z ∧ -9223372036854775808 ≤ z ∧ z ≤ 9223372036854775807 := by
        intro c y hy
        cases fuel with
        | zero => cases hy
        | succ fuel =>
          unfold DataW.trod at hy
          rw [Try.underlying3] at hy
          revert hy
          split <;> intro hy <;> first | (rename_i hq; cases hq; done) | (rename_i hq _; cases hq; done) | (cases hy; done) | skip
          rename_i e1 e2 
          split at hy
          · rename_i hw
            cases e1
            cases e2
            obtain ⟨rfl, hw⟩ := hw
            have := bounds_i64 hw
            exact ⟨_, rfl, this.1, this.2⟩
          · cases hy
      obtain ⟨c0, c1, c2, rfl⟩ : ∃ c0 c1 c2, cs = #[c0, c1, c2] := by
        obtain ⟨l⟩ := cs
        match l, h3 with
        | [a, b, c], _ => exact ⟨a, b, c, rfl⟩
      obtain ⟨y0, _, g0⟩ := mapM_at _ _ h1 0 _ rfl
      obtain ⟨y1, _, g1⟩ := mapM_at _ _ h1 1 _ rfl
      obtain ⟨y2, _, g2⟩ := mapM_at _ _ h1 2 _ rfl
      have hc3 : Try.prog.cellsOf 3 = 1 := by kernel_rfl
      obtain ⟨z0, rfl, a0⟩ := hcell c0 y0 (by simpa [hc3, Value.cells] using g0)
      obtain ⟨z1, rfl, a1⟩ := hcell c1 y1 (by simpa [hc3, Value.cells] using g1)
      obtain ⟨z2, rfl, a2⟩ := hcell c2 y2 (by simpa [hc3, Value.cells] using g2)
      exact ⟨⟨z0, z1, z2⟩, rfl, a0, a1, a2⟩
    · cases h
set_option maxRecDepth 100000 in
theorem argsLifted (os : Os) (started : os.Started) (H : Type) (enc : TypeId × Value → H) :
    ReturnsInHanded {} Try.checked os 9 .any (Rows.btreeArgsSpec.pre6 enc Try.prog Try.f9 Rows.btreeArgsRow.domain false) (Rows.btreeArgsSpec.post enc Try.prog Try.f9 false true false false) := by
  refine returnsInHanded_of_change (C := Try.checked) ownK started (by kernel_rfl) Try.func9
    (ChangeSpec.witness6 (enc := enc) (C := Try.checked) false ⟨#[], #[.int .i64 0, .agg #[.int .i64 0, .int .i64 0, .int .i64 0], .string ⟨#[]⟩], []⟩ 8 (by kernel_rfl) (by kernel_rfl) (by kernel_rfl) (by kernel_rfl)) ?_
  intro W base args ds gs before hval0 hW hcnd _
  have hval : ∀ (j : Nat) t v, Try.f9.params[j]? = some t → args[j]? = some v → Value.okWide Try.prog W .any base t v := hval0
  have hW' := hW
  obtain ⟨p, q, hA0, hV, rfl, hfz, hnd⟩ := hW
  have hA : DataW.TrodAll enc Try.prog W 0 (fun _ => true) true Try.f9.params.toList args.toList ds p := hA0
  rw [Try.params9] at hA hval
  obtain ⟨v0, vs0, d0, ds0, p0, q0, hargs, rfl, rfl, h0, r0⟩ := trodAll_cons hA
  obtain ⟨v1, vs1, d1, ds1, p1, q1, rfl, rfl, rfl, h1, r1⟩ := trodAll_cons r0
  obtain ⟨v2, vs2, d2, ds2, p2, q2, rfl, rfl, rfl, h2, r2⟩ := trodAll_cons r1
  obtain ⟨rfl, rfl, rfl⟩ := trodAll_nil r2
  obtain rfl : args = #[v0, v1, v2] := by cases args; simp_all
  have hv1 := hval 1 31 v1 rfl rfl
  simp only [Value.okWide, Try.underlying31] at hv1
  obtain ⟨cs1, hcs1, _⟩ := hv1
  obtain ⟨t, rfl, _⟩ := open_tree ⟨cs1, hcs1⟩ h1
  obtain ⟨room, rfl, rfl, rfl, w0⟩ := open_int Try.underlying3 (hval 0 3 v0 rfl rfl) h0
  obtain ⟨sk, rfl, rfl, rfl, w2⟩ := Go.ChangeMaps.open_string Try.underlying9 (hval 2 9 v2 rfl rfl) h2
  obtain ⟨key, hkey⟩ := exists_str sk
  rw [hkey]
  have hkl : key.length ≤ 9223372036854775807 := by
    have : sk = ⟨key.toArray⟩ := by unfold str at hkey; injection hkey
    rw [this, str_size] at w2
    exact w2
  rw [hkey] at hW'
  refine (calls_law (args_ok (room := room) (t := t) (key := key) hkl) (fun f hf => by cases hf)).mono fun e W' ⟨he, hs⟩ => ?_
  subst he
  exact ⟨_, rfl, law_post 5 rfl hW' hs (by kernel_rfl) ⟨4, rfl, Try.underlying4⟩ rfl rfl⟩
theorem argsOver : Rows.btreeArgsRow.holds Try.pinned (OpenSpec.ofChange Rows.btreeArgsSpec) :=
  OpenClaim.holds_of_wide 9 Try.f9 rfl rfl rfl rfl rfl rfl rfl ⟨rfl, rfl, rfl, rfl, rfl⟩ rfl rfl rfl rfl rfl (by kernel_rfl) Try.func9 (by kernel_rfl)
    (of_decide_eq_true (by kernel_rfl)) (by unfold Func.isWrapper; first | (rw [if_pos (by decide +kernel)]; kernel_rfl) | (rw [if_neg (by decide +kernel)]; exact ⟨rfl, rfl⟩))
    (fun os started H enc _ => argsLifted os started H enc)
/-- The statement. -/
theorem btreeArgs_holds : Rows.BtreeArgsSaid := argsOver
end Go.Proofs.Ytlgbhceifnjdnaa
