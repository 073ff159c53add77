/- BtreeShares: elder trees are as they were; what is told as not used is in the elder tree, and not in the new one; the pages are not too many, nor too deep; for every input the law returns true, and each argument reads as it did. -/
import Derived.Test.YtlgbhceifnjdnaaXF
import Derived.Test.YtlgbhceifnjdnaaRK
namespace Go.Proofs.Ytlgbhceifnjdnaa
open Go.ChangeShapes Go.WideShapes Go.ChangeAt Go.RowKit Go.KX
set_option maxRecDepth 100000 in
theorem sharesLifted (os : Os) (started : os.Started) (H : Type) (enc : TypeId × Value → H) :
    ReturnsInHanded {} Try.checked os 7 .any (Rows.btreeSharesSpec.pre6 enc Try.prog Try.f7 Rows.btreeSharesRow.domain false) (Rows.btreeSharesSpec.post enc Try.prog Try.f7 false true false false) := by
  refine returnsInHanded_of_change_shaped (C := Try.checked) ownR started (by kernel_rfl) Try.func7
    (ChangeSpec.witness6 (enc := enc) (C := Try.checked) false ⟨#[], #[.int .i64 0, .slice none 0 0], []⟩ 7 (by kernel_rfl) (by kernel_rfl) (by kernel_rfl) (by kernel_rfl)) ?_
  intro W base args ds gs before hval0 hW hcnd hwt0 _ _
  have hval : ∀ (j : Nat) t v, Try.f7.params[j]? = some t → args[j]? = some v → Value.okWide Try.prog W .any base t v := hval0
  have hwt : (DataW.weightsEach Try.prog (Try.f7.params.toList ++ []) (ds ++ gs)).all (· ≤ reachBytes) = true := hwt0
  have hW' := hW
  obtain ⟨p, q, hA0, hV, rfl, hfz, hnd⟩ := hW
  have hA : DataW.TrodAll enc Try.prog W 0 (fun _ => true) true Try.f7.params.toList args.toList ds p := hA0
  rw [Try.params7] at hA hval hwt
  obtain ⟨v0, vs0, d0, ds0, p0, q0, hargs, rfl, rfl, h0, r0⟩ := trodAll_cons hA
  obtain ⟨v1, vs1, d1, ds1, p1, q1, rfl, rfl, rfl, h1, r1⟩ := trodAll_cons r0
  obtain ⟨rfl, rfl, rfl⟩ := trodAll_nil r1
  obtain rfl : args = #[v0, v1] := by cases args; simp_all
  simp only [List.cons_append, List.nil_append, DataW.weightsEach, List.all_append, Bool.and_eq_true] at hwt
  obtain ⟨l0, l1, _⟩ := hwt
  obtain ⟨z0, rfl, rfl, rfl, w0⟩ := open_int Try.underlying3 (hval 0 3 v0 rfl rfl) h0
  obtain ⟨ad, c, l, rfl, hsl, hl1, hl2⟩ := rd_acts (notAggR Try.underlying22 (hval 1 22 v1 rfl rfl)) h1 l1
  have hmem : All [SlM elAc ad c l] (gAll W) := All.cons hsl (fun f hf => by cases hf)
  refine (calls_law (shares_ok (room := z0) (ad := ad) (c := c) (l := l) hl1 hl2) hmem).mono fun e W' ⟨he, hs⟩ => ?_
  subst he
  exact ⟨_, rfl, law_post 3 rfl hW' hs (by kernel_rfl) ⟨4, rfl, Try.underlying4⟩ rfl rfl⟩
theorem sharesOver : Rows.btreeSharesRow.holds Try.pinned (OpenSpec.ofChange Rows.btreeSharesSpec) :=
  OpenClaim.holds_of_wide 7 Try.f7 rfl rfl rfl rfl rfl rfl rfl ⟨rfl, rfl, rfl, rfl, rfl⟩ rfl rfl rfl rfl rfl (by kernel_rfl) Try.func7 (by kernel_rfl)
    (of_decide_eq_true (by kernel_rfl)) (by unfold Func.isWrapper; first | (rw [if_pos (by decide +kernel)]; kernel_rfl) | (rw [if_neg (by decide +kernel)]; exact ⟨rfl, rfl⟩))
    (fun os started H enc _ => sharesLifted os started H enc)
/-- The statement. -/
theorem btreeShares_holds : Rows.BtreeSharesSaid := sharesOver
end Go.Proofs.Ytlgbhceifnjdnaa
