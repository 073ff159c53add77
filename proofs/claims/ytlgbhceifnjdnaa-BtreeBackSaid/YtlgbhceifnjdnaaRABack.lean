/- BtreeBack: what is put and then deleted leaves what was there; all that is deleted leaves the zero Tree; for every input the law returns true, and each argument reads as it did. -/
import Derived.Test.YtlgbhceifnjdnaaXC
import Derived.Test.YtlgbhceifnjdnaaRK
namespace Go.Proofs.Ytlgbhceifnjdnaa
open Go.ChangeShapes Go.WideShapes Go.ChangeAt Go.RowKit Go.KX
set_option maxRecDepth 100000 in
theorem backLifted (os : Os) (started : os.Started) (H : Type) (enc : TypeId × Value → H) :
    ReturnsInHanded {} Try.checked os 5 .any (Rows.btreeBackSpec.pre6 enc Try.prog Try.f5 Rows.btreeBackRow.domain false) (Rows.btreeBackSpec.post enc Try.prog Try.f5 false true false false) := by
  refine returnsInHanded_of_change_shaped (C := Try.checked) ownR started (by kernel_rfl) Try.func5
    (ChangeSpec.witness6 (enc := enc) (C := Try.checked) false ⟨#[], #[.int .i64 0, .slice none 0 0, .string ⟨#[]⟩, .string ⟨#[]⟩], []⟩ 5 (by kernel_rfl) (by kernel_rfl) (by kernel_rfl) (by kernel_rfl)) ?_
  intro W base args ds gs before hval0 hW hcnd hwt0 _ _
  have hval : ∀ (j : Nat) t v, Try.f5.params[j]? = some t → args[j]? = some v → Value.okWide Try.prog W .any base t v := hval0
  have hwt : (DataW.weightsEach Try.prog (Try.f5.params.toList ++ []) (ds ++ gs)).all (· ≤ reachBytes) = true := hwt0
  have hW' := hW
  obtain ⟨p, q, hA0, hV, rfl, hfz, hnd⟩ := hW
  have hA : DataW.TrodAll enc Try.prog W 0 (fun _ => true) true Try.f5.params.toList args.toList ds p := hA0
  rw [Try.params5] at hA hval hwt
  obtain ⟨v0, vs0, d0, ds0, p0, q0, hargs, rfl, rfl, h0, r0⟩ := trodAll_cons hA
  obtain ⟨v1, vs1, d1, ds1, p1, q1, rfl, rfl, rfl, h1, r1⟩ := trodAll_cons r0
  obtain ⟨v2, vs2, d2, ds2, p2, q2, rfl, rfl, rfl, h2, r2⟩ := trodAll_cons r1
  obtain ⟨v3, vs3, d3, ds3, p3, q3, rfl, rfl, rfl, h3, r3⟩ := trodAll_cons r2
  obtain ⟨rfl, rfl, rfl⟩ := trodAll_nil r3
  obtain rfl : args = #[v0, v1, v2, v3] := by cases args; simp_all
  simp only [List.cons_append, List.nil_append, DataW.weightsEach, List.all_append, Bool.and_eq_true] at hwt
  obtain ⟨l0, l1, l2, l3, _⟩ := hwt
  obtain ⟨z0, rfl, rfl, rfl, w0⟩ := open_int Try.underlying3 (hval 0 3 v0 rfl rfl) h0
  obtain ⟨ad, c, l, rfl, hsl, hl1, hl2⟩ := rd_acts (notAggR Try.underlying22 (hval 1 22 v1 rfl rfl)) h1 l1
  obtain ⟨s2, hs2, hb2⟩ := rd_arg (rd_str Try.underlying9) h2 l2
  obtain ⟨x2, rfl, rfl, rfl, _⟩ := Go.ChangeMaps.open_string Try.underlying9 (hval 2 9 v2 rfl rfl) h2
  have he2 : Value.string x2 = str s2 := by simpa [Value.cells] using hs2
  obtain ⟨s3, hs3, hb3⟩ := rd_arg (rd_str Try.underlying9) h3 l3
  obtain ⟨x3, rfl, rfl, rfl, _⟩ := Go.ChangeMaps.open_string Try.underlying9 (hval 3 9 v3 rfl rfl) h3
  have he3 : Value.string x3 = str s3 := by simpa [Value.cells] using hs3
  rw [he2, he3] at hW' ⊢
  have hmem : All [SlM elAc ad c l] (gAll W) := All.cons hsl (fun f hf => by cases hf)
  refine (calls_law (back_ok (room := z0) (key := s2) (value := s3) (ad := ad) (c := c) (l := l) hl1 hl2) hmem).mono fun e W' ⟨he, hs⟩ => ?_
  subst he
  exact ⟨_, rfl, law_post 4 rfl hW' hs (by kernel_rfl) ⟨4, rfl, Try.underlying4⟩ rfl rfl⟩
theorem backOver : Rows.btreeBackRow.holds Try.pinned (OpenSpec.ofChange Rows.btreeBackSpec) :=
  OpenClaim.holds_of_wide 5 Try.f5 rfl rfl rfl rfl rfl rfl rfl ⟨rfl, rfl, rfl, rfl, rfl⟩ rfl rfl rfl rfl rfl (by kernel_rfl) Try.func5 (by kernel_rfl)
    (of_decide_eq_true (by kernel_rfl)) (by unfold Func.isWrapper; first | (rw [if_pos (by decide +kernel)]; kernel_rfl) | (rw [if_neg (by decide +kernel)]; exact ⟨rfl, rfl⟩))
    (fun os started H enc _ => backLifted os started H enc)
/-- The statement. -/
theorem btreeBack_holds : Rows.BtreeBackSaid := backOver
end Go.Proofs.Ytlgbhceifnjdnaa
