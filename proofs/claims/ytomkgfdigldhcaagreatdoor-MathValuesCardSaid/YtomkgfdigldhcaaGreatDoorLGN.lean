/- RAF. -/
import Derived.Test.YtomkgfdigldhcaaGreatDoorLGM
import Derived.Test.YtomkgfdigldhcaaGreatDoorCards
import Derived.Test.YtomkgfdigldhcaaGreatDoorTie
import Derived.SevenTiedAt
import Derived.LaidLaws
import Derived.Lay
import Derived.MakeChecks
import Derived.ProofKit
namespace Go.Proofs.YtomkgfdigldhcaaGreatDoor
open Go.ChangeShapes Go.WideShapes Go.ChangeAt Go.RowKit Go.KX
set_option maxRecDepth 100000 in
theorem mathValuesLifted (os : Os) (started : os.Started) (H : Type) (enc : TypeId × Value → H) :
    ReturnsInHanded {} Tryz.checked os 5 .any (fun w args => (Rows.mathValuesSpec.pre enc Tryz.prog Tryz.f5 [] false w args ∧ laidMetH Tryz.prog laidL w) ∧ sizedMet enc Tryz.prog Tryz.f5 (OpenSpec.ofChange Rows.mathValuesSpec) false w args) (Rows.mathValuesSpec.post enc Tryz.prog Tryz.f5 false true false false) := by
  refine returnsL (C := Tryz.checked) (laid := laidL) ownR started (by kernel_rfl) Tryz.func5
    (ChangeSpec.witness_shaped (enc := enc) (C := Tryz.checked) (os := os) (X := fun w _ => laidMetH Tryz.prog laidL w) false (World.laidAll Tryz.prog os laidL) #[.string ⟨#[]⟩, .slice none 0 0] 8 (World.laidAll_os _ _ _)
      (World.shaped_of_ZipB (by kernel_rfl) (by kernel_rfl)) (by kernel_rfl) (by kernel_rfl) (by kernel_rfl)
      (by rw [MakeChecks.laidMetH_plain _ _ _ (by kernel_rfl)]; exact laidMet_laidAll _ (by kernel_rfl) (by kernel_rfl))) ?_
  intro W base args ds gs before hval0 hW hwt0 hL hsh
  have hg := glF_of hL hsh
  have hval : ∀ (j : Nat) t v, Tryz.f5.params[j]? = some t → args[j]? = some v → Value.okWide Tryz.prog W .any base t v := hval0
  have hwt : (DataW.weightsEach Tryz.prog (Tryz.f5.params.toList ++ []) (ds ++ gs)).all (· ≤ reachBytes) = true := hwt0
  have hW' := hW
  obtain ⟨p, q, hA0, hV, rfl, hfz, hnd⟩ := hW
  have hA : DataW.TrodAll enc Tryz.prog W 0 (fun _ => true) true Tryz.f5.params.toList args.toList ds p := hA0
  rw [Tryz.params5] at hA hval hwt
  obtain ⟨v0, vs0, d0, ds0, p0, q0, hargs, rfl, rfl, h0, r0⟩ := trodAll_cons hA
  obtain ⟨v1, vs1, d1, ds1, p1, q1, rfl, rfl, rfl, h1, r1⟩ := trodAll_cons r0
  obtain ⟨rfl, rfl, rfl⟩ := trodAll_nil r1
  obtain rfl : args = #[v0, v1] := by cases args; simp_all
  simp only [List.cons_append, List.nil_append, DataW.weightsEach, List.all_append, Bool.and_eq_true] at hwt
  obtain ⟨w0, w1, _⟩ := hwt
  obtain ⟨s0, hs0, hb0⟩ := rd_arg (rd_str Tryz.underlying9) h0 w0
  obtain ⟨x0, rfl, rfl, rfl, _⟩ := Go.ChangeMaps.open_string Tryz.underlying9 (hval 0 9 v0 rfl rfl) h0
  have he0 : Value.string x0 = str s0 := by simpa [Value.cells] using hs0
  obtain ⟨ad1, c1, l1, rfl, hd1⟩ := rd_vals (notAggR Tryz.underlying46 (hval 1 46 v1 rfl rfl)) h1 w1
  rw [he0] at hW' ⊢
  have hlaw := calls_lawF (vs := [str s0, .slice ad1 l1.length c1]) (mathValues_ok (s := s0) (l := l1)) hg (.cons .str <| .cons (hd1 _) <| .nil)
  refine hlaw.mono fun e W' ⟨he, hs⟩ => ?_
  subst he
  exact ⟨_, rfl, law_post 5 rfl hW' hs (by kernel_rfl) ⟨4, rfl, Tryz.underlying4⟩ rfl rfl⟩
theorem mathValuesOver : Rows.mathValuesRow.holds Tryz.pinned (OpenSpec.ofChange Rows.mathValuesSpec) :=
  OpenClaim.holds_of_wide 5 Tryz.f5 rfl rfl rfl rfl rfl rfl rfl ⟨rfl, rfl, rfl, rfl, rfl⟩ rfl rfl rfl rfl rfl mathValues_fn Tryz.func5 mathValues_facts mathValues_inst mathValues_wrap
    (fun os started H enc _ => mathValuesLifted os started H enc)
/-- The row, tied to the program's text: the card. -/
theorem mathValues_holds : Rows.MathValuesCardSaid :=
  Claim7.holds_tied_plain_at .later [] [.data, .data, .data, .data, .sentinel, .sentinel, .widerDeep, .data, .pinned] true (true, "fce65dc5fb92e96bbb5ed638c88e5c8fba7f0e027c7fa6aed975b28d3c35562e") true
    mathValuesOver (fun _ h => by cases h) mathValues_wf (fun _ h => by cases h) mathValues_row_tie rfl ⟨rfl, rfl⟩ pf7 rfl
    (fun f fn hf hfn => by
      obtain rfl : f = 5 := Option.some.inj (mathValues_fn.symm.trans hf) |>.symm
      obtain rfl : fn = Tryz.f5 := (Option.some.inj (Tryz.func5.symm.trans hfn)).symm
      exact ⟨pf8, fun j t ht => by
        rw [Tryz.params5] at ht
        have hm : t ∈ [9, 46] := by simpa using Array.mem_of_getElem? ht
        exact (show Tryz.prog.wantsStandIn t = false by simpa using List.all_eq_true.1 mathValues_pw t hm)⟩)
    mathValues_goes
#print axioms mathValues_holds
end Go.Proofs.YtomkgfdigldhcaaGreatDoor
