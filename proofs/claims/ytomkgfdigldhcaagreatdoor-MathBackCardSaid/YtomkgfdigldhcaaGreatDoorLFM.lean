/- RAE. -/
import Derived.Test.YtomkgfdigldhcaaGreatDoorLFL
import Derived.Test.YtomkgfdigldhcaaGreatDoorCards
import Derived.Test.YtomkgfdigldhcaaGreatDoorTie
import Derived.SevenTiedAt
import Derived.LaidLaws
import Derived.Lay
import Derived.MakeChecks
import Derived.ProofKit
namespace Go.Proofs.YtomkgfdigldhcaaGreatDoor
open Go.ChangeShapes Go.WideShapes Go.ChangeAt Go.RowKit Go.KX
set_option maxRecDepth 100000 in
theorem mathBackLifted (os : Os) (started : os.Started) (H : Type) (enc : TypeId × Value → H) :
    ReturnsInHanded {} Tryz.checked os 4 .any (fun w args => (Rows.mathBackSpec.pre enc Tryz.prog Tryz.f4 [] false w args ∧ laidMetH Tryz.prog laidL w) ∧ sizedMet enc Tryz.prog Tryz.f4 (OpenSpec.ofChange Rows.mathBackSpec) false w args) (Rows.mathBackSpec.post enc Tryz.prog Tryz.f4 false true false false) := by
  refine returnsL (C := Tryz.checked) (laid := laidL) ownR started (by kernel_rfl) Tryz.func4
    (ChangeSpec.witness_shaped (enc := enc) (C := Tryz.checked) (os := os) (X := fun w _ => laidMetH Tryz.prog laidL w) false (World.laidAll Tryz.prog os laidL) #[.string ⟨#[]⟩] 8 (World.laidAll_os _ _ _)
      (World.shaped_of_ZipB (by kernel_rfl) (by kernel_rfl)) (by kernel_rfl) (by kernel_rfl) (by kernel_rfl)
      (by rw [MakeChecks.laidMetH_plain _ _ _ (by kernel_rfl)]; exact laidMet_laidAll _ (by kernel_rfl) (by kernel_rfl))) ?_
  intro W base args ds gs before hval0 hW hwt0 hL hsh
  have hg := glF_of hL hsh
  have hval : ∀ (j : Nat) t v, Tryz.f4.params[j]? = some t → args[j]? = some v → Value.okWide Tryz.prog W .any base t v := hval0
  have hwt : (DataW.weightsEach Tryz.prog (Tryz.f4.params.toList ++ []) (ds ++ gs)).all (· ≤ reachBytes) = true := hwt0
  have hW' := hW
  obtain ⟨p, q, hA0, hV, rfl, hfz, hnd⟩ := hW
  have hA : DataW.TrodAll enc Tryz.prog W 0 (fun _ => true) true Tryz.f4.params.toList args.toList ds p := hA0
  rw [Tryz.params4] at hA hval hwt
  obtain ⟨v0, vs0, d0, ds0, p0, q0, hargs, rfl, rfl, h0, r0⟩ := trodAll_cons hA
  obtain ⟨rfl, rfl, rfl⟩ := trodAll_nil r0
  obtain rfl : args = #[v0] := by cases args; simp_all
  simp only [List.cons_append, List.nil_append, DataW.weightsEach, List.all_append, Bool.and_eq_true] at hwt
  obtain ⟨w0, _⟩ := hwt
  obtain ⟨s0, hs0, hb0⟩ := rd_arg (rd_str Tryz.underlying9) h0 w0
  obtain ⟨x0, rfl, rfl, rfl, _⟩ := Go.ChangeMaps.open_string Tryz.underlying9 (hval 0 9 v0 rfl rfl) h0
  have he0 : Value.string x0 = str s0 := by simpa [Value.cells] using hs0
  rw [he0] at hW' ⊢
  have hlaw := calls_lawF (vs := [str s0]) (mathBack_ok (s := s0)) hg (.cons .str <| .nil)
  refine hlaw.mono fun e W' ⟨he, hs⟩ => ?_
  subst he
  exact ⟨_, rfl, law_post 3 rfl hW' hs (by kernel_rfl) ⟨4, rfl, Tryz.underlying4⟩ rfl rfl⟩
theorem mathBackOver : Rows.mathBackRow.holds Tryz.pinned (OpenSpec.ofChange Rows.mathBackSpec) :=
  OpenClaim.holds_of_wide 4 Tryz.f4 rfl rfl rfl rfl rfl rfl rfl ⟨rfl, rfl, rfl, rfl, rfl⟩ rfl rfl rfl rfl rfl mathBack_fn Tryz.func4 mathBack_facts mathBack_inst mathBack_wrap
    (fun os started H enc _ => mathBackLifted os started H enc)
/-- The row, tied to the program's text: the card. -/
theorem mathBack_holds : Rows.MathBackCardSaid :=
  Claim7.holds_tied_plain_at .later [] [.data, .data, .data, .data, .sentinel, .sentinel, .widerDeep, .data, .pinned] true (true, "fce65dc5fb92e96bbb5ed638c88e5c8fba7f0e027c7fa6aed975b28d3c35562e") true
    mathBackOver (fun _ h => by cases h) mathBack_wf (fun _ h => by cases h) mathBack_row_tie rfl ⟨rfl, rfl⟩ pf7 rfl
    (fun f fn hf hfn => by
      obtain rfl : f = 4 := Option.some.inj (mathBack_fn.symm.trans hf) |>.symm
      obtain rfl : fn = Tryz.f4 := (Option.some.inj (Tryz.func4.symm.trans hfn)).symm
      exact ⟨pf8, fun j t ht => by
        rw [Tryz.params4] at ht
        have hm : t ∈ [9] := by simpa using Array.mem_of_getElem? ht
        have hm2 : t ∈ [3, 9, 56] := by
          have h3 : ∀ x ∈ [9], x ∈ [3, 9, 56] := by decide
          exact h3 t hm
        exact (show Tryz.prog.wantsStandIn t = false by simpa using List.all_eq_true.1 pf9 t hm2)⟩)
    mathBack_goes
#print axioms mathBack_holds
end Go.Proofs.YtomkgfdigldhcaaGreatDoor
