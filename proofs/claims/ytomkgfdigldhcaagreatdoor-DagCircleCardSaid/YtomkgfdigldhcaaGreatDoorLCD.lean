/- DagCircle: a node that hangs on what hangs on it makes a circle; without it there is an order; for every input the law returns true, and each argument reads as it did. -/
import Derived.Test.YtomkgfdigldhcaaGreatDoorLCC
import Derived.Test.YtomkgfdigldhcaaGreatDoorCards
import Derived.Test.YtomkgfdigldhcaaGreatDoorTie
import Derived.SevenTiedAt
import Derived.LaidLaws
import Derived.Lay
import Derived.MakeChecks
import Derived.ProofKit
namespace Go.Proofs.YtomkgfdigldhcaaGreatDoor
open Go.ChangeShapes Go.WideShapes Go.ChangeAt Go.RowKit Go.KX
set_option maxRecDepth 100000 in
theorem dagCircleLifted (os : Os) (started : os.Started) (H : Type) (enc : TypeId × Value → H) :
    ReturnsInHanded {} Tryz.checked os 9 .any (fun w args => (Rows.dagCircleSpec.pre enc Tryz.prog Tryz.f9 [] false w args ∧ laidMetH Tryz.prog laidL w) ∧ sizedMet enc Tryz.prog Tryz.f9 (OpenSpec.ofChange Rows.dagCircleSpec) false w args) (Rows.dagCircleSpec.post enc Tryz.prog Tryz.f9 false true false false) := by
  refine returnsL (C := Tryz.checked) (laid := laidL) ownR started (by kernel_rfl) Tryz.func9
    (ChangeSpec.witness_shaped (enc := enc) (C := Tryz.checked) (os := os) (X := fun w _ => laidMetH Tryz.prog laidL w) false (World.laidAll Tryz.prog os laidL) #[.int .i64 0, .int .i64 0, .int .i64 0] 8 (World.laidAll_os _ _ _)
      (World.shaped_of_ZipB (by kernel_rfl) (by kernel_rfl)) (by kernel_rfl) (by kernel_rfl) (by kernel_rfl)
      (by rw [MakeChecks.laidMetH_plain _ _ _ (by kernel_rfl)]; exact laidMet_laidAll _ (by kernel_rfl) (by kernel_rfl))) ?_
  intro W base args ds gs before hval0 hW hwt0 hL hsh
  have hg := glF_of hL hsh
  have hval : ∀ (j : Nat) t v, Tryz.f9.params[j]? = some t → args[j]? = some v → Value.okWide Tryz.prog W .any base t v := hval0
  have hwt : (DataW.weightsEach Tryz.prog (Tryz.f9.params.toList ++ []) (ds ++ gs)).all (· ≤ reachBytes) = true := hwt0
  have hW' := hW
  obtain ⟨p, q, hA0, hV, rfl, hfz, hnd⟩ := hW
  have hA : DataW.TrodAll enc Tryz.prog W 0 (fun _ => true) true Tryz.f9.params.toList args.toList ds p := hA0
  rw [Tryz.params9] at hA hval hwt
  obtain ⟨v0, vs0, d0, ds0, p0, q0, hargs, rfl, rfl, h0, r0⟩ := trodAll_cons hA
  obtain ⟨v1, vs1, d1, ds1, p1, q1, rfl, rfl, rfl, h1, r1⟩ := trodAll_cons r0
  obtain ⟨v2, vs2, d2, ds2, p2, q2, rfl, rfl, rfl, h2, r2⟩ := trodAll_cons r1
  obtain ⟨rfl, rfl, rfl⟩ := trodAll_nil r2
  obtain rfl : args = #[v0, v1, v2] := by cases args; simp_all
  simp only [List.cons_append, List.nil_append, DataW.weightsEach, List.all_append, Bool.and_eq_true] at hwt
  obtain ⟨w0, w1, w2, _⟩ := hwt
  obtain ⟨z0, rfl, rfl, rfl, wf0⟩ := open_int Tryz.underlying3 (hval 0 3 v0 rfl rfl) h0
  obtain ⟨z1, rfl, rfl, rfl, wf1⟩ := open_int Tryz.underlying3 (hval 1 3 v1 rfl rfl) h1
  obtain ⟨z2, rfl, rfl, rfl, wf2⟩ := open_int Tryz.underlying3 (hval 2 3 v2 rfl rfl) h2
  have hlaw := calls_lawF (vs := [.int .i64 z0, .int .i64 z1, .int .i64 z2]) (dagCircle_ok (n := z0) (a := z1) (b := z2)) hg (.cons .v <| .cons .v <| .cons .v <| .nil)
  refine hlaw.mono fun e W' ⟨he, hs⟩ => ?_
  subst he
  exact ⟨_, rfl, law_post 3 rfl hW' hs (by kernel_rfl) ⟨4, rfl, Tryz.underlying4⟩ rfl rfl⟩
theorem dagCircleOver : Rows.dagCircleRow.holds Tryz.pinned (OpenSpec.ofChange Rows.dagCircleSpec) :=
  OpenClaim.holds_of_wide 9 Tryz.f9 rfl rfl rfl rfl rfl rfl rfl ⟨rfl, rfl, rfl, rfl, rfl⟩ rfl rfl rfl rfl rfl dagCircle_fn Tryz.func9 dagCircle_facts dagCircle_inst dagCircle_wrap
    (fun os started H enc _ => dagCircleLifted os started H enc)
/-- The row, tied to the program's text: the card. -/
theorem dagCircle_holds : Rows.DagCircleCardSaid :=
  Claim7.holds_tied_plain_at .later [] [.data, .data, .data, .data, .sentinel, .sentinel, .widerDeep, .data, .pinned] true (true, "fce65dc5fb92e96bbb5ed638c88e5c8fba7f0e027c7fa6aed975b28d3c35562e") true
    dagCircleOver (fun _ h => by cases h) dagCircle_wf (fun _ h => by cases h) dagCircle_row_tie rfl ⟨rfl, rfl⟩ pf7 rfl
    (fun f fn hf hfn => by
      obtain rfl : f = 9 := Option.some.inj (dagCircle_fn.symm.trans hf) |>.symm
      obtain rfl : fn = Tryz.f9 := (Option.some.inj (Tryz.func9.symm.trans hfn)).symm
      exact ⟨pf8, fun j t ht => by
        rw [Tryz.params9] at ht
        have hm : t ∈ [3, 3, 3] := by simpa using Array.mem_of_getElem? ht
        have hm2 : t ∈ [3, 9, 56] := by
          have h3 : ∀ x ∈ [3, 3, 3], x ∈ [3, 9, 56] := by decide
          exact h3 t hm
        exact (show Tryz.prog.wantsStandIn t = false by simpa using List.all_eq_true.1 pf9 t hm2)⟩)
    dagCircle_goes
#print axioms dagCircle_holds
end Go.Proofs.YtomkgfdigldhcaaGreatDoor
