/- RAG. -/
import Derived.Test.YtomkgfdigldhcaaGreatDoorLIR
import Derived.Test.YtomkgfdigldhcaaGreatDoorCards
import Derived.Test.YtomkgfdigldhcaaGreatDoorTie
import Derived.SevenTiedAt
import Derived.LaidLaws
set_option maxRecDepth 100000
namespace Go.Proofs.YtomkgfdigldhcaaGreatDoor
open Go.ChangeShapes Go.WideShapes Go.ChangeAt Go.RowKit Go.KX
theorem uI (os : Os) (started : os.Started) (H : Type) (enc : TypeId × Value → H) :
 ReturnsInHanded {} Tryz.checked os 3 .any (fun w args => (Rows.mathEvalsSpec.pre enc Tryz.prog Tryz.f3 [] false w args ∧ laidMetH Tryz.prog GL w) ∧ sizedMet enc Tryz.prog Tryz.f3 (OpenSpec.ofChange Rows.mathEvalsSpec) false w args) (Rows.mathEvalsSpec.post enc Tryz.prog Tryz.f3 false true false false) := by
 refine TC (C := Tryz.checked) (laid := GL) aE2 started (by kernel_rfl) Tryz.func3
  (ChangeSpec.witness_shaped (enc := enc) (C := Tryz.checked) (os := os) (X := fun w _ => laidMetH Tryz.prog GL w) false (World.laidAll Tryz.prog os GL) #[.string ⟨#[]⟩, .slice none 0 0] 8 (World.laidAll_os _ _ _)
   (World.shaped_of_ZipB (by kernel_rfl) (by kernel_rfl)) (by kernel_rfl) (by kernel_rfl) (by kernel_rfl)
   (by rw [MakeChecks.laidMetH_plain _ _ _ (by kernel_rfl)]; exact laidMet_laidAll _ (by kernel_rfl) (by kernel_rfl))) ?_
 intro W base args ds gs before hval0 hW hwt0 hL hsh
 have hg := YY hL hsh
 have hval : ∀ (j : Nat) t v, Tryz.f3.params[j]? = some t → args[j]? = some v → Value.okWide Tryz.prog W .any base t v := hval0
 have hwt : (DataW.weightsEach Tryz.prog (Tryz.f3.params.toList ++ []) (ds ++ gs)).all (· ≤ reachBytes) = true := hwt0
 have hW' := hW
 obtain ⟨p, q, hA0, hV, rfl, hfz, hnd⟩ := hW
 have hA : DataW.TrodAll enc Tryz.prog W 0 (fun _ => true) true Tryz.f3.params.toList args.toList ds p := hA0
 rw [Tryz.params3] at hA hval hwt
 obtain ⟨v0, vs0, d0, ds0, p0, q0, hargs, rfl, rfl, h0, r0⟩ := trodAll_cons hA
 obtain ⟨v1, vs1, d1, ds1, p1, q1, rfl, rfl, rfl, h1, r1⟩ := trodAll_cons r0
 obtain ⟨rfl, rfl, rfl⟩ := trodAll_nil r1
 obtain rfl : args = #[v0, v1] := by cases args; simp_all
 simp only [List.cons_append, List.nil_append, DataW.weightsEach, List.all_append, Bool.and_eq_true] at hwt
 obtain ⟨w0, w1, _⟩ := hwt
 obtain ⟨s0, hs0, hb0⟩ := YX (TA Tryz.underlying9) h0 w0
 obtain ⟨x0, rfl, rfl, rfl, _⟩ := Go.ChangeMaps.open_string Tryz.underlying9 (hval 0 9 v0 rfl rfl) h0
 have he0 : Value.string x0 = str s0 := by simpa [Value.cells] using hs0
 obtain ⟨l1, hd1, hq1⟩ := WS Y3 (WR Tryz.underlying22 (hval 1 22 v1 rfl rfl)) h1 w1
 rw [he0] at hW' ⊢
 have hlaw := IU (vs := [str s0, v1]) (CS (s := s0) (e := l1) ⟨fun f hf => (hq1.1 f hf).2, hq1.2⟩) hg (.cons .str <| .cons (hd1 _) <| .nil)
 refine hlaw.mono fun e W' ⟨he, hs⟩ => ?_
 subst he
 exact ⟨_, rfl, S8 12 rfl hW' hs (by kernel_rfl) ⟨4, rfl, Tryz.underlying4⟩ rfl rfl⟩
theorem yS : Rows.mathEvalsRow.holds Tryz.pinned (OpenSpec.ofChange Rows.mathEvalsSpec) :=
 OpenClaim.holds_of_wide 3 Tryz.f3 rfl rfl rfl rfl rfl rfl rfl ⟨rfl, rfl, rfl, rfl, rfl⟩ rfl rfl rfl rfl rfl rX Tryz.func3 uH yA yB
  (fun os started H enc _ => uI os started H enc)
/-- The row, tied to the program's text: the card. -/
theorem mathEvals_holds : Rows.MathEvalsCardSaid :=
 Claim7.holds_tied_plain_at .later [] [.data, .data, .data, .data, .sentinel, .sentinel, .widerDeep, .data, .pinned] true (true, "fce65dc5fb92e96bbb5ed638c88e5c8fba7f0e027c7fa6aed975b28d3c35562e") true
  yS (fun _ h => by cases h) DX (fun _ h => by cases h) mathEvals_row_tie rfl ⟨rfl, rfl⟩ pf7 rfl
  (fun f fn hf hfn => by
   obtain rfl : f = 3 := Option.some.inj (rX.symm.trans hf) |>.symm
   obtain rfl : fn = Tryz.f3 := (Option.some.inj (Tryz.func3.symm.trans hfn)).symm
   exact ⟨pf8, fun j t ht => by
    rw [Tryz.params3] at ht
    have hm : t ∈ [9, 22] := by simpa using Array.mem_of_getElem? ht
    exact (show Tryz.prog.wantsStandIn t = false by simpa using List.all_eq_true.1 DW t hm)⟩)
  yC
#print axioms mathEvals_holds
end Go.Proofs.YtomkgfdigldhcaaGreatDoor
