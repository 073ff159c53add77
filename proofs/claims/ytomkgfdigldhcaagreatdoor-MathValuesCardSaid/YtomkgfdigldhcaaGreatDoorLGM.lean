/- RAFF. -/
import Derived.Test.YtomkgfdigldhcaaGreatDoorLGL
import Derived.Test.YtomkgfdigldhcaaGreatDoorRows
import Derived.SevenTiedAt
namespace Go.Proofs.YtomkgfdigldhcaaGreatDoor
open Go.KX
theorem mathValues_fn : Tryz.checked.prog.funcNamed Rows.mathValuesRow.func = some 5 := by kernel_rfl
theorem mathValues_g7 : (Rows.mathValuesRow.plainKeys == Tryz.checked.prog.plainKeys) = true := by kernel_rfl
theorem mathValues_g8 : (Rows.mathValuesRow.lifted == Tryz.checked.prog.liftsFinal) = true := by kernel_rfl
theorem mathValues_g9 : (Tryz.checked.prog.make == some Rows.mathValuesRow.make) = true := by kernel_rfl
theorem mathValues_a1 : Rows.mathValuesRow.wf (OpenSpec.ofChange Rows.mathValuesSpec) = true := by kernel_rfl
theorem mathValues_a2 : Tryz.f5.params.all (Tryz.checked.prog.readableRec ·) = true := by kernel_rfl
theorem mathValues_a3 : namedTie Tryz.checked.prog Rows.mathValuesRow.named Rows.mathValuesSpec.vars = true := by kernel_rfl
theorem mathValues_a4 : (Rows.mathValuesRow.stops == []) = true := by kernel_rfl
theorem mathValues_a5 : (Rows.mathValuesRow.knobs == []) = true := by kernel_rfl
theorem mathValues_b1 : (Rows.mathValuesRow.inPlace == Tryz.checked.prog.inPlace 5) = true := by kernel_rfl
theorem mathValues_b2 : (Rows.mathValuesRow.unfollowed == Tryz.checked.prog.unfollowed 5) = true := by kernel_rfl
theorem mathValues_b3 : (Rows.mathValuesRow.recurses == Tryz.checked.prog.recurses 5) = true := by kernel_rfl
theorem mathValues_b4 : (Rows.mathValuesRow.named == Tryz.checked.prog.varsNamed 5) = true := by kernel_rfl
theorem mathValues_c1 : (Rows.mathValuesRow.maps == (Tryz.f5.params.toList ++ Rows.mathValuesSpec.plain.varTypes Tryz.checked.prog).any (Tryz.checked.prog.mapsRec ·)) = true := by kernel_rfl
theorem mathValues_c2 : (Rows.mathValuesRow.ifaces == (Tryz.f5.params.toList ++ Rows.mathValuesSpec.plain.varTypes Tryz.checked.prog).any (Tryz.checked.prog.ifacesRec ·)) = true := by kernel_rfl
theorem mathValues_c3 : (Rows.mathValuesRow.mapsOut == Tryz.checked.prog.mapsAmong Tryz.f5.resultTypes.toList) = true := by kernel_rfl
theorem mathValues_c4 : (Rows.mathValuesRow.loops == (Tryz.f5.params.toList ++ Rows.mathValuesSpec.plain.varTypes Tryz.checked.prog).any (Tryz.checked.prog.loopsFrom ·)) = true := by kernel_rfl
theorem mathValues_c5 : (Rows.mathValuesRow.wideKeys == (Tryz.f5.params.toList ++ Rows.mathValuesSpec.plain.varTypes Tryz.checked.prog ++ Tryz.f5.resultTypes.toList).any (Tryz.checked.prog.wideKeysFrom ·)) = true := by kernel_rfl
theorem mathValues_d1 : Rows.mathValuesSpec.vars.all (Tryz.checked.prog.varReadable ·) = true := by kernel_rfl
theorem mathValues_d2 : Tryz.f5.resultTypes.all (fun t => Tryz.checked.prog.readableRec t && decide (t < Tryz.checked.prog.types.size)) = true := by kernel_rfl
theorem mathValues_d3 : (Rows.mathValuesRow.ifacesOut == Tryz.f5.resultTypes.toList.any (Tryz.checked.prog.ifacesRec ·)) = true := by kernel_rfl
theorem mathValues_d4 : (Rows.mathValuesRow.loopsOut == Tryz.f5.resultTypes.toList.any (Tryz.checked.prog.loopsFrom ·)) = true := by kernel_rfl
theorem mathValues_d5 : Rows.mathValuesRow.shortTexts.isNone = true := by kernel_rfl
theorem mathValues_d6 : (Rows.mathValuesRow.kinds == (if Rows.mathValuesRow.domain.isEmpty then [] else Tryz.f5.params.toList.map fun t => match Tryz.checked.prog.underlying t with | some (.int k) => some k | _ => none)) = true := by kernel_rfl
theorem mathValues_d7 : (Rows.mathValuesRow.pinned == Rows.mathValuesRow.pinnedBy) = true := by kernel_rfl
theorem mathValues_d8 : (Rows.mathValuesRow.veiled == (Tryz.f5.params.toList ++ Rows.mathValuesSpec.plain.varTypes Tryz.checked.prog ++ Tryz.f5.resultTypes.toList).any (Tryz.checked.prog.veiledRec ·)) = true := by kernel_rfl
theorem mathValues_d9 : Rows.mathValuesRow.veiledFits Tryz.checked.prog Tryz.f5.params.toList (Tryz.f5.params.toList ++ Rows.mathValuesSpec.plain.varTypes Tryz.checked.prog ++ Tryz.f5.resultTypes.toList) = true := by kernel_rfl
set_option maxRecDepth 100000 in
theorem mathValues_facts : joinedFacts Tryz.checked.prog 5 Tryz.f5 Rows.mathValuesSpec Rows.mathValuesRow = true := joined_of pf1 pf2 pf3 pf4 pf5 pf6 mathValues_g7 mathValues_g8 mathValues_g9 mathValues_a1 mathValues_a2 mathValues_a3 mathValues_a4 mathValues_a5 mathValues_b1 mathValues_b2 mathValues_b3 mathValues_b4 mathValues_c1 mathValues_c2 mathValues_c3 mathValues_c4 mathValues_c5 mathValues_d1 mathValues_d2 mathValues_d3 mathValues_d4 mathValues_d5 mathValues_d6 mathValues_d7 mathValues_d8 mathValues_d9
theorem mathValues_inst : Tryz.f5.isInstance Tryz.checked.prog Rows.mathValuesRow.origin Rows.mathValuesRow.targs := of_decide_eq_true (by kernel_rfl)
theorem mathValues_wrap : Tryz.f5.isWrapper Tryz.checked.prog Rows.mathValuesRow.wrapper Rows.mathValuesRow.mainSum := by unfold Func.isWrapper; first | (rw [if_pos (by decide +kernel)]; kernel_rfl) | (rw [if_neg (by decide +kernel)]; exact ⟨rfl, rfl⟩)
theorem mathValues_pw : ([9, 46].all fun u => !Tryz.prog.wantsStandIn u) = true := by kernel_rfl
theorem mathValues_wf : Rows.mathValuesRow.wfByText (OpenSpec.ofChange Rows.mathValuesSpec) = true := by kernel_rfl
theorem mathValues_goes : false = Rows.mathValuesRow.goesBy Tryz.checked.prog := by kernel_rfl
end Go.Proofs.YtomkgfdigldhcaaGreatDoor
