/- DagCircle: the closed facts of its row. -/
import Derived.Test.YtomkgfdigldhcaaGreatDoorLCB
import Derived.Test.YtomkgfdigldhcaaGreatDoorRows
import Derived.SevenTiedAt
namespace Go.Proofs.YtomkgfdigldhcaaGreatDoor
open Go.KX
theorem dagCircle_fn : Tryz.checked.prog.funcNamed Rows.dagCircleRow.func = some 9 := by kernel_rfl
theorem dagCircle_g7 : (Rows.dagCircleRow.plainKeys == Tryz.checked.prog.plainKeys) = true := by kernel_rfl
theorem dagCircle_g8 : (Rows.dagCircleRow.lifted == Tryz.checked.prog.liftsFinal) = true := by kernel_rfl
theorem dagCircle_g9 : (Tryz.checked.prog.make == some Rows.dagCircleRow.make) = true := by kernel_rfl
theorem dagCircle_a1 : Rows.dagCircleRow.wf (OpenSpec.ofChange Rows.dagCircleSpec) = true := by kernel_rfl
theorem dagCircle_a2 : Tryz.f9.params.all (Tryz.checked.prog.readableRec ·) = true := by kernel_rfl
theorem dagCircle_a3 : namedTie Tryz.checked.prog Rows.dagCircleRow.named Rows.dagCircleSpec.vars = true := by kernel_rfl
theorem dagCircle_a4 : (Rows.dagCircleRow.stops == []) = true := by kernel_rfl
theorem dagCircle_a5 : (Rows.dagCircleRow.knobs == []) = true := by kernel_rfl
theorem dagCircle_b1 : (Rows.dagCircleRow.inPlace == Tryz.checked.prog.inPlace 9) = true := by kernel_rfl
theorem dagCircle_b2 : (Rows.dagCircleRow.unfollowed == Tryz.checked.prog.unfollowed 9) = true := by kernel_rfl
theorem dagCircle_b3 : (Rows.dagCircleRow.recurses == Tryz.checked.prog.recurses 9) = true := by kernel_rfl
theorem dagCircle_b4 : (Rows.dagCircleRow.named == Tryz.checked.prog.varsNamed 9) = true := by kernel_rfl
theorem dagCircle_c1 : (Rows.dagCircleRow.maps == (Tryz.f9.params.toList ++ Rows.dagCircleSpec.plain.varTypes Tryz.checked.prog).any (Tryz.checked.prog.mapsRec ·)) = true := by kernel_rfl
theorem dagCircle_c2 : (Rows.dagCircleRow.ifaces == (Tryz.f9.params.toList ++ Rows.dagCircleSpec.plain.varTypes Tryz.checked.prog).any (Tryz.checked.prog.ifacesRec ·)) = true := by kernel_rfl
theorem dagCircle_c3 : (Rows.dagCircleRow.mapsOut == Tryz.checked.prog.mapsAmong Tryz.f9.resultTypes.toList) = true := by kernel_rfl
theorem dagCircle_c4 : (Rows.dagCircleRow.loops == (Tryz.f9.params.toList ++ Rows.dagCircleSpec.plain.varTypes Tryz.checked.prog).any (Tryz.checked.prog.loopsFrom ·)) = true := by kernel_rfl
theorem dagCircle_c5 : (Rows.dagCircleRow.wideKeys == (Tryz.f9.params.toList ++ Rows.dagCircleSpec.plain.varTypes Tryz.checked.prog ++ Tryz.f9.resultTypes.toList).any (Tryz.checked.prog.wideKeysFrom ·)) = true := by kernel_rfl
theorem dagCircle_d1 : Rows.dagCircleSpec.vars.all (Tryz.checked.prog.varReadable ·) = true := by kernel_rfl
theorem dagCircle_d2 : Tryz.f9.resultTypes.all (fun t => Tryz.checked.prog.readableRec t && decide (t < Tryz.checked.prog.types.size)) = true := by kernel_rfl
theorem dagCircle_d3 : (Rows.dagCircleRow.ifacesOut == Tryz.f9.resultTypes.toList.any (Tryz.checked.prog.ifacesRec ·)) = true := by kernel_rfl
theorem dagCircle_d4 : (Rows.dagCircleRow.loopsOut == Tryz.f9.resultTypes.toList.any (Tryz.checked.prog.loopsFrom ·)) = true := by kernel_rfl
theorem dagCircle_d5 : Rows.dagCircleRow.shortTexts.isNone = true := by kernel_rfl
theorem dagCircle_d6 : (Rows.dagCircleRow.kinds == (if Rows.dagCircleRow.domain.isEmpty then [] else Tryz.f9.params.toList.map fun t => match Tryz.checked.prog.underlying t with | some (.int k) => some k | _ => none)) = true := by kernel_rfl
theorem dagCircle_d7 : (Rows.dagCircleRow.pinned == Rows.dagCircleRow.pinnedBy) = true := by kernel_rfl
theorem dagCircle_d8 : (Rows.dagCircleRow.veiled == (Tryz.f9.params.toList ++ Rows.dagCircleSpec.plain.varTypes Tryz.checked.prog ++ Tryz.f9.resultTypes.toList).any (Tryz.checked.prog.veiledRec ·)) = true := by kernel_rfl
theorem dagCircle_d9 : Rows.dagCircleRow.veiledFits Tryz.checked.prog Tryz.f9.params.toList (Tryz.f9.params.toList ++ Rows.dagCircleSpec.plain.varTypes Tryz.checked.prog ++ Tryz.f9.resultTypes.toList) = true := by kernel_rfl
set_option maxRecDepth 100000 in
theorem dagCircle_facts : joinedFacts Tryz.checked.prog 9 Tryz.f9 Rows.dagCircleSpec Rows.dagCircleRow = true := joined_of pf1 pf2 pf3 pf4 pf5 pf6 dagCircle_g7 dagCircle_g8 dagCircle_g9 dagCircle_a1 dagCircle_a2 dagCircle_a3 dagCircle_a4 dagCircle_a5 dagCircle_b1 dagCircle_b2 dagCircle_b3 dagCircle_b4 dagCircle_c1 dagCircle_c2 dagCircle_c3 dagCircle_c4 dagCircle_c5 dagCircle_d1 dagCircle_d2 dagCircle_d3 dagCircle_d4 dagCircle_d5 dagCircle_d6 dagCircle_d7 dagCircle_d8 dagCircle_d9
theorem dagCircle_inst : Tryz.f9.isInstance Tryz.checked.prog Rows.dagCircleRow.origin Rows.dagCircleRow.targs := of_decide_eq_true (by kernel_rfl)
theorem dagCircle_wrap : Tryz.f9.isWrapper Tryz.checked.prog Rows.dagCircleRow.wrapper Rows.dagCircleRow.mainSum := by unfold Func.isWrapper; first | (rw [if_pos (by decide +kernel)]; kernel_rfl) | (rw [if_neg (by decide +kernel)]; exact ⟨rfl, rfl⟩)
theorem dagCircle_wf : Rows.dagCircleRow.wfByText (OpenSpec.ofChange Rows.dagCircleSpec) = true := by kernel_rfl
theorem dagCircle_goes : false = Rows.dagCircleRow.goesBy Tryz.checked.prog := by kernel_rfl
end Go.Proofs.YtomkgfdigldhcaaGreatDoor
