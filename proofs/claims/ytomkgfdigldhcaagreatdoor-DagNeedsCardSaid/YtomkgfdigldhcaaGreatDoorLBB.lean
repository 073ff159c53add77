/- DagNeeds: the closed facts of its row. -/
import Derived.Test.YtomkgfdigldhcaaGreatDoorLBA
import Derived.Test.YtomkgfdigldhcaaGreatDoorRows
import Derived.SevenTiedAt
namespace Go.Proofs.YtomkgfdigldhcaaGreatDoor
open Go.KX
theorem dagNeeds_fn : Tryz.checked.prog.funcNamed Rows.dagNeedsRow.func = some 8 := by kernel_rfl
theorem dagNeeds_g7 : (Rows.dagNeedsRow.plainKeys == Tryz.checked.prog.plainKeys) = true := by kernel_rfl
theorem dagNeeds_g8 : (Rows.dagNeedsRow.lifted == Tryz.checked.prog.liftsFinal) = true := by kernel_rfl
theorem dagNeeds_g9 : (Tryz.checked.prog.make == some Rows.dagNeedsRow.make) = true := by kernel_rfl
theorem dagNeeds_a1 : Rows.dagNeedsRow.wf (OpenSpec.ofChange Rows.dagNeedsSpec) = true := by kernel_rfl
theorem dagNeeds_a2 : Tryz.f8.params.all (Tryz.checked.prog.readableRec ·) = true := by kernel_rfl
theorem dagNeeds_a3 : namedTie Tryz.checked.prog Rows.dagNeedsRow.named Rows.dagNeedsSpec.vars = true := by kernel_rfl
theorem dagNeeds_a4 : (Rows.dagNeedsRow.stops == []) = true := by kernel_rfl
theorem dagNeeds_a5 : (Rows.dagNeedsRow.knobs == []) = true := by kernel_rfl
theorem dagNeeds_b1 : (Rows.dagNeedsRow.inPlace == Tryz.checked.prog.inPlace 8) = true := by kernel_rfl
theorem dagNeeds_b2 : (Rows.dagNeedsRow.unfollowed == Tryz.checked.prog.unfollowed 8) = true := by kernel_rfl
theorem dagNeeds_b3 : (Rows.dagNeedsRow.recurses == Tryz.checked.prog.recurses 8) = true := by kernel_rfl
theorem dagNeeds_b4 : (Rows.dagNeedsRow.named == Tryz.checked.prog.varsNamed 8) = true := by kernel_rfl
theorem dagNeeds_c1 : (Rows.dagNeedsRow.maps == (Tryz.f8.params.toList ++ Rows.dagNeedsSpec.plain.varTypes Tryz.checked.prog).any (Tryz.checked.prog.mapsRec ·)) = true := by kernel_rfl
theorem dagNeeds_c2 : (Rows.dagNeedsRow.ifaces == (Tryz.f8.params.toList ++ Rows.dagNeedsSpec.plain.varTypes Tryz.checked.prog).any (Tryz.checked.prog.ifacesRec ·)) = true := by kernel_rfl
theorem dagNeeds_c3 : (Rows.dagNeedsRow.mapsOut == Tryz.checked.prog.mapsAmong Tryz.f8.resultTypes.toList) = true := by kernel_rfl
theorem dagNeeds_c4 : (Rows.dagNeedsRow.loops == (Tryz.f8.params.toList ++ Rows.dagNeedsSpec.plain.varTypes Tryz.checked.prog).any (Tryz.checked.prog.loopsFrom ·)) = true := by kernel_rfl
theorem dagNeeds_c5 : (Rows.dagNeedsRow.wideKeys == (Tryz.f8.params.toList ++ Rows.dagNeedsSpec.plain.varTypes Tryz.checked.prog ++ Tryz.f8.resultTypes.toList).any (Tryz.checked.prog.wideKeysFrom ·)) = true := by kernel_rfl
theorem dagNeeds_d1 : Rows.dagNeedsSpec.vars.all (Tryz.checked.prog.varReadable ·) = true := by kernel_rfl
theorem dagNeeds_d2 : Tryz.f8.resultTypes.all (fun t => Tryz.checked.prog.readableRec t && decide (t < Tryz.checked.prog.types.size)) = true := by kernel_rfl
theorem dagNeeds_d3 : (Rows.dagNeedsRow.ifacesOut == Tryz.f8.resultTypes.toList.any (Tryz.checked.prog.ifacesRec ·)) = true := by kernel_rfl
theorem dagNeeds_d4 : (Rows.dagNeedsRow.loopsOut == Tryz.f8.resultTypes.toList.any (Tryz.checked.prog.loopsFrom ·)) = true := by kernel_rfl
theorem dagNeeds_d5 : Rows.dagNeedsRow.shortTexts.isNone = true := by kernel_rfl
theorem dagNeeds_d6 : (Rows.dagNeedsRow.kinds == (if Rows.dagNeedsRow.domain.isEmpty then [] else Tryz.f8.params.toList.map fun t => match Tryz.checked.prog.underlying t with | some (.int k) => some k | _ => none)) = true := by kernel_rfl
theorem dagNeeds_d7 : (Rows.dagNeedsRow.pinned == Rows.dagNeedsRow.pinnedBy) = true := by kernel_rfl
theorem dagNeeds_d8 : (Rows.dagNeedsRow.veiled == (Tryz.f8.params.toList ++ Rows.dagNeedsSpec.plain.varTypes Tryz.checked.prog ++ Tryz.f8.resultTypes.toList).any (Tryz.checked.prog.veiledRec ·)) = true := by kernel_rfl
theorem dagNeeds_d9 : Rows.dagNeedsRow.veiledFits Tryz.checked.prog Tryz.f8.params.toList (Tryz.f8.params.toList ++ Rows.dagNeedsSpec.plain.varTypes Tryz.checked.prog ++ Tryz.f8.resultTypes.toList) = true := by kernel_rfl
set_option maxRecDepth 100000 in
theorem dagNeeds_facts : joinedFacts Tryz.checked.prog 8 Tryz.f8 Rows.dagNeedsSpec Rows.dagNeedsRow = true := joined_of pf1 pf2 pf3 pf4 pf5 pf6 dagNeeds_g7 dagNeeds_g8 dagNeeds_g9 dagNeeds_a1 dagNeeds_a2 dagNeeds_a3 dagNeeds_a4 dagNeeds_a5 dagNeeds_b1 dagNeeds_b2 dagNeeds_b3 dagNeeds_b4 dagNeeds_c1 dagNeeds_c2 dagNeeds_c3 dagNeeds_c4 dagNeeds_c5 dagNeeds_d1 dagNeeds_d2 dagNeeds_d3 dagNeeds_d4 dagNeeds_d5 dagNeeds_d6 dagNeeds_d7 dagNeeds_d8 dagNeeds_d9
theorem dagNeeds_inst : Tryz.f8.isInstance Tryz.checked.prog Rows.dagNeedsRow.origin Rows.dagNeedsRow.targs := of_decide_eq_true (by kernel_rfl)
theorem dagNeeds_wrap : Tryz.f8.isWrapper Tryz.checked.prog Rows.dagNeedsRow.wrapper Rows.dagNeedsRow.mainSum := by unfold Func.isWrapper; first | (rw [if_pos (by decide +kernel)]; kernel_rfl) | (rw [if_neg (by decide +kernel)]; exact ⟨rfl, rfl⟩)
theorem dagNeeds_wf : Rows.dagNeedsRow.wfByText (OpenSpec.ofChange Rows.dagNeedsSpec) = true := by kernel_rfl
theorem dagNeeds_goes : false = Rows.dagNeedsRow.goesBy Tryz.checked.prog := by kernel_rfl
end Go.Proofs.YtomkgfdigldhcaaGreatDoor
