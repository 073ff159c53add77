/- RAEF. -/
import Derived.Test.YtomkgfdigldhcaaGreatDoorLFK
import Derived.Test.YtomkgfdigldhcaaGreatDoorRows
import Derived.SevenTiedAt
namespace Go.Proofs.YtomkgfdigldhcaaGreatDoor
open Go.KX
theorem mathBack_fn : Tryz.checked.prog.funcNamed Rows.mathBackRow.func = some 4 := by kernel_rfl
theorem mathBack_g7 : (Rows.mathBackRow.plainKeys == Tryz.checked.prog.plainKeys) = true := by kernel_rfl
theorem mathBack_g8 : (Rows.mathBackRow.lifted == Tryz.checked.prog.liftsFinal) = true := by kernel_rfl
theorem mathBack_g9 : (Tryz.checked.prog.make == some Rows.mathBackRow.make) = true := by kernel_rfl
theorem mathBack_a1 : Rows.mathBackRow.wf (OpenSpec.ofChange Rows.mathBackSpec) = true := by kernel_rfl
theorem mathBack_a2 : Tryz.f4.params.all (Tryz.checked.prog.readableRec ·) = true := by kernel_rfl
theorem mathBack_a3 : namedTie Tryz.checked.prog Rows.mathBackRow.named Rows.mathBackSpec.vars = true := by kernel_rfl
theorem mathBack_a4 : (Rows.mathBackRow.stops == []) = true := by kernel_rfl
theorem mathBack_a5 : (Rows.mathBackRow.knobs == []) = true := by kernel_rfl
theorem mathBack_b1 : (Rows.mathBackRow.inPlace == Tryz.checked.prog.inPlace 4) = true := by kernel_rfl
theorem mathBack_b2 : (Rows.mathBackRow.unfollowed == Tryz.checked.prog.unfollowed 4) = true := by kernel_rfl
theorem mathBack_b3 : (Rows.mathBackRow.recurses == Tryz.checked.prog.recurses 4) = true := by kernel_rfl
theorem mathBack_b4 : (Rows.mathBackRow.named == Tryz.checked.prog.varsNamed 4) = true := by kernel_rfl
theorem mathBack_c1 : (Rows.mathBackRow.maps == (Tryz.f4.params.toList ++ Rows.mathBackSpec.plain.varTypes Tryz.checked.prog).any (Tryz.checked.prog.mapsRec ·)) = true := by kernel_rfl
theorem mathBack_c2 : (Rows.mathBackRow.ifaces == (Tryz.f4.params.toList ++ Rows.mathBackSpec.plain.varTypes Tryz.checked.prog).any (Tryz.checked.prog.ifacesRec ·)) = true := by kernel_rfl
theorem mathBack_c3 : (Rows.mathBackRow.mapsOut == Tryz.checked.prog.mapsAmong Tryz.f4.resultTypes.toList) = true := by kernel_rfl
theorem mathBack_c4 : (Rows.mathBackRow.loops == (Tryz.f4.params.toList ++ Rows.mathBackSpec.plain.varTypes Tryz.checked.prog).any (Tryz.checked.prog.loopsFrom ·)) = true := by kernel_rfl
theorem mathBack_c5 : (Rows.mathBackRow.wideKeys == (Tryz.f4.params.toList ++ Rows.mathBackSpec.plain.varTypes Tryz.checked.prog ++ Tryz.f4.resultTypes.toList).any (Tryz.checked.prog.wideKeysFrom ·)) = true := by kernel_rfl
theorem mathBack_d1 : Rows.mathBackSpec.vars.all (Tryz.checked.prog.varReadable ·) = true := by kernel_rfl
theorem mathBack_d2 : Tryz.f4.resultTypes.all (fun t => Tryz.checked.prog.readableRec t && decide (t < Tryz.checked.prog.types.size)) = true := by kernel_rfl
theorem mathBack_d3 : (Rows.mathBackRow.ifacesOut == Tryz.f4.resultTypes.toList.any (Tryz.checked.prog.ifacesRec ·)) = true := by kernel_rfl
theorem mathBack_d4 : (Rows.mathBackRow.loopsOut == Tryz.f4.resultTypes.toList.any (Tryz.checked.prog.loopsFrom ·)) = true := by kernel_rfl
theorem mathBack_d5 : Rows.mathBackRow.shortTexts.isNone = true := by kernel_rfl
theorem mathBack_d6 : (Rows.mathBackRow.kinds == (if Rows.mathBackRow.domain.isEmpty then [] else Tryz.f4.params.toList.map fun t => match Tryz.checked.prog.underlying t with | some (.int k) => some k | _ => none)) = true := by kernel_rfl
theorem mathBack_d7 : (Rows.mathBackRow.pinned == Rows.mathBackRow.pinnedBy) = true := by kernel_rfl
theorem mathBack_d8 : (Rows.mathBackRow.veiled == (Tryz.f4.params.toList ++ Rows.mathBackSpec.plain.varTypes Tryz.checked.prog ++ Tryz.f4.resultTypes.toList).any (Tryz.checked.prog.veiledRec ·)) = true := by kernel_rfl
theorem mathBack_d9 : Rows.mathBackRow.veiledFits Tryz.checked.prog Tryz.f4.params.toList (Tryz.f4.params.toList ++ Rows.mathBackSpec.plain.varTypes Tryz.checked.prog ++ Tryz.f4.resultTypes.toList) = true := by kernel_rfl
set_option maxRecDepth 100000 in
theorem mathBack_facts : joinedFacts Tryz.checked.prog 4 Tryz.f4 Rows.mathBackSpec Rows.mathBackRow = true := joined_of pf1 pf2 pf3 pf4 pf5 pf6 mathBack_g7 mathBack_g8 mathBack_g9 mathBack_a1 mathBack_a2 mathBack_a3 mathBack_a4 mathBack_a5 mathBack_b1 mathBack_b2 mathBack_b3 mathBack_b4 mathBack_c1 mathBack_c2 mathBack_c3 mathBack_c4 mathBack_c5 mathBack_d1 mathBack_d2 mathBack_d3 mathBack_d4 mathBack_d5 mathBack_d6 mathBack_d7 mathBack_d8 mathBack_d9
theorem mathBack_inst : Tryz.f4.isInstance Tryz.checked.prog Rows.mathBackRow.origin Rows.mathBackRow.targs := of_decide_eq_true (by kernel_rfl)
theorem mathBack_wrap : Tryz.f4.isWrapper Tryz.checked.prog Rows.mathBackRow.wrapper Rows.mathBackRow.mainSum := by unfold Func.isWrapper; first | (rw [if_pos (by decide +kernel)]; kernel_rfl) | (rw [if_neg (by decide +kernel)]; exact ⟨rfl, rfl⟩)
theorem mathBack_wf : Rows.mathBackRow.wfByText (OpenSpec.ofChange Rows.mathBackSpec) = true := by kernel_rfl
theorem mathBack_goes : false = Rows.mathBackRow.goesBy Tryz.checked.prog := by kernel_rfl
end Go.Proofs.YtomkgfdigldhcaaGreatDoor
