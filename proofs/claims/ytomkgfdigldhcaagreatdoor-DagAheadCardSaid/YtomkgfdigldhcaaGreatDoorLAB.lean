/- DagAhead: the closed facts of its row. -/
import Derived.Test.YtomkgfdigldhcaaGreatDoorLAA
import Derived.Test.YtomkgfdigldhcaaGreatDoorRows
import Derived.SevenTiedAt
namespace Go.Proofs.YtomkgfdigldhcaaGreatDoor
open Go.KX
theorem dagAhead_fn : Tryz.checked.prog.funcNamed Rows.dagAheadRow.func = some 7 := by kernel_rfl
theorem dagAhead_g7 : (Rows.dagAheadRow.plainKeys == Tryz.checked.prog.plainKeys) = true := by kernel_rfl
theorem dagAhead_g8 : (Rows.dagAheadRow.lifted == Tryz.checked.prog.liftsFinal) = true := by kernel_rfl
theorem dagAhead_g9 : (Tryz.checked.prog.make == some Rows.dagAheadRow.make) = true := by kernel_rfl
theorem dagAhead_a1 : Rows.dagAheadRow.wf (OpenSpec.ofChange Rows.dagAheadSpec) = true := by kernel_rfl
theorem dagAhead_a2 : Tryz.f7.params.all (Tryz.checked.prog.readableRec ·) = true := by kernel_rfl
theorem dagAhead_a3 : namedTie Tryz.checked.prog Rows.dagAheadRow.named Rows.dagAheadSpec.vars = true := by kernel_rfl
theorem dagAhead_a4 : (Rows.dagAheadRow.stops == []) = true := by kernel_rfl
theorem dagAhead_a5 : (Rows.dagAheadRow.knobs == []) = true := by kernel_rfl
theorem dagAhead_b1 : (Rows.dagAheadRow.inPlace == Tryz.checked.prog.inPlace 7) = true := by kernel_rfl
theorem dagAhead_b2 : (Rows.dagAheadRow.unfollowed == Tryz.checked.prog.unfollowed 7) = true := by kernel_rfl
theorem dagAhead_b3 : (Rows.dagAheadRow.recurses == Tryz.checked.prog.recurses 7) = true := by kernel_rfl
theorem dagAhead_b4 : (Rows.dagAheadRow.named == Tryz.checked.prog.varsNamed 7) = true := by kernel_rfl
theorem dagAhead_c1 : (Rows.dagAheadRow.maps == (Tryz.f7.params.toList ++ Rows.dagAheadSpec.plain.varTypes Tryz.checked.prog).any (Tryz.checked.prog.mapsRec ·)) = true := by kernel_rfl
theorem dagAhead_c2 : (Rows.dagAheadRow.ifaces == (Tryz.f7.params.toList ++ Rows.dagAheadSpec.plain.varTypes Tryz.checked.prog).any (Tryz.checked.prog.ifacesRec ·)) = true := by kernel_rfl
theorem dagAhead_c3 : (Rows.dagAheadRow.mapsOut == Tryz.checked.prog.mapsAmong Tryz.f7.resultTypes.toList) = true := by kernel_rfl
theorem dagAhead_c4 : (Rows.dagAheadRow.loops == (Tryz.f7.params.toList ++ Rows.dagAheadSpec.plain.varTypes Tryz.checked.prog).any (Tryz.checked.prog.loopsFrom ·)) = true := by kernel_rfl
theorem dagAhead_c5 : (Rows.dagAheadRow.wideKeys == (Tryz.f7.params.toList ++ Rows.dagAheadSpec.plain.varTypes Tryz.checked.prog ++ Tryz.f7.resultTypes.toList).any (Tryz.checked.prog.wideKeysFrom ·)) = true := by kernel_rfl
theorem dagAhead_d1 : Rows.dagAheadSpec.vars.all (Tryz.checked.prog.varReadable ·) = true := by kernel_rfl
theorem dagAhead_d2 : Tryz.f7.resultTypes.all (fun t => Tryz.checked.prog.readableRec t && decide (t < Tryz.checked.prog.types.size)) = true := by kernel_rfl
theorem dagAhead_d3 : (Rows.dagAheadRow.ifacesOut == Tryz.f7.resultTypes.toList.any (Tryz.checked.prog.ifacesRec ·)) = true := by kernel_rfl
theorem dagAhead_d4 : (Rows.dagAheadRow.loopsOut == Tryz.f7.resultTypes.toList.any (Tryz.checked.prog.loopsFrom ·)) = true := by kernel_rfl
theorem dagAhead_d5 : Rows.dagAheadRow.shortTexts.isNone = true := by kernel_rfl
theorem dagAhead_d6 : (Rows.dagAheadRow.kinds == (if Rows.dagAheadRow.domain.isEmpty then [] else Tryz.f7.params.toList.map fun t => match Tryz.checked.prog.underlying t with | some (.int k) => some k | _ => none)) = true := by kernel_rfl
theorem dagAhead_d7 : (Rows.dagAheadRow.pinned == Rows.dagAheadRow.pinnedBy) = true := by kernel_rfl
theorem dagAhead_d8 : (Rows.dagAheadRow.veiled == (Tryz.f7.params.toList ++ Rows.dagAheadSpec.plain.varTypes Tryz.checked.prog ++ Tryz.f7.resultTypes.toList).any (Tryz.checked.prog.veiledRec ·)) = true := by kernel_rfl
theorem dagAhead_d9 : Rows.dagAheadRow.veiledFits Tryz.checked.prog Tryz.f7.params.toList (Tryz.f7.params.toList ++ Rows.dagAheadSpec.plain.varTypes Tryz.checked.prog ++ Tryz.f7.resultTypes.toList) = true := by kernel_rfl
set_option maxRecDepth 100000 in
theorem dagAhead_facts : joinedFacts Tryz.checked.prog 7 Tryz.f7 Rows.dagAheadSpec Rows.dagAheadRow = true := joined_of pf1 pf2 pf3 pf4 pf5 pf6 dagAhead_g7 dagAhead_g8 dagAhead_g9 dagAhead_a1 dagAhead_a2 dagAhead_a3 dagAhead_a4 dagAhead_a5 dagAhead_b1 dagAhead_b2 dagAhead_b3 dagAhead_b4 dagAhead_c1 dagAhead_c2 dagAhead_c3 dagAhead_c4 dagAhead_c5 dagAhead_d1 dagAhead_d2 dagAhead_d3 dagAhead_d4 dagAhead_d5 dagAhead_d6 dagAhead_d7 dagAhead_d8 dagAhead_d9
theorem dagAhead_inst : Tryz.f7.isInstance Tryz.checked.prog Rows.dagAheadRow.origin Rows.dagAheadRow.targs := of_decide_eq_true (by kernel_rfl)
theorem dagAhead_wrap : Tryz.f7.isWrapper Tryz.checked.prog Rows.dagAheadRow.wrapper Rows.dagAheadRow.mainSum := by unfold Func.isWrapper; first | (rw [if_pos (by decide +kernel)]; kernel_rfl) | (rw [if_neg (by decide +kernel)]; exact ⟨rfl, rfl⟩)
theorem dagAhead_wf : Rows.dagAheadRow.wfByText (OpenSpec.ofChange Rows.dagAheadSpec) = true := by kernel_rfl
theorem dagAhead_goes : false = Rows.dagAheadRow.goesBy Tryz.checked.prog := by kernel_rfl
end Go.Proofs.YtomkgfdigldhcaaGreatDoor
