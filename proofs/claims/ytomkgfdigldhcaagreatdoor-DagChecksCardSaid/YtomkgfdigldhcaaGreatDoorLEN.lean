/- RADF. -/
import Derived.Test.YtomkgfdigldhcaaGreatDoorLEM
import Derived.Test.YtomkgfdigldhcaaGreatDoorRows
import Derived.SevenTiedAt
namespace Go.Proofs.YtomkgfdigldhcaaGreatDoor
open Go.KX
theorem dagChecks_fn : Tryz.checked.prog.funcNamed Rows.dagChecksRow.func = some 6 := by kernel_rfl
theorem dagChecks_g7 : (Rows.dagChecksRow.plainKeys == Tryz.checked.prog.plainKeys) = true := by kernel_rfl
theorem dagChecks_g8 : (Rows.dagChecksRow.lifted == Tryz.checked.prog.liftsFinal) = true := by kernel_rfl
theorem dagChecks_g9 : (Tryz.checked.prog.make == some Rows.dagChecksRow.make) = true := by kernel_rfl
theorem dagChecks_a1 : Rows.dagChecksRow.wf (OpenSpec.ofChange Rows.dagChecksSpec) = true := by kernel_rfl
theorem dagChecks_a2 : Tryz.f6.params.all (Tryz.checked.prog.readableRec ·) = true := by kernel_rfl
theorem dagChecks_a3 : namedTie Tryz.checked.prog Rows.dagChecksRow.named Rows.dagChecksSpec.vars = true := by kernel_rfl
theorem dagChecks_a4 : (Rows.dagChecksRow.stops == []) = true := by kernel_rfl
theorem dagChecks_a5 : (Rows.dagChecksRow.knobs == []) = true := by kernel_rfl
theorem dagChecks_b1 : (Rows.dagChecksRow.inPlace == Tryz.checked.prog.inPlace 6) = true := by kernel_rfl
theorem dagChecks_b2 : (Rows.dagChecksRow.unfollowed == Tryz.checked.prog.unfollowed 6) = true := by kernel_rfl
theorem dagChecks_b3 : (Rows.dagChecksRow.recurses == Tryz.checked.prog.recurses 6) = true := by kernel_rfl
theorem dagChecks_b4 : (Rows.dagChecksRow.named == Tryz.checked.prog.varsNamed 6) = true := by kernel_rfl
theorem dagChecks_c1 : (Rows.dagChecksRow.maps == (Tryz.f6.params.toList ++ Rows.dagChecksSpec.plain.varTypes Tryz.checked.prog).any (Tryz.checked.prog.mapsRec ·)) = true := by kernel_rfl
theorem dagChecks_c2 : (Rows.dagChecksRow.ifaces == (Tryz.f6.params.toList ++ Rows.dagChecksSpec.plain.varTypes Tryz.checked.prog).any (Tryz.checked.prog.ifacesRec ·)) = true := by kernel_rfl
theorem dagChecks_c3 : (Rows.dagChecksRow.mapsOut == Tryz.checked.prog.mapsAmong Tryz.f6.resultTypes.toList) = true := by kernel_rfl
theorem dagChecks_c4 : (Rows.dagChecksRow.loops == (Tryz.f6.params.toList ++ Rows.dagChecksSpec.plain.varTypes Tryz.checked.prog).any (Tryz.checked.prog.loopsFrom ·)) = true := by kernel_rfl
theorem dagChecks_c5 : (Rows.dagChecksRow.wideKeys == (Tryz.f6.params.toList ++ Rows.dagChecksSpec.plain.varTypes Tryz.checked.prog ++ Tryz.f6.resultTypes.toList).any (Tryz.checked.prog.wideKeysFrom ·)) = true := by kernel_rfl
theorem dagChecks_d1 : Rows.dagChecksSpec.vars.all (Tryz.checked.prog.varReadable ·) = true := by kernel_rfl
theorem dagChecks_d2 : Tryz.f6.resultTypes.all (fun t => Tryz.checked.prog.readableRec t && decide (t < Tryz.checked.prog.types.size)) = true := by kernel_rfl
theorem dagChecks_d3 : (Rows.dagChecksRow.ifacesOut == Tryz.f6.resultTypes.toList.any (Tryz.checked.prog.ifacesRec ·)) = true := by kernel_rfl
theorem dagChecks_d4 : (Rows.dagChecksRow.loopsOut == Tryz.f6.resultTypes.toList.any (Tryz.checked.prog.loopsFrom ·)) = true := by kernel_rfl
theorem dagChecks_d5 : Rows.dagChecksRow.shortTexts.isNone = true := by kernel_rfl
theorem dagChecks_d6 : (Rows.dagChecksRow.kinds == (if Rows.dagChecksRow.domain.isEmpty then [] else Tryz.f6.params.toList.map fun t => match Tryz.checked.prog.underlying t with | some (.int k) => some k | _ => none)) = true := by kernel_rfl
theorem dagChecks_d7 : (Rows.dagChecksRow.pinned == Rows.dagChecksRow.pinnedBy) = true := by kernel_rfl
theorem dagChecks_d8 : (Rows.dagChecksRow.veiled == (Tryz.f6.params.toList ++ Rows.dagChecksSpec.plain.varTypes Tryz.checked.prog ++ Tryz.f6.resultTypes.toList).any (Tryz.checked.prog.veiledRec ·)) = true := by kernel_rfl
theorem dagChecks_d9 : Rows.dagChecksRow.veiledFits Tryz.checked.prog Tryz.f6.params.toList (Tryz.f6.params.toList ++ Rows.dagChecksSpec.plain.varTypes Tryz.checked.prog ++ Tryz.f6.resultTypes.toList) = true := by kernel_rfl
set_option maxRecDepth 100000 in
theorem dagChecks_facts : joinedFacts Tryz.checked.prog 6 Tryz.f6 Rows.dagChecksSpec Rows.dagChecksRow = true := joined_of pf1 pf2 pf3 pf4 pf5 pf6 dagChecks_g7 dagChecks_g8 dagChecks_g9 dagChecks_a1 dagChecks_a2 dagChecks_a3 dagChecks_a4 dagChecks_a5 dagChecks_b1 dagChecks_b2 dagChecks_b3 dagChecks_b4 dagChecks_c1 dagChecks_c2 dagChecks_c3 dagChecks_c4 dagChecks_c5 dagChecks_d1 dagChecks_d2 dagChecks_d3 dagChecks_d4 dagChecks_d5 dagChecks_d6 dagChecks_d7 dagChecks_d8 dagChecks_d9
theorem dagChecks_inst : Tryz.f6.isInstance Tryz.checked.prog Rows.dagChecksRow.origin Rows.dagChecksRow.targs := of_decide_eq_true (by kernel_rfl)
theorem dagChecks_wrap : Tryz.f6.isWrapper Tryz.checked.prog Rows.dagChecksRow.wrapper Rows.dagChecksRow.mainSum := by unfold Func.isWrapper; first | (rw [if_pos (by decide +kernel)]; kernel_rfl) | (rw [if_neg (by decide +kernel)]; exact ⟨rfl, rfl⟩)
theorem dagChecks_wf : Rows.dagChecksRow.wfByText (OpenSpec.ofChange Rows.dagChecksSpec) = true := by kernel_rfl
theorem dagChecks_goes : false = Rows.dagChecksRow.goesBy Tryz.checked.prog := by kernel_rfl
end Go.Proofs.YtomkgfdigldhcaaGreatDoor
