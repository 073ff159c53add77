/- RAGF. -/
import Derived.Test.YtomkgfdigldhcaaGreatDoorLIQ
import Derived.SevenTiedAt
set_option maxRecDepth 100000
namespace Go.Proofs.YtomkgfdigldhcaaGreatDoor
open Go.KX
theorem rX : Tryz.checked.prog.funcNamed Rows.mathEvalsRow.func = some 3 := by kernel_rfl
theorem CW : (Rows.mathEvalsRow.plainKeys == Tryz.checked.prog.plainKeys) = true := by kernel_rfl
theorem CX : (Rows.mathEvalsRow.lifted == Tryz.checked.prog.liftsFinal) = true := by kernel_rfl
theorem CY : (Tryz.checked.prog.make == some Rows.mathEvalsRow.make) = true := by kernel_rfl
theorem CZ : Rows.mathEvalsRow.wf (OpenSpec.ofChange Rows.mathEvalsSpec) = true := by kernel_rfl
theorem C0 : Tryz.f3.params.all (Tryz.checked.prog.readableRec ·) = true := by kernel_rfl
theorem C2 : namedTie Tryz.checked.prog Rows.mathEvalsRow.named Rows.mathEvalsSpec.vars = true := by kernel_rfl
theorem C3 : (Rows.mathEvalsRow.stops == []) = true := by kernel_rfl
theorem C4 : (Rows.mathEvalsRow.knobs == []) = true := by kernel_rfl
theorem C5 : (Rows.mathEvalsRow.inPlace == Tryz.checked.prog.inPlace 3) = true := by kernel_rfl
theorem C6 : (Rows.mathEvalsRow.unfollowed == Tryz.checked.prog.unfollowed 3) = true := by kernel_rfl
theorem C7 : (Rows.mathEvalsRow.recurses == Tryz.checked.prog.recurses 3) = true := by kernel_rfl
theorem C9 : (Rows.mathEvalsRow.named == Tryz.checked.prog.varsNamed 3) = true := by kernel_rfl
theorem DC : (Rows.mathEvalsRow.maps == (Tryz.f3.params.toList ++ Rows.mathEvalsSpec.plain.varTypes Tryz.checked.prog).any (Tryz.checked.prog.mapsRec ·)) = true := by kernel_rfl
theorem DD : (Rows.mathEvalsRow.ifaces == (Tryz.f3.params.toList ++ Rows.mathEvalsSpec.plain.varTypes Tryz.checked.prog).any (Tryz.checked.prog.ifacesRec ·)) = true := by kernel_rfl
theorem DF : (Rows.mathEvalsRow.mapsOut == Tryz.checked.prog.mapsAmong Tryz.f3.resultTypes.toList) = true := by kernel_rfl
theorem DG : (Rows.mathEvalsRow.loops == (Tryz.f3.params.toList ++ Rows.mathEvalsSpec.plain.varTypes Tryz.checked.prog).any (Tryz.checked.prog.loopsFrom ·)) = true := by kernel_rfl
theorem DI : (Rows.mathEvalsRow.wideKeys == (Tryz.f3.params.toList ++ Rows.mathEvalsSpec.plain.varTypes Tryz.checked.prog ++ Tryz.f3.resultTypes.toList).any (Tryz.checked.prog.wideKeysFrom ·)) = true := by kernel_rfl
theorem DJ : Rows.mathEvalsSpec.vars.all (Tryz.checked.prog.varReadable ·) = true := by kernel_rfl
theorem DK : Tryz.f3.resultTypes.all (fun t => Tryz.checked.prog.readableRec t && decide (t < Tryz.checked.prog.types.size)) = true := by kernel_rfl
theorem DL : (Rows.mathEvalsRow.ifacesOut == Tryz.f3.resultTypes.toList.any (Tryz.checked.prog.ifacesRec ·)) = true := by kernel_rfl
theorem DN : (Rows.mathEvalsRow.loopsOut == Tryz.f3.resultTypes.toList.any (Tryz.checked.prog.loopsFrom ·)) = true := by kernel_rfl
theorem DO : Rows.mathEvalsRow.shortTexts.isNone = true := by kernel_rfl
theorem DR : (Rows.mathEvalsRow.kinds == (if Rows.mathEvalsRow.domain.isEmpty then [] else Tryz.f3.params.toList.map fun t => match Tryz.checked.prog.underlying t with | some (.int k) => some k | _ => none)) = true := by kernel_rfl
theorem DT : (Rows.mathEvalsRow.pinned == Rows.mathEvalsRow.pinnedBy) = true := by kernel_rfl
theorem DU : (Rows.mathEvalsRow.veiled == (Tryz.f3.params.toList ++ Rows.mathEvalsSpec.plain.varTypes Tryz.checked.prog ++ Tryz.f3.resultTypes.toList).any (Tryz.checked.prog.veiledRec ·)) = true := by kernel_rfl
theorem DV : Rows.mathEvalsRow.veiledFits Tryz.checked.prog Tryz.f3.params.toList (Tryz.f3.params.toList ++ Rows.mathEvalsSpec.plain.varTypes Tryz.checked.prog ++ Tryz.f3.resultTypes.toList) = true := by kernel_rfl
theorem uH : joinedFacts Tryz.checked.prog 3 Tryz.f3 Rows.mathEvalsSpec Rows.mathEvalsRow = true := N1 pf1 pf2 pf3 pf4 pf5 pf6 CW CX CY CZ C0 C2 C3 C4 C5 C6 C7 C9 DC DD DF DG DI DJ DK DL DN DO DR DT DU DV
theorem yA : Tryz.f3.isInstance Tryz.checked.prog Rows.mathEvalsRow.origin Rows.mathEvalsRow.targs := of_decide_eq_true (by kernel_rfl)
theorem yB : Tryz.f3.isWrapper Tryz.checked.prog Rows.mathEvalsRow.wrapper Rows.mathEvalsRow.mainSum := by unfold Func.isWrapper; first | (rw [if_pos (by decide +kernel)]; kernel_rfl) | (rw [if_neg (by decide +kernel)]; exact ⟨rfl, rfl⟩)
theorem DW : ([9, 22].all fun u => !Tryz.prog.wantsStandIn u) = true := by kernel_rfl
theorem DX : Rows.mathEvalsRow.wfByText (OpenSpec.ofChange Rows.mathEvalsSpec) = true := by kernel_rfl
theorem yC : false = Rows.mathEvalsRow.goesBy Tryz.checked.prog := by kernel_rfl
end Go.Proofs.YtomkgfdigldhcaaGreatDoor
