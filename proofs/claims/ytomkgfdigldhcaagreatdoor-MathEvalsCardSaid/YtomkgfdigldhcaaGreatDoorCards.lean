/-
  DERIVED. GIVEN WITH THE SEED: THE CARDS: each row of YtomkgfdigldhcaaGreatDoorRows.lean that lists a variable, with what it lists TIED to the program's text (the seventh form; the later family's looks); each row that meets fmt, with fmt's text TOLD by the authors' own Lean function (tested against real Go, not proved from fmt's source: count such statements apart). THE CARD IS WHAT COUNTS. Prove the row's statement (the work); the ties are given (YtomkgfdigldhcaaGreatDoorTie.lean); close each card by the builder's one call (the guide's Derived/Test/ToyasCard.lean, 'card_holds'). Laid BY PROGRAM, IN A SANDBOX (cutbox-door.mjs). By AI agents, Wed Nov 11 2026. No macro, syntax, notation, axiom, sorry.
-/
import Derived.Test.YtomkgfdigldhcaaGreatDoorRows
import GoSem.ClaimSeven
namespace Go.Proofs.YtomkgfdigldhcaaGreatDoor
namespace Rows

/-- THE TIED CARD OF 'klaxonlaw11.MathEvals'. -/
def mathEvalsCard : Claim7 := { stood := { row := mathEvalsRow, standIns := [], harness := (true, "fce65dc5fb92e96bbb5ed638c88e5c8fba7f0e027c7fa6aed975b28d3c35562e"), looks := true }, kinds := [], alts := [], laidByText := true, laidKinds := [.data, .data, .data, .data, .sentinel, .sentinel, .widerDeep, .data, .pinned], laidTests := true, laidLooks := .later }
def MathEvalsCardSaid : Prop := Claim7.holds Tryz.pinned (.plain (OpenSpec.ofChange mathEvalsSpec)) mathEvalsCard

/-- THE TIED CARD OF 'klaxonlaw11.MathBack'. -/
def mathBackCard : Claim7 := { stood := { row := mathBackRow, standIns := [], harness := (true, "fce65dc5fb92e96bbb5ed638c88e5c8fba7f0e027c7fa6aed975b28d3c35562e"), looks := true }, kinds := [], alts := [], laidByText := true, laidKinds := [.data, .data, .data, .data, .sentinel, .sentinel, .widerDeep, .data, .pinned], laidTests := true, laidLooks := .later }
def MathBackCardSaid : Prop := Claim7.holds Tryz.pinned (.plain (OpenSpec.ofChange mathBackSpec)) mathBackCard

/-- THE TIED CARD OF 'klaxonlaw11.MathValues'. -/
def mathValuesCard : Claim7 := { stood := { row := mathValuesRow, standIns := [], harness := (true, "fce65dc5fb92e96bbb5ed638c88e5c8fba7f0e027c7fa6aed975b28d3c35562e"), looks := true }, kinds := [], alts := [], laidByText := true, laidKinds := [.data, .data, .data, .data, .sentinel, .sentinel, .widerDeep, .data, .pinned], laidTests := true, laidLooks := .later }
def MathValuesCardSaid : Prop := Claim7.holds Tryz.pinned (.plain (OpenSpec.ofChange mathValuesSpec)) mathValuesCard

/-- THE TIED CARD OF 'klaxonlaw12.DagChecks'. -/
def dagChecksCard : Claim7 := { stood := { row := dagChecksRow, standIns := [], harness := (true, "fce65dc5fb92e96bbb5ed638c88e5c8fba7f0e027c7fa6aed975b28d3c35562e"), looks := true }, kinds := [], alts := [], laidByText := true, laidKinds := [.data, .data, .data, .data, .sentinel, .sentinel, .widerDeep, .data, .pinned], laidTests := true, laidLooks := .later }
def DagChecksCardSaid : Prop := Claim7.holds Tryz.pinned (.plain (OpenSpec.ofChange dagChecksSpec)) dagChecksCard

/-- THE TIED CARD OF 'klaxonlaw12.DagAhead'. -/
def dagAheadCard : Claim7 := { stood := { row := dagAheadRow, standIns := [], harness := (true, "fce65dc5fb92e96bbb5ed638c88e5c8fba7f0e027c7fa6aed975b28d3c35562e"), looks := true }, kinds := [], alts := [], laidByText := true, laidKinds := [.data, .data, .data, .data, .sentinel, .sentinel, .widerDeep, .data, .pinned], laidTests := true, laidLooks := .later }
def DagAheadCardSaid : Prop := Claim7.holds Tryz.pinned (.plain (OpenSpec.ofChange dagAheadSpec)) dagAheadCard

/-- THE TIED CARD OF 'klaxonlaw12.DagNeeds'. -/
def dagNeedsCard : Claim7 := { stood := { row := dagNeedsRow, standIns := [], harness := (true, "fce65dc5fb92e96bbb5ed638c88e5c8fba7f0e027c7fa6aed975b28d3c35562e"), looks := true }, kinds := [], alts := [], laidByText := true, laidKinds := [.data, .data, .data, .data, .sentinel, .sentinel, .widerDeep, .data, .pinned], laidTests := true, laidLooks := .later }
def DagNeedsCardSaid : Prop := Claim7.holds Tryz.pinned (.plain (OpenSpec.ofChange dagNeedsSpec)) dagNeedsCard

/-- THE TIED CARD OF 'klaxonlaw12.DagCircle'. -/
def dagCircleCard : Claim7 := { stood := { row := dagCircleRow, standIns := [], harness := (true, "fce65dc5fb92e96bbb5ed638c88e5c8fba7f0e027c7fa6aed975b28d3c35562e"), looks := true }, kinds := [], alts := [], laidByText := true, laidKinds := [.data, .data, .data, .data, .sentinel, .sentinel, .widerDeep, .data, .pinned], laidTests := true, laidLooks := .later }
def DagCircleCardSaid : Prop := Claim7.holds Tryz.pinned (.plain (OpenSpec.ofChange dagCircleSpec)) dagCircleCard

/-- THE TIED CARD OF 'klaxonlaw13.EvalNeeds'. -/
def evalNeedsCard : Claim7 := { stood := { row := evalNeedsRow, standIns := [], harness := (true, "fce65dc5fb92e96bbb5ed638c88e5c8fba7f0e027c7fa6aed975b28d3c35562e"), looks := true }, kinds := [], alts := [], laidByText := true, laidKinds := [.data, .data, .data, .data, .sentinel, .sentinel, .widerDeep, .data, .pinned], laidTests := true, laidLooks := .later }
def EvalNeedsCardSaid : Prop := Claim7.holds Tryz.pinned (.plain (OpenSpec.ofChange evalNeedsSpec)) evalNeedsCard

/-- THE TIED CARD OF 'klaxonlaw13.EvalThreshold'. -/
def evalThresholdCard : Claim7 := { stood := { row := evalThresholdRow, standIns := [], harness := (true, "fce65dc5fb92e96bbb5ed638c88e5c8fba7f0e027c7fa6aed975b28d3c35562e"), looks := true }, kinds := [], alts := [], laidByText := true, laidKinds := [.data, .data, .data, .data, .sentinel, .sentinel, .widerDeep, .data, .pinned], laidTests := true, laidLooks := .later }
def EvalThresholdCardSaid : Prop := Claim7.holds Tryz.pinned (.plain (OpenSpec.ofChange evalThresholdSpec)) evalThresholdCard

/-- THE TIED CARD OF 'klaxonlaw13.EvalLast'. -/
def evalLastCard : Claim7 := { stood := { row := evalLastRow, standIns := [], harness := (true, "fce65dc5fb92e96bbb5ed638c88e5c8fba7f0e027c7fa6aed975b28d3c35562e"), looks := true }, kinds := [], alts := [], laidByText := true, laidKinds := [.data, .data, .data, .data, .sentinel, .sentinel, .widerDeep, .data, .pinned], laidTests := true, laidLooks := .later }
def EvalLastCardSaid : Prop := Claim7.holds Tryz.pinned (.plain (OpenSpec.ofChange evalLastSpec)) evalLastCard

/-- THE SECOND FORM's CARD OF 'klaxonlaw11.MathEvals'. -/
def mathEvalsUptoCard : Claim7 := { stood := { row := mathEvalsUptoRow, standIns := [], harness := (true, "fce65dc5fb92e96bbb5ed638c88e5c8fba7f0e027c7fa6aed975b28d3c35562e"), looks := true }, kinds := [], alts := [], laidByText := true, laidKinds := [.data, .data, .data, .data, .sentinel, .sentinel, .widerDeep, .data, .pinned], laidTests := true, laidLooks := .later }
def MathEvalsUptoCardSaid : Prop := Claim7.holds Tryz.pinned (.plain (OpenSpec.upto mathEvalsSpec)) mathEvalsUptoCard

/-- THE SECOND FORM's CARD OF 'klaxonlaw11.MathBack'. -/
def mathBackUptoCard : Claim7 := { stood := { row := mathBackUptoRow, standIns := [], harness := (true, "fce65dc5fb92e96bbb5ed638c88e5c8fba7f0e027c7fa6aed975b28d3c35562e"), looks := true }, kinds := [], alts := [], laidByText := true, laidKinds := [.data, .data, .data, .data, .sentinel, .sentinel, .widerDeep, .data, .pinned], laidTests := true, laidLooks := .later }
def MathBackUptoCardSaid : Prop := Claim7.holds Tryz.pinned (.plain (OpenSpec.upto mathBackSpec)) mathBackUptoCard

/-- THE SECOND FORM's CARD OF 'klaxonlaw11.MathValues'. -/
def mathValuesUptoCard : Claim7 := { stood := { row := mathValuesUptoRow, standIns := [], harness := (true, "fce65dc5fb92e96bbb5ed638c88e5c8fba7f0e027c7fa6aed975b28d3c35562e"), looks := true }, kinds := [], alts := [], laidByText := true, laidKinds := [.data, .data, .data, .data, .sentinel, .sentinel, .widerDeep, .data, .pinned], laidTests := true, laidLooks := .later }
def MathValuesUptoCardSaid : Prop := Claim7.holds Tryz.pinned (.plain (OpenSpec.upto mathValuesSpec)) mathValuesUptoCard

/-- THE SECOND FORM's CARD OF 'klaxonlaw12.DagChecks'. -/
def dagChecksUptoCard : Claim7 := { stood := { row := dagChecksUptoRow, standIns := [], harness := (true, "fce65dc5fb92e96bbb5ed638c88e5c8fba7f0e027c7fa6aed975b28d3c35562e"), looks := true }, kinds := [], alts := [], laidByText := true, laidKinds := [.data, .data, .data, .data, .sentinel, .sentinel, .widerDeep, .data, .pinned], laidTests := true, laidLooks := .later }
def DagChecksUptoCardSaid : Prop := Claim7.holds Tryz.pinned (.plain (OpenSpec.upto dagChecksSpec)) dagChecksUptoCard

/-- THE SECOND FORM's CARD OF 'klaxonlaw12.DagAhead'. -/
def dagAheadUptoCard : Claim7 := { stood := { row := dagAheadUptoRow, standIns := [], harness := (true, "fce65dc5fb92e96bbb5ed638c88e5c8fba7f0e027c7fa6aed975b28d3c35562e"), looks := true }, kinds := [], alts := [], laidByText := true, laidKinds := [.data, .data, .data, .data, .sentinel, .sentinel, .widerDeep, .data, .pinned], laidTests := true, laidLooks := .later }
def DagAheadUptoCardSaid : Prop := Claim7.holds Tryz.pinned (.plain (OpenSpec.upto dagAheadSpec)) dagAheadUptoCard

/-- THE SECOND FORM's CARD OF 'klaxonlaw12.DagNeeds'. -/
def dagNeedsUptoCard : Claim7 := { stood := { row := dagNeedsUptoRow, standIns := [], harness := (true, "fce65dc5fb92e96bbb5ed638c88e5c8fba7f0e027c7fa6aed975b28d3c35562e"), looks := true }, kinds := [], alts := [], laidByText := true, laidKinds := [.data, .data, .data, .data, .sentinel, .sentinel, .widerDeep, .data, .pinned], laidTests := true, laidLooks := .later }
def DagNeedsUptoCardSaid : Prop := Claim7.holds Tryz.pinned (.plain (OpenSpec.upto dagNeedsSpec)) dagNeedsUptoCard

/-- THE SECOND FORM's CARD OF 'klaxonlaw12.DagCircle'. -/
def dagCircleUptoCard : Claim7 := { stood := { row := dagCircleUptoRow, standIns := [], harness := (true, "fce65dc5fb92e96bbb5ed638c88e5c8fba7f0e027c7fa6aed975b28d3c35562e"), looks := true }, kinds := [], alts := [], laidByText := true, laidKinds := [.data, .data, .data, .data, .sentinel, .sentinel, .widerDeep, .data, .pinned], laidTests := true, laidLooks := .later }
def DagCircleUptoCardSaid : Prop := Claim7.holds Tryz.pinned (.plain (OpenSpec.upto dagCircleSpec)) dagCircleUptoCard

/-- THE SECOND FORM's CARD OF 'klaxonlaw13.EvalNeeds'. -/
def evalNeedsUptoCard : Claim7 := { stood := { row := evalNeedsUptoRow, standIns := [], harness := (true, "fce65dc5fb92e96bbb5ed638c88e5c8fba7f0e027c7fa6aed975b28d3c35562e"), looks := true }, kinds := [], alts := [], laidByText := true, laidKinds := [.data, .data, .data, .data, .sentinel, .sentinel, .widerDeep, .data, .pinned], laidTests := true, laidLooks := .later }
def EvalNeedsUptoCardSaid : Prop := Claim7.holds Tryz.pinned (.plain (OpenSpec.upto evalNeedsSpec)) evalNeedsUptoCard

/-- THE SECOND FORM's CARD OF 'klaxonlaw13.EvalThreshold'. -/
def evalThresholdUptoCard : Claim7 := { stood := { row := evalThresholdUptoRow, standIns := [], harness := (true, "fce65dc5fb92e96bbb5ed638c88e5c8fba7f0e027c7fa6aed975b28d3c35562e"), looks := true }, kinds := [], alts := [], laidByText := true, laidKinds := [.data, .data, .data, .data, .sentinel, .sentinel, .widerDeep, .data, .pinned], laidTests := true, laidLooks := .later }
def EvalThresholdUptoCardSaid : Prop := Claim7.holds Tryz.pinned (.plain (OpenSpec.upto evalThresholdSpec)) evalThresholdUptoCard

/-- THE SECOND FORM's CARD OF 'klaxonlaw13.EvalLast'. -/
def evalLastUptoCard : Claim7 := { stood := { row := evalLastUptoRow, standIns := [], harness := (true, "fce65dc5fb92e96bbb5ed638c88e5c8fba7f0e027c7fa6aed975b28d3c35562e"), looks := true }, kinds := [], alts := [], laidByText := true, laidKinds := [.data, .data, .data, .data, .sentinel, .sentinel, .widerDeep, .data, .pinned], laidTests := true, laidLooks := .later }
def EvalLastUptoCardSaid : Prop := Claim7.holds Tryz.pinned (.plain (OpenSpec.upto evalLastSpec)) evalLastUptoCard
end Rows
end Go.Proofs.YtomkgfdigldhcaaGreatDoor
