/-
  DERIVED. GIVEN WITH THE SEED: THE CARDS: each row of YtbbfgoobcjlooaaGreatDoorRows.lean that lists a variable, with what it lists TIED to the program's text (the seventh form; the later family's looks); each row that meets fmt, with fmt's text TOLD by the authors' own Lean function (tested against real Go, not proved from fmt's source: count such statements apart). THE CARD IS WHAT COUNTS. Prove the row's statement (the work); the ties are given (YtbbfgoobcjlooaaGreatDoorTie.lean); close each card by the builder's one call (the guide's Derived/Test/ToyasCard.lean, 'card_holds'). Laid BY PROGRAM, IN A SANDBOX (cutbox-door.mjs). By AI agents, Wed Nov 11 2026. No macro, syntax, notation, axiom, sorry.
-/
import Derived.Test.YtbbfgoobcjlooaaGreatDoorRows
import GoSem.ClaimSeven
namespace Go.Proofs.YtbbfgoobcjlooaaGreatDoor
namespace Rows

/-- THE TIED CARD OF 'laws.FnExactRunCodes'. -/
def fnExactRunCodesCard : Claim7 := { stood := { row := fnExactRunCodesRow, standIns := [], harness := (true, "f79fccba28510d3fd8a1799a94b92fd967d2a093064fe3e251c1ae45b3851032"), looks := false }, kinds := [], alts := [], laidByText := true, laidKinds := [.widerDeep], laidTests := true, laidLooks := .later }
def FnExactRunCodesCardSaid : Prop := Claim7.holds Tryz.pinned (.plain (OpenSpec.ofChange fnExactRunCodesSpec)) fnExactRunCodesCard

/-- THE TIED CARD OF 'laws.FnExactRunCode'. -/
def fnExactRunCodeCard : Claim7 := { stood := { row := fnExactRunCodeRow, standIns := [], harness := (true, "f79fccba28510d3fd8a1799a94b92fd967d2a093064fe3e251c1ae45b3851032"), looks := false }, kinds := [], alts := [], laidByText := true, laidKinds := [.widerDeep], laidTests := true, laidLooks := .later }
def FnExactRunCodeCardSaid : Prop := Claim7.holds Tryz.pinned (.plain (OpenSpec.ofChange fnExactRunCodeSpec)) fnExactRunCodeCard

/-- THE TIED CARD OF 'laws.FnScans'. -/
def fnScansCard : Claim7 := { stood := { row := fnScansRow, standIns := [], harness := (true, "f79fccba28510d3fd8a1799a94b92fd967d2a093064fe3e251c1ae45b3851032"), looks := false }, kinds := [], alts := [], laidByText := true, laidKinds := [.widerDeep], laidTests := true, laidLooks := .later }
def FnScansCardSaid : Prop := Claim7.holds Tryz.pinned (.plain (OpenSpec.ofChange fnScansSpec)) fnScansCard

/-- THE TIED CARD OF 'laws.FnExactStepMachine'. -/
def fnExactStepMachineCard : Claim7 := { stood := { row := fnExactStepMachineRow, standIns := [], harness := (true, "f79fccba28510d3fd8a1799a94b92fd967d2a093064fe3e251c1ae45b3851032"), looks := false }, kinds := [], alts := [], laidByText := true, laidKinds := [.widerDeep], laidTests := true, laidLooks := .later }
def FnExactStepMachineCardSaid : Prop := Claim7.holds Tryz.pinned (.plain (OpenSpec.ofChange fnExactStepMachineSpec)) fnExactStepMachineCard

/-- THE TIED CARD OF 'laws.FnExactFinishMachine'. -/
def fnExactFinishMachineCard : Claim7 := { stood := { row := fnExactFinishMachineRow, standIns := [], harness := (true, "f79fccba28510d3fd8a1799a94b92fd967d2a093064fe3e251c1ae45b3851032"), looks := false }, kinds := [], alts := [], laidByText := true, laidKinds := [.widerDeep], laidTests := true, laidLooks := .later }
def FnExactFinishMachineCardSaid : Prop := Claim7.holds Tryz.pinned (.plain (OpenSpec.ofChange fnExactFinishMachineSpec)) fnExactFinishMachineCard

/-- THE TIED CARD OF 'laws.FnExactSafeScan'. -/
def fnExactSafeScanCard : Claim7 := { stood := { row := fnExactSafeScanRow, standIns := [], harness := (true, "f79fccba28510d3fd8a1799a94b92fd967d2a093064fe3e251c1ae45b3851032"), looks := false }, kinds := [], alts := [], laidByText := true, laidKinds := [.widerDeep], laidTests := true, laidLooks := .later }
def FnExactSafeScanCardSaid : Prop := Claim7.holds Tryz.pinned (.plain (OpenSpec.ofChange fnExactSafeScanSpec)) fnExactSafeScanCard

/-- THE TIED CARD OF 'laws.FnExactRunScans'. -/
def fnExactRunScansCard : Claim7 := { stood := { row := fnExactRunScansRow, standIns := [], harness := (true, "f79fccba28510d3fd8a1799a94b92fd967d2a093064fe3e251c1ae45b3851032"), looks := false }, kinds := [], alts := [], laidByText := true, laidKinds := [.widerDeep], laidTests := true, laidLooks := .later }
def FnExactRunScansCardSaid : Prop := Claim7.holds Tryz.pinned (.plain (OpenSpec.ofChange fnExactRunScansSpec)) fnExactRunScansCard

/-- THE TIED CARD OF 'laws.FnExactRunScan'. -/
def fnExactRunScanCard : Claim7 := { stood := { row := fnExactRunScanRow, standIns := [], harness := (true, "f79fccba28510d3fd8a1799a94b92fd967d2a093064fe3e251c1ae45b3851032"), looks := false }, kinds := [], alts := [], laidByText := true, laidKinds := [.widerDeep], laidTests := true, laidLooks := .later }
def FnExactRunScanCardSaid : Prop := Claim7.holds Tryz.pinned (.plain (OpenSpec.ofChange fnExactRunScanSpec)) fnExactRunScanCard

/-- THE TIED CARD OF 'laws.FnExactMemoryAfter'. -/
def fnExactMemoryAfterCard : Claim7 := { stood := { row := fnExactMemoryAfterRow, standIns := [], harness := (true, "f79fccba28510d3fd8a1799a94b92fd967d2a093064fe3e251c1ae45b3851032"), looks := false }, kinds := [], alts := [], laidByText := true, laidKinds := [.widerDeep], laidTests := true, laidLooks := .later }
def FnExactMemoryAfterCardSaid : Prop := Claim7.holds Tryz.pinned (.plain (OpenSpec.ofChange fnExactMemoryAfterSpec)) fnExactMemoryAfterCard

/-- THE TIED CARD OF 'laws.FnMachineSteps'. -/
def fnMachineStepsCard : Claim7 := { stood := { row := fnMachineStepsRow, standIns := [], harness := (true, "f79fccba28510d3fd8a1799a94b92fd967d2a093064fe3e251c1ae45b3851032"), looks := false }, kinds := [], alts := [], laidByText := true, laidKinds := [.widerDeep], laidTests := true, laidLooks := .later }
def FnMachineStepsCardSaid : Prop := Claim7.holds Tryz.pinned (.plain (OpenSpec.ofChange fnMachineStepsSpec)) fnMachineStepsCard

/-- THE TIED CARD OF 'laws.FnScanLists'. -/
def fnScanListsCard : Claim7 := { stood := { row := fnScanListsRow, standIns := [], harness := (true, "f79fccba28510d3fd8a1799a94b92fd967d2a093064fe3e251c1ae45b3851032"), looks := false }, kinds := [], alts := [], laidByText := true, laidKinds := [.widerDeep], laidTests := true, laidLooks := .later }
def FnScanListsCardSaid : Prop := Claim7.holds Tryz.pinned (.plain (OpenSpec.ofChange fnScanListsSpec)) fnScanListsCard

/-- THE TIED CARD OF 'laws.FnMachineRuns'. -/
def fnMachineRunsCard : Claim7 := { stood := { row := fnMachineRunsRow, standIns := [], harness := (true, "f79fccba28510d3fd8a1799a94b92fd967d2a093064fe3e251c1ae45b3851032"), looks := false }, kinds := [], alts := [], laidByText := true, laidKinds := [.widerDeep], laidTests := true, laidLooks := .later }
def FnMachineRunsCardSaid : Prop := Claim7.holds Tryz.pinned (.plain (OpenSpec.ofChange fnMachineRunsSpec)) fnMachineRunsCard

/-- THE SECOND FORM's CARD OF 'laws.FnExactRunCodes'. -/
def fnExactRunCodesUptoCard : Claim7 := { stood := { row := fnExactRunCodesUptoRow, standIns := [], harness := (true, "f79fccba28510d3fd8a1799a94b92fd967d2a093064fe3e251c1ae45b3851032"), looks := false }, kinds := [], alts := [], laidByText := true, laidKinds := [.widerDeep], laidTests := true, laidLooks := .later }
def FnExactRunCodesUptoCardSaid : Prop := Claim7.holds Tryz.pinned (.plain (OpenSpec.upto fnExactRunCodesSpec)) fnExactRunCodesUptoCard

/-- THE SECOND FORM's CARD OF 'laws.FnExactRunCode'. -/
def fnExactRunCodeUptoCard : Claim7 := { stood := { row := fnExactRunCodeUptoRow, standIns := [], harness := (true, "f79fccba28510d3fd8a1799a94b92fd967d2a093064fe3e251c1ae45b3851032"), looks := false }, kinds := [], alts := [], laidByText := true, laidKinds := [.widerDeep], laidTests := true, laidLooks := .later }
def FnExactRunCodeUptoCardSaid : Prop := Claim7.holds Tryz.pinned (.plain (OpenSpec.upto fnExactRunCodeSpec)) fnExactRunCodeUptoCard

/-- THE SECOND FORM's CARD OF 'laws.FnScans'. -/
def fnScansUptoCard : Claim7 := { stood := { row := fnScansUptoRow, standIns := [], harness := (true, "f79fccba28510d3fd8a1799a94b92fd967d2a093064fe3e251c1ae45b3851032"), looks := false }, kinds := [], alts := [], laidByText := true, laidKinds := [.widerDeep], laidTests := true, laidLooks := .later }
def FnScansUptoCardSaid : Prop := Claim7.holds Tryz.pinned (.plain (OpenSpec.upto fnScansSpec)) fnScansUptoCard

/-- THE SECOND FORM's CARD OF 'laws.FnExactStepMachine'. -/
def fnExactStepMachineUptoCard : Claim7 := { stood := { row := fnExactStepMachineUptoRow, standIns := [], harness := (true, "f79fccba28510d3fd8a1799a94b92fd967d2a093064fe3e251c1ae45b3851032"), looks := false }, kinds := [], alts := [], laidByText := true, laidKinds := [.widerDeep], laidTests := true, laidLooks := .later }
def FnExactStepMachineUptoCardSaid : Prop := Claim7.holds Tryz.pinned (.plain (OpenSpec.upto fnExactStepMachineSpec)) fnExactStepMachineUptoCard

/-- THE SECOND FORM's CARD OF 'laws.FnExactFinishMachine'. -/
def fnExactFinishMachineUptoCard : Claim7 := { stood := { row := fnExactFinishMachineUptoRow, standIns := [], harness := (true, "f79fccba28510d3fd8a1799a94b92fd967d2a093064fe3e251c1ae45b3851032"), looks := false }, kinds := [], alts := [], laidByText := true, laidKinds := [.widerDeep], laidTests := true, laidLooks := .later }
def FnExactFinishMachineUptoCardSaid : Prop := Claim7.holds Tryz.pinned (.plain (OpenSpec.upto fnExactFinishMachineSpec)) fnExactFinishMachineUptoCard

/-- THE SECOND FORM's CARD OF 'laws.FnExactSafeScan'. -/
def fnExactSafeScanUptoCard : Claim7 := { stood := { row := fnExactSafeScanUptoRow, standIns := [], harness := (true, "f79fccba28510d3fd8a1799a94b92fd967d2a093064fe3e251c1ae45b3851032"), looks := false }, kinds := [], alts := [], laidByText := true, laidKinds := [.widerDeep], laidTests := true, laidLooks := .later }
def FnExactSafeScanUptoCardSaid : Prop := Claim7.holds Tryz.pinned (.plain (OpenSpec.upto fnExactSafeScanSpec)) fnExactSafeScanUptoCard

/-- THE SECOND FORM's CARD OF 'laws.FnExactRunScans'. -/
def fnExactRunScansUptoCard : Claim7 := { stood := { row := fnExactRunScansUptoRow, standIns := [], harness := (true, "f79fccba28510d3fd8a1799a94b92fd967d2a093064fe3e251c1ae45b3851032"), looks := false }, kinds := [], alts := [], laidByText := true, laidKinds := [.widerDeep], laidTests := true, laidLooks := .later }
def FnExactRunScansUptoCardSaid : Prop := Claim7.holds Tryz.pinned (.plain (OpenSpec.upto fnExactRunScansSpec)) fnExactRunScansUptoCard

/-- THE SECOND FORM's CARD OF 'laws.FnExactRunScan'. -/
def fnExactRunScanUptoCard : Claim7 := { stood := { row := fnExactRunScanUptoRow, standIns := [], harness := (true, "f79fccba28510d3fd8a1799a94b92fd967d2a093064fe3e251c1ae45b3851032"), looks := false }, kinds := [], alts := [], laidByText := true, laidKinds := [.widerDeep], laidTests := true, laidLooks := .later }
def FnExactRunScanUptoCardSaid : Prop := Claim7.holds Tryz.pinned (.plain (OpenSpec.upto fnExactRunScanSpec)) fnExactRunScanUptoCard

/-- THE SECOND FORM's CARD OF 'laws.FnExactMemoryAfter'. -/
def fnExactMemoryAfterUptoCard : Claim7 := { stood := { row := fnExactMemoryAfterUptoRow, standIns := [], harness := (true, "f79fccba28510d3fd8a1799a94b92fd967d2a093064fe3e251c1ae45b3851032"), looks := false }, kinds := [], alts := [], laidByText := true, laidKinds := [.widerDeep], laidTests := true, laidLooks := .later }
def FnExactMemoryAfterUptoCardSaid : Prop := Claim7.holds Tryz.pinned (.plain (OpenSpec.upto fnExactMemoryAfterSpec)) fnExactMemoryAfterUptoCard

/-- THE SECOND FORM's CARD OF 'laws.FnMachineSteps'. -/
def fnMachineStepsUptoCard : Claim7 := { stood := { row := fnMachineStepsUptoRow, standIns := [], harness := (true, "f79fccba28510d3fd8a1799a94b92fd967d2a093064fe3e251c1ae45b3851032"), looks := false }, kinds := [], alts := [], laidByText := true, laidKinds := [.widerDeep], laidTests := true, laidLooks := .later }
def FnMachineStepsUptoCardSaid : Prop := Claim7.holds Tryz.pinned (.plain (OpenSpec.upto fnMachineStepsSpec)) fnMachineStepsUptoCard

/-- THE SECOND FORM's CARD OF 'laws.FnScanLists'. -/
def fnScanListsUptoCard : Claim7 := { stood := { row := fnScanListsUptoRow, standIns := [], harness := (true, "f79fccba28510d3fd8a1799a94b92fd967d2a093064fe3e251c1ae45b3851032"), looks := false }, kinds := [], alts := [], laidByText := true, laidKinds := [.widerDeep], laidTests := true, laidLooks := .later }
def FnScanListsUptoCardSaid : Prop := Claim7.holds Tryz.pinned (.plain (OpenSpec.upto fnScanListsSpec)) fnScanListsUptoCard

/-- THE SECOND FORM's CARD OF 'laws.FnMachineRuns'. -/
def fnMachineRunsUptoCard : Claim7 := { stood := { row := fnMachineRunsUptoRow, standIns := [], harness := (true, "f79fccba28510d3fd8a1799a94b92fd967d2a093064fe3e251c1ae45b3851032"), looks := false }, kinds := [], alts := [], laidByText := true, laidKinds := [.widerDeep], laidTests := true, laidLooks := .later }
def FnMachineRunsUptoCardSaid : Prop := Claim7.holds Tryz.pinned (.plain (OpenSpec.upto fnMachineRunsSpec)) fnMachineRunsUptoCard
end Rows
end Go.Proofs.YtbbfgoobcjlooaaGreatDoor
