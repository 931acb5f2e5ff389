/-
  DERIVED. GIVEN WITH THE SEED: THE CARDS: each row of YtbiaajlhigmdhaaGreatDoorRows.lean that lists a variable, with what it lists TIED to the program's text (the seventh form; the later family's looks); each row that meets fmt, with fmt's text TOLD by the authors' own Lean function (tested against real Go, not proved from fmt's source: count such statements apart). THE CARD IS WHAT COUNTS. Prove the row's statement (the work); the ties are given (YtbiaajlhigmdhaaGreatDoorTie.lean); close each card by the builder's one call (the guide's Derived/Test/ToyasCard.lean, 'card_holds'). Laid BY PROGRAM, IN A SANDBOX (cutbox-door.mjs). By AI agents, Wed Nov 11 2026. No macro, syntax, notation, axiom, sorry.
-/
import Derived.Test.YtbiaajlhigmdhaaGreatDoorRows
import GoSem.ClaimSeven
namespace Go.Proofs.YtbiaajlhigmdhaaGreatDoor
namespace Rows

/-- THE TIED CARD OF 'laws.FnMachineSteps'. -/
def fnMachineStepsCard : Claim7 := { stood := { row := fnMachineStepsRow, standIns := [], harness := (true, "9386911d1ca0b735ea3b160129de53c3d7870fb79c0e43f0d7ba16b9cf3db031"), looks := false }, kinds := [], alts := [], laidByText := true, laidKinds := [.widerDeep], laidTests := true, laidLooks := .later }
def FnMachineStepsCardSaid : Prop := Claim7.holds Tryz.pinned (.plain (OpenSpec.ofChange fnMachineStepsSpec)) fnMachineStepsCard

/-- THE TIED CARD OF 'laws.FnScanLists'. -/
def fnScanListsCard : Claim7 := { stood := { row := fnScanListsRow, standIns := [], harness := (true, "9386911d1ca0b735ea3b160129de53c3d7870fb79c0e43f0d7ba16b9cf3db031"), looks := false }, kinds := [], alts := [], laidByText := true, laidKinds := [.widerDeep], laidTests := true, laidLooks := .later }
def FnScanListsCardSaid : Prop := Claim7.holds Tryz.pinned (.plain (OpenSpec.ofChange fnScanListsSpec)) fnScanListsCard

/-- THE TIED CARD OF 'laws.FnMachineRuns'. -/
def fnMachineRunsCard : Claim7 := { stood := { row := fnMachineRunsRow, standIns := [], harness := (true, "9386911d1ca0b735ea3b160129de53c3d7870fb79c0e43f0d7ba16b9cf3db031"), looks := false }, kinds := [], alts := [], laidByText := true, laidKinds := [.widerDeep], laidTests := true, laidLooks := .later }
def FnMachineRunsCardSaid : Prop := Claim7.holds Tryz.pinned (.plain (OpenSpec.ofChange fnMachineRunsSpec)) fnMachineRunsCard

/-- THE SECOND FORM's CARD OF 'laws.FnMachineSteps'. -/
def fnMachineStepsUptoCard : Claim7 := { stood := { row := fnMachineStepsUptoRow, standIns := [], harness := (true, "9386911d1ca0b735ea3b160129de53c3d7870fb79c0e43f0d7ba16b9cf3db031"), looks := false }, kinds := [], alts := [], laidByText := true, laidKinds := [.widerDeep], laidTests := true, laidLooks := .later }
def FnMachineStepsUptoCardSaid : Prop := Claim7.holds Tryz.pinned (.plain (OpenSpec.upto fnMachineStepsSpec)) fnMachineStepsUptoCard

/-- THE SECOND FORM's CARD OF 'laws.FnScanLists'. -/
def fnScanListsUptoCard : Claim7 := { stood := { row := fnScanListsUptoRow, standIns := [], harness := (true, "9386911d1ca0b735ea3b160129de53c3d7870fb79c0e43f0d7ba16b9cf3db031"), looks := false }, kinds := [], alts := [], laidByText := true, laidKinds := [.widerDeep], laidTests := true, laidLooks := .later }
def FnScanListsUptoCardSaid : Prop := Claim7.holds Tryz.pinned (.plain (OpenSpec.upto fnScanListsSpec)) fnScanListsUptoCard

/-- THE SECOND FORM's CARD OF 'laws.FnMachineRuns'. -/
def fnMachineRunsUptoCard : Claim7 := { stood := { row := fnMachineRunsUptoRow, standIns := [], harness := (true, "9386911d1ca0b735ea3b160129de53c3d7870fb79c0e43f0d7ba16b9cf3db031"), looks := false }, kinds := [], alts := [], laidByText := true, laidKinds := [.widerDeep], laidTests := true, laidLooks := .later }
def FnMachineRunsUptoCardSaid : Prop := Claim7.holds Tryz.pinned (.plain (OpenSpec.upto fnMachineRunsSpec)) fnMachineRunsUptoCard
end Rows
end Go.Proofs.YtbiaajlhigmdhaaGreatDoor
