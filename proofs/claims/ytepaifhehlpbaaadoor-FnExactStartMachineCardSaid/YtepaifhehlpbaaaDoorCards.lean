/-
  DERIVED. GIVEN WITH THE SEED: THE CARDS: each row of YtepaifhehlpbaaaDoorRows.lean that lists a variable, with what it lists TIED to the program's text (the seventh form; the later family's looks); each row that meets fmt, with fmt's text TOLD by the authors' own Lean function (tested against real Go, not proved from fmt's source: count such statements apart). THE CARD IS WHAT COUNTS. Prove the row's statement (the work); the ties are given (YtepaifhehlpbaaaDoorTie.lean); close each card by the builder's one call (the guide's Derived/Test/ToyasCard.lean, 'card_holds'). Laid BY PROGRAM, IN A SANDBOX (cutbox-door.mjs). By AI agents, Wed Nov 11 2026. No macro, syntax, notation, axiom, sorry.
-/
import Derived.Test.YtepaifhehlpbaaaDoorRows
import GoSem.ClaimSeven
namespace Go.Proofs.YtepaifhehlpbaaaDoor
namespace Rows

/-- THE TIED CARD OF 'laws.FnExactStepBlock'. -/
def fnExactStepBlockCard : Claim7 := { stood := { row := fnExactStepBlockRow, standIns := [], harness := (true, "0db0588b1bf225cb97dec76ba9a33da0ab27cd6a4afb6296d148a9880b79c3f2"), looks := false }, kinds := [], alts := [], laidByText := true, laidKinds := [.widerDeep], laidTests := true, laidLooks := .later }
def FnExactStepBlockCardSaid : Prop := Claim7.holds Tryd.pinned (.plain (OpenSpec.ofChange fnExactStepBlockSpec)) fnExactStepBlockCard

/-- THE TIED CARD OF 'laws.FnExactScansUntil'. -/
def fnExactScansUntilCard : Claim7 := { stood := { row := fnExactScansUntilRow, standIns := [], harness := (true, "0db0588b1bf225cb97dec76ba9a33da0ab27cd6a4afb6296d148a9880b79c3f2"), looks := false }, kinds := [], alts := [], laidByText := true, laidKinds := [.widerDeep], laidTests := true, laidLooks := .later }
def FnExactScansUntilCardSaid : Prop := Claim7.holds Tryd.pinned (.plain (OpenSpec.ofChange fnExactScansUntilSpec)) fnExactScansUntilCard

/-- THE TIED CARD OF 'laws.FnBlockSteps'. -/
def fnBlockStepsCard : Claim7 := { stood := { row := fnBlockStepsRow, standIns := [], harness := (true, "0db0588b1bf225cb97dec76ba9a33da0ab27cd6a4afb6296d148a9880b79c3f2"), looks := false }, kinds := [], alts := [], laidByText := true, laidKinds := [.widerDeep], laidTests := true, laidLooks := .later }
def FnBlockStepsCardSaid : Prop := Claim7.holds Tryd.pinned (.plain (OpenSpec.ofChange fnBlockStepsSpec)) fnBlockStepsCard

/-- THE TIED CARD OF 'laws.FnPairs'. -/
def fnPairsCard : Claim7 := { stood := { row := fnPairsRow, standIns := [], harness := (true, "0db0588b1bf225cb97dec76ba9a33da0ab27cd6a4afb6296d148a9880b79c3f2"), looks := false }, kinds := [], alts := [], laidByText := true, laidKinds := [.widerDeep], laidTests := true, laidLooks := .later }
def FnPairsCardSaid : Prop := Claim7.holds Tryd.pinned (.plain (OpenSpec.ofChange fnPairsSpec)) fnPairsCard

/-- THE TIED CARD OF 'laws.FnExactRunBlock'. -/
def fnExactRunBlockCard : Claim7 := { stood := { row := fnExactRunBlockRow, standIns := [], harness := (true, "0db0588b1bf225cb97dec76ba9a33da0ab27cd6a4afb6296d148a9880b79c3f2"), looks := false }, kinds := [], alts := [], laidByText := true, laidKinds := [.widerDeep], laidTests := true, laidLooks := .later }
def FnExactRunBlockCardSaid : Prop := Claim7.holds Tryd.pinned (.plain (OpenSpec.ofChange fnExactRunBlockSpec)) fnExactRunBlockCard

/-- THE TIED CARD OF 'laws.FnUntil'. -/
def fnUntilCard : Claim7 := { stood := { row := fnUntilRow, standIns := [], harness := (true, "0db0588b1bf225cb97dec76ba9a33da0ab27cd6a4afb6296d148a9880b79c3f2"), looks := false }, kinds := [], alts := [], laidByText := true, laidKinds := [.data, .data, .data, .widerDeep], laidTests := true, laidLooks := .later }
def FnUntilCardSaid : Prop := Claim7.holds Tryd.pinned (.plain (OpenSpec.ofChange fnUntilSpec)) fnUntilCard

/-- THE TIED CARD OF 'laws.FnExactStartMachine'. -/
def fnExactStartMachineCard : Claim7 := { stood := { row := fnExactStartMachineRow, standIns := [], harness := (true, "0db0588b1bf225cb97dec76ba9a33da0ab27cd6a4afb6296d148a9880b79c3f2"), looks := false }, kinds := [], alts := [], laidByText := true, laidKinds := [.widerDeep], laidTests := true, laidLooks := .later }
def FnExactStartMachineCardSaid : Prop := Claim7.holds Tryd.pinned (.plain (OpenSpec.ofChange fnExactStartMachineSpec)) fnExactStartMachineCard

/-- THE SECOND FORM's CARD OF 'laws.FnExactStepBlock'. -/
def fnExactStepBlockUptoCard : Claim7 := { stood := { row := fnExactStepBlockUptoRow, standIns := [], harness := (true, "0db0588b1bf225cb97dec76ba9a33da0ab27cd6a4afb6296d148a9880b79c3f2"), looks := false }, kinds := [], alts := [], laidByText := true, laidKinds := [.widerDeep], laidTests := true, laidLooks := .later }
def FnExactStepBlockUptoCardSaid : Prop := Claim7.holds Tryd.pinned (.plain (OpenSpec.upto fnExactStepBlockSpec)) fnExactStepBlockUptoCard

/-- THE SECOND FORM's CARD OF 'laws.FnExactScansUntil'. -/
def fnExactScansUntilUptoCard : Claim7 := { stood := { row := fnExactScansUntilUptoRow, standIns := [], harness := (true, "0db0588b1bf225cb97dec76ba9a33da0ab27cd6a4afb6296d148a9880b79c3f2"), looks := false }, kinds := [], alts := [], laidByText := true, laidKinds := [.widerDeep], laidTests := true, laidLooks := .later }
def FnExactScansUntilUptoCardSaid : Prop := Claim7.holds Tryd.pinned (.plain (OpenSpec.upto fnExactScansUntilSpec)) fnExactScansUntilUptoCard

/-- THE SECOND FORM's CARD OF 'laws.FnBlockSteps'. -/
def fnBlockStepsUptoCard : Claim7 := { stood := { row := fnBlockStepsUptoRow, standIns := [], harness := (true, "0db0588b1bf225cb97dec76ba9a33da0ab27cd6a4afb6296d148a9880b79c3f2"), looks := false }, kinds := [], alts := [], laidByText := true, laidKinds := [.widerDeep], laidTests := true, laidLooks := .later }
def FnBlockStepsUptoCardSaid : Prop := Claim7.holds Tryd.pinned (.plain (OpenSpec.upto fnBlockStepsSpec)) fnBlockStepsUptoCard

/-- THE SECOND FORM's CARD OF 'laws.FnPairs'. -/
def fnPairsUptoCard : Claim7 := { stood := { row := fnPairsUptoRow, standIns := [], harness := (true, "0db0588b1bf225cb97dec76ba9a33da0ab27cd6a4afb6296d148a9880b79c3f2"), looks := false }, kinds := [], alts := [], laidByText := true, laidKinds := [.widerDeep], laidTests := true, laidLooks := .later }
def FnPairsUptoCardSaid : Prop := Claim7.holds Tryd.pinned (.plain (OpenSpec.upto fnPairsSpec)) fnPairsUptoCard

/-- THE SECOND FORM's CARD OF 'laws.FnExactRunBlock'. -/
def fnExactRunBlockUptoCard : Claim7 := { stood := { row := fnExactRunBlockUptoRow, standIns := [], harness := (true, "0db0588b1bf225cb97dec76ba9a33da0ab27cd6a4afb6296d148a9880b79c3f2"), looks := false }, kinds := [], alts := [], laidByText := true, laidKinds := [.widerDeep], laidTests := true, laidLooks := .later }
def FnExactRunBlockUptoCardSaid : Prop := Claim7.holds Tryd.pinned (.plain (OpenSpec.upto fnExactRunBlockSpec)) fnExactRunBlockUptoCard

/-- THE SECOND FORM's CARD OF 'laws.FnUntil'. -/
def fnUntilUptoCard : Claim7 := { stood := { row := fnUntilUptoRow, standIns := [], harness := (true, "0db0588b1bf225cb97dec76ba9a33da0ab27cd6a4afb6296d148a9880b79c3f2"), looks := false }, kinds := [], alts := [], laidByText := true, laidKinds := [.data, .data, .data, .widerDeep], laidTests := true, laidLooks := .later }
def FnUntilUptoCardSaid : Prop := Claim7.holds Tryd.pinned (.plain (OpenSpec.upto fnUntilSpec)) fnUntilUptoCard

/-- THE SECOND FORM's CARD OF 'laws.FnExactStartMachine'. -/
def fnExactStartMachineUptoCard : Claim7 := { stood := { row := fnExactStartMachineUptoRow, standIns := [], harness := (true, "0db0588b1bf225cb97dec76ba9a33da0ab27cd6a4afb6296d148a9880b79c3f2"), looks := false }, kinds := [], alts := [], laidByText := true, laidKinds := [.widerDeep], laidTests := true, laidLooks := .later }
def FnExactStartMachineUptoCardSaid : Prop := Claim7.holds Tryd.pinned (.plain (OpenSpec.upto fnExactStartMachineSpec)) fnExactStartMachineUptoCard
end Rows
end Go.Proofs.YtepaifhehlpbaaaDoor
