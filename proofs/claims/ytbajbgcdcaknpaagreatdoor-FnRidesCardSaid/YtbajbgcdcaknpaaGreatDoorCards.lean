/-
  DERIVED. GIVEN WITH THE SEED: THE CARDS: each row of YtbajbgcdcaknpaaGreatDoorRows.lean that lists a variable, with what it lists TIED to the program's text (the seventh form; the later family's looks); each row that meets fmt, with fmt's text TOLD by the authors' own Lean function (tested against real Go, not proved from fmt's source: count such statements apart). THE CARD IS WHAT COUNTS. Prove the row's statement (the work); the ties are given (YtbajbgcdcaknpaaGreatDoorTie.lean); close each card by the builder's one call (the guide's Derived/Test/ToyasCard.lean, 'card_holds'). Laid BY PROGRAM, IN A SANDBOX (cutbox-door.mjs). By AI agents, Wed Nov 11 2026. No macro, syntax, notation, axiom, sorry.
-/
import Derived.Test.YtbajbgcdcaknpaaGreatDoorRows
import GoSem.ClaimSeven
namespace Go.Proofs.YtbajbgcdcaknpaaGreatDoor
namespace Rows

/-- THE TIED CARD OF 'laws.FnTop'. -/
def fnTopCard : Claim7 := { stood := { row := fnTopRow, standIns := [], harness := (true, "7b37d34e4c878b75129e4fbbefc7617c0f55fd9a8aebc177b949fd8163b60bf8"), looks := false }, kinds := [], alts := [], laidByText := true, laidKinds := [.data], laidTests := true, laidLooks := .later }
def FnTopCardSaid : Prop := Claim7.holds Tryz.pinned (.plain (OpenSpec.ofChange fnTopSpec)) fnTopCard

/-- THE TIED CARD OF 'laws.FnRides'. -/
def fnRidesCard : Claim7 := { stood := { row := fnRidesRow, standIns := [], harness := (true, "7b37d34e4c878b75129e4fbbefc7617c0f55fd9a8aebc177b949fd8163b60bf8"), looks := false }, kinds := [], alts := [], laidByText := true, laidKinds := [.data], laidTests := true, laidLooks := .later }
def FnRidesCardSaid : Prop := Claim7.holds Tryz.pinned (.plain (OpenSpec.ofChange fnRidesSpec)) fnRidesCard

/-- THE TIED CARD OF 'laws.FnDispatches'. -/
def fnDispatchesCard : Claim7 := { stood := { row := fnDispatchesRow, standIns := [], harness := (true, "7b37d34e4c878b75129e4fbbefc7617c0f55fd9a8aebc177b949fd8163b60bf8"), looks := false }, kinds := [], alts := [], laidByText := true, laidKinds := [.data], laidTests := true, laidLooks := .later }
def FnDispatchesCardSaid : Prop := Claim7.holds Tryz.pinned (.plain (OpenSpec.ofChange fnDispatchesSpec)) fnDispatchesCard

/-- THE TIED CARD OF 'laws.FnRideSteps'. -/
def fnRideStepsCard : Claim7 := { stood := { row := fnRideStepsRow, standIns := [], harness := (true, "7b37d34e4c878b75129e4fbbefc7617c0f55fd9a8aebc177b949fd8163b60bf8"), looks := false }, kinds := [], alts := [], laidByText := true, laidKinds := [.data], laidTests := true, laidLooks := .later }
def FnRideStepsCardSaid : Prop := Claim7.holds Tryz.pinned (.plain (OpenSpec.ofChange fnRideStepsSpec)) fnRideStepsCard

/-- THE TIED CARD OF 'laws.FnExactCountDispatches'. -/
def fnExactCountDispatchesCard : Claim7 := { stood := { row := fnExactCountDispatchesRow, standIns := [], harness := (true, "7b37d34e4c878b75129e4fbbefc7617c0f55fd9a8aebc177b949fd8163b60bf8"), looks := false }, kinds := [], alts := [], laidByText := true, laidKinds := [.data], laidTests := true, laidLooks := .later }
def FnExactCountDispatchesCardSaid : Prop := Claim7.holds Tryz.pinned (.plain (OpenSpec.ofChange fnExactCountDispatchesSpec)) fnExactCountDispatchesCard

/-- THE TIED CARD OF 'laws.FnExactStepRide'. -/
def fnExactStepRideCard : Claim7 := { stood := { row := fnExactStepRideRow, standIns := [], harness := (true, "7b37d34e4c878b75129e4fbbefc7617c0f55fd9a8aebc177b949fd8163b60bf8"), looks := false }, kinds := [], alts := [], laidByText := true, laidKinds := [.data], laidTests := true, laidLooks := .later }
def FnExactStepRideCardSaid : Prop := Claim7.holds Tryz.pinned (.plain (OpenSpec.ofChange fnExactStepRideSpec)) fnExactStepRideCard

/-- THE TIED CARD OF 'laws.FnExactRunRide'. -/
def fnExactRunRideCard : Claim7 := { stood := { row := fnExactRunRideRow, standIns := [], harness := (true, "7b37d34e4c878b75129e4fbbefc7617c0f55fd9a8aebc177b949fd8163b60bf8"), looks := false }, kinds := [], alts := [], laidByText := true, laidKinds := [.data], laidTests := true, laidLooks := .later }
def FnExactRunRideCardSaid : Prop := Claim7.holds Tryz.pinned (.plain (OpenSpec.ofChange fnExactRunRideSpec)) fnExactRunRideCard

/-- THE SECOND FORM's CARD OF 'laws.FnTop'. -/
def fnTopUptoCard : Claim7 := { stood := { row := fnTopUptoRow, standIns := [], harness := (true, "7b37d34e4c878b75129e4fbbefc7617c0f55fd9a8aebc177b949fd8163b60bf8"), looks := false }, kinds := [], alts := [], laidByText := true, laidKinds := [.data], laidTests := true, laidLooks := .later }
def FnTopUptoCardSaid : Prop := Claim7.holds Tryz.pinned (.plain (OpenSpec.upto fnTopSpec)) fnTopUptoCard

/-- THE SECOND FORM's CARD OF 'laws.FnRides'. -/
def fnRidesUptoCard : Claim7 := { stood := { row := fnRidesUptoRow, standIns := [], harness := (true, "7b37d34e4c878b75129e4fbbefc7617c0f55fd9a8aebc177b949fd8163b60bf8"), looks := false }, kinds := [], alts := [], laidByText := true, laidKinds := [.data], laidTests := true, laidLooks := .later }
def FnRidesUptoCardSaid : Prop := Claim7.holds Tryz.pinned (.plain (OpenSpec.upto fnRidesSpec)) fnRidesUptoCard

/-- THE SECOND FORM's CARD OF 'laws.FnDispatches'. -/
def fnDispatchesUptoCard : Claim7 := { stood := { row := fnDispatchesUptoRow, standIns := [], harness := (true, "7b37d34e4c878b75129e4fbbefc7617c0f55fd9a8aebc177b949fd8163b60bf8"), looks := false }, kinds := [], alts := [], laidByText := true, laidKinds := [.data], laidTests := true, laidLooks := .later }
def FnDispatchesUptoCardSaid : Prop := Claim7.holds Tryz.pinned (.plain (OpenSpec.upto fnDispatchesSpec)) fnDispatchesUptoCard

/-- THE SECOND FORM's CARD OF 'laws.FnRideSteps'. -/
def fnRideStepsUptoCard : Claim7 := { stood := { row := fnRideStepsUptoRow, standIns := [], harness := (true, "7b37d34e4c878b75129e4fbbefc7617c0f55fd9a8aebc177b949fd8163b60bf8"), looks := false }, kinds := [], alts := [], laidByText := true, laidKinds := [.data], laidTests := true, laidLooks := .later }
def FnRideStepsUptoCardSaid : Prop := Claim7.holds Tryz.pinned (.plain (OpenSpec.upto fnRideStepsSpec)) fnRideStepsUptoCard

/-- THE SECOND FORM's CARD OF 'laws.FnExactCountDispatches'. -/
def fnExactCountDispatchesUptoCard : Claim7 := { stood := { row := fnExactCountDispatchesUptoRow, standIns := [], harness := (true, "7b37d34e4c878b75129e4fbbefc7617c0f55fd9a8aebc177b949fd8163b60bf8"), looks := false }, kinds := [], alts := [], laidByText := true, laidKinds := [.data], laidTests := true, laidLooks := .later }
def FnExactCountDispatchesUptoCardSaid : Prop := Claim7.holds Tryz.pinned (.plain (OpenSpec.upto fnExactCountDispatchesSpec)) fnExactCountDispatchesUptoCard

/-- THE SECOND FORM's CARD OF 'laws.FnExactStepRide'. -/
def fnExactStepRideUptoCard : Claim7 := { stood := { row := fnExactStepRideUptoRow, standIns := [], harness := (true, "7b37d34e4c878b75129e4fbbefc7617c0f55fd9a8aebc177b949fd8163b60bf8"), looks := false }, kinds := [], alts := [], laidByText := true, laidKinds := [.data], laidTests := true, laidLooks := .later }
def FnExactStepRideUptoCardSaid : Prop := Claim7.holds Tryz.pinned (.plain (OpenSpec.upto fnExactStepRideSpec)) fnExactStepRideUptoCard

/-- THE SECOND FORM's CARD OF 'laws.FnExactRunRide'. -/
def fnExactRunRideUptoCard : Claim7 := { stood := { row := fnExactRunRideUptoRow, standIns := [], harness := (true, "7b37d34e4c878b75129e4fbbefc7617c0f55fd9a8aebc177b949fd8163b60bf8"), looks := false }, kinds := [], alts := [], laidByText := true, laidKinds := [.data], laidTests := true, laidLooks := .later }
def FnExactRunRideUptoCardSaid : Prop := Claim7.holds Tryz.pinned (.plain (OpenSpec.upto fnExactRunRideSpec)) fnExactRunRideUptoCard
end Rows
end Go.Proofs.YtbajbgcdcaknpaaGreatDoor
