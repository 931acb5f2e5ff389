/-
  DERIVED. GIVEN WITH THE SEED: THE CARDS: each row of YtcgchjiidpbeoaaGreatDoorRows.lean that lists a variable, with what it lists TIED to the program's text (the seventh form; the later family's looks); each row that meets fmt, with fmt's text TOLD by the authors' own Lean function (tested against real Go, not proved from fmt's source: count such statements apart). THE CARD IS WHAT COUNTS. Prove the row's statement (the work); the ties are given (YtcgchjiidpbeoaaGreatDoorTie.lean); close each card by the builder's one call (the guide's Derived/Test/ToyasCard.lean, 'card_holds'). Laid BY PROGRAM, IN A SANDBOX (cutbox-door.mjs). By AI agents, Wed Nov 11 2026. No macro, syntax, notation, axiom, sorry.
-/
import Derived.Test.YtcgchjiidpbeoaaGreatDoorRows
import GoSem.ClaimSeven
namespace Go.Proofs.YtcgchjiidpbeoaaGreatDoor
namespace Rows

/-- THE TIED CARD OF 'laws.FnMachine'. -/
def fnMachineCard : Claim7 := { stood := { row := fnMachineRow, standIns := [], harness := (true, "a33f4eb54aee43cef8fa1cd92c9a7a2f58c28ee95b7d430cab0aaa13f745321c"), looks := false }, kinds := [], alts := [], laidByText := true, laidKinds := [.widerDeep], laidTests := true, laidLooks := .later }
def FnMachineCardSaid : Prop := Claim7.holds Tryz.pinned (.plain (OpenSpec.ofChange fnMachineSpec)) fnMachineCard

/-- THE SECOND FORM's CARD OF 'laws.FnMachine'. -/
def fnMachineUptoCard : Claim7 := { stood := { row := fnMachineUptoRow, standIns := [], harness := (true, "a33f4eb54aee43cef8fa1cd92c9a7a2f58c28ee95b7d430cab0aaa13f745321c"), looks := false }, kinds := [], alts := [], laidByText := true, laidKinds := [.widerDeep], laidTests := true, laidLooks := .later }
def FnMachineUptoCardSaid : Prop := Claim7.holds Tryz.pinned (.plain (OpenSpec.upto fnMachineSpec)) fnMachineUptoCard
end Rows
end Go.Proofs.YtcgchjiidpbeoaaGreatDoor
