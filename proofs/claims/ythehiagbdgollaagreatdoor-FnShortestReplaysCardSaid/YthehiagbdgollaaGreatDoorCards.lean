/-
  DERIVED. GIVEN WITH THE SEED: THE CARDS: each row of YthehiagbdgollaaGreatDoorRows.lean that lists a variable, with what it lists TIED to the program's text (the seventh form; the later family's looks); each row that meets fmt, with fmt's text TOLD by the authors' own Lean function (tested against real Go, not proved from fmt's source: count such statements apart). THE CARD IS WHAT COUNTS. Prove the row's statement (the work); the ties are given (YthehiagbdgollaaGreatDoorTie.lean); close each card by the builder's one call (the guide's Derived/Test/ToyasCard.lean, 'card_holds'). Laid BY PROGRAM, IN A SANDBOX (cutbox-door.mjs). By AI agents, Wed Nov 11 2026. No macro, syntax, notation, axiom, sorry.
-/
import Derived.Test.YthehiagbdgollaaGreatDoorRows
import GoSem.ClaimSeven
namespace Go.Proofs.YthehiagbdgollaaGreatDoor
namespace Rows

/-- THE TIED CARD OF 'laws.FnShortestReplays'. -/
def fnShortestReplaysCard : Claim7 := { stood := { row := fnShortestReplaysRow, standIns := [], harness := (true, "d6d48baa8d2d59bb91d220986cb7da506d6ac6f06d457b3704bf44ba9cd41b91"), looks := false }, kinds := [], alts := [], laidByText := true, laidKinds := [.data, .data, .data, .data], laidTests := true, laidLooks := .later }
def FnShortestReplaysCardSaid : Prop := Claim7.holds Tryz.pinned (.plain (OpenSpec.ofChange fnShortestReplaysSpec)) fnShortestReplaysCard

/-- THE SECOND FORM's CARD OF 'laws.FnShortestReplays'. -/
def fnShortestReplaysUptoCard : Claim7 := { stood := { row := fnShortestReplaysUptoRow, standIns := [], harness := (true, "d6d48baa8d2d59bb91d220986cb7da506d6ac6f06d457b3704bf44ba9cd41b91"), looks := false }, kinds := [], alts := [], laidByText := true, laidKinds := [.data, .data, .data, .data], laidTests := true, laidLooks := .later }
def FnShortestReplaysUptoCardSaid : Prop := Claim7.holds Tryz.pinned (.plain (OpenSpec.upto fnShortestReplaysSpec)) fnShortestReplaysUptoCard
end Rows
end Go.Proofs.YthehiagbdgollaaGreatDoor
