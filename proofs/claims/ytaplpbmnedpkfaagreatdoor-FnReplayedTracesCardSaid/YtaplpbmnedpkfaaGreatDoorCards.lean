/-
  DERIVED. GIVEN WITH THE SEED: THE CARDS: each row of YtaplpbmnedpkfaaGreatDoorRows.lean that lists a variable, with what it lists TIED to the program's text (the seventh form; the later family's looks); each row that meets fmt, with fmt's text TOLD by the authors' own Lean function (tested against real Go, not proved from fmt's source: count such statements apart). THE CARD IS WHAT COUNTS. Prove the row's statement (the work); the ties are given (YtaplpbmnedpkfaaGreatDoorTie.lean); close each card by the builder's one call (the guide's Derived/Test/ToyasCard.lean, 'card_holds'). Laid BY PROGRAM, IN A SANDBOX (cutbox-door.mjs). By AI agents, Wed Nov 11 2026. No macro, syntax, notation, axiom, sorry.
-/
import Derived.Test.YtaplpbmnedpkfaaGreatDoorRows
import GoSem.ClaimSeven
namespace Go.Proofs.YtaplpbmnedpkfaaGreatDoor
namespace Rows

/-- THE TIED CARD OF 'laws.FnReplayedTraces'. -/
def fnReplayedTracesCard : Claim7 := { stood := { row := fnReplayedTracesRow, standIns := [], harness := (true, "f85c4a76ca6b5753f46ce29241b2f3b00bf9466191194b44779822e911c4d4bd"), looks := false }, kinds := [], alts := [], laidByText := true, laidKinds := [.data, .data, .data, .data], laidTests := true, laidLooks := .later }
def FnReplayedTracesCardSaid : Prop := Claim7.holds Tryz.pinned (.plain (OpenSpec.ofChange fnReplayedTracesSpec)) fnReplayedTracesCard

/-- THE SECOND FORM's CARD OF 'laws.FnReplayedTraces'. -/
def fnReplayedTracesUptoCard : Claim7 := { stood := { row := fnReplayedTracesUptoRow, standIns := [], harness := (true, "f85c4a76ca6b5753f46ce29241b2f3b00bf9466191194b44779822e911c4d4bd"), looks := false }, kinds := [], alts := [], laidByText := true, laidKinds := [.data, .data, .data, .data], laidTests := true, laidLooks := .later }
def FnReplayedTracesUptoCardSaid : Prop := Claim7.holds Tryz.pinned (.plain (OpenSpec.upto fnReplayedTracesSpec)) fnReplayedTracesUptoCard
end Rows
end Go.Proofs.YtaplpbmnedpkfaaGreatDoor
