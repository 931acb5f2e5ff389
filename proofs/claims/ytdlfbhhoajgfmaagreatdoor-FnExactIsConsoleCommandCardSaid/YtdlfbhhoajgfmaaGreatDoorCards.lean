/-
  DERIVED. GIVEN WITH THE SEED: THE CARDS: each row of YtdlfbhhoajgfmaaGreatDoorRows.lean that lists a variable, with what it lists TIED to the program's text (the seventh form; the later family's looks); each row that meets fmt, with fmt's text TOLD by the authors' own Lean function (tested against real Go, not proved from fmt's source: count such statements apart). THE CARD IS WHAT COUNTS. Prove the row's statement (the work); the ties are given (YtdlfbhhoajgfmaaGreatDoorTie.lean); close each card by the builder's one call (the guide's Derived/Test/ToyasCard.lean, 'card_holds'). Laid BY PROGRAM, IN A SANDBOX (cutbox-door.mjs). By AI agents, Wed Nov 11 2026. No macro, syntax, notation, axiom, sorry.
-/
import Derived.Test.YtdlfbhhoajgfmaaGreatDoorRows
import GoSem.ClaimSeven
namespace Go.Proofs.YtdlfbhhoajgfmaaGreatDoor
namespace Rows

/-- THE TIED CARD OF 'laws.FnExactIsConsoleCommand'. -/
def fnExactIsConsoleCommandCard : Claim7 := { stood := { row := fnExactIsConsoleCommandRow, standIns := [], harness := (true, "fa01d2f785bd7b9e2125c9a823cf4614d47de29e387d0273ac9258119254f45e"), looks := true }, kinds := [], alts := [], laidByText := true, laidKinds := [.data, .data, .data, .data, .sentinel, .sentinel, .data, .widerDeep, .widerDeep, .data, .data, .pinned], laidTests := true, laidLooks := .later }
def FnExactIsConsoleCommandCardSaid : Prop := Claim7.holds Tryz.pinned (.plain (OpenSpec.ofChange fnExactIsConsoleCommandSpec)) fnExactIsConsoleCommandCard

/-- THE SECOND FORM's CARD OF 'laws.FnExactIsConsoleCommand'. -/
def fnExactIsConsoleCommandUptoCard : Claim7 := { stood := { row := fnExactIsConsoleCommandUptoRow, standIns := [], harness := (true, "fa01d2f785bd7b9e2125c9a823cf4614d47de29e387d0273ac9258119254f45e"), looks := true }, kinds := [], alts := [], laidByText := true, laidKinds := [.data, .data, .data, .data, .sentinel, .sentinel, .data, .widerDeep, .widerDeep, .data, .data, .pinned], laidTests := true, laidLooks := .later }
def FnExactIsConsoleCommandUptoCardSaid : Prop := Claim7.holds Tryz.pinned (.plain (OpenSpec.upto fnExactIsConsoleCommandSpec)) fnExactIsConsoleCommandUptoCard
end Rows
end Go.Proofs.YtdlfbhhoajgfmaaGreatDoor
