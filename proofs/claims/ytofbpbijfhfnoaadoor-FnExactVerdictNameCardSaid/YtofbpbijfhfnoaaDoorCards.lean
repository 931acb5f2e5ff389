/-
  DERIVED. GIVEN WITH THE SEED: THE CARDS: each row of YtofbpbijfhfnoaaDoorRows.lean that lists a variable, with what it lists TIED to the program's text (the seventh form; the later family's looks); each row that meets fmt, with fmt's text TOLD by the authors' own Lean function (tested against real Go, not proved from fmt's source: count such statements apart). THE CARD IS WHAT COUNTS. Prove the row's statement (the work); the ties are given (YtofbpbijfhfnoaaDoorTie.lean); close each card by the builder's one call (the guide's Derived/Test/ToyasCard.lean, 'card_holds'). Laid BY PROGRAM, IN A SANDBOX (cutbox-door.mjs). By AI agents, Wed Nov 11 2026. No macro, syntax, notation, axiom, sorry.
-/
import Derived.Test.YtofbpbijfhfnoaaDoorRows
import GoSem.ClaimSeven
namespace Go.Proofs.YtofbpbijfhfnoaaDoor
namespace Rows

/-- THE TIED CARD OF 'laws.FnExactVerdictName'. -/
def fnExactVerdictNameCard : Claim7 := { stood := { row := fnExactVerdictNameRow, standIns := [], harness := (true, "337282d06a62cee2247afe88f67c77fd25184d6fa8266f593b0b08e147f2d3b1"), looks := false }, kinds := [], alts := [], laidByText := true, laidKinds := [.data], laidTests := true, laidLooks := .later }
def FnExactVerdictNameCardSaid : Prop := Claim7.holds Tryd.pinned (.plain (OpenSpec.ofChange fnExactVerdictNameSpec)) fnExactVerdictNameCard

/-- THE SECOND FORM's CARD OF 'laws.FnExactVerdictName'. -/
def fnExactVerdictNameUptoCard : Claim7 := { stood := { row := fnExactVerdictNameUptoRow, standIns := [], harness := (true, "337282d06a62cee2247afe88f67c77fd25184d6fa8266f593b0b08e147f2d3b1"), looks := false }, kinds := [], alts := [], laidByText := true, laidKinds := [.data], laidTests := true, laidLooks := .later }
def FnExactVerdictNameUptoCardSaid : Prop := Claim7.holds Tryd.pinned (.plain (OpenSpec.upto fnExactVerdictNameSpec)) fnExactVerdictNameUptoCard
end Rows
end Go.Proofs.YtofbpbijfhfnoaaDoor
