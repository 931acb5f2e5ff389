/-
  DERIVED. GIVEN WITH THE SEED: THE CARDS: each row of YtlppcpebljcpkaaDoorRows.lean that lists a variable, with what it lists TIED to the program's text (the seventh form; the later family's looks); each row that meets fmt, with fmt's text TOLD by the authors' own Lean function (tested against real Go, not proved from fmt's source: count such statements apart). THE CARD IS WHAT COUNTS. Prove the row's statement (the work); the ties are given (YtlppcpebljcpkaaDoorTie.lean); close each card by the builder's one call (the guide's Derived/Test/ToyasCard.lean, 'card_holds'). Laid BY PROGRAM, IN A SANDBOX (cutbox-door.mjs). By AI agents, Wed Nov 11 2026. No macro, syntax, notation, axiom, sorry.
-/
import Derived.Test.YtlppcpebljcpkaaDoorRows
import GoSem.ClaimSeven
namespace Go.Proofs.YtlppcpebljcpkaaDoor
namespace Rows

/-- THE TIED CARD OF 'laws.FnUntil'. -/
def fnUntilCard : Claim7 := { stood := { row := fnUntilRow, standIns := [], harness := (true, "6e99684a3ad9e28ed159c08ff05f593571594ce932816a00e4d5867f17576f7a"), looks := false }, kinds := [], alts := [], laidByText := true, laidKinds := [.data, .data, .data, .widerDeep], laidTests := true, laidLooks := .later }
def FnUntilCardSaid : Prop := Claim7.holds Tryd.pinned (.plain (OpenSpec.ofChange fnUntilSpec)) fnUntilCard

/-- THE SECOND FORM's CARD OF 'laws.FnUntil'. -/
def fnUntilUptoCard : Claim7 := { stood := { row := fnUntilUptoRow, standIns := [], harness := (true, "6e99684a3ad9e28ed159c08ff05f593571594ce932816a00e4d5867f17576f7a"), looks := false }, kinds := [], alts := [], laidByText := true, laidKinds := [.data, .data, .data, .widerDeep], laidTests := true, laidLooks := .later }
def FnUntilUptoCardSaid : Prop := Claim7.holds Tryd.pinned (.plain (OpenSpec.upto fnUntilSpec)) fnUntilUptoCard
end Rows
end Go.Proofs.YtlppcpebljcpkaaDoor
