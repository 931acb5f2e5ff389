/-
  NARROWER THAN 'FOR EVERY INPUT', by the rows' own cells (each row's printed sentence says how): FnTop: laid · FnRides: laid · FnDispatches: laid · FnRideSteps: laid · FnExactCountDispatches: laid · FnExactStepRide: laid · FnExactRunRide: laid.
  DERIVED. THE GIVEN ROWS OF THIS SEAT. 7 by the template 'for every input the law returns true; each argument reads behind the call as it read before'; 0 by the template 'total and deterministic' (their statements: YtbajbgcdcaknpaaGreatDoorTotals.lean).
  GIVEN WITH THE SEED: the statements are not yours to turn. If you find one false, say at which input.
  Laid BY PROGRAM, IN A SANDBOX (cutbox-rows.mjs): the forced cells as the released guide's own fill.sh prints them over the translation 7d9e8b7f574a1a14… (all of the seat's roots in one cut). By AI agents, Wed Nov 11 2026. No macro, syntax, notation, axiom, sorry.
-/
import Derived.Test.YtbajbgcdcaknpaaGreatDoorChecked
import GoSem.Claim
import GoSem.ClaimJoined
import GoSem.ClaimMapViews
import Derived.JoinedTies
import Derived.KernelRfl
namespace Go.Proofs.YtbajbgcdcaknpaaGreatDoor
/- THE CELL 'sum', in the pinned program and in every row, IS THE sha256 OF THE DUMP (.gsa) THAT YtbajbgcdcaknpaaGreatDoorProg.lean LOADS. Nothing in Lean hashes anything: it is a label: what it is worth is what the hold of that sum in a sandbox is worth. -/
noncomputable def Tryz.pinned : Pinned := { name := "ytbajbgcdcaknpaagreatdoor", sum := "7d9e8b7f574a1a141a2a144c6f367134dc80357b6887a45075212b9b23e13d2b", checked := Tryz.checked }
namespace Rows
def none {H : Type} : Left H := { results := [], args := [] }

/- WHAT THE LISTED PACKAGE-LEVEL VARIABLES READ AS WHEN THE CALL BEGINS. Each datum BY PROGRAM (the guide's laid-datum.mjs) off the statement by which the dump's own 'gosem.cut.vars' lays the variable. In a bare row this is a premise. The card (YtbajbgcdcaknpaaGreatDoorCards.lean) ties it to the program's text. -/
def laid_loop_example_g00916_impl_commandRows {H : Type} : DataW H := .agg [.agg [.lit (.int .i64 1), .lit (.int .i64 2), .lit (.int .i64 1), .lit (.bool true)], .agg [.lit (.int .i64 4), .lit (.int .i64 3), .lit (.int .i64 1), .lit (.bool false)], .agg [.lit (.int .i64 8), .lit (.int .i64 2), .lit (.int .i64 1), .lit (.bool false)], .agg [.lit (.int .i64 62), .lit (.int .i64 4), .lit (.int .i64 0), .lit (.bool false)], .agg [.lit (.int .i64 16), .lit (.int .i64 2), .lit (.int .i64 2), .lit (.bool true)], .agg [.lit (.int .i64 16), .lit (.int .i64 5), .lit (.int .i64 3), .lit (.bool false)], .agg [.lit (.int .i64 32), .lit (.int .i64 4), .lit (.int .i64 3), .lit (.bool false)], .agg [.lit (.int .i64 5), .lit (.int .i64 1), .lit (.int .i64 2), .lit (.bool true)], .agg [.lit (.int .i64 2), .lit (.int .i64 2), .lit (.int .i64 2), .lit (.bool true)], .agg [.lit (.int .i64 4), .lit (.int .i64 0), .lit (.int .i64 1), .lit (.bool false)]]

/-- 'laws.FnTop': WHATEVER THE INPUT: true; the input reads as it did. -/
def fnTopSpec : ChangeSpec := { name := "fnTop", vars := ["loop.example/g00916/impl.commandRows"], fn := fun _ => fun
  | [d, g1] => { results := [.lit (.bool true)], args := [d], vars := [g1] }
  | _ => none }
def fnTopRow : OpenClaim := { program := "ytbajbgcdcaknpaagreatdoor", sum := "7d9e8b7f574a1a141a2a144c6f367134dc80357b6887a45075212b9b23e13d2b", func := "loop.example/g00916/laws.FnTop", spec := "fnTop", unfollowed := true, recurses := true, named := ["loop.example/g00916/impl.commandRows"], apart := false, laid := [("loop.example/g00916/impl.commandRows", laid_loop_example_g00916_impl_commandRows)] }
def FnTopSaid : Prop := fnTopRow.holds Tryz.pinned (OpenSpec.ofChange fnTopSpec)

/-- ITS FALSE NEIGHBOUR: 'it returns false'. Refute it at one input. -/
def fnTopWrong : ChangeSpec := { name := "fnTop", vars := ["loop.example/g00916/impl.commandRows"], fn := fun _ => fun
  | [d, g1] => { results := [.lit (.bool false)], args := [d], vars := [g1] }
  | _ => none }
def FnTopWrongFalsely : Prop := fnTopRow.holds Tryz.pinned (OpenSpec.ofChange fnTopWrong)

/-- 'laws.FnRides': WHATEVER THE INPUT: true; the input reads as it did. -/
def fnRidesSpec : ChangeSpec := { name := "fnRides", vars := ["loop.example/g00916/impl.commandRows"], fn := fun _ => fun
  | [d, g1] => { results := [.lit (.bool true)], args := [d], vars := [g1] }
  | _ => none }
def fnRidesRow : OpenClaim := { program := "ytbajbgcdcaknpaagreatdoor", sum := "7d9e8b7f574a1a141a2a144c6f367134dc80357b6887a45075212b9b23e13d2b", func := "loop.example/g00916/laws.FnRides", spec := "fnRides", unfollowed := true, recurses := true, named := ["loop.example/g00916/impl.commandRows"], apart := false, laid := [("loop.example/g00916/impl.commandRows", laid_loop_example_g00916_impl_commandRows)] }
def FnRidesSaid : Prop := fnRidesRow.holds Tryz.pinned (OpenSpec.ofChange fnRidesSpec)

/-- ITS FALSE NEIGHBOUR: 'it returns false'. Refute it at one input. -/
def fnRidesWrong : ChangeSpec := { name := "fnRides", vars := ["loop.example/g00916/impl.commandRows"], fn := fun _ => fun
  | [d, g1] => { results := [.lit (.bool false)], args := [d], vars := [g1] }
  | _ => none }
def FnRidesWrongFalsely : Prop := fnRidesRow.holds Tryz.pinned (OpenSpec.ofChange fnRidesWrong)

/-- 'laws.FnDispatches': WHATEVER THE INPUT: true; the input reads as it did. -/
def fnDispatchesSpec : ChangeSpec := { name := "fnDispatches", vars := ["loop.example/g00916/impl.commandRows"], fn := fun _ => fun
  | [d, g1] => { results := [.lit (.bool true)], args := [d], vars := [g1] }
  | _ => none }
def fnDispatchesRow : OpenClaim := { program := "ytbajbgcdcaknpaagreatdoor", sum := "7d9e8b7f574a1a141a2a144c6f367134dc80357b6887a45075212b9b23e13d2b", func := "loop.example/g00916/laws.FnDispatches", spec := "fnDispatches", unfollowed := true, recurses := true, named := ["loop.example/g00916/impl.commandRows"], apart := false, laid := [("loop.example/g00916/impl.commandRows", laid_loop_example_g00916_impl_commandRows)] }
def FnDispatchesSaid : Prop := fnDispatchesRow.holds Tryz.pinned (OpenSpec.ofChange fnDispatchesSpec)

/-- ITS FALSE NEIGHBOUR: 'it returns false'. Refute it at one input. -/
def fnDispatchesWrong : ChangeSpec := { name := "fnDispatches", vars := ["loop.example/g00916/impl.commandRows"], fn := fun _ => fun
  | [d, g1] => { results := [.lit (.bool false)], args := [d], vars := [g1] }
  | _ => none }
def FnDispatchesWrongFalsely : Prop := fnDispatchesRow.holds Tryz.pinned (OpenSpec.ofChange fnDispatchesWrong)

/-- 'laws.FnRideSteps': WHATEVER THE INPUT: true; the input reads as it did. -/
def fnRideStepsSpec : ChangeSpec := { name := "fnRideSteps", vars := ["loop.example/g00916/impl.commandRows"], fn := fun _ => fun
  | [d, g1] => { results := [.lit (.bool true)], args := [d], vars := [g1] }
  | _ => none }
def fnRideStepsRow : OpenClaim := { program := "ytbajbgcdcaknpaagreatdoor", sum := "7d9e8b7f574a1a141a2a144c6f367134dc80357b6887a45075212b9b23e13d2b", func := "loop.example/g00916/laws.FnRideSteps", spec := "fnRideSteps", unfollowed := true, recurses := true, named := ["loop.example/g00916/impl.commandRows"], apart := false, laid := [("loop.example/g00916/impl.commandRows", laid_loop_example_g00916_impl_commandRows)] }
def FnRideStepsSaid : Prop := fnRideStepsRow.holds Tryz.pinned (OpenSpec.ofChange fnRideStepsSpec)

/-- ITS FALSE NEIGHBOUR: 'it returns false'. Refute it at one input. -/
def fnRideStepsWrong : ChangeSpec := { name := "fnRideSteps", vars := ["loop.example/g00916/impl.commandRows"], fn := fun _ => fun
  | [d, g1] => { results := [.lit (.bool false)], args := [d], vars := [g1] }
  | _ => none }
def FnRideStepsWrongFalsely : Prop := fnRideStepsRow.holds Tryz.pinned (OpenSpec.ofChange fnRideStepsWrong)

/-- 'laws.FnExactCountDispatches': WHATEVER THE INPUT: true; the input reads as it did. -/
def fnExactCountDispatchesSpec : ChangeSpec := { name := "fnExactCountDispatches", vars := ["loop.example/g00916/impl.commandRows"], fn := fun _ => fun
  | [d1, d2, g1] => { results := [.lit (.bool true)], args := [d1, d2], vars := [g1] }
  | _ => none }
def fnExactCountDispatchesRow : OpenClaim := { program := "ytbajbgcdcaknpaagreatdoor", sum := "7d9e8b7f574a1a141a2a144c6f367134dc80357b6887a45075212b9b23e13d2b", func := "loop.example/g00916/laws.FnExactCountDispatches", spec := "fnExactCountDispatches", unfollowed := true, recurses := true, named := ["loop.example/g00916/impl.commandRows"], apart := false, laid := [("loop.example/g00916/impl.commandRows", laid_loop_example_g00916_impl_commandRows)] }
def FnExactCountDispatchesSaid : Prop := fnExactCountDispatchesRow.holds Tryz.pinned (OpenSpec.ofChange fnExactCountDispatchesSpec)

/-- ITS FALSE NEIGHBOUR: 'it returns false'. Refute it at one input. -/
def fnExactCountDispatchesWrong : ChangeSpec := { name := "fnExactCountDispatches", vars := ["loop.example/g00916/impl.commandRows"], fn := fun _ => fun
  | [d1, d2, g1] => { results := [.lit (.bool false)], args := [d1, d2], vars := [g1] }
  | _ => none }
def FnExactCountDispatchesWrongFalsely : Prop := fnExactCountDispatchesRow.holds Tryz.pinned (OpenSpec.ofChange fnExactCountDispatchesWrong)

/-- 'laws.FnExactStepRide': WHATEVER THE INPUT: true; the input reads as it did. -/
def fnExactStepRideSpec : ChangeSpec := { name := "fnExactStepRide", vars := ["loop.example/g00916/impl.commandRows"], fn := fun _ => fun
  | [d1, d2, g1] => { results := [.lit (.bool true)], args := [d1, d2], vars := [g1] }
  | _ => none }
def fnExactStepRideRow : OpenClaim := { program := "ytbajbgcdcaknpaagreatdoor", sum := "7d9e8b7f574a1a141a2a144c6f367134dc80357b6887a45075212b9b23e13d2b", func := "loop.example/g00916/laws.FnExactStepRide", spec := "fnExactStepRide", unfollowed := true, recurses := true, named := ["loop.example/g00916/impl.commandRows"], apart := false, laid := [("loop.example/g00916/impl.commandRows", laid_loop_example_g00916_impl_commandRows)] }
def FnExactStepRideSaid : Prop := fnExactStepRideRow.holds Tryz.pinned (OpenSpec.ofChange fnExactStepRideSpec)

/-- ITS FALSE NEIGHBOUR: 'it returns false'. Refute it at one input. -/
def fnExactStepRideWrong : ChangeSpec := { name := "fnExactStepRide", vars := ["loop.example/g00916/impl.commandRows"], fn := fun _ => fun
  | [d1, d2, g1] => { results := [.lit (.bool false)], args := [d1, d2], vars := [g1] }
  | _ => none }
def FnExactStepRideWrongFalsely : Prop := fnExactStepRideRow.holds Tryz.pinned (OpenSpec.ofChange fnExactStepRideWrong)

/-- 'laws.FnExactRunRide': WHATEVER THE INPUT: true; the input reads as it did. -/
def fnExactRunRideSpec : ChangeSpec := { name := "fnExactRunRide", vars := ["loop.example/g00916/impl.commandRows"], fn := fun _ => fun
  | [d1, d2, g1] => { results := [.lit (.bool true)], args := [d1, d2], vars := [g1] }
  | _ => none }
def fnExactRunRideRow : OpenClaim := { program := "ytbajbgcdcaknpaagreatdoor", sum := "7d9e8b7f574a1a141a2a144c6f367134dc80357b6887a45075212b9b23e13d2b", func := "loop.example/g00916/laws.FnExactRunRide", spec := "fnExactRunRide", unfollowed := true, recurses := true, named := ["loop.example/g00916/impl.commandRows"], apart := false, laid := [("loop.example/g00916/impl.commandRows", laid_loop_example_g00916_impl_commandRows)] }
def FnExactRunRideSaid : Prop := fnExactRunRideRow.holds Tryz.pinned (OpenSpec.ofChange fnExactRunRideSpec)

/-- ITS FALSE NEIGHBOUR: 'it returns false'. Refute it at one input. -/
def fnExactRunRideWrong : ChangeSpec := { name := "fnExactRunRide", vars := ["loop.example/g00916/impl.commandRows"], fn := fun _ => fun
  | [d1, d2, g1] => { results := [.lit (.bool false)], args := [d1, d2], vars := [g1] }
  | _ => none }
def FnExactRunRideWrongFalsely : Prop := fnExactRunRideRow.holds Tryz.pinned (OpenSpec.ofChange fnExactRunRideWrong)

/- THE SECOND FORM. 'bulk': how many values and letters a reading holds, each counted each time it is reached (what is shared counts as often as it is met; a slice's spare places count too). A statement '..UptoSaid' is the law's where the arguments, and the package variables that the reading takes, are together of bulk at most 1048576: NARROWER than '..Said'. Prove '..Said' where nothing that the law and all that it calls make is longer than what came in: it says more and counts as full. Else prove '..UptoSaid'. A law counts once. -/
mutual
def uptoBulk {H : Type} : DataW H → Nat
  | .lit (.string bytes) => bytes.length + 1
  | .lit _ => 1
  | .nil => 1
  | .ptr d => uptoBulk d + 1
  | .slice elems spare => uptoBulkAll elems + uptoBulkAll spare + 1
  | .agg parts => uptoBulkAll parts + 1
  | .iface _ d => uptoBulk d + 1
  | .map entries => uptoBulkEntries entries + 1
  | .held _ => 1
def uptoBulkAll {H : Type} : List (DataW H) → Nat
  | [] => 0
  | d :: r => uptoBulk d + uptoBulkAll r
def uptoBulkEntries {H : Type} : List (Lit × DataW H) → Nat
  | [] => 0
  | x :: r => uptoBulkEntry x + uptoBulkEntries r
def uptoBulkEntry {H : Type} : Lit × DataW H → Nat
  | (.string bytes, d) => bytes.length + uptoBulk d + 1
  | (_, d) => uptoBulk d + 1
 end
def uptoSmall : (H : Type) → List (DataW H) → Bool := fun _ ds => decide (uptoBulkAll ds ≤ 1048576)
def OpenSpec.upto (s : _root_.Go.ChangeSpec) : _root_.Go.OpenSpec := { _root_.Go.OpenSpec.ofChange s with cond := some uptoSmall }

/-- 'laws.FnTop', WHERE WHAT IT READS IS OF BULK AT MOST 1048576: true; the input reads as it did. -/
def fnTopUptoRow : OpenClaim := { program := "ytbajbgcdcaknpaagreatdoor", sum := "7d9e8b7f574a1a141a2a144c6f367134dc80357b6887a45075212b9b23e13d2b", func := "loop.example/g00916/laws.FnTop", spec := "fnTop", unfollowed := true, recurses := true, named := ["loop.example/g00916/impl.commandRows"], apart := false, laid := [("loop.example/g00916/impl.commandRows", laid_loop_example_g00916_impl_commandRows)], narrowed := true }
def FnTopUptoSaid : Prop := fnTopUptoRow.holds Tryz.pinned (OpenSpec.upto fnTopSpec)

/-- 'laws.FnRides', WHERE WHAT IT READS IS OF BULK AT MOST 1048576: true; the input reads as it did. -/
def fnRidesUptoRow : OpenClaim := { program := "ytbajbgcdcaknpaagreatdoor", sum := "7d9e8b7f574a1a141a2a144c6f367134dc80357b6887a45075212b9b23e13d2b", func := "loop.example/g00916/laws.FnRides", spec := "fnRides", unfollowed := true, recurses := true, named := ["loop.example/g00916/impl.commandRows"], apart := false, laid := [("loop.example/g00916/impl.commandRows", laid_loop_example_g00916_impl_commandRows)], narrowed := true }
def FnRidesUptoSaid : Prop := fnRidesUptoRow.holds Tryz.pinned (OpenSpec.upto fnRidesSpec)

/-- 'laws.FnDispatches', WHERE WHAT IT READS IS OF BULK AT MOST 1048576: true; the input reads as it did. -/
def fnDispatchesUptoRow : OpenClaim := { program := "ytbajbgcdcaknpaagreatdoor", sum := "7d9e8b7f574a1a141a2a144c6f367134dc80357b6887a45075212b9b23e13d2b", func := "loop.example/g00916/laws.FnDispatches", spec := "fnDispatches", unfollowed := true, recurses := true, named := ["loop.example/g00916/impl.commandRows"], apart := false, laid := [("loop.example/g00916/impl.commandRows", laid_loop_example_g00916_impl_commandRows)], narrowed := true }
def FnDispatchesUptoSaid : Prop := fnDispatchesUptoRow.holds Tryz.pinned (OpenSpec.upto fnDispatchesSpec)

/-- 'laws.FnRideSteps', WHERE WHAT IT READS IS OF BULK AT MOST 1048576: true; the input reads as it did. -/
def fnRideStepsUptoRow : OpenClaim := { program := "ytbajbgcdcaknpaagreatdoor", sum := "7d9e8b7f574a1a141a2a144c6f367134dc80357b6887a45075212b9b23e13d2b", func := "loop.example/g00916/laws.FnRideSteps", spec := "fnRideSteps", unfollowed := true, recurses := true, named := ["loop.example/g00916/impl.commandRows"], apart := false, laid := [("loop.example/g00916/impl.commandRows", laid_loop_example_g00916_impl_commandRows)], narrowed := true }
def FnRideStepsUptoSaid : Prop := fnRideStepsUptoRow.holds Tryz.pinned (OpenSpec.upto fnRideStepsSpec)

/-- 'laws.FnExactCountDispatches', WHERE WHAT IT READS IS OF BULK AT MOST 1048576: true; the input reads as it did. -/
def fnExactCountDispatchesUptoRow : OpenClaim := { program := "ytbajbgcdcaknpaagreatdoor", sum := "7d9e8b7f574a1a141a2a144c6f367134dc80357b6887a45075212b9b23e13d2b", func := "loop.example/g00916/laws.FnExactCountDispatches", spec := "fnExactCountDispatches", unfollowed := true, recurses := true, named := ["loop.example/g00916/impl.commandRows"], apart := false, laid := [("loop.example/g00916/impl.commandRows", laid_loop_example_g00916_impl_commandRows)], narrowed := true }
def FnExactCountDispatchesUptoSaid : Prop := fnExactCountDispatchesUptoRow.holds Tryz.pinned (OpenSpec.upto fnExactCountDispatchesSpec)

/-- 'laws.FnExactStepRide', WHERE WHAT IT READS IS OF BULK AT MOST 1048576: true; the input reads as it did. -/
def fnExactStepRideUptoRow : OpenClaim := { program := "ytbajbgcdcaknpaagreatdoor", sum := "7d9e8b7f574a1a141a2a144c6f367134dc80357b6887a45075212b9b23e13d2b", func := "loop.example/g00916/laws.FnExactStepRide", spec := "fnExactStepRide", unfollowed := true, recurses := true, named := ["loop.example/g00916/impl.commandRows"], apart := false, laid := [("loop.example/g00916/impl.commandRows", laid_loop_example_g00916_impl_commandRows)], narrowed := true }
def FnExactStepRideUptoSaid : Prop := fnExactStepRideUptoRow.holds Tryz.pinned (OpenSpec.upto fnExactStepRideSpec)

/-- 'laws.FnExactRunRide', WHERE WHAT IT READS IS OF BULK AT MOST 1048576: true; the input reads as it did. -/
def fnExactRunRideUptoRow : OpenClaim := { program := "ytbajbgcdcaknpaagreatdoor", sum := "7d9e8b7f574a1a141a2a144c6f367134dc80357b6887a45075212b9b23e13d2b", func := "loop.example/g00916/laws.FnExactRunRide", spec := "fnExactRunRide", unfollowed := true, recurses := true, named := ["loop.example/g00916/impl.commandRows"], apart := false, laid := [("loop.example/g00916/impl.commandRows", laid_loop_example_g00916_impl_commandRows)], narrowed := true }
def FnExactRunRideUptoSaid : Prop := fnExactRunRideUptoRow.holds Tryz.pinned (OpenSpec.upto fnExactRunRideSpec)

end Rows
end Go.Proofs.YtbajbgcdcaknpaaGreatDoor
