/-
  No cell of these rows narrows 'for every input' (looked for: loops, veiled, ifaces, maps, wideKeys, modest, calm, conditions, laid).
  DERIVED. THE GIVEN ROWS OF THIS SEAT. 9 by the template 'for every input the law returns true; each argument reads behind the call as it read before'; 0 by the template 'total and deterministic' (their statements: YtofbpbijfhfnoaaTotals.lean).
  GIVEN WITH THE SEED: the statements are not yours to turn. If you find one false, say at which input.
  Laid BY PROGRAM, IN A SANDBOX (cutbox-rows.mjs): the forced cells as the released guide's own fill.sh prints them over the translation 02742196025d28aa… (all of the seat's roots in one cut). By AI agents, Wed Nov 11 2026. No macro, syntax, notation, axiom, sorry.
-/
import Derived.Test.YtofbpbijfhfnoaaChecked
import GoSem.Claim
import GoSem.ClaimJoined
import GoSem.ClaimMapViews
import Derived.JoinedTies
import Derived.KernelRfl
namespace Go.Proofs.Ytofbpbijfhfnoaa
/- THE CELL 'sum', in the pinned program and in every row, IS THE sha256 OF THE DUMP (.gsa) THAT YtofbpbijfhfnoaaProg.lean LOADS. Nothing in Lean hashes anything: it is a label: what it is worth is what the hold of that sum in a sandbox is worth. -/
noncomputable def Try.pinned : Pinned := { name := "ytofbpbijfhfnoaa", sum := "02742196025d28aa4e974b61f242eaa5bdde433913ddb0038ac8a89ec8f2c642", checked := Try.checked }
namespace Rows
def none {H : Type} : Left H := { results := [], args := [] }

/-- 'laws.FnExactTicksToActive': WHATEVER THE INPUT: true; the input reads as it did. -/
def fnExactTicksToActiveSpec : ChangeSpec := { name := "fnExactTicksToActive", fn := fun _ => fun
  | [d] => { results := [.lit (.bool true)], args := [d] }
  | _ => none }
def fnExactTicksToActiveRow : OpenClaim := { program := "ytofbpbijfhfnoaa", sum := "02742196025d28aa4e974b61f242eaa5bdde433913ddb0038ac8a89ec8f2c642", func := "loop.example/g00916/laws.FnExactTicksToActive", spec := "fnExactTicksToActive", apart := false }
def FnExactTicksToActiveSaid : Prop := fnExactTicksToActiveRow.holds Try.pinned (OpenSpec.ofChange fnExactTicksToActiveSpec)

/-- ITS FALSE NEIGHBOUR: 'it returns false'. Refute it at one input. -/
def fnExactTicksToActiveWrong : ChangeSpec := { name := "fnExactTicksToActive", fn := fun _ => fun
  | [d] => { results := [.lit (.bool false)], args := [d] }
  | _ => none }
def FnExactTicksToActiveWrongFalsely : Prop := fnExactTicksToActiveRow.holds Try.pinned (OpenSpec.ofChange fnExactTicksToActiveWrong)

/-- 'laws.FnExactMovedTrain': WHATEVER THE INPUT: true; the input reads as it did. -/
def fnExactMovedTrainSpec : ChangeSpec := { name := "fnExactMovedTrain", fn := fun _ => fun
  | [d1, d2] => { results := [.lit (.bool true)], args := [d1, d2] }
  | _ => none }
def fnExactMovedTrainRow : OpenClaim := { program := "ytofbpbijfhfnoaa", sum := "02742196025d28aa4e974b61f242eaa5bdde433913ddb0038ac8a89ec8f2c642", func := "loop.example/g00916/laws.FnExactMovedTrain", spec := "fnExactMovedTrain", unfollowed := true, recurses := true, apart := false }
def FnExactMovedTrainSaid : Prop := fnExactMovedTrainRow.holds Try.pinned (OpenSpec.ofChange fnExactMovedTrainSpec)

/-- ITS FALSE NEIGHBOUR: 'it returns false'. Refute it at one input. -/
def fnExactMovedTrainWrong : ChangeSpec := { name := "fnExactMovedTrain", fn := fun _ => fun
  | [d1, d2] => { results := [.lit (.bool false)], args := [d1, d2] }
  | _ => none }
def FnExactMovedTrainWrongFalsely : Prop := fnExactMovedTrainRow.holds Try.pinned (OpenSpec.ofChange fnExactMovedTrainWrong)

/-- 'laws.FnExactStepPair': WHATEVER THE INPUT: true; the input reads as it did. -/
def fnExactStepPairSpec : ChangeSpec := { name := "fnExactStepPair", fn := fun _ => fun
  | [d1, d2] => { results := [.lit (.bool true)], args := [d1, d2] }
  | _ => none }
def fnExactStepPairRow : OpenClaim := { program := "ytofbpbijfhfnoaa", sum := "02742196025d28aa4e974b61f242eaa5bdde433913ddb0038ac8a89ec8f2c642", func := "loop.example/g00916/laws.FnExactStepPair", spec := "fnExactStepPair", unfollowed := true, recurses := true, apart := false }
def FnExactStepPairSaid : Prop := fnExactStepPairRow.holds Try.pinned (OpenSpec.ofChange fnExactStepPairSpec)

/-- ITS FALSE NEIGHBOUR: 'it returns false'. Refute it at one input. -/
def fnExactStepPairWrong : ChangeSpec := { name := "fnExactStepPair", fn := fun _ => fun
  | [d1, d2] => { results := [.lit (.bool false)], args := [d1, d2] }
  | _ => none }
def FnExactStepPairWrongFalsely : Prop := fnExactStepPairRow.holds Try.pinned (OpenSpec.ofChange fnExactStepPairWrong)

/-- 'laws.FnPairTicks': WHATEVER THE INPUT: true; the input reads as it did. -/
def fnPairTicksSpec : ChangeSpec := { name := "fnPairTicks", fn := fun _ => fun
  | [d] => { results := [.lit (.bool true)], args := [d] }
  | _ => none }
def fnPairTicksRow : OpenClaim := { program := "ytofbpbijfhfnoaa", sum := "02742196025d28aa4e974b61f242eaa5bdde433913ddb0038ac8a89ec8f2c642", func := "loop.example/g00916/laws.FnPairTicks", spec := "fnPairTicks", unfollowed := true, recurses := true, apart := false }
def FnPairTicksSaid : Prop := fnPairTicksRow.holds Try.pinned (OpenSpec.ofChange fnPairTicksSpec)

/-- ITS FALSE NEIGHBOUR: 'it returns false'. Refute it at one input. -/
def fnPairTicksWrong : ChangeSpec := { name := "fnPairTicks", fn := fun _ => fun
  | [d] => { results := [.lit (.bool false)], args := [d] }
  | _ => none }
def FnPairTicksWrongFalsely : Prop := fnPairTicksRow.holds Try.pinned (OpenSpec.ofChange fnPairTicksWrong)

/-- 'laws.FnExactAreAdmitted': WHATEVER THE INPUT: true; the input reads as it did. -/
def fnExactAreAdmittedSpec : ChangeSpec := { name := "fnExactAreAdmitted", fn := fun _ => fun
  | [d] => { results := [.lit (.bool true)], args := [d] }
  | _ => none }
def fnExactAreAdmittedRow : OpenClaim := { program := "ytofbpbijfhfnoaa", sum := "02742196025d28aa4e974b61f242eaa5bdde433913ddb0038ac8a89ec8f2c642", func := "loop.example/g00916/laws.FnExactAreAdmitted", spec := "fnExactAreAdmitted", unfollowed := true, recurses := true, apart := false }
def FnExactAreAdmittedSaid : Prop := fnExactAreAdmittedRow.holds Try.pinned (OpenSpec.ofChange fnExactAreAdmittedSpec)

/-- ITS FALSE NEIGHBOUR: 'it returns false'. Refute it at one input. -/
def fnExactAreAdmittedWrong : ChangeSpec := { name := "fnExactAreAdmitted", fn := fun _ => fun
  | [d] => { results := [.lit (.bool false)], args := [d] }
  | _ => none }
def FnExactAreAdmittedWrongFalsely : Prop := fnExactAreAdmittedRow.holds Try.pinned (OpenSpec.ofChange fnExactAreAdmittedWrong)

/-- 'laws.FnExactGreatestActive': WHATEVER THE INPUT: true; the input reads as it did. -/
def fnExactGreatestActiveSpec : ChangeSpec := { name := "fnExactGreatestActive", fn := fun _ => fun
  | [d1, d2] => { results := [.lit (.bool true)], args := [d1, d2] }
  | _ => none }
def fnExactGreatestActiveRow : OpenClaim := { program := "ytofbpbijfhfnoaa", sum := "02742196025d28aa4e974b61f242eaa5bdde433913ddb0038ac8a89ec8f2c642", func := "loop.example/g00916/laws.FnExactGreatestActive", spec := "fnExactGreatestActive", unfollowed := true, recurses := true, apart := false }
def FnExactGreatestActiveSaid : Prop := fnExactGreatestActiveRow.holds Try.pinned (OpenSpec.ofChange fnExactGreatestActiveSpec)

/-- ITS FALSE NEIGHBOUR: 'it returns false'. Refute it at one input. -/
def fnExactGreatestActiveWrong : ChangeSpec := { name := "fnExactGreatestActive", fn := fun _ => fun
  | [d1, d2] => { results := [.lit (.bool false)], args := [d1, d2] }
  | _ => none }
def FnExactGreatestActiveWrongFalsely : Prop := fnExactGreatestActiveRow.holds Try.pinned (OpenSpec.ofChange fnExactGreatestActiveWrong)

/-- 'laws.FnExactRunPair': WHATEVER THE INPUT: true; the input reads as it did. -/
def fnExactRunPairSpec : ChangeSpec := { name := "fnExactRunPair", fn := fun _ => fun
  | [d1, d2] => { results := [.lit (.bool true)], args := [d1, d2] }
  | _ => none }
def fnExactRunPairRow : OpenClaim := { program := "ytofbpbijfhfnoaa", sum := "02742196025d28aa4e974b61f242eaa5bdde433913ddb0038ac8a89ec8f2c642", func := "loop.example/g00916/laws.FnExactRunPair", spec := "fnExactRunPair", unfollowed := true, recurses := true, apart := false }
def FnExactRunPairSaid : Prop := fnExactRunPairRow.holds Try.pinned (OpenSpec.ofChange fnExactRunPairSpec)

/-- ITS FALSE NEIGHBOUR: 'it returns false'. Refute it at one input. -/
def fnExactRunPairWrong : ChangeSpec := { name := "fnExactRunPair", fn := fun _ => fun
  | [d1, d2] => { results := [.lit (.bool false)], args := [d1, d2] }
  | _ => none }
def FnExactRunPairWrongFalsely : Prop := fnExactRunPairRow.holds Try.pinned (OpenSpec.ofChange fnExactRunPairWrong)

/-- 'laws.FnTakeOver': WHATEVER THE INPUT: true; the input reads as it did. -/
def fnTakeOverSpec : ChangeSpec := { name := "fnTakeOver", fn := fun _ => fun
  | [d] => { results := [.lit (.bool true)], args := [d] }
  | _ => none }
def fnTakeOverRow : OpenClaim := { program := "ytofbpbijfhfnoaa", sum := "02742196025d28aa4e974b61f242eaa5bdde433913ddb0038ac8a89ec8f2c642", func := "loop.example/g00916/laws.FnTakeOver", spec := "fnTakeOver", unfollowed := true, recurses := true, apart := false }
def FnTakeOverSaid : Prop := fnTakeOverRow.holds Try.pinned (OpenSpec.ofChange fnTakeOverSpec)

/-- ITS FALSE NEIGHBOUR: 'it returns false'. Refute it at one input. -/
def fnTakeOverWrong : ChangeSpec := { name := "fnTakeOver", fn := fun _ => fun
  | [d] => { results := [.lit (.bool false)], args := [d] }
  | _ => none }
def FnTakeOverWrongFalsely : Prop := fnTakeOverRow.holds Try.pinned (OpenSpec.ofChange fnTakeOverWrong)

/-- 'laws.FnControllerPairs': WHATEVER THE INPUT: true; the input reads as it did. -/
def fnControllerPairsSpec : ChangeSpec := { name := "fnControllerPairs", fn := fun _ => fun
  | [d] => { results := [.lit (.bool true)], args := [d] }
  | _ => none }
def fnControllerPairsRow : OpenClaim := { program := "ytofbpbijfhfnoaa", sum := "02742196025d28aa4e974b61f242eaa5bdde433913ddb0038ac8a89ec8f2c642", func := "loop.example/g00916/laws.FnControllerPairs", spec := "fnControllerPairs", unfollowed := true, recurses := true, apart := false }
def FnControllerPairsSaid : Prop := fnControllerPairsRow.holds Try.pinned (OpenSpec.ofChange fnControllerPairsSpec)

/-- ITS FALSE NEIGHBOUR: 'it returns false'. Refute it at one input. -/
def fnControllerPairsWrong : ChangeSpec := { name := "fnControllerPairs", fn := fun _ => fun
  | [d] => { results := [.lit (.bool false)], args := [d] }
  | _ => none }
def FnControllerPairsWrongFalsely : Prop := fnControllerPairsRow.holds Try.pinned (OpenSpec.ofChange fnControllerPairsWrong)

/- THE SECOND FORM. 'bulk': how many values and letters a reading holds, each counted each time it is reached (what is shared counts as often as it is met; a slice's spare places count too). A statement '..UptoSaid' is the law's where the arguments, and the package variables that the reading takes, are together of bulk at most 1048576: NARROWER than '..Said'. Prove '..Said' where nothing that the law and all that it calls make is longer than what came in: it says more and counts as full. Else prove '..UptoSaid'. A law counts once. -/
mutual
def uptoBulk {H : Type} : DataW H → Nat
  | .lit (.string bytes) => bytes.length + 1
  | .lit _ => 1
  | .nil => 1
  | .ptr d => uptoBulk d + 1
  | .slice elems spare => uptoBulkAll elems + uptoBulkAll spare + 1
  | .agg parts => uptoBulkAll parts + 1
  | .iface _ d => uptoBulk d + 1
  | .map entries => uptoBulkEntries entries + 1
  | .held _ => 1
def uptoBulkAll {H : Type} : List (DataW H) → Nat
  | [] => 0
  | d :: r => uptoBulk d + uptoBulkAll r
def uptoBulkEntries {H : Type} : List (Lit × DataW H) → Nat
  | [] => 0
  | x :: r => uptoBulkEntry x + uptoBulkEntries r
def uptoBulkEntry {H : Type} : Lit × DataW H → Nat
  | (.string bytes, d) => bytes.length + uptoBulk d + 1
  | (_, d) => uptoBulk d + 1
 end
def uptoSmall : (H : Type) → List (DataW H) → Bool := fun _ ds => decide (uptoBulkAll ds ≤ 1048576)
def OpenSpec.upto (s : _root_.Go.ChangeSpec) : _root_.Go.OpenSpec := { _root_.Go.OpenSpec.ofChange s with cond := some uptoSmall }

/-- 'laws.FnExactTicksToActive', WHERE WHAT IT READS IS OF BULK AT MOST 1048576: true; the input reads as it did. -/
def fnExactTicksToActiveUptoRow : OpenClaim := { program := "ytofbpbijfhfnoaa", sum := "02742196025d28aa4e974b61f242eaa5bdde433913ddb0038ac8a89ec8f2c642", func := "loop.example/g00916/laws.FnExactTicksToActive", spec := "fnExactTicksToActive", apart := false, narrowed := true }
def FnExactTicksToActiveUptoSaid : Prop := fnExactTicksToActiveUptoRow.holds Try.pinned (OpenSpec.upto fnExactTicksToActiveSpec)

/-- 'laws.FnExactMovedTrain', WHERE WHAT IT READS IS OF BULK AT MOST 1048576: true; the input reads as it did. -/
def fnExactMovedTrainUptoRow : OpenClaim := { program := "ytofbpbijfhfnoaa", sum := "02742196025d28aa4e974b61f242eaa5bdde433913ddb0038ac8a89ec8f2c642", func := "loop.example/g00916/laws.FnExactMovedTrain", spec := "fnExactMovedTrain", unfollowed := true, recurses := true, apart := false, narrowed := true }
def FnExactMovedTrainUptoSaid : Prop := fnExactMovedTrainUptoRow.holds Try.pinned (OpenSpec.upto fnExactMovedTrainSpec)

/-- 'laws.FnExactStepPair', WHERE WHAT IT READS IS OF BULK AT MOST 1048576: true; the input reads as it did. -/
def fnExactStepPairUptoRow : OpenClaim := { program := "ytofbpbijfhfnoaa", sum := "02742196025d28aa4e974b61f242eaa5bdde433913ddb0038ac8a89ec8f2c642", func := "loop.example/g00916/laws.FnExactStepPair", spec := "fnExactStepPair", unfollowed := true, recurses := true, apart := false, narrowed := true }
def FnExactStepPairUptoSaid : Prop := fnExactStepPairUptoRow.holds Try.pinned (OpenSpec.upto fnExactStepPairSpec)

/-- 'laws.FnPairTicks', WHERE WHAT IT READS IS OF BULK AT MOST 1048576: true; the input reads as it did. -/
def fnPairTicksUptoRow : OpenClaim := { program := "ytofbpbijfhfnoaa", sum := "02742196025d28aa4e974b61f242eaa5bdde433913ddb0038ac8a89ec8f2c642", func := "loop.example/g00916/laws.FnPairTicks", spec := "fnPairTicks", unfollowed := true, recurses := true, apart := false, narrowed := true }
def FnPairTicksUptoSaid : Prop := fnPairTicksUptoRow.holds Try.pinned (OpenSpec.upto fnPairTicksSpec)

/-- 'laws.FnExactAreAdmitted', WHERE WHAT IT READS IS OF BULK AT MOST 1048576: true; the input reads as it did. -/
def fnExactAreAdmittedUptoRow : OpenClaim := { program := "ytofbpbijfhfnoaa", sum := "02742196025d28aa4e974b61f242eaa5bdde433913ddb0038ac8a89ec8f2c642", func := "loop.example/g00916/laws.FnExactAreAdmitted", spec := "fnExactAreAdmitted", unfollowed := true, recurses := true, apart := false, narrowed := true }
def FnExactAreAdmittedUptoSaid : Prop := fnExactAreAdmittedUptoRow.holds Try.pinned (OpenSpec.upto fnExactAreAdmittedSpec)

/-- 'laws.FnExactGreatestActive', WHERE WHAT IT READS IS OF BULK AT MOST 1048576: true; the input reads as it did. -/
def fnExactGreatestActiveUptoRow : OpenClaim := { program := "ytofbpbijfhfnoaa", sum := "02742196025d28aa4e974b61f242eaa5bdde433913ddb0038ac8a89ec8f2c642", func := "loop.example/g00916/laws.FnExactGreatestActive", spec := "fnExactGreatestActive", unfollowed := true, recurses := true, apart := false, narrowed := true }
def FnExactGreatestActiveUptoSaid : Prop := fnExactGreatestActiveUptoRow.holds Try.pinned (OpenSpec.upto fnExactGreatestActiveSpec)

/-- 'laws.FnExactRunPair', WHERE WHAT IT READS IS OF BULK AT MOST 1048576: true; the input reads as it did. -/
def fnExactRunPairUptoRow : OpenClaim := { program := "ytofbpbijfhfnoaa", sum := "02742196025d28aa4e974b61f242eaa5bdde433913ddb0038ac8a89ec8f2c642", func := "loop.example/g00916/laws.FnExactRunPair", spec := "fnExactRunPair", unfollowed := true, recurses := true, apart := false, narrowed := true }
def FnExactRunPairUptoSaid : Prop := fnExactRunPairUptoRow.holds Try.pinned (OpenSpec.upto fnExactRunPairSpec)

/-- 'laws.FnTakeOver', WHERE WHAT IT READS IS OF BULK AT MOST 1048576: true; the input reads as it did. -/
def fnTakeOverUptoRow : OpenClaim := { program := "ytofbpbijfhfnoaa", sum := "02742196025d28aa4e974b61f242eaa5bdde433913ddb0038ac8a89ec8f2c642", func := "loop.example/g00916/laws.FnTakeOver", spec := "fnTakeOver", unfollowed := true, recurses := true, apart := false, narrowed := true }
def FnTakeOverUptoSaid : Prop := fnTakeOverUptoRow.holds Try.pinned (OpenSpec.upto fnTakeOverSpec)

/-- 'laws.FnControllerPairs', WHERE WHAT IT READS IS OF BULK AT MOST 1048576: true; the input reads as it did. -/
def fnControllerPairsUptoRow : OpenClaim := { program := "ytofbpbijfhfnoaa", sum := "02742196025d28aa4e974b61f242eaa5bdde433913ddb0038ac8a89ec8f2c642", func := "loop.example/g00916/laws.FnControllerPairs", spec := "fnControllerPairs", unfollowed := true, recurses := true, apart := false, narrowed := true }
def FnControllerPairsUptoSaid : Prop := fnControllerPairsUptoRow.holds Try.pinned (OpenSpec.upto fnControllerPairsSpec)

end Rows
end Go.Proofs.Ytofbpbijfhfnoaa
